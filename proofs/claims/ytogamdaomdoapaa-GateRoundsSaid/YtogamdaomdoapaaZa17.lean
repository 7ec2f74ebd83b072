/- Texts put together: OCn. -/
import Derived.Test.YtogamdaomdoapaaZa14
import Derived.Test.YtogamdaomdoapaaZa16
import Derived.Maps.Own
import Derived.Maps.OwnOps
import Derived.Maps.Views
namespace Go.Proofs.Ytogamdaomdoapaa.O
open Go.RowKit Go.Maps
set_option maxRecDepth 20000
theorem keyLaw:Keyed Try.prog 3:=int_keyed Try.underlying3
theorem zeroInt (w:World):(zeroValue 3).run Try.prog w=.ok (.int .i64 0) w:=by kernel_rfl
def CntAt (w:World) (b k:Nat) (f:Int→Int):Prop:=∃ n D,w.ownsMap (H:=Unit) Try.prog 3 (plainElem Try.prog 3) b n D∧n≤k∧IsMap D∧∀ x,(Lit.int .i64 x).wf=true→D.atKey (.int .i64 x) (.lit (.int .i64 0))=.lit (.int .i64 (f x))
theorem CntAt.look {w:World} {b k:Nat} {f:Int→Int} (h:CntAt w b k f) (x:Int) (hx:(Lit.int .i64 x).wf=true):(Instr.lookup 136 (.map (some b)) (.int .i64 x) false).run Try.prog w=.ok (.int .i64 (f x)) w:=by
 obtain ⟨n,D,ho,-,-,hat⟩:=h
 obtain ⟨c,hrun,hc,-⟩:=ho.lookup_int keyLaw Try.underlying136 Try.underlying3 (zeroInt _) (keyOf_int_mk Try.underlying3 hx)
 rw [hat x hx] at hc
 simp only [DataW.lit.injEq,Lit.int.injEq,true_and] at hc
 rw [hrun,hc]
theorem CntAt.lt {w:World} {b k:Nat} {f:Int→Int} (h:CntAt w b k f):b<w.heap.size:=by
 obtain ⟨n,D,ho,-⟩:=h
 exact ho.lt
theorem CntAt.grow {w w':World} {b k:Nat} {f:Int→Int} (h:CntAt w b k f) (hb:Below w.heap.size w w'):CntAt w' b k f:=by
 obtain ⟨n,D,⟨es,clock,h1,h2⟩,r⟩:=h
 exact ⟨n,D,⟨es,clock,(hb.block b (lt_of_block h1)).trans h1,h2⟩,r⟩
theorem CntAt.new (w:World):CntAt (w.alloc (.map #[] 0)) w.heap.size 0 (fun _=>0) :=
 ⟨0,.map [],World.ownsMap_made _ _ _ _,Nat.le_refl _,⟨_,rfl⟩,fun _ _=>rfl⟩
theorem CntAt.mono {w:World} {b k k':Nat} {f:Int→Int} (h:CntAt w b k f) (hk:k≤k'):CntAt w b k' f:=by
 obtain ⟨n,D,h1,h2,r⟩:=h
 exact ⟨n,D,h1,Nat.le_trans h2 hk,r⟩
theorem CntAt.congr {w:World} {b k:Nat} {f g:Int→Int} (h:CntAt w b k f) (hfg:∀ x,f x=g x):CntAt w b k g:=by
 obtain ⟨n,D,h1,h2,h3,h4⟩:=h
 exact ⟨n,D,h1,h2,h3,fun x hx=>by rw [←hfg];exact h4 x hx⟩
def thCnt (b k:Nat) (f:Int→Int):Th where
 T w:=CntAt w b k f
 F x:=x=b
 stay h k hS:=by
  obtain ⟨n,D,⟨es,clock,h1,h2⟩,r⟩:=h
  exact ⟨n,D,⟨es,clock,(k.block b (lt_of_block h1) (hS b rfl)).trans h1,h2⟩,r⟩
 lt h e:=e▸h.lt
theorem CntAt.put {w:World} {b k:Nat} {f:Int→Int} (h:CntAt w b k f) (hk:k≤1000) (x v:Int) (hx:(Lit.int .i64 x).wf=true) (hv:(Lit.int .i64 v).wf=true) :
 ∃ w',(Instr.mapUpdate 136 (.map (some b)) (.int .i64 x) (.int .i64 v)).run Try.prog w=.ok () w'∧CntAt w' b (k+1) (fun y=>if y=x then v else f y)∧Keeps w w' (fun z=>z=b):=by
 obtain ⟨n,D,ho,hn,hD,hat⟩:=h
 obtain ⟨w',hrun,r1,r2⟩:=ho.update keyLaw Try.underlying136 (by unfold maxLen;omega) (keyOf_int_mk Try.underlying3 hx) (plainElem_int Try.underlying3 hv)
 refine ⟨w',hrun,⟨n+1,_,r1,by omega,hD.put _ _,fun y hy=>?_⟩,(Keeps.grown r2).weak (fun i _ e=>by cases e;rfl)⟩
 by_cases e:y=x
 ·subst e
  simp only [if_true]
  rw [atKey_put_same hD (show WideAt.IsKeyLit (.int .i64 y) from trivial)]
 ·simp only [e,if_false]
  rw [atKey_put_other (fun h=>e (by simpa using h))]
  exact hat y hy
end Go.Proofs.Ytogamdaomdoapaa.O