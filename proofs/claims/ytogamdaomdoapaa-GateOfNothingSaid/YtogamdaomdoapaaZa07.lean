/- Texts put together: RdNum, RdBytes, Obj, Perm, ThO, WrSt. -/
import Derived.Test.YtogamdaomdoapaaZa04
import Derived.Test.YtogamdaomdoapaaZa06
namespace Go.Proofs.Ytogamdaomdoapaa
open Go.RowKit
set_option maxRecDepth 20000
set_option maxRecDepth 8000 in
set_option maxHeartbeats 4000000 in
theorem rdnum_any (p g:Nat) (rest:List UInt8) (bad:Bool) (w:World) (h:RdAt w p g rest bad) (hm:rest.length≤140737488351232) :
 Calls Try.prog 46 #[.pointer (some ⟨p,0,none⟩)] w fun e w'=>(∀ n r,numOf rest=some (n,r)→e=.returned (.int .i64 (n:Nat))∧RdAt w' p g r bad)∧(numOf rest=none→e=.returned (.int .i64 0)∧RdAt w' p g [] true)∧Keeps w w' (fun x=>x=p):=by
 have Hbad:=Lib.hid (bad_any p g rest bad w h)
 obtain ⟨ao,cap,hh,hlc,hcm,hnone,hgp,hrow⟩:=h
 obtain ⟨c0,c1,f0,f1⟩:=cell_of_two hh
 have Hh:=Lib.hid hh
 have Hnone:=Lib.hid hnone
 have Hrow:=Lib.hid hrow
 clear hh hnone hrow
 go_enter Try.func46,Try.ntmps46
 go_wp2_with fail
 go_loopw [13,3] (fun s13 s3 wr=>wr=w∧∃ k u:Nat,k≤rest.length∧k≤9∧s13=.int .i64 k∧s3=.int .u64 u∧u<128 ^ k∧Hid (numR k u (rest.drop k)=numOf rest)) (fun s13 _ _=>rest.length - (intOf s13).toNat)
 case atStart=>exact ⟨rfl,0,0,by omega,by omega,rfl,rfl,by decide,rfl⟩
 case round =>
  obtain ⟨rfl,k,u,hk,hk9,rfl,rfl,hu,hst⟩:=hrel
  by_cases hlt:k<rest.length
  ·obtain ⟨off,rfl,hglt,hr⟩:=Hrow.out (by omega)
   have hcv:=hr k hlt
   obtain ⟨c,hc⟩:∃ c,c=rest[k]:=⟨_,rfl⟩
   have hdrop:rest.drop k=c::rest.drop (k+1):=by rw [hc];exact List.drop_eq_getElem_cons hlt
   rw [←hc] at hcv
   have Hdrop:=Lib.hid hdrop
   have Hr:=Lib.hid hr
   have Hu:=Lib.hid hu
   clear hc hdrop hr hu
   by_cases h9:(9:Int)≤k
   ·have Hno:Hid (numOf rest=none):=by
     have:=hst.out
     rw [Hdrop.out] at this
     rw [Hid,←this]
     simp only [numR]
     rw [if_pos (.inl (by omega))]
    (go_wp2_with fail);(refine Hbad.out.mono ?_);(rintro e w1 ⟨rfl,hr,hk⟩);(go_wp2_with fail);go_ret;exact ⟨fun n r h=>(nomatch (Hno.out.symm.trans h)),fun _=>⟨rfl,hr⟩,hk⟩
   ·have hbd:=bits_digit k u c (by omega) Hu.out
    by_cases hz:0<k∧c=0
    ·have Hno:Hid (numOf rest=none):=by
      have:=hst.out
      rw [Hdrop.out] at this
      rw [Hid,←this]
      simp only [numR]
      rw [if_pos (.inr hz)]
     obtain ⟨h0,rfl⟩:=hz
     have hc0:((0:UInt8).toNat:Int)=0:=rfl
     (go_wp2_with fail);(refine Hbad.out.mono ?_);(rintro e w1 ⟨rfl,hr,hk⟩);(go_wp2_with fail);go_ret;exact ⟨fun n r h=>(nomatch (Hno.out.symm.trans h)),fun _=>⟨rfl,hr⟩,hk⟩
    ·have hgo:¬(9≤k∨(0<k∧c=0)):=by
      rintro (h | h)
      ·omega
      ·exact hz h
     have Hgo:=Lib.hid hgo
     have hc0:0<k→¬(c.toNat:Int)=0:=fun h e=>hz ⟨h,UInt8.toNat_inj.1 (by rw [UInt8.toNat_zero];omega)⟩
     clear hgo hz
     have hbs:bits BinOp.and IntKind.u8 (c.toNat:Int) 127=(c.toNat:Int) % 128:=by rw [bits_seven];omega
     obtain ⟨q,hq⟩:∃ q,q=u+c.toNat % 128 * 128 ^ k:=⟨_,rfl⟩
     rw [←hq] at hbd
     have Hq:=Lib.hid hq
     clear hq
     have hstep:¬c.toNat<128→numR (k+1) q (rest.drop (k+1))=numOf rest∧q<128 ^ (k+1):=fun h=>by
      have h1:=hst.out
      rw [Hdrop.out] at h1
      simp only [numR] at h1
      rw [if_neg Hgo.out,if_neg h,←Hq.out] at h1
      exact ⟨h1,by rw [Hq.out];exact digit_lt k u _ Hu.out (by omega)⟩
     have hend:c.toNat<128→numOf rest=if 4611686018427387904<q then none else some (q,rest.drop (k+1)):=fun h=>by
      have h1:=hst.out
      rw [Hdrop.out] at h1
      simp only [numR] at h1
      rw [if_neg Hgo.out,if_pos h] at h1
      rw [Hq.out,Nat.mod_eq_of_lt h]
      exact h1.symm
     have Hstep:=Lib.hid hstep
     have Hend:=Lib.hid hend
     clear hstep hend
     by_cases h0:(0:Int)<k
     all_goals (try have hc0:=hc0 (by omega))
     all_goals by_cases hc128:(c.toNat:Int)<128
     ·by_cases hbig:(4611686018427387904:Int)<q
      ·have Hno:Hid (numOf rest=none):=by rw [Hid,Hend.out (by omega),if_pos (by omega)]
       (go_wp2_with fail);(refine Hbad.out.mono ?_);(rintro e w1 ⟨rfl,hr,hk⟩);(go_wp2_with fail);go_ret;exact ⟨fun n r h=>(nomatch (Hno.out.symm.trans h)),fun _=>⟨rfl,hr⟩,hk⟩
      ·(go_wp2_with fail)
       all_goals go_ret
       all_goals have hy:numOf rest=some (q,rest.drop (k+1)):=by rw [Hend.out (by omega),if_neg (by omega)]
       all_goals refine ⟨fun n r h=>?_,fun h=>(nomatch (hy.symm.trans h)),Keeps.set _ _ _⟩
       all_goals (rw [hy] at h;simp only [Option.some.injEq,Prod.mk.injEq] at h;obtain ⟨rfl,rfl⟩:=h;refine ⟨rfl,?_⟩)
       all_goals exact rd_cut (n:=k+1) Hh.out (by omega) hlc hcm hgp Hrow.out (Below.refl _ _) (by omega) (fun h=>(nomatch h)) (fun h=>by first | omega | simp [Addr.add])
     ·go_wp2_with fail
      go_roundw
      case rel=>exact ⟨trivial,k+1,q,by omega,by omega,by go_num,rfl,(Hstep.out (by omega)).2,(Hstep.out (by omega)).1⟩
      case measure=>simp [intOf];omega
     ·by_cases hbig:(4611686018427387904:Int)<q
      ·have Hno:Hid (numOf rest=none):=by rw [Hid,Hend.out (by omega),if_pos (by omega)]
       (go_wp2_with fail);(refine Hbad.out.mono ?_);(rintro e w1 ⟨rfl,hr,hk⟩);(go_wp2_with fail);go_ret;exact ⟨fun n r h=>(nomatch (Hno.out.symm.trans h)),fun _=>⟨rfl,hr⟩,hk⟩
      ·(go_wp2_with fail)
       all_goals go_ret
       all_goals have hy:numOf rest=some (q,rest.drop (k+1)):=by rw [Hend.out (by omega),if_neg (by omega)]
       all_goals refine ⟨fun n r h=>?_,fun h=>(nomatch (hy.symm.trans h)),Keeps.set _ _ _⟩
       all_goals (rw [hy] at h;simp only [Option.some.injEq,Prod.mk.injEq] at h;obtain ⟨rfl,rfl⟩:=h;refine ⟨rfl,?_⟩)
       all_goals exact rd_cut (n:=k+1) Hh.out (by omega) hlc hcm hgp Hrow.out (Below.refl _ _) (by omega) (fun h=>(nomatch h)) (fun h=>by first | omega | simp [Addr.add])
     ·go_wp2_with fail
      go_roundw
      case rel=>exact ⟨trivial,k+1,q,by omega,by omega,by go_num,rfl,(Hstep.out (by omega)).2,(Hstep.out (by omega)).1⟩
      case measure=>simp [intOf];omega
  ·have Hno:Hid (numOf rest=none):=by
    have:=hst.out
    rw [List.drop_eq_nil_of_le (by omega)] at this
    rw [Hid,←this]
    rfl
   (go_wp2_with fail);(refine Hbad.out.mono ?_);(rintro e w1 ⟨rfl,hr,hk⟩);(go_wp2_with fail);go_ret;exact ⟨fun n r h=>(nomatch (Hno.out.symm.trans h)),fun _=>⟨rfl,hr⟩,hk⟩
end Go.Proofs.Ytogamdaomdoapaa
namespace Go.Proofs.Ytogamdaomdoapaa
open Go.RowKit
set_option maxRecDepth 20000
def bytesOf (l:List UInt8):Option (List UInt8 × List UInt8):=match numOf l with
 | none=>none
 | some (n,r)=>if n≤r.length then some (r.take n,r.drop n) else none
def tookOf (rest:List UInt8) (bad:Bool):List UInt8 × List UInt8 × Bool:=match bytesOf rest with
 | some (x,r)=>(x,r,bad)
 | none=>([],[],true)
theorem own_nothing (w:World) (base:Nat):OwnB w base none 0 []:=⟨rfl,.inl ⟨rfl,rfl⟩⟩
theorem RdAt.lt {w:World} {p g:Nat} {rest:List UInt8} {bad:Bool} (h:RdAt w p g rest bad):p<w.heap.size:=by
 obtain ⟨ao,cap,h1,-⟩:=h
 exact lt_of_block h1
theorem numOf_left {l:List UInt8} {n:Nat} {r:List UInt8} (h:numOf l=some (n,r)):r.length≤l.length∧n≤4611686018427387904:=by
 obtain ⟨h1,k,-,-,e⟩:=numR_left l 0 0 n r h
 exact ⟨by rw [e,List.length_drop];omega,h1⟩
set_option maxHeartbeats 1000000 in
theorem rdbytes_any (p g:Nat) (rest:List UInt8) (bad:Bool) (w:World) (h:RdAt w p g rest bad) (hm:rest.length≤140737488351232) :
 Calls Try.prog 29 #[.pointer (some ⟨p,0,none⟩)] w fun e w'=>∃ x r' b' ao cap,(x,r',b')=tookOf rest bad∧e=.returned (.slice ao x.length cap)∧OwnB w' w.heap.size ao cap x∧RdAt w' p g r' b'∧Keeps w w' (fun x=>x=p):=by
 have Hnum:=Lib.hid (rdnum_any p g rest bad w h hm)
 have hlt:=h.lt
 clear h
 have Htook:Hid (tookOf rest bad=match numOf rest with | none=>([],[],true) | some (n,r)=>if n≤r.length then (r.take n,r.drop n,bad) else ([],[],true)):=by
  unfold Hid tookOf bytesOf
  cases numOf rest with
  | none=>rfl
  | some o=>obtain ⟨n,r⟩:=o;simp only;by_cases hc:n≤r.length<;>simp only [hc,if_true,if_false]
 go_enter Try.func29,Try.ntmps29
 go_wp2_with fail
 refine Hnum.out.mono ?_
 rintro e w1 ⟨hy,hn,hk⟩
 have hs:=hk.size
 cases ho:numOf rest with
 | none =>
  obtain ⟨rfl,hr⟩:=hn ho
  have htook:=Htook.out
  rw [ho] at htook
  have Ht:=Lib.hid htook
  have Hraw:=Lib.hid (rdraw_yes p g [] true 0 w1 hr (Nat.le_refl _) (by simp))
  clear hy hn hr ho htook
  go_wp2_with fail
  refine Hraw.out.mono ?_
  rintro e w2 ⟨ao,cap,rfl,hown,hr2,hk2⟩
  go_wp2_with fail
  go_ret
  exact ⟨[],[],true,ao,cap,Ht.out.symm,rfl,own_weak hown hs,hr2,hk.trans hk2 (fun _ h=>h) (fun _ _ h=>h)⟩
 | some o =>
  obtain ⟨n,r⟩:=o
  obtain ⟨rfl,hr⟩:=hy n r ho
  obtain ⟨hl,hnle⟩:=numOf_left ho
  have htook:=Htook.out
  rw [ho] at htook
  simp only at htook
  by_cases hnr:n≤r.length
  ·rw [if_pos hnr] at htook
   have Ht:=Lib.hid htook
   have Hraw:=Lib.hid (rdraw_yes p g r bad n w1 hr hnr (by omega))
   clear hy hn hr ho htook
   go_wp2_with fail
   refine Hraw.out.mono ?_
   rintro e w2 ⟨ao,cap,rfl,hown,hr2,hk2⟩
   go_wp2_with fail
   go_ret
   refine ⟨r.take n,r.drop n,bad,ao,cap,Ht.out.symm,?_,own_weak hown hs,hr2,hk.trans hk2 (fun _ h=>h) (fun _ _ h=>h)⟩
   rw [List.length_take,Nat.min_eq_left hnr];rfl
  ·rw [if_neg hnr] at htook
   have Ht:=Lib.hid htook
   have Hraw:=Lib.hid (rdraw_no p g r bad n w1 hr (.inr (by omega)))
   clear hy hn hr ho htook
   go_wp2_with fail
   refine Hraw.out.mono ?_
   rintro e w2 ⟨rfl,hr2,hk2⟩
   go_wp2_with fail
   go_ret
   exact ⟨[],[],true,none,0,Ht.out.symm,rfl,own_nothing _ _,hr2,hk.trans hk2 (fun _ h=>h) (fun _ _ h=>h)⟩
end Go.Proofs.Ytogamdaomdoapaa
namespace Go.Proofs.Ytogamdaomdoapaa
open Go.RowKit Go.Joins
set_option maxRecDepth 20000
def thWr (p base:Nat) (l:List UInt8) (o:Option Nat):Th where
 T w:=WrAt w p base l o
 F:=Foot p o
 stay h k hS:=h.keeps k (hS _ (.inl rfl)) (fun g hg=>hS g (.inr hg))
 lt h hx:=by
  rcases hx with rfl | hx
  ·exact h.lt
  ·exact (h.own_lt _ hx).1
theorem RdAt.stay {w w':World} {p g:Nat} {rest:List UInt8} {bad:Bool} {S:Nat→Prop} (h:RdAt w p g rest bad) (k:Keeps w w' S) (hp:¬S p) (hg:0<rest.length→¬S g):RdAt w' p g rest bad:=by
 obtain ⟨ao,cap,h1,h2,h3,h4,h5,h6⟩:=h
 refine ⟨ao,cap,(k.block p (lt_of_block h1) hp).trans h1,h2,h3,h4,h5,fun hl=>?_⟩
 obtain ⟨off,e,hlt,hr⟩:=h6 hl
 exact ⟨off,e,Nat.lt_of_lt_of_le hlt k.size,hr.keeps hlt k (hg hl)⟩
theorem RdAt.glt {w:World} {p g:Nat} {rest:List UInt8} {bad:Bool} (h:RdAt w p g rest bad) (hl:0<rest.length):g<w.heap.size:=by
 obtain ⟨ao,cap,-,-,-,-,-,h6⟩:=h
 obtain ⟨off,e,hlt,-⟩:=h6 hl
 exact hlt
def thRd (p g:Nat) (rest:List UInt8) (bad:Bool):Th where
 T w:=RdAt w p g rest bad
 F x:=x=p∨(x=g∧0<rest.length)
 stay h k hS:=h.stay k (hS _ (.inl rfl)) (fun hl=>hS _ (.inr ⟨rfl,hl⟩))
 lt h hx:=by
  rcases hx with rfl | ⟨rfl,hx⟩
  ·exact h.lt
  ·exact h.glt hx
theorem St.wrote {W w w':World} {L:List Th} {p base:Nat} {l full:List UInt8} {o:Option Nat} (h:St W w (thWr p base l o::L)) (hi:WInv w w' p base o full []):∃ o',St W w' (thWr p base full o'::L):=by
 obtain ⟨o',h1,h2,h3⟩:=hi.done
 refine ⟨o',h.step h2 (thWr p base full o') h1 (fun x hx=>?_)⟩
 rcases hx with hx | hx
 ·exact .inl (.inl hx)
 ·rcases h3 x hx with h4 | h4
  ·exact .inl (.inr h4)
  ·exact .inr h4
theorem St.newWr {W w:World} {L:List Th} (h:St W w L) (n:Nat) (hn:n=w.heap.size) (base:Nat):St W (w.alloc (.cells #[.slice none 0 0] 87)) (thWr n base [] none::L) :=
 h.new (below_alloc _ _) _ (wr_new w base n hn) (fun x hx=>by
  rcases hx with hx | hx
  ·omega
  ·cases hx)
theorem St.read {W w w':World} {L:List Th} {p g:Nat} {rest rest':List UInt8} {bad bad':Bool} (h:St W w (thRd p g rest bad::L)) (hr:RdAt w' p g rest' bad') (k:Keeps w w' (fun x=>x=p)) (hl:rest'.length≤rest.length):St W w' (thRd p g rest' bad'::L) :=
 h.step (k.weak (fun _ _ h=>.inl h)) _ hr (fun x hx=>by
  rcases hx with hx | ⟨hx,h1⟩
  ·exact .inl (.inl hx)
  ·exact .inl (.inr ⟨hx,by omega⟩))
theorem St.newRd {W w w':World} {L:List Th} {p g:Nat} {rest:List UInt8} (h:St W w L) (hr:RdAt w' p g rest false) (hb:Below w.heap.size w w') (hp:w.heap.size≤p) (hg:w.heap.size≤g):St W w' (thRd p g rest false::L) :=
 h.new hb _ hr (fun x hx=>by
  rcases hx with hx | ⟨hx,-⟩<;>omega)
end Go.Proofs.Ytogamdaomdoapaa
namespace Go.Proofs.Ytogamdaomdoapaa
open Go.RowKit
theorem Ths.perm {B:Nat} {w:World} {L L':List Th} (h:L.Perm L'):Ths B w L→Ths B w L':=by
 induction h with
 | nil=>exact id
 | cons t hp ih=>exact fun hl=>⟨hl.1,hl.2.1,fun u hu=>hl.2.2.1 u (hp.mem_iff.2 hu),ih hl.2.2.2⟩
 | swap t u r =>
  intro hl
  obtain ⟨h1,h2,h3,h4,h5,h6,h7⟩:=hl
  refine ⟨h4,h5,fun v hv x hx=>?_,h1,h2,fun v hv=>h3 v (by simp [hv]),h7⟩
  rcases List.mem_cons.1 hv with e | e
  ·subst e;exact fun hux=>h3 t (by simp) x hux hx
  ·exact h6 v e x hx
 | trans _ _ ih1 ih2=>exact fun hl=>ih2 (ih1 hl)
theorem St.perm {W w:World} {L L':List Th} (h:St W w L) (p:L.Perm L'):St W w L':=⟨h.b,h.t.perm p⟩
theorem St.mem {W w:World} {L:List Th} (h:St W w L) {t:Th} (ht:t∈L):t.T w:=by
 obtain ⟨A,R,rfl⟩:=List.append_of_mem ht
 exact (h.pull).head
end Go.Proofs.Ytogamdaomdoapaa
namespace Go.Proofs.Ytogamdaomdoapaa
open Go.RowKit
theorem below_allocO (w:World) (o:Obj):Below w.heap.size w (w.alloc o):=(Below.refl _ _).alloc (Nat.le_refl _) _
def thObj (b:Nat) (o:Obj):Th where
 T w:=w.heap[b]?=some o
 F x:=x=b
 stay h k hS:=(k.block b (lt_of_block h) (hS b rfl)).trans h
 lt h e:=e▸lt_of_block h
theorem St.objN {W w:World} {L:List Th} (h:St W w L) (o:Obj) (n:Nat) (hn:n=w.heap.size):St W (w.alloc o) (thObj n o::L):=by
 subst hn
 exact h.new (below_allocO w o) _ (heap_new w o) (fun x e=>by rw [e];exact Nat.le_refl _)
theorem cells_of_obj {w:World} {b:Nat} {cur:Array Value} {t:TypeId} (h:w.heap[b]?=some (.cells cur t (0,0))):(∀ j,w.cell? ⟨b,j,none⟩=cur[j]?)∧∀ j,w.frozen? ⟨b,j,none⟩=false:=by
 refine ⟨fun j=>by simp [World.cell?,h],fun j=>by simp [World.frozen?,h]⟩
theorem St.cells {W w:World} {L:List Th} (h:St W w L) {b:Nat} {cur:Array Value} {t:TypeId} (ht:thObj b (.cells cur t (0,0))∈L):b<w.heap.size∧(∀ j,w.cell? ⟨b,j,none⟩=cur[j]?)∧∀ j,w.frozen? ⟨b,j,none⟩=false :=
 ⟨lt_of_block (h.mem ht),cells_of_obj (h.mem ht)⟩
end Go.Proofs.Ytogamdaomdoapaa
namespace Go.Proofs.Ytogamdaomdoapaa
open Go.RowKit
set_option maxRecDepth 20000
def intV (l:List Int):List Value:=l.map (.int .i64)
theorem irow_obj {w:World} {n:Nat} {vs:List Int} {t:TypeId} {cur:Array Value} (h:w.heap[n]?=some (.cells cur t (0,0))) (hc:cur=(intV vs).toArray):IRow w n 0 vs:=by
 subst hc
 intro i hi
 rw [(cells_of_obj h).1,Nat.zero_add]
 simp [intV,hi]
theorem St.nums {W w:World} {L:List Th} {p:Nat} {l:List UInt8} {o:Option Nat} (h:St W w (thWr p W.heap.size l o::L)) (vs:List Int) (n k:Nat) (hn:n=w.heap.size) (hk:k=vs.length) (cur:Array Value) (hc:cur=(intV vs).toArray) (hm:l.length+10 * vs.length≤140737488351232) :
 Calls Try.prog 35 #[.pointer (some ⟨p,0,none⟩),.slice (some ⟨n,0,none⟩) k k] (w.alloc (.cells cur 3)) fun e w'=>e=.returned (.tuple #[])∧∃ o',St W w' (thWr p W.heap.size (l++encs vs) o'::L):=by
 subst hn hk
 have hw:=h.head
 have hb:=h.b.size
 have hg:St W (w.alloc (.cells cur 3)) (thWr p W.heap.size l o::L):=h.grow (below_allocO _ _)
 refine (nums_some p W.heap.size l o w.heap.size 0 vs.length vs _ hg.head (irow_obj (heap_new w _) hc) (by simp) (fun e=>by have:=(show WrAt w p W.heap.size l o from hw).lt;omega) (fun e=>by have:=((show WrAt w p W.heap.size l o from hw).own_lt _ e).1;omega) (by simp;omega) hm).mono ?_
 rintro e w' ⟨rfl,hi⟩
 exact ⟨rfl,hg.wrote hi⟩
theorem rs_lit {w:World} {n:Nat} {cur:Array Value} {t:TypeId} (h:w.heap[n]?=some (.cells cur t (0,0))) (L:List RowR) (hc:cur.toList=L.map fun r=>Value.slice r.ao r.bs.length r.cap) (D:Nat→Prop) (hD:D n) (hL:∀ r∈L,r.bs.length≤r.cap∧r.cap≤9223372036854775807∧(r.ao=none→r.bs.length=0∧r.cap=0)∧BIn w D r.ao r.bs):RsAt w D (some ⟨n,0,none⟩) L:=by
 refine fun _=>⟨n,0,rfl,lt_of_block h,hD,fun i hi=>?_⟩
 obtain ⟨h1,h2,h3,h4⟩:=hL _ (List.getElem_mem hi)
 refine ⟨?_,h1,h2,h3,h4⟩
 rw [(cells_of_obj h).1,Nat.zero_add,←Array.getElem?_toList,hc]
 simp [hi]
theorem St.rows {W w:World} {L:List Th} {p:Nat} {l:List UInt8} {o:Option Nat} (h:St W w (thWr p W.heap.size l o::L)) (R:List RowR) (n k:Nat) (hn:n=w.heap.size) (hk:k=R.length) (cur:Array Value) (hc:cur.toList=R.map fun r=>Value.slice r.ao r.bs.length r.cap)
 (hR:∀ r∈R,r.bs.length≤r.cap∧r.cap≤9223372036854775807∧(r.ao=none→r.bs.length=0∧r.cap=0)∧BAt w r.ao r.bs∧∀ a,r.ao=some a→¬Foot p o a.block) (hm:l.length+10 * R.length+(flatR R).length+10≤140737488351232) :
 Calls Try.prog 36 #[.pointer (some ⟨p,0,none⟩),.slice (some ⟨n,0,none⟩) k k] (w.alloc (.cells cur 36)) fun e w'=>e=.returned (.tuple #[])∧∃ o',St W w' (thWr p W.heap.size (l++encRows R) o'::L):=by
 subst hn hk
 have hw:WrAt w p W.heap.size l o:=h.head
 have hb:=h.b.size
 have hg:St W (w.alloc (.cells cur 36)) (thWr p W.heap.size l o::L):=h.grow (below_allocO _ _)
 have hnp:¬Foot p o w.heap.size:=by
  rintro (e | e)
  ·have:=hw.lt;omega
  ·have:=(hw.own_lt _ e).1;omega
 have hrs:=rs_lit (heap_new w (.cells cur 36)) R hc (fun x=>x<(w.alloc (.cells cur 36)).heap.size∧¬Foot p o x) ⟨by simp,hnp⟩ (fun r hr=>by
  obtain ⟨h1,h2,h3,h4,h5⟩:=hR r hr
  refine ⟨h1,h2,h3,fun hp=>?_⟩
  obtain ⟨b,off,e,hlt,hrow⟩:=h4 hp
  exact ⟨b,off,e,by simp;omega,⟨by simp;omega,h5 _ e⟩,hrow.below hlt (below_allocO _ _)⟩)
 refine (wbytes_any p W.heap.size l o _ R.length R _ _ hg.head hrs (fun hx=>hx.2 (.inl rfl)) (fun g hgo hx=>hx.2 (.inr hgo)) (fun x hx=>hx.1) (by simp;omega) (by omega)).mono ?_
 rintro e w' ⟨rfl,hi⟩
 exact ⟨rfl,hg.wrote hi⟩
end Go.Proofs.Ytogamdaomdoapaa