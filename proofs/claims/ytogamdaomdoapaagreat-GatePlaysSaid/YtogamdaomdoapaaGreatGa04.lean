/- Texts put together: RdNum, RdBytes, Obj, Perm, ThO, WrSt, Ref, Str, EncP. -/
import Derived.Test.YtogamdaomdoapaaGreatGa02
import Derived.Test.YtogamdaomdoapaaGreatGa03
import Derived.Laws.Bits64b
import Derived.Lib.ConvBytes
namespace Go.Proofs.YtogamdaomdoapaaGreat
open Go.Value renaming int→aI
open Go.IntKind renaming i64→aK
open List renaming length_append→lL
open Go.Lib renaming hid→uH
open Go.RowKit
set_option maxRecDepth 20000
set_option maxRecDepth 8000 in
set_option maxHeartbeats 4000000 in
theorem o0o (p g:Nat) (rest:List UInt8) (bad:Bool) (w:World) (h:RdAt w p g rest bad) (hm:rest.length≤140737488351232) :
 Calls Tryz.prog 81 #[.pointer (some ⟨p,0,none⟩)] w fun e w'=>(∀ n r,numOf rest=some (n,r)→e=.returned (aI aK (n:Nat))∧RdAt w' p g r bad)∧(numOf rest=none→e=.returned (aI aK 0)∧RdAt w' p g [] true)∧Keeps w w' (fun x=>x=p):=by
 have Hbad:=uH (y0v p g rest bad w h)
 obtain ⟨ao,cap,hh,hlc,hcm,hnone,hgp,hrow⟩:=h
 obtain ⟨c0,c1,f0,f1⟩:=b0m hh
 have Hh:=uH hh
 have Hnone:=uH hnone
 have Hrow:=uH hrow
 clear hh hnone hrow
 go_enter Tryz.func81,Tryz.ntmps81
 go_wp2_with fail
 go_loopw [13,3] (fun s13 s3 wr=>wr=w∧∃ k u:Nat,k≤rest.length∧k≤9∧s13=aI aK k∧s3=.int .u64 u∧u<128 ^ k∧Hid (numR k u (rest.drop k)=numOf rest)) (fun s13 _ _=>rest.length - (intOf s13).toNat)
 case atStart=>exact ⟨rfl,0,0,by omega,by omega,rfl,rfl,by decide,rfl⟩
 case round =>
  obtain ⟨rfl,k,u,hk,hk9,rfl,rfl,hu,hst⟩:=hrel
  by_cases hlt:k<rest.length
  ·obtain ⟨off,rfl,hglt,hr⟩:=Hrow.out (by omega)
   have hcv:=hr k hlt
   obtain ⟨c,hc⟩:∃ c,c=rest[k]:=⟨_,rfl⟩
   have hdrop:rest.drop k=c::rest.drop (k+1):=by rw [hc];exact List.drop_eq_getElem_cons hlt
   rw [←hc] at hcv
   have Hdrop:=uH hdrop
   have Hr:=uH hr
   have Hu:=uH hu
   clear hc hdrop hr hu
   by_cases h9:(9:Int)≤k
   ·have Hno:Hid (numOf rest=none):=by
     have:=hst.out
     rw [Hdrop.out] at this
     rw [Hid,←this]
     simp only [numR]
     rw [if_pos (.inl (by omega))]
    (go_wp2_with fail);(refine Hbad.out.mono ?_);(rintro e w1 ⟨rfl,hr,hk⟩);(go_wp2_with fail);go_ret;exact ⟨fun n r h=>(nomatch (Hno.out.symm.trans h)),fun _=>⟨rfl,hr⟩,hk⟩
   ·have hbd:=m0r k u c (by omega) Hu.out
    by_cases hz:0<k∧c=0
    ·have Hno:Hid (numOf rest=none):=by
      have:=hst.out
      rw [Hdrop.out] at this
      rw [Hid,←this]
      simp only [numR]
      rw [if_pos (.inr hz)]
     obtain ⟨h0,rfl⟩:=hz
     have hc0:((0:UInt8).toNat:Int)=0:=rfl
     (go_wp2_with fail);(refine Hbad.out.mono ?_);(rintro e w1 ⟨rfl,hr,hk⟩);(go_wp2_with fail);go_ret;exact ⟨fun n r h=>(nomatch (Hno.out.symm.trans h)),fun _=>⟨rfl,hr⟩,hk⟩
    ·have hgo:¬(9≤k∨(0<k∧c=0)):=by
      rintro (h | h)
      ·omega
      ·exact hz h
     have Hgo:=uH hgo
     have hc0:0<k→¬(c.toNat:Int)=0:=fun h e=>hz ⟨h,UInt8.toNat_inj.1 (by rw [UInt8.toNat_zero];omega)⟩
     clear hgo hz
     have hbs:bits BinOp.and IntKind.u8 (c.toNat:Int) 127=(c.toNat:Int) % 128:=by rw [m0q];omega
     obtain ⟨q,hq⟩:∃ q,q=u+c.toNat % 128 * 128 ^ k:=⟨_,rfl⟩
     rw [←hq] at hbd
     have Hq:=uH hq
     clear hq
     have hstep:¬c.toNat<128→numR (k+1) q (rest.drop (k+1))=numOf rest∧q<128 ^ (k+1):=fun h=>by
      have h1:=hst.out
      rw [Hdrop.out] at h1
      simp only [numR] at h1
      rw [if_neg Hgo.out,if_neg h,←Hq.out] at h1
      exact ⟨h1,by rw [Hq.out];exact n0u k u _ Hu.out (by omega)⟩
     have hend:c.toNat<128→numOf rest=if 4611686018427387904<q then none else some (q,rest.drop (k+1)):=fun h=>by
      have h1:=hst.out
      rw [Hdrop.out] at h1
      simp only [numR] at h1
      rw [if_neg Hgo.out,if_pos h] at h1
      rw [Hq.out,Nat.mod_eq_of_lt h]
      exact h1.symm
     have Hstep:=uH hstep
     have Hend:=uH hend
     clear hstep hend
     by_cases h0:(0:Int)<k
     all_goals (try have hc0:=hc0 (by omega))
     all_goals by_cases hc128:(c.toNat:Int)<128
     ·by_cases hbig:(4611686018427387904:Int)<q
      ·have Hno:Hid (numOf rest=none):=by rw [Hid,Hend.out (by omega),if_pos (by omega)]
       (go_wp2_with fail);(refine Hbad.out.mono ?_);(rintro e w1 ⟨rfl,hr,hk⟩);(go_wp2_with fail);go_ret;exact ⟨fun n r h=>(nomatch (Hno.out.symm.trans h)),fun _=>⟨rfl,hr⟩,hk⟩
      ·(go_wp2_with fail)
       all_goals go_ret
       all_goals have hy:numOf rest=some (q,rest.drop (k+1)):=by rw [Hend.out (by omega),if_neg (by omega)]
       all_goals refine ⟨fun n r h=>?_,fun h=>(nomatch (hy.symm.trans h)),Keeps.set _ _ _⟩
       all_goals (rw [hy] at h;simp only [Option.some.injEq,Prod.mk.injEq] at h;obtain ⟨rfl,rfl⟩:=h;refine ⟨rfl,?_⟩)
       all_goals exact s0k (n:=k+1) Hh.out (by omega) hlc hcm hgp Hrow.out (Below.refl _ _) (by omega) (fun h=>(nomatch h)) (fun h=>by first | omega | simp [Addr.add])
     ·go_wp2_with fail
      go_roundw
      case rel=>exact ⟨trivial,k+1,q,by omega,by omega,by go_num,rfl,(Hstep.out (by omega)).2,(Hstep.out (by omega)).1⟩
      case measure=>simp [intOf];omega
     ·by_cases hbig:(4611686018427387904:Int)<q
      ·have Hno:Hid (numOf rest=none):=by rw [Hid,Hend.out (by omega),if_pos (by omega)]
       (go_wp2_with fail);(refine Hbad.out.mono ?_);(rintro e w1 ⟨rfl,hr,hk⟩);(go_wp2_with fail);go_ret;exact ⟨fun n r h=>(nomatch (Hno.out.symm.trans h)),fun _=>⟨rfl,hr⟩,hk⟩
      ·(go_wp2_with fail)
       all_goals go_ret
       all_goals have hy:numOf rest=some (q,rest.drop (k+1)):=by rw [Hend.out (by omega),if_neg (by omega)]
       all_goals refine ⟨fun n r h=>?_,fun h=>(nomatch (hy.symm.trans h)),Keeps.set _ _ _⟩
       all_goals (rw [hy] at h;simp only [Option.some.injEq,Prod.mk.injEq] at h;obtain ⟨rfl,rfl⟩:=h;refine ⟨rfl,?_⟩)
       all_goals exact s0k (n:=k+1) Hh.out (by omega) hlc hcm hgp Hrow.out (Below.refl _ _) (by omega) (fun h=>(nomatch h)) (fun h=>by first | omega | simp [Addr.add])
     ·go_wp2_with fail
      go_roundw
      case rel=>exact ⟨trivial,k+1,q,by omega,by omega,by go_num,rfl,(Hstep.out (by omega)).2,(Hstep.out (by omega)).1⟩
      case measure=>simp [intOf];omega
  ·have Hno:Hid (numOf rest=none):=by
    have:=hst.out
    rw [List.drop_eq_nil_of_le (by omega)] at this
    rw [Hid,←this]
    rfl
   (go_wp2_with fail);(refine Hbad.out.mono ?_);(rintro e w1 ⟨rfl,hr,hk⟩);(go_wp2_with fail);go_ret;exact ⟨fun n r h=>(nomatch (Hno.out.symm.trans h)),fun _=>⟨rfl,hr⟩,hk⟩
open Go.RowKit
set_option maxRecDepth 20000
def bytesOf (l:List UInt8):Option (List UInt8 × List UInt8):=match numOf l with
 | none=>none
 | some (n,r)=>if n≤r.length then some (r.take n,r.drop n) else none
def a0q (rest:List UInt8) (bad:Bool):List UInt8 × List UInt8 × Bool:=match bytesOf rest with
 | some (x,r)=>(x,r,bad)
 | none=>([],[],true)
theorem h0q (w:World) (base:Nat):OwnB w base none 0 []:=⟨rfl,.inl ⟨rfl,rfl⟩⟩
theorem RdAt.lt {w:World} {p g:Nat} {rest:List UInt8} {bad:Bool} (h:RdAt w p g rest bad):p<w.heap.size:=by
 obtain ⟨ao,cap,h1,-⟩:=h
 exact lt_of_block h1
theorem j0d {l:List UInt8} {n:Nat} {r:List UInt8} (h:numOf l=some (n,r)):r.length≤l.length∧n≤4611686018427387904:=by
 obtain ⟨h1,k,-,-,e⟩:=i0i l 0 0 n r h
 exact ⟨by rw [e,List.length_drop];omega,h1⟩
set_option maxHeartbeats 1000000 in
theorem q0i (p g:Nat) (rest:List UInt8) (bad:Bool) (w:World) (h:RdAt w p g rest bad) (hm:rest.length≤140737488351232) :
 Calls Tryz.prog 50 #[.pointer (some ⟨p,0,none⟩)] w fun e w'=>∃ x r' b' ao cap,(x,r',b')=a0q rest bad∧e=.returned (.slice ao x.length cap)∧OwnB w' w.heap.size ao cap x∧RdAt w' p g r' b'∧Keeps w w' (fun x=>x=p):=by
 have Hnum:=uH (o0o p g rest bad w h hm)
 have hlt:=h.lt
 clear h
 have Htook:Hid (a0q rest bad=match numOf rest with | none=>([],[],true) | some (n,r)=>if n≤r.length then (r.take n,r.drop n,bad) else ([],[],true)):=by
  unfold Hid a0q bytesOf
  cases numOf rest with
  | none=>rfl
  | some o=>obtain ⟨n,r⟩:=o;simp only;by_cases hc:n≤r.length<;>simp only [hc,if_true,if_false]
 go_enter Tryz.func50,Tryz.ntmps50
 go_wp2_with fail
 refine Hnum.out.mono ?_
 rintro e w1 ⟨hy,hn,hk⟩
 have hs:=hk.size
 cases ho:numOf rest with
 | none =>
  obtain ⟨rfl,hr⟩:=hn ho
  have htook:=Htook.out
  rw [ho] at htook
  have Ht:=uH htook
  have Hraw:=uH (o0n p g [] true 0 w1 hr (Nat.le_refl _) (by simp))
  clear hy hn hr ho htook
  go_wp2_with fail
  refine Hraw.out.mono ?_
  rintro e w2 ⟨ao,cap,rfl,hown,hr2,hk2⟩
  go_wp2_with fail
  go_ret
  exact ⟨[],[],true,ao,cap,Ht.out.symm,rfl,b0a hown hs,hr2,hk.trans hk2 (fun _ h=>h) (fun _ _ h=>h)⟩
 | some o =>
  obtain ⟨n,r⟩:=o
  obtain ⟨rfl,hr⟩:=hy n r ho
  obtain ⟨hl,hnle⟩:=j0d ho
  have htook:=Htook.out
  rw [ho] at htook
  simp only at htook
  by_cases hnr:n≤r.length
  ·rw [if_pos hnr] at htook
   have Ht:=uH htook
   have Hraw:=uH (o0n p g r bad n w1 hr hnr (by omega))
   clear hy hn hr ho htook
   go_wp2_with fail
   refine Hraw.out.mono ?_
   rintro e w2 ⟨ao,cap,rfl,hown,hr2,hk2⟩
   go_wp2_with fail
   go_ret
   refine ⟨r.take n,r.drop n,bad,ao,cap,Ht.out.symm,?_,b0a hown hs,hr2,hk.trans hk2 (fun _ h=>h) (fun _ _ h=>h)⟩
   rw [List.length_take,Nat.min_eq_left hnr];rfl
  ·rw [if_neg hnr] at htook
   have Ht:=uH htook
   have Hraw:=uH (rdraw_no p g r bad n w1 hr (.inr (by omega)))
   clear hy hn hr ho htook
   go_wp2_with fail
   refine Hraw.out.mono ?_
   rintro e w2 ⟨rfl,hr2,hk2⟩
   go_wp2_with fail
   go_ret
   exact ⟨[],[],true,none,0,Ht.out.symm,rfl,h0q _ _,hr2,hk.trans hk2 (fun _ h=>h) (fun _ _ h=>h)⟩
open Go.RowKit Go.Joins
set_option maxRecDepth 20000
def thWr (p base:Nat) (l:List UInt8) (o:Option Nat):Th where
 T w:=WrAt w p base l o
 F:=Foot p o
 stay h k hS:=h.keeps k (hS _ (.inl rfl)) (fun g hg=>hS g (.inr hg))
 lt h hx:=by
  rcases hx with rfl | hx
  ·exact h.lt
  ·exact (h.d0a _ hx).1
theorem RdAt.stay {w w':World} {p g:Nat} {rest:List UInt8} {bad:Bool} {S:Nat→Prop} (h:RdAt w p g rest bad) (k:Keeps w w' S) (hp:¬S p) (hg:0<rest.length→¬S g):RdAt w' p g rest bad:=by
 obtain ⟨ao,cap,h1,h2,h3,h4,h5,h6⟩:=h
 refine ⟨ao,cap,(k.block p (lt_of_block h1) hp).trans h1,h2,h3,h4,h5,fun hl=>?_⟩
 obtain ⟨off,e,hlt,hr⟩:=h6 hl
 exact ⟨off,e,Nat.lt_of_lt_of_le hlt k.size,hr.keeps hlt k (hg hl)⟩
theorem RdAt.glt {w:World} {p g:Nat} {rest:List UInt8} {bad:Bool} (h:RdAt w p g rest bad) (hl:0<rest.length):g<w.heap.size:=by
 obtain ⟨ao,cap,-,-,-,-,-,h6⟩:=h
 obtain ⟨off,e,hlt,-⟩:=h6 hl
 exact hlt
def thRd (p g:Nat) (rest:List UInt8) (bad:Bool):Th where
 T w:=RdAt w p g rest bad
 F x:=x=p∨(x=g∧0<rest.length)
 stay h k hS:=h.stay k (hS _ (.inl rfl)) (fun hl=>hS _ (.inr ⟨rfl,hl⟩))
 lt h hx:=by
  rcases hx with rfl | ⟨rfl,hx⟩
  ·exact h.lt
  ·exact h.glt hx
theorem St.wrote {W w w':World} {L:List Th} {p base:Nat} {l full:List UInt8} {o:Option Nat} (h:St W w (thWr p base l o::L)) (hi:WInv w w' p base o full []):∃ o',St W w' (thWr p base full o'::L):=by
 obtain ⟨o',h1,h2,h3⟩:=hi.done
 refine ⟨o',h.step h2 (thWr p base full o') h1 (fun x hx=>?_)⟩
 rcases hx with hx | hx
 ·exact .inl (.inl hx)
 ·rcases h3 x hx with h4 | h4
  ·exact .inl (.inr h4)
  ·exact .inr h4
theorem St.t0z {W w:World} {L:List Th} (h:St W w L) (n:Nat) (hn:n=w.heap.size) (base:Nat):St W (w.alloc (.cells #[.slice none 0 0] 134)) (thWr n base [] none::L) :=
 h.new (r0j _ _) _ (wr_new w base n hn) (fun x hx=>by
  rcases hx with hx | hx
  ·omega
  ·cases hx)
theorem St.read {W w w':World} {L:List Th} {p g:Nat} {rest rest':List UInt8} {bad bad':Bool} (h:St W w (thRd p g rest bad::L)) (hr:RdAt w' p g rest' bad') (k:Keeps w w' (fun x=>x=p)) (hl:rest'.length≤rest.length):St W w' (thRd p g rest' bad'::L) :=
 h.step (k.weak (fun _ _ h=>.inl h)) _ hr (fun x hx=>by
  rcases hx with hx | ⟨hx,h1⟩
  ·exact .inl (.inl hx)
  ·exact .inl (.inr ⟨hx,by omega⟩))
theorem St.x0d {W w w':World} {L:List Th} {p g:Nat} {rest:List UInt8} (h:St W w L) (hr:RdAt w' p g rest false) (hb:Below w.heap.size w w') (hp:w.heap.size≤p) (hg:w.heap.size≤g):St W w' (thRd p g rest false::L) :=
 h.new hb _ hr (fun x hx=>by
  rcases hx with hx | ⟨hx,-⟩<;>omega)
open Go.RowKit
theorem Ths.perm {B:Nat} {w:World} {L L':List Th} (h:L.Perm L'):Ths B w L→Ths B w L':=by
 induction h with
 | nil=>exact id
 | cons t hp ih=>exact fun hl=>⟨hl.1,hl.2.1,fun u hu=>hl.2.2.1 u (hp.mem_iff.2 hu),ih hl.2.2.2⟩
 | swap t u r =>
  intro hl
  obtain ⟨h1,h2,h3,h4,h5,h6,h7⟩:=hl
  refine ⟨h4,h5,fun v hv x hx=>?_,h1,h2,fun v hv=>h3 v (by simp [hv]),h7⟩
  rcases List.mem_cons.1 hv with e | e
  ·subst e;exact fun hux=>h3 t (by simp) x hux hx
  ·exact h6 v e x hx
 | trans _ _ ih1 ih2=>exact fun hl=>ih2 (ih1 hl)
theorem St.perm {W w:World} {L L':List Th} (h:St W w L) (p:L.Perm L'):St W w L':=⟨h.b,h.t.perm p⟩
theorem St.mem {W w:World} {L:List Th} (h:St W w L) {t:Th} (ht:t∈L):t.T w:=by
 obtain ⟨A,R,rfl⟩:=List.append_of_mem ht
 exact (h.pull).head
open Go.RowKit
theorem a0p (w:World) (o:Obj):Below w.heap.size w (w.alloc o):=(Below.refl _ _).alloc (Nat.le_refl _) _
def a0c (b:Nat) (o:Obj):Th where
 T w:=w.heap[b]?=some o
 F x:=x=b
 stay h k hS:=(k.block b (lt_of_block h) (hS b rfl)).trans h
 lt h e:=e▸lt_of_block h
theorem St.objN {W w:World} {L:List Th} (h:St W w L) (o:Obj) (n:Nat) (hn:n=w.heap.size):St W (w.alloc o) (a0c n o::L):=by
 subst hn
 exact h.new (a0p w o) _ (b0r w o) (fun x e=>by rw [e];exact Nat.le_refl _)
theorem b0b {w:World} {b:Nat} {cur:Array Value} {t:TypeId} (h:w.heap[b]?=some (.cells cur t (0,0))):(∀ j,w.cell? ⟨b,j,none⟩=cur[j]?)∧∀ j,w.frozen? ⟨b,j,none⟩=false:=by
 refine ⟨fun j=>by simp [World.cell?,h],fun j=>by simp [World.frozen?,h]⟩
theorem St.cells {W w:World} {L:List Th} (h:St W w L) {b:Nat} {cur:Array Value} {t:TypeId} (ht:a0c b (.cells cur t (0,0))∈L):b<w.heap.size∧(∀ j,w.cell? ⟨b,j,none⟩=cur[j]?)∧∀ j,w.frozen? ⟨b,j,none⟩=false :=
 ⟨lt_of_block (h.mem ht),b0b (h.mem ht)⟩
open Go.RowKit
set_option maxRecDepth 20000
def intV (l:List Int):List Value:=l.map (.int .i64)
theorem n0n {w:World} {n:Nat} {vs:List Int} {t:TypeId} {cur:Array Value} (h:w.heap[n]?=some (.cells cur t (0,0))) (hc:cur=(intV vs).toArray):IRow w n 0 vs:=by
 subst hc
 intro i hi
 rw [(b0b h).1,Nat.zero_add]
 simp [intV,hi]
theorem St.nums {W w:World} {L:List Th} {p:Nat} {l:List UInt8} {o:Option Nat} (h:St W w (thWr p W.heap.size l o::L)) (vs:List Int) (n k:Nat) (hn:n=w.heap.size) (hk:k=vs.length) (cur:Array Value) (hc:cur=(intV vs).toArray) (hm:l.length+10 * vs.length≤140737488351232) :
 Calls Tryz.prog 70 #[.pointer (some ⟨p,0,none⟩),.slice (some ⟨n,0,none⟩) k k] (w.alloc (.cells cur 3)) fun e w'=>e=.returned (.tuple #[])∧∃ o',St W w' (thWr p W.heap.size (l++encs vs) o'::L):=by
 subst hn hk
 have hw:=h.head
 have hb:=h.b.size
 have hg:St W (w.alloc (.cells cur 3)) (thWr p W.heap.size l o::L):=h.grow (a0p _ _)
 refine (k0x p W.heap.size l o w.heap.size 0 vs.length vs _ hg.head (n0n (b0r w _) hc) (by simp) (fun e=>by have:=(show WrAt w p W.heap.size l o from hw).lt;omega) (fun e=>by have:=((show WrAt w p W.heap.size l o from hw).d0a _ e).1;omega) (by simp;omega) hm).mono ?_
 rintro e w' ⟨rfl,hi⟩
 exact ⟨rfl,hg.wrote hi⟩
theorem rs_lit {w:World} {n:Nat} {cur:Array Value} {t:TypeId} (h:w.heap[n]?=some (.cells cur t (0,0))) (L:List RowR) (hc:cur.toList=L.map fun r=>Value.slice r.ao r.bs.length r.cap) (D:Nat→Prop) (hD:D n) (hL:∀ r∈L,r.bs.length≤r.cap∧r.cap≤9223372036854775807∧(r.ao=none→r.bs.length=0∧r.cap=0)∧BIn w D r.ao r.bs):RsAt w D (some ⟨n,0,none⟩) L:=by
 refine fun _=>⟨n,0,rfl,lt_of_block h,hD,fun i hi=>?_⟩
 obtain ⟨h1,h2,h3,h4⟩:=hL _ (List.getElem_mem hi)
 refine ⟨?_,h1,h2,h3,h4⟩
 rw [(b0b h).1,Nat.zero_add,←Array.getElem?_toList,hc]
 simp [hi]
theorem St.rows {W w:World} {L:List Th} {p:Nat} {l:List UInt8} {o:Option Nat} (h:St W w (thWr p W.heap.size l o::L)) (R:List RowR) (n k:Nat) (hn:n=w.heap.size) (hk:k=R.length) (cur:Array Value) (hc:cur.toList=R.map fun r=>Value.slice r.ao r.bs.length r.cap)
 (hR:∀ r∈R,r.bs.length≤r.cap∧r.cap≤9223372036854775807∧(r.ao=none→r.bs.length=0∧r.cap=0)∧BAt w r.ao r.bs∧∀ a,r.ao=some a→¬Foot p o a.block) (hm:l.length+10 * R.length+(c0g R).length+10≤140737488351232) :
 Calls Tryz.prog 71 #[.pointer (some ⟨p,0,none⟩),.slice (some ⟨n,0,none⟩) k k] (w.alloc (.cells cur 47)) fun e w'=>e=.returned (.tuple #[])∧∃ o',St W w' (thWr p W.heap.size (l++c0p R) o'::L):=by
 subst hn hk
 have hw:WrAt w p W.heap.size l o:=h.head
 have hb:=h.b.size
 have hg:St W (w.alloc (.cells cur 47)) (thWr p W.heap.size l o::L):=h.grow (a0p _ _)
 have hnp:¬Foot p o w.heap.size:=by
  rintro (e | e)
  ·have:=hw.lt;omega
  ·have:=(hw.d0a _ e).1;omega
 have hrs:=rs_lit (b0r w (.cells cur 47)) R hc (fun x=>x<(w.alloc (.cells cur 47)).heap.size∧¬Foot p o x) ⟨by simp,hnp⟩ (fun r hr=>by
  obtain ⟨h1,h2,h3,h4,h5⟩:=hR r hr
  refine ⟨h1,h2,h3,fun hp=>?_⟩
  obtain ⟨b,off,e,hlt,hrow⟩:=h4 hp
  exact ⟨b,off,e,by simp;omega,⟨by simp;omega,h5 _ e⟩,hrow.below hlt (a0p _ _)⟩)
 refine (l0v p W.heap.size l o _ R.length R _ _ hg.head hrs (fun hx=>hx.2 (.inl rfl)) (fun g hgo hx=>hx.2 (.inr hgo)) (fun x hx=>hx.1) (by simp;omega) (by omega)).mono ?_
 rintro e w' ⟨rfl,hi⟩
 exact ⟨rfl,hg.wrote hi⟩
open Go.RowKit
set_option maxRecDepth 20000
theorem f0k (q:Nat) (h:q≤4611686018427387904):bits .and .u64 (q:Int) 127=(q:Int) % 128:=by
 rw [show (127:Int)=((127:Nat):Int) from rfl,bits_and_u64_nat q 127 (by omega) (by omega)]
 rw [show (127:Nat)=2 ^ 7 - 1 from rfl,Nat.and_two_pow_sub_one_eq_mod]
 omega
theorem j0h (q:Nat):bits BinOp.or IntKind.u8 ((q:Int) % 128) 128=((UInt8.ofNat (q % 128+128)).toNat:Int):=by
 have h:=p0w (q % 128)
 rw [show (((q % 128:Nat)):Int) % 256=(q:Int) % 128 from by omega,Nat.mod_mod] at h
 exact h
set_option maxHeartbeats 4000000 in
theorem g0w (v:Int) (w:World):Calls Tryz.prog 88 #[aI aK v] w (d0b w (encN (a0l v))):=by
 obtain ⟨i0,hi,hz0,hz1,hz2⟩:=info_parts c0h
 obtain ⟨u,hu⟩:∃ u,u=a0l v:=⟨_,rfl⟩
 have hul:u≤4611686018427387904:=hu▸c0x v
 rw [←hu]
 have Hul:=uH hul
 by_cases hbig:4611686018427387904<v
 ·have hue:u=4611686018427387904:=by rw [hu];unfold a0l;omega
  have Hue:=uH hue
  clear hu hue hul
  go_enter Tryz.func88,Tryz.ntmps88
  go_wp2_with fail
  go_loopw [3,4] (fun s3 s4 wr=>∃ (q:Nat) (cur:List UInt8) (ao:Option Addr) (cap:Nat),s3=.int .u64 q∧s4=.slice ao cur.length cap∧q≤4611686018427387904∧cur.length≤10∧Hid (OwnB wr w.heap.size ao cap cur)∧Hid (Below w.heap.size w wr)∧Hid (cur++encN q=encN u)) (fun s3 _ _=>(intOf s3).toNat)
  case atStart=>exact ⟨u,[],none,0,by rw [Hue.out]<;>rfl,rfl,Hul.out,by simp,⟨rfl,.inl ⟨rfl,rfl⟩⟩,Below.refl _ _,rfl⟩
  case round =>
   clear Hue
   obtain ⟨q,cur,ao,cap,rfl,rfl,hq,hcl,Hown,Hb,Hfull⟩:=hrel
   have hbs:=Hb.out.size
   have hfl:=congrArg List.length Hfull.out
   rw [lL] at hfl
   have hel:=a0o u
   by_cases h128:(128:Int)≤q
   ·have hb7:=f0k q hq
    have hbm:=j0h q
    obtain ⟨c,hc⟩:∃ c:UInt8,c=UInt8.ofNat (q % 128+128):=⟨_,rfl⟩
    rw [←hc] at hbm
    have Hc:=uH hc
    clear hc
    have hcl2:cur.length+1≤10:=by
     have h1:=(a0o q).2
     omega
    go_wp2_with (at_builtin;go_must (refine a0h _ rfl (.tmp 13) (.tmp 18) 47 rfl w.heap.size 5 i0 (aI .u8 0) 1 1 Tryz.underlying47 hi hz0 hz1 hz2 rfl (by decide) ao cur.length cap (bytV cur) rfl (Hown.out.alloc _) (some ⟨wr.heap.size,0,none⟩) 1 1 (bytV [c]) rfl (fun h=>by cases h) rfl (one_cell _ _ _ _ rfl) (a0x [c]) (by unfold maxLen;omega) (by omega) (by simp;omega) ?_))
    intro co c' w1 hown1 hgrow1 hco1
    have hb1:Below w.heap.size w w1:=below_grown (Hb.out.alloc hbs _) (by simp;omega) hgrow1 (fun k hk=>b0o Hown.out hk)
    have ho1:OwnB w1 w.heap.size co c' (cur++[c]):=by unfold OwnB;rw [←a0y,lL];exact hown1
    have Hb1:=uH hb1
    have Ho1:=uH ho1
    clear hown1 hgrow1 hco1 hb1 ho1 hbm hb7
    go_wp2_with fail
    go_roundw
    case rel=>exact ⟨q / 128,cur++[c],co,c',by simp,by simp,by omega,by simp;omega,Ho1,Hb1,by unfold Hid;rw [List.append_assoc];rw [←Hfull.out,h0a (n:=q) (by omega) hq,←Hc.out];rfl⟩
    case measure=>simp [intOf];omega
   ·obtain ⟨c,hc⟩:∃ c:UInt8,c=UInt8.ofNat q:=⟨_,rfl⟩
    have hcq:(q:Int)=(c.toNat:Int):=by rw [hc];simp;omega
    have Hc:=uH hc
    have Hcq:=uH hcq
    clear hc hcq
    go_wp2_with (at_builtin;go_must (refine a0h _ rfl (.tmp 22) (.tmp 25) 47 rfl w.heap.size 5 i0 (aI .u8 0) 1 1 Tryz.underlying47 hi hz0 hz1 hz2 rfl (by decide) ao cur.length cap (bytV cur) rfl (Hown.out.alloc _) (some ⟨wr.heap.size,0,none⟩) 1 1 (bytV [c]) rfl (fun h=>by cases h) rfl (one_cell _ _ _ _ Hcq.out) (a0x [c]) (by unfold maxLen;omega) (by omega) (by simp;omega) ?_))
    intro co c' w1 hown1 hgrow1 hco1
    have hb1:Below w.heap.size w w1:=below_grown (Hb.out.alloc hbs _) (by simp;omega) hgrow1 (fun k hk=>b0o Hown.out hk)
    have ho1:OwnB w1 w.heap.size co c' (cur++[c]):=by unfold OwnB;rw [←a0y,lL];exact hown1
    have hcc:cur++[c]=encN u:=by rw [←Hfull.out,e0s (n:=q) (by omega),←Hc.out]
    rw [hcc] at ho1
    have hlen:cur.length+1=(encN u).length:=by rw [←hcc];simp
    have Hb1:=uH hb1
    have Ho1:=uH ho1
    have Hlen:=uH hlen
    clear hown1 hgrow1 hco1 hb1 ho1 hcc hlen
    go_wp2_with fail
    go_ret
    exact ⟨co,c',by rw [←Hlen.out];rfl,Ho1.out,Hb1.out⟩
 by_cases hpos:0<v
 ·obtain ⟨n,rfl⟩:∃ n:Nat,v=n:=⟨v.toNat,by omega⟩
  have hue:u=n:=by rw [hu];unfold a0l;omega
  have Hue:=uH hue
  have hwr:IntKind.u64.wrap (n:Int)=n:=by rw [IntKind.wrap_u64];omega
  clear hu hue hul
  go_enter Tryz.func88,Tryz.ntmps88
  go_wp2_with fail
  go_loopw [3,4] (fun s3 s4 wr=>∃ (q:Nat) (cur:List UInt8) (ao:Option Addr) (cap:Nat),s3=.int .u64 q∧s4=.slice ao cur.length cap∧q≤4611686018427387904∧cur.length≤10∧Hid (OwnB wr w.heap.size ao cap cur)∧Hid (Below w.heap.size w wr)∧Hid (cur++encN q=encN u)) (fun s3 _ _=>(intOf s3).toNat)
  case atStart=>exact ⟨u,[],none,0,by rw [Hue.out]<;>rfl,rfl,Hul.out,by simp,⟨rfl,.inl ⟨rfl,rfl⟩⟩,Below.refl _ _,rfl⟩
  case round =>
   clear Hue
   obtain ⟨q,cur,ao,cap,rfl,rfl,hq,hcl,Hown,Hb,Hfull⟩:=hrel
   have hbs:=Hb.out.size
   have hfl:=congrArg List.length Hfull.out
   rw [lL] at hfl
   have hel:=a0o u
   by_cases h128:(128:Int)≤q
   ·have hb7:=f0k q hq
    have hbm:=j0h q
    obtain ⟨c,hc⟩:∃ c:UInt8,c=UInt8.ofNat (q % 128+128):=⟨_,rfl⟩
    rw [←hc] at hbm
    have Hc:=uH hc
    clear hc
    have hcl2:cur.length+1≤10:=by
     have h1:=(a0o q).2
     omega
    go_wp2_with (at_builtin;go_must (refine a0h _ rfl (.tmp 13) (.tmp 18) 47 rfl w.heap.size 5 i0 (aI .u8 0) 1 1 Tryz.underlying47 hi hz0 hz1 hz2 rfl (by decide) ao cur.length cap (bytV cur) rfl (Hown.out.alloc _) (some ⟨wr.heap.size,0,none⟩) 1 1 (bytV [c]) rfl (fun h=>by cases h) rfl (one_cell _ _ _ _ rfl) (a0x [c]) (by unfold maxLen;omega) (by omega) (by simp;omega) ?_))
    intro co c' w1 hown1 hgrow1 hco1
    have hb1:Below w.heap.size w w1:=below_grown (Hb.out.alloc hbs _) (by simp;omega) hgrow1 (fun k hk=>b0o Hown.out hk)
    have ho1:OwnB w1 w.heap.size co c' (cur++[c]):=by unfold OwnB;rw [←a0y,lL];exact hown1
    have Hb1:=uH hb1
    have Ho1:=uH ho1
    clear hown1 hgrow1 hco1 hb1 ho1 hbm hb7
    go_wp2_with fail
    go_roundw
    case rel=>exact ⟨q / 128,cur++[c],co,c',by simp,by simp,by omega,by simp;omega,Ho1,Hb1,by unfold Hid;rw [List.append_assoc];rw [←Hfull.out,h0a (n:=q) (by omega) hq,←Hc.out];rfl⟩
    case measure=>simp [intOf];omega
   ·obtain ⟨c,hc⟩:∃ c:UInt8,c=UInt8.ofNat q:=⟨_,rfl⟩
    have hcq:(q:Int)=(c.toNat:Int):=by rw [hc];simp;omega
    have Hc:=uH hc
    have Hcq:=uH hcq
    clear hc hcq
    go_wp2_with (at_builtin;go_must (refine a0h _ rfl (.tmp 22) (.tmp 25) 47 rfl w.heap.size 5 i0 (aI .u8 0) 1 1 Tryz.underlying47 hi hz0 hz1 hz2 rfl (by decide) ao cur.length cap (bytV cur) rfl (Hown.out.alloc _) (some ⟨wr.heap.size,0,none⟩) 1 1 (bytV [c]) rfl (fun h=>by cases h) rfl (one_cell _ _ _ _ Hcq.out) (a0x [c]) (by unfold maxLen;omega) (by omega) (by simp;omega) ?_))
    intro co c' w1 hown1 hgrow1 hco1
    have hb1:Below w.heap.size w w1:=below_grown (Hb.out.alloc hbs _) (by simp;omega) hgrow1 (fun k hk=>b0o Hown.out hk)
    have ho1:OwnB w1 w.heap.size co c' (cur++[c]):=by unfold OwnB;rw [←a0y,lL];exact hown1
    have hcc:cur++[c]=encN u:=by rw [←Hfull.out,e0s (n:=q) (by omega),←Hc.out]
    rw [hcc] at ho1
    have hlen:cur.length+1=(encN u).length:=by rw [←hcc];simp
    have Hb1:=uH hb1
    have Ho1:=uH ho1
    have Hlen:=uH hlen
    clear hown1 hgrow1 hco1 hb1 ho1 hcc hlen
    go_wp2_with fail
    go_ret
    exact ⟨co,c',by rw [←Hlen.out];rfl,Ho1.out,Hb1.out⟩
 ·have hue:u=0:=by rw [hu];unfold a0l;omega
  have Hue:=uH hue
  clear hu hue hul
  go_enter Tryz.func88,Tryz.ntmps88
  go_wp2_with fail
  go_loopw [3,4] (fun s3 s4 wr=>∃ (q:Nat) (cur:List UInt8) (ao:Option Addr) (cap:Nat),s3=.int .u64 q∧s4=.slice ao cur.length cap∧q≤4611686018427387904∧cur.length≤10∧Hid (OwnB wr w.heap.size ao cap cur)∧Hid (Below w.heap.size w wr)∧Hid (cur++encN q=encN u)) (fun s3 _ _=>(intOf s3).toNat)
  case atStart=>exact ⟨u,[],none,0,by rw [Hue.out]<;>rfl,rfl,Hul.out,by simp,⟨rfl,.inl ⟨rfl,rfl⟩⟩,Below.refl _ _,rfl⟩
  case round =>
   clear Hue
   obtain ⟨q,cur,ao,cap,rfl,rfl,hq,hcl,Hown,Hb,Hfull⟩:=hrel
   have hbs:=Hb.out.size
   have hfl:=congrArg List.length Hfull.out
   rw [lL] at hfl
   have hel:=a0o u
   by_cases h128:(128:Int)≤q
   ·have hb7:=f0k q hq
    have hbm:=j0h q
    obtain ⟨c,hc⟩:∃ c:UInt8,c=UInt8.ofNat (q % 128+128):=⟨_,rfl⟩
    rw [←hc] at hbm
    have Hc:=uH hc
    clear hc
    have hcl2:cur.length+1≤10:=by
     have h1:=(a0o q).2
     omega
    go_wp2_with (at_builtin;go_must (refine a0h _ rfl (.tmp 13) (.tmp 18) 47 rfl w.heap.size 5 i0 (aI .u8 0) 1 1 Tryz.underlying47 hi hz0 hz1 hz2 rfl (by decide) ao cur.length cap (bytV cur) rfl (Hown.out.alloc _) (some ⟨wr.heap.size,0,none⟩) 1 1 (bytV [c]) rfl (fun h=>by cases h) rfl (one_cell _ _ _ _ rfl) (a0x [c]) (by unfold maxLen;omega) (by omega) (by simp;omega) ?_))
    intro co c' w1 hown1 hgrow1 hco1
    have hb1:Below w.heap.size w w1:=below_grown (Hb.out.alloc hbs _) (by simp;omega) hgrow1 (fun k hk=>b0o Hown.out hk)
    have ho1:OwnB w1 w.heap.size co c' (cur++[c]):=by unfold OwnB;rw [←a0y,lL];exact hown1
    have Hb1:=uH hb1
    have Ho1:=uH ho1
    clear hown1 hgrow1 hco1 hb1 ho1 hbm hb7
    go_wp2_with fail
    go_roundw
    case rel=>exact ⟨q / 128,cur++[c],co,c',by simp,by simp,by omega,by simp;omega,Ho1,Hb1,by unfold Hid;rw [List.append_assoc];rw [←Hfull.out,h0a (n:=q) (by omega) hq,←Hc.out];rfl⟩
    case measure=>simp [intOf];omega
   ·obtain ⟨c,hc⟩:∃ c:UInt8,c=UInt8.ofNat q:=⟨_,rfl⟩
    have hcq:(q:Int)=(c.toNat:Int):=by rw [hc];simp;omega
    have Hc:=uH hc
    have Hcq:=uH hcq
    clear hc hcq
    go_wp2_with (at_builtin;go_must (refine a0h _ rfl (.tmp 22) (.tmp 25) 47 rfl w.heap.size 5 i0 (aI .u8 0) 1 1 Tryz.underlying47 hi hz0 hz1 hz2 rfl (by decide) ao cur.length cap (bytV cur) rfl (Hown.out.alloc _) (some ⟨wr.heap.size,0,none⟩) 1 1 (bytV [c]) rfl (fun h=>by cases h) rfl (one_cell _ _ _ _ Hcq.out) (a0x [c]) (by unfold maxLen;omega) (by omega) (by simp;omega) ?_))
    intro co c' w1 hown1 hgrow1 hco1
    have hb1:Below w.heap.size w w1:=below_grown (Hb.out.alloc hbs _) (by simp;omega) hgrow1 (fun k hk=>b0o Hown.out hk)
    have ho1:OwnB w1 w.heap.size co c' (cur++[c]):=by unfold OwnB;rw [←a0y,lL];exact hown1
    have hcc:cur++[c]=encN u:=by rw [←Hfull.out,e0s (n:=q) (by omega),←Hc.out]
    rw [hcc] at ho1
    have hlen:cur.length+1=(encN u).length:=by rw [←hcc];simp
    have Hb1:=uH hb1
    have Ho1:=uH ho1
    have Hlen:=uH hlen
    clear hown1 hgrow1 hco1 hb1 ho1 hcc hlen
    go_wp2_with fail
    go_ret
    exact ⟨co,c',by rw [←Hlen.out];rfl,Ho1.out,Hb1.out⟩
set_option maxHeartbeats 2000000 in
theorem k0s (ao:Option Addr) (cv:Nat) (vs:List Int) (w:World) (hrow:0<vs.length→∃ b off,ao=some ⟨b,off,none⟩∧b<w.heap.size∧IRow w b off vs) (hm:vs.length≤1000000) :
 Calls Tryz.prog 54 #[.slice ao vs.length cv] w (d0b w (encs vs)):=by
 obtain ⟨i0,hi,hz0,hz1,hz2⟩:=info_parts c0h
 have Hrow:=uH hrow
 clear hrow
 go_enter Tryz.func54,Tryz.ntmps54
 go_wp2_with fail
 go_loopw [4,3] (fun s4 s3 wr=>∃ (k:Nat) (ao:Option Addr) (cap:Nat),s4=aI aK k∧s3=.slice ao (encs (vs.take k)).length cap∧k≤vs.length∧Hid (OwnB wr w.heap.size ao cap (encs (vs.take k)))∧Hid (Below w.heap.size w wr)) (fun s4 _ _=>vs.length - (intOf s4).toNat)
 case atStart=>exact ⟨0,none,0,rfl,rfl,by omega,⟨rfl,.inl ⟨rfl,rfl⟩⟩,Below.refl _ _⟩
 case round =>
  obtain ⟨k,bo,cap,rfl,rfl,hk,Hown,Hb⟩:=hrel
  have hbs:=Hb.out.size
  by_cases hlt:(k:Int)<vs.length
  ·obtain ⟨b,off,rfl,hb,hr⟩:=Hrow.out (by omega)
   obtain ⟨v,hv⟩:∃ v,v=vs[k]'(by omega):=⟨_,rfl⟩
   have hcv:=(Hb.out.cell (p:=⟨b,off+k,none⟩) hb).trans (hr k (by omega))
   rw [←hv] at hcv
   have Hv:=uH hv
   clear hv hr
   have hl:=a0m (vs.take k)
   have hl2:(vs.take k).length≤k:=List.length_take_le _ _
   go_wp2_with fail
   refine (g0w v wr).mono ?_
   rintro e w1 ⟨co,cc,rfl,ho1,hb1⟩
   have hcl:=(a0o (a0l v)).1
   have hb1':=Hb.out.trans (hb1.mono hbs)
   have hs1:=hb1'.size
   have hown1:OwnB w1 w.heap.size bo cap (encs (vs.take k)):=by
    refine ⟨Hown.out.1,?_⟩
    rcases Hown.out.2 with h2 | ⟨g,c,cur,hv,hg,hh,r⟩
    ·exact .inl h2
    ·exact .inr ⟨g,c,cur,hv,hg,(hb1.block g (Array.getElem?_eq_some_iff.1 hh).1).trans hh,r⟩
   have Hown1:=uH hown1
   have Ho1:=uH ho1
   have Hb1:=uH hb1'
   clear hown1 ho1 hb1 hb1' Hown Hb
   go_wp2_with (at_builtin;go_must (refine a0h _ rfl (.tmp 11) (.tmp 16) 47 rfl w.heap.size 5 i0 (aI .u8 0) 1 1 Tryz.underlying47 hi hz0 hz1 hz2 rfl (by decide) bo (encs (vs.take k)).length cap (bytV (encs (vs.take k))) rfl Hown1.out co (encN (a0l v)).length cc (bytV (encN (a0l v))) rfl Ho1.out.none (by rw [a0u,Nat.mul_one]) Ho1.out.at.cells (a0x _) (by unfold maxLen;omega) (by omega) hs1 ?_))
   intro xo c' w2 hown2 hgrow2 hco2
   have hb2:Below w.heap.size w w2:=below_grown Hb1.out hs1 hgrow2 (fun j hj=>b0o Hown1.out hj)
   have hen:encs (vs.take k)++encN (a0l v)=encs (vs.take (k+1)):=by rw [p0l vs k (by omega),Hv.out]
   have ho2:OwnB w2 w.heap.size xo c' (encs (vs.take (k+1))):=by unfold OwnB;rw [←hen,←a0y,lL];exact hown2
   have hle2:(encs (vs.take k)).length+(encN (a0l v)).length=(encs (vs.take (k+1))).length:=by rw [←hen,lL]
   have Hb2:=uH hb2
   have Ho2:=uH ho2
   have Hle2:=uH hle2
   clear hown2 hgrow2 hco2 hb2 ho2 hen hle2
   go_wp2_with fail
   go_roundw
   case rel=>exact ⟨k+1,xo,c',by go_num,by rw [←Hle2.out],by omega,Ho2,Hb2⟩
   case measure=>simp [intOf];omega
  ·go_wp2_with fail
   go_ret
   have ht:vs.take k=vs:=List.take_of_length_le (by omega)
   have ho:=Hown.out
   rw [ht] at ho
   exact ⟨bo,cap,by show Ending.returned (.slice bo (encs (vs.take k)).length cap)=_;rw [ht],ho,Hb.out⟩
set_option maxHeartbeats 2000000 in
theorem d0l (ao:Option Addr) (cap:Nat) (l:List UInt8) (w:World) (h0:ao=none→l.length=0∧cap=0) (ha:BAt w ao l) (hm:l.length≤1000000) :
 Calls Tryz.prog 55 #[.slice ao l.length cap] w (d0b w (a0n l)):=by
 obtain ⟨i0,hi,hz0,hz1,hz2⟩:=info_parts c0h
 have H0:=uH h0
 have Ha:=uH ha
 clear h0 ha
 have hcl:a0l (l.length:Int)=l.length:=by unfold a0l;omega
 have hel:=(a0o l.length).1
 go_enter Tryz.func55,Tryz.ntmps55
 go_wp2_with fail
 refine (g0w (l.length:Int) w).mono ?_
 rw [hcl]
 clear hcl
 rintro e w1 ⟨co,cc,rfl,ho1,hb1⟩
 have hs1:=hb1.size
 have Ho1:=uH ho1
 have Hb1:=uH hb1
 clear ho1 hb1
 go_wp2_with (at_builtin;go_must (refine a0h _ rfl (.tmp 5) (.tmp 6) 47 rfl w.heap.size 5 i0 (aI .u8 0) 1 1 Tryz.underlying47 hi hz0 hz1 hz2 rfl (by decide) co (encN l.length).length cc (bytV (encN l.length)) rfl Ho1.out ao l.length cap (bytV l) rfl H0.out (by rw [a0u,Nat.mul_one]) (Ha.out.below Hb1.out).cells (a0x _) (by unfold maxLen;omega) (by omega) hs1 ?_))
 intro xo c' w2 hown2 hgrow2 hco2
 have hb2:Below w.heap.size w w2:=below_grown Hb1.out hs1 hgrow2 (fun j hj=>b0o Ho1.out hj)
 have ho2:OwnB w2 w.heap.size xo c' (a0n l):=by unfold OwnB a0n;rw [←a0y,lL];exact hown2
 have hle2:(encN l.length).length+l.length=(a0n l).length:=by unfold a0n;rw [lL]
 have Hb2:=uH hb2
 have Ho2:=uH ho2
 have Hle2:=uH hle2
 clear hown2 hgrow2 hco2 hb2 ho2 hle2
 go_wp2_with fail
 go_ret
 exact ⟨xo,c',by rw [←Hle2.out];rfl,Ho2.out,Hb2.out⟩
open Go.RowKit
set_option maxRecDepth 20000
def encS (s:ByteArray):List UInt8:=a0n s.data.toList
theorem b0y (w:World) (s:ByteArray):(convert 9 47 (.string s)).run Tryz.prog w=.ok (.slice (some ⟨w.heap.size,0,none⟩) s.size (grownCap w s.size 0 5)) (Lib.bytesWorld w 5 s) :=
 Lib.run_convert_string_bytes w 9 47 5 s Tryz.underlying9 Tryz.underlying47 Tryz.underlying5
theorem bytesWorld_below (w:World) (s:ByteArray):Below w.heap.size w (Lib.bytesWorld w 5 s) :=
 ⟨rfl,rfl,rfl,by rw [Lib.bytesWorld_size];omega,fun k hk=>Lib.bytesWorld_at_old w _ s k hk⟩
theorem b0k (w:World) (s:ByteArray):BAt (Lib.bytesWorld w 5 s) (some ⟨w.heap.size,0,none⟩) s.data.toList:=fun _=>by
 refine ⟨w.heap.size,0,rfl,by rw [Lib.bytesWorld_size];omega,fun i hi=>?_⟩
 have hs:i<s.size:=by simpa using hi
 rw [Nat.zero_add,Lib.bytesWorld_cell w _ s i hs]
 simp [List.getD,List.getElem?_eq_getElem hi]
@[go_sem] theorem a0g (w:World) (s:ByteArray):(Lib.bytesWorld w 5 s).heap.size=w.heap.size+1:=Lib.bytesWorld_size w _ s
@[go_sem] theorem bytesWorld_old (w:World) (s:ByteArray) (b o:Nat) (h:b<w.heap.size):(Lib.bytesWorld w 5 s).cell? ⟨b,o,none⟩=w.cell? ⟨b,o,none⟩:=(bytesWorld_below w s).cell (p:=⟨b,o,none⟩) h
theorem e0l {s:ByteArray} (h:s.toList=[]):s.size=0:=by
 rw [ByteArray.toList_eq] at h
 have h2:=congrArg List.length h
 rw [Array.length_toList] at h2
 exact h2
theorem e0t {w w':World} (s:ByteArray) (hs:s.size≤1000000) (p:Nat) (o:Option Nat) (g:Nat) (hg:g=w.heap.size) (hp:p<w.heap.size) (ho:∀ x,o=some x→x<w.heap.size) (hb:Below (Lib.bytesWorld w 5 s).heap.size (Lib.bytesWorld w 5 s) w') :
 s.data.toList.length≤grownCap w s.size 0 5∧grownCap w s.size 0 5≤9223372036854775807∧(some (⟨g,0,none⟩:Addr)=none→s.data.toList.length=0∧grownCap w s.size 0 5=0)∧BAt w' (some ⟨g,0,none⟩) s.data.toList∧∀ a,some (⟨g,0,none⟩:Addr)=some a→¬Foot p o a.block:=by
 subst hg
 have h1:s.data.toList.length=s.size:=by rw [Array.length_toList];rfl
 have h2:=grownCap_le_maxLen w s.size 0 5 (by unfold maxLen;omega)
 unfold maxLen at h2
 refine ⟨by rw [h1];exact grownCap_ge w s.size 0 _,by omega,(fun h=>by cases h),(b0k w s).below hb,fun a ha=>?_⟩
 cases ha
 rintro (e | e)
 ·simp only at e;omega
 ·have:=ho _ e;simp only at this;omega
theorem g0c (w:World) (s:ByteArray) (n:Nat) (hn:n=w.heap.size):BAt (Lib.bytesWorld w 5 s) (some ⟨n,0,none⟩) s.data.toList:=by subst hn;exact b0k w s
theorem c0l (s:ByteArray) (g cap:Nat) (w:World) (ha:BAt w (some ⟨g,0,none⟩) s.data.toList) (hm:s.data.toList.length≤1000000) :
 Calls Tryz.prog 55 #[.slice (some ⟨g,0,none⟩) s.size cap] w (d0b w (encS s)) :=
 d0l (some ⟨g,0,none⟩) cap s.data.toList w (fun h=>(nomatch h)) ha hm
theorem a0t (s:ByteArray):(encS s).length≤s.size+10:=by
 have:=(a0o s.data.toList.length).1
 simp only [encS,a0n,lL,Array.length_toList,ByteArray.size] at this ⊢
 omega
theorem St.text1 {W w:World} {L:List Th} {p:Nat} {l:List UInt8} {o:Option Nat} (h:St W w (thWr p W.heap.size l o::L)) (s:ByteArray) (hs:s.size≤1000000) (n:Nat) (hn:n=w.heap.size+1) (m:Nat) (hmn:m=w.heap.size) (hm:l.length+s.size+40≤140737488351232) :
 Calls Tryz.prog 71 #[.pointer (some ⟨p,0,none⟩),.slice (some ⟨n,0,none⟩) 1 1] ((Lib.bytesWorld w 5 s).alloc (.cells #[.slice (some ⟨m,0,none⟩) s.size (grownCap w s.size 0 5)] 47)) fun e w'=>e=.returned (.tuple #[])∧∃ o',St W w' (thWr p W.heap.size (l++encS s) o'::L):=by
 subst hmn
 have hwr:WrAt w p W.heap.size l o:=h.head
 have hp2:=hwr.lt
 have ho2:∀ x,o=some x→x<w.heap.size:=fun x hx=>(hwr.d0a x hx).1
 have z1:=a0g w s
 have S4:=h.grow (bytesWorld_below w s)
 refine (S4.rows [⟨some ⟨w.heap.size,0,none⟩,grownCap w s.size 0 5,s.data.toList⟩] n 1 (by omega) rfl _ rfl (fun r hr=>?_) ?_).mono ?_
 ·obtain rfl:=List.mem_singleton.1 hr
  exact e0t s hs _ _ _ rfl hp2 ho2 (Below.refl _ _)
 ·simp only [c0g,List.flatMap_cons,List.flatMap_nil,List.length_cons,List.length_nil,List.append_nil,Array.length_toList]
  simp only [ByteArray.size] at hm
  omega
 ·rintro e w' ⟨rfl,o',hS⟩
  refine ⟨rfl,o',?_⟩
  simp only [c0p,List.flatMap_cons,List.flatMap_nil,List.append_nil] at hS
  exact hS
theorem St.text2 {W w:World} {L:List Th} {p:Nat} {l:List UInt8} {o:Option Nat} (h:St W w (thWr p W.heap.size l o::L)) (s t:ByteArray) (hs:s.size≤1000000) (ht:t.size≤1000000) (n:Nat) (hn:n=w.heap.size+1+1) (m m2:Nat) (hmn:m=w.heap.size) (hmn2:m2=w.heap.size+1) (hm:l.length+s.size+t.size+40≤140737488351232) :
 Calls Tryz.prog 71 #[.pointer (some ⟨p,0,none⟩),.slice (some ⟨n,0,none⟩) 2 2] ((Lib.bytesWorld (Lib.bytesWorld w 5 s) 5 t).alloc (.cells #[.slice (some ⟨m,0,none⟩) s.size (grownCap w s.size 0 5),.slice (some ⟨m2,0,none⟩) t.size (grownCap (Lib.bytesWorld w 5 s) t.size 0 5)] 47)) fun e w'=>e=.returned (.tuple #[])∧∃ o',St W w' (thWr p W.heap.size (l++(encS s++encS t)) o'::L):=by
 subst hmn hmn2
 have hwr:WrAt w p W.heap.size l o:=h.head
 have hp2:=hwr.lt
 have ho2:∀ x,o=some x→x<w.heap.size:=fun x hx=>(hwr.d0a x hx).1
 have z1:=a0g w s
 have z2:=a0g (Lib.bytesWorld w 5 s) t
 have b2:=bytesWorld_below (Lib.bytesWorld w 5 s) t
 have S4:=h.grow ((bytesWorld_below w s).trans (b2.mono (by omega)))
 refine (S4.rows [⟨some ⟨w.heap.size,0,none⟩,grownCap w s.size 0 5,s.data.toList⟩,⟨some ⟨w.heap.size+1,0,none⟩,grownCap (Lib.bytesWorld w 5 s) t.size 0 5,t.data.toList⟩] n 2 (by omega) rfl _ rfl (fun r hr=>?_) ?_).mono ?_
 ·simp only [List.mem_cons,List.not_mem_nil,or_false] at hr
  rcases hr with rfl | rfl
  ·exact e0t s hs _ _ _ rfl hp2 ho2 b2
  ·exact e0t t ht _ _ _ (by omega) (by omega) (fun x hx=>by have:=ho2 x hx;omega) (Below.refl _ _)
 ·simp only [c0g,List.flatMap_cons,List.flatMap_nil,lL,List.length_cons,List.length_nil,List.append_nil,Array.length_toList]
  simp only [ByteArray.size] at hm
  omega
 ·rintro e w' ⟨rfl,o',hS⟩
  refine ⟨rfl,o',?_⟩
  simp only [c0p,List.flatMap_cons,List.flatMap_nil,List.append_nil] at hS
  exact hS
open Go.RowKit
def b1 (b:Bool):Int:=if b then 1 else 0
def encO (o:Rq):List UInt8:=encs [o.kind,o.client,o.seq]++(encS o.key++encS o.who++encS o.tkey++encS o.twho)++encs [o.item,o.count,o.price,b1 o.buy,o.id]
theorem may_kind {o:Rq} (h:mayO o=true):b0v o.key o.who=true∧c0d o=true∧1≤o.client∧o.client≤1048576∧1≤o.seq∧o.seq≤1099511627776:=by
 simp only [mayO,Bool.and_eq_true,decide_eq_true_eq] at h
 obtain ⟨⟨h1,h2⟩,h3⟩:=h
 exact ⟨h2,h3,h1⟩
theorem u0d {o:Rq} (h:c0d o=true):((o.kind=1∨o.kind=6)∧cntO o=true)∨(o.kind=2∧o0h o=true)∨(o.kind=3∧ordO o=true)∨(o.kind=4∧canO o=true)∨((o.kind=5∨o.kind=7)∧barO o=true):=by
 unfold c0d at h
 split at h
 ·exact .inl ⟨by assumption,h⟩
 ·split at h
  ·exact .inr (.inl ⟨by assumption,h⟩)
  ·split at h
   ·exact .inr (.inr (.inl ⟨by assumption,h⟩))
   ·split at h
    ·exact .inr (.inr (.inr (.inl ⟨by assumption,h⟩)))
    ·split at h
     ·exact .inr (.inr (.inr (.inr ⟨by assumption,h⟩)))
     ·cases h
theorem g0i {o:Rq} (h:mayO o=true):o.key.size≤16∧o.who.size≤16∧o.tkey.size≤16∧o.twho.size≤16:=by
 obtain ⟨hp,hk,-⟩:=may_kind h
 simp only [b0v,decide_eq_true_eq] at hp
 refine ⟨hp.2.1,hp.2.2.2,?_⟩
 rcases u0d hk with ⟨-,h⟩ | ⟨-,h⟩ | ⟨-,h⟩ | ⟨-,h⟩ | ⟨-,h⟩
 ·simp only [cntO,decide_eq_true_eq] at h
  rw [e0l h.2.2.2.2.1,e0l h.2.2.2.2.2.1];omega
 ·simp only [o0h,b0v,Bool.and_eq_true,decide_eq_true_eq] at h
  omega
 ·simp only [ordO,cntO,Bool.and_eq_true,decide_eq_true_eq] at h
  rw [e0l h.2.2.2.2.2.1,e0l h.2.2.2.2.2.2.1];omega
 ·simp only [canO,decide_eq_true_eq] at h
  rw [e0l h.2.2.1,e0l h.2.2.2.1];omega
 ·simp only [barO,decide_eq_true_eq] at h
  rw [e0l h.1,e0l h.2.1];omega
end Go.Proofs.YtogamdaomdoapaaGreat