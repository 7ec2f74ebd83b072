/- Texts put together: WEn, WGn, WSa, WAj. -/
import Derived.Test.YtogamdaomdoapaaGreatGa02
import Derived.Test.YtogamdaomdoapaaGreatGa04
import Derived.Test.YtogamdaomdoapaaGreatGa05
import Derived.Test.YtogamdaomdoapaaGreatGa17
import Derived.Test.YtogamdaomdoapaaGreatGa18
import Derived.Test.YtogamdaomdoapaaGreatGa25
import Derived.Laws.CopyOwn
namespace Go.Proofs.YtogamdaomdoapaaGreat
open Go.Value renaming int→aI,string→aS
open Go.IntKind renaming i64→aK
open List renaming length_append→lL
open Bool renaming eq_false_or_eq_true→bE
open Go.Lib renaming hid→uH
set_option maxRecDepth 20000
open Go.RowKit
def t0i (w:World) (d:Wd) (e:Ending) (w':World):Prop:=Below w.heap.size w w' ∧
 if mayW d=true then ∃ ao cap,e=.returned (.tuple #[.slice ao (encW d).length cap,aI aK 0])∧OwnC w' w.heap.size ao cap (encW d) else e=.returned (.tuple #[.slice none 0 0,aI aK 1])
theorem St.rowE {W w:World} {L:List Th} {p:Nat} {l:List UInt8} {o:Option Nat} (h:St W w (thWr p W.heap.size l o::L)) (ao:Option Addr) (cap:Nat) (r:List UInt8) (n:Nat) (hn:n=w.heap.size) (hr:F.Sl w ao cap r) (hf:0<r.length→∀ a,ao=some a→¬Foot p o a.block) (hm:l.length+r.length+30≤140737488351232) :
 Calls Tryz.prog 71 #[.pointer (some ⟨p,0,none⟩),.slice (some ⟨n,0,none⟩) 1 1] (w.alloc (.cells #[.slice ao r.length cap] 47)) fun e w'=>e=.returned (.tuple #[])∧∃ o',St W w' (thWr p W.heap.size (l++a0n r) o'::L):=by
 subst hn
 have hw:WrAt w p W.heap.size l o:=h.head
 have hb:=h.b.size
 have hg:St W (w.alloc (.cells #[.slice ao r.length cap] 47)) (thWr p W.heap.size l o::L):=h.grow (a0p _ _)
 have hnp:¬Foot p o w.heap.size:=by
  rintro (e | e)
  ·have:=hw.lt;omega
  ·have:=(hw.d0a _ e).1;omega
 have hrs:=rs_lit (b0r w (.cells #[.slice ao r.length cap] 47)) [⟨ao,cap,r⟩] rfl (fun x=>x<(w.alloc (.cells #[.slice ao r.length cap] 47)).heap.size∧¬Foot p o x) ⟨by simp,hnp⟩ (fun q hq=>by
  obtain rfl:=List.mem_singleton.1 hq
  refine ⟨hr.le,hr.cm,hr.n0,fun hp=>?_⟩
  obtain ⟨b,off,e,hlt,hrow⟩:=hr.at_ hp
  exact ⟨b,off,e,by simp;omega,⟨by simp;omega,hf hp _ e⟩,hrow.below hlt (a0p _ _)⟩)
 refine (l0v p W.heap.size l o _ 1 [⟨ao,cap,r⟩] _ _ hg.head hrs (fun hx=>hx.2 (.inl rfl)) (fun g hgo hx=>hx.2 (.inr hgo)) (fun x hx=>hx.1) (by simp;omega) (by simp [c0g];omega)).mono ?_
 rintro e w' ⟨rfl,hi⟩
 refine ⟨rfl,?_⟩
 have:=hg.wrote hi
 simp only [c0p,List.flatMap_cons,List.flatMap_nil,List.append_nil] at this
 exact this
theorem t0k {d:Wd} (h:mayW d=true) (hl:Light d):(wdB d).length≤140000:=by
 have h1:=f0e d
 have h2:=h0s d
 have h3:=g0h h hl
 have h4:=a0t d.sf
 have h5:=a0t d.st
 have h6:=(a0o (f0h d).length).1
 have h7:=hl.sf
 have h8:=hl.st
 unfold wdB a0n
 simp only [lL]
 omega
theorem g0n {w:World} {ao:Option Addr} {cap:Nat} {l:List UInt8} (h:F.Sl w ao cap l) (hm:l.length≤1048576) (n:Nat) (hn:n=w.heap.size) :
 Calls Tryz.prog 77 #[.slice (some ⟨n,0,none⟩) 1 1] (w.alloc (.cells #[.slice ao l.length cap] 47)) fun e w'=>∃ fo fc,e=.returned (.tuple #[.slice fo (F.d0w l).length fc,aI aK 0])∧OwnC w' w.heap.size fo fc (F.d0w l)∧Below w.heap.size w w':=by
 have:=F.u0m (some ⟨n,0,none⟩) 1 [⟨ao,cap,l⟩] (fun _=>True) _ (F.rs_one h 47 n hn) (by simp) (by simp) (by rw [F.l0g];exact hm)
 rw [F.l0g] at this
 refine this.mono ?_
 rintro e w' ⟨fo,fc,rfl,ho,hb⟩
 exact ⟨fo,fc,rfl,F.d0t ho (by simp),(F.b0s _ _).trans (hb.mono (by simp))⟩
theorem w0c {d:Wd} {ms ds:Value} {V:Array Value} (hV:V=wdV d ms ds) {dl:Option Addr} {dc N:Nat} (hds:ds=.slice dl d.data.length dc) (w:World) (h:F.Sl w dl dc d.data) (hN:0<d.data.length→∀ a,dl=some a→a.block<N):Calls Tryz.prog 72 #[.agg V] w (h0e N w d.data):=by
 refine (data_v hV w).mono ?_
 rintro e w' ⟨rfl,hb⟩
 rw [hds]
 exact ⟨dl,dc,rfl,h.grow hb,fun hp a ha=>.inr (hN hp a ha),hb⟩
theorem sl_block {w:World} {dl:Option Addr} {dc:Nat} {l:List UInt8} (h:F.Sl w dl dc l):0<l.length→∀ a,dl=some a→a.block<w.heap.size:=by
 intro hp a ha
 obtain ⟨b,off,e,hlt,-⟩:=h.at_ hp
 rw [ha] at e
 obtain rfl:=Option.some.inj e
 exact hlt
theorem l0f {p N n k:Nat} {o:Option Nat} {ro:Option Addr} (hf:∀ x,Foot p o x→x<n∧N≤x) (h:0<k→∀ a,ro=some a→n≤a.block∨a.block<N):0<k→∀ a,ro=some a→¬Foot p o a.block:=fun hp a ha hx=>by
 have h1:=h hp a ha
 have h2:=hf _ hx
 omega
set_option maxHeartbeats 4000000 in
theorem r0q {d:Wd} {ms ds:Value} {V:Array Value} (hV:V=wdV d ms ds) (ao dl:Option Addr) (zc dc:Nat) (hms:ms=.slice ao d.mp.zs.length zc) (hds:ds=.slice dl d.data.length dc) (w:World) (hz:O.ZsAt w ao d.mp.zs) (hsl:F.Sl w dl dc d.data) (hl:Light d):Calls Tryz.prog 46 #[.agg V] w (t0i w d):=by
 have hs:V.size=37:=by rw [hV];rfl
 have HV:=uH hV
 have HZ:=uH hz
 have HL:=uH hl
 have Hsl:=uH hsl
 have Hms:=uH hms
 have Hds:=uH hds
 have Hmy:=uH (fun (w3:World) (hb:Below w.heap.size w w3)=>wmay_any HV.out ao dl zc dc Hms.out Hds.out w3 (HZ.out.grow hb) HL.out.mp (by have:=HL.out.data;omega))
 have hcv:=b0y
 clear hV hz hl hsl hms hds
 cases hm:mayW d with
 | false =>
  have Hm:=uH hm
  clear hm
  go_enter Tryz.func46,Tryz.ntmps46
  refine a0a fun C HC=>?_
  go_wp2_with fail
  refine a0d fun wa hwa=>?_
  obtain ⟨B,hB⟩:∃ B,B=w.heap.size:=⟨_,rfl⟩
  have S:Hid (St w wa [a0c B (.cells V 85 (0,0))]):=by rw [hwa];exact uH ((St.start w).objN _ B hB)
  rw [←hB]
  clear hwa hB
  (have hC:=HC.out);clear HC;subst hC
  refine wp_seq ?_
  refine wp_seq ?_
  refine wp_region_lit ?_
  (refine wpList_load_row rfl 85 _ rfl B rfl _ _ _ _ (S.out.head) Tryz.underlying85 rfl (by rw [hs];kernel_rfl) ?_)
  go_wp2_with fail
  refine (Hmy.out _ S.out.b).mono ?_
  rintro e w1 ⟨rfl,hb1⟩
  rw [Hm.out]
  have w1_b:=(S.out.grow hb1).b
  clear hb1 S
  go_wp2_with fail
  go_ret2
  refine ⟨w1_b,?_⟩
  rw [if_neg (by rw [Hm.out];simp)]
  rfl
 | true =>
  have Hm:=uH hm
  clear hm
  go_enter Tryz.func46,Tryz.ntmps46
  refine a0a fun C HC=>?_
  go_wp2_with fail
  refine a0d fun wa hwa=>?_
  obtain ⟨B,hB⟩:∃ B,B=w.heap.size:=⟨_,rfl⟩
  have S:Hid (St w wa [a0c B (.cells V 85 (0,0))]):=by rw [hwa];exact uH ((St.start w).objN _ B hB)
  rw [←hB]
  clear hwa hB
  (have hC:=HC.out);clear HC;subst hC
  refine a0a fun C HC=>?_
  refine wp_seq ?_
  refine wp_seq ?_
  refine wp_region_lit ?_
  (refine wpList_load_row rfl 85 _ rfl B rfl _ _ _ _ (S.out.head) Tryz.underlying85 rfl (by rw [hs];kernel_rfl) ?_)
  go_wp2_with fail
  refine (Hmy.out _ S.out.b).mono ?_
  rintro e w1 ⟨rfl,hb1⟩
  rw [Hm.out]
  have S:=uH (S.out.grow hb1)
  clear hb1
  go_wp2_with fail
  (have hC:=HC.out);clear HC;subst hC
  refine a0a fun C HC=>?_
  go_wp2_with fail
  (have hC:=HC.out);clear HC;subst hC
  refine a0a fun C HC=>?_
  obtain ⟨c0,c1,c2,c3,c4,c5,c6,c7,c8,c9,c10,c11,c12,c13,c14,c15,c16,c17,c18,c19,c20,c21,c22,c23,c24,c25,c26,c27,c28,c29,c30,c31,c32,c33,c34,c35,c36⟩:=wbox (show w1.heap[B]?=some (.cells (wdV d ms ds) 85 (0,0)) from (by rw [←HV.out];exact S.out.head))
  have sB:=(S.out.a0b 0 rfl).1
  clear c8 c9 c10 c11 c12 c13 c14 c15 c16 c17 c18 c19 c20 c21 c22 c23 c24 c25 c26 c27 c28 c29 c30 c31 c32 c33 c34 c35 c36
  go_wp2_with fail
  have s2:=S.out.t0z w1.heap.size rfl w.heap.size
  refine (s2.nums [d.kind,d.zone,d.epoch,d.index,d.size,d.off,d.host,d.err] (w1.heap.size+1) 8 (by simp) rfl _ rfl (by simp)).mono ?_
  rintro e w2 ⟨rfl,o2,hS⟩
  have S:Hid (St w w2 [thWr w1.heap.size w.heap.size (j0b d) o2,a0c B (.cells V 85 (0,0))]):=uH hS
  clear s2 hS c0 c1 c2 c3 c4 c5 c6 c7 sB
  obtain ⟨p,hp⟩:∃ p,p=w1.heap.size:=⟨_,rfl⟩
  rw [←hp] at S ⊢
  clear hp
  go_wp2_with fail
  (have hC:=HC.out);clear HC;subst hC
  refine a0a fun C HC=>?_
  obtain ⟨c0,c1,c2,c3,c4,c5,c6,c7,c8,c9,c10,c11,c12,c13,c14,c15,c16,c17,c18,c19,c20,c21,c22,c23,c24,c25,c26,c27,c28,c29,c30,c31,c32,c33,c34,c35,c36⟩:=wbox (show w2.heap[B]?=some (.cells (wdV d ms ds) 85 (0,0)) from (by rw [←HV.out];exact (S.out.pull (A:=[_])).head))
  have sB:=(S.out.a0b 1 rfl).1
  clear c0 c1 c2 c3 c4 c5 c6 c7 c10 c11 c12 c13 c14 c15 c16 c17 c18 c19 c20 c21 c22 c23 c24 c25 c26 c27 c28 c29 c30 c31 c32 c33 c34 c35 c36
  have hnl:=f0e d
  have hsf:=HL.out.sf
  have hst:=HL.out.st
  go_wp2_with fail
  refine (St.text2 S.out d.sf d.st (by omega) (by omega) (w2.heap.size+1+1) (by simp) w2.heap.size (w2.heap.size+1) rfl rfl (by omega)).mono ?_
  rintro e w3 ⟨rfl,o3,hS⟩
  have S:=uH hS
  have hl3:(j0b d++(encS d.sf++encS d.st)).length≤4200:=by
   have h1:=a0t d.sf
   have h2:=a0t d.st
   simp only [lL]
   omega
  clear hS c8 c9 sB hnl hsf hst
  go_wp2_with fail
  (have hC:=HC.out);clear HC;subst hC
  refine a0a fun C HC=>?_
  refine wp_seq ?_
  refine wp_region_lit ?_
  (refine wpList_load_row rfl 85 _ rfl B rfl _ _ _ _ ((S.out.pull (A:=[_])).head) Tryz.underlying85 rfl (by rw [hs];kernel_rfl) ?_)
  go_wp2_with fail
  (have hC:=HC.out);clear HC;subst hC
  refine a0a fun CT HCT=>?_
  refine wp_seq ?_
  refine a0a fun C HC=>?_
  obtain ⟨c0,c1,c2,c3,c4,c5,c6,c7,c8,c9,c10,c11,c12,c13,c14,c15,c16,c17,c18,c19,c20,c21,c22,c23,c24,c25,c26,c27,c28,c29,c30,c31,c32,c33,c34,c35,c36⟩:=wbox (show w3.heap[B]?=some (.cells (wdV d ms ds) 85 (0,0)) from (by rw [←HV.out];exact (S.out.pull (A:=[_])).head))
  clear c1 c2 c3 c4 c5 c6 c7 c8 c9 c10 c11 c12 c13 c14 c15 c16 c17 c18 c19 c20 c21 c22 c23 c24 c25 c26 c27 c28 c29 c30 c31 c32 c33 c34 c35 c36
  go_wp2_with fail
  (have hC:=HC.out);clear HC;subst hC
  clear c0
  refine wp_block ?_
  have Hft:Hid (∀ x,Foot p o3 x→x<w3.heap.size∧w.heap.size≤x):=uH (fun x hx=>S.out.t.lts _ (List.mem_cons_self ..) x hx)
  have Hxl:=uH (t0k Hm.out HL.out)
  by_cases k3:d.kind=3
  ·have t3:(d.kind==3)=true:=by rw [k3];rfl
   have e1:wdB d=(j0b d++(encS d.sf++encS d.st))++a0n (O.encM d.mp):=by unfold wdB opsB f0h;simp [k3]
   ((refine a0a fun C HC=>?_);(go_wp2_with fail);(have hC:=HC.out);clear HC;subst hC;(refine wp_cond_true rfl ?_))
   ((refine wp_region_lit ?_);(refine wpList_load_row rfl 85 _ rfl B rfl _ _ _ _ ((S.out.pull (A:=[_])).head) Tryz.underlying85 rfl (by rw [hs];kernel_rfl) ?_);(go_wp2_with fail))
   ((have hC:=HCT.out);clear HCT;subst hC;(go_wp2_with fail);(refine (told_v HV.out w.heap.size ao zc Hms.out w3 (HZ.out.grow S.out.b) HL.out.mp).mono ?_);(rintro e w5 ⟨ro,rc,rfl,hrs,hrf,hb5⟩);(have S5:=uH (S.out.grow hb5));(have Hrs:=uH hrs);(have Hfo:=uH (l0f Hft.out hrf));clear hrs hrf hb5 Hft;(go_wp2_with fail);(refine (St.rowE S5.out ro rc _ w5.heap.size rfl Hrs.out Hfo.out (by have h1:=Hxl.out;rw [e1] at h1;simp only [a0n,lL] at h1 ⊢;omega)).mono ?_);(rintro e w6 ⟨rfl,o6,hS⟩);(rw [←e1] at hS);(have S6:=uH hS);clear hS S5 S Hrs Hfo e1;(go_wp2_with fail);(refine (f0i p w.heap.size (wdB d) o6 w6 S6.out.head (by have:=Hxl.out;omega)).mono ?_);(rintro e w7 ⟨xo,xc,rfl,ho,hb7⟩);(have S7:=uH (S6.out.grow hb7));(have Ho:=uH ho.sl);clear ho hb7 S6;(go_wp2_with fail);(refine (g0n Ho.out (by have:=Hxl.out;omega) w7.heap.size rfl).mono ?_);(rintro e w8 ⟨fo,fc,rfl,hof,hb8⟩);(have Hof:=uH (F.d0t hof S7.out.b.size));(have w8_b:=(S7.out.grow hb8).b);clear hof hb8;(go_wp2_with fail);go_ret2;(refine ⟨w8_b,?_⟩);(rw [if_pos Hm.out]);exact ⟨fo,fc,rfl,Hof.out⟩)
  have t3:(d.kind==3)=false:=by rw [beq_eq_false_iff_ne];exact k3
  ((refine a0a fun C HC=>?_);(go_wp2_with fail);(have hC:=HC.out);clear HC;subst hC;(refine wp_cond_false rfl ?_))
  by_cases k4:d.kind=4
  ·have t4:(d.kind==4)=true:=by rw [k4];rfl
   have e1:wdB d=(j0b d++(encS d.sf++encS d.st))++a0n (O.encC d.ch):=by unfold wdB opsB f0h;simp [k4]
   have Hok:=uH (q0p Hm.out k4)
   ((refine a0a fun C HC=>?_);(go_wp2_with fail);(have hC:=HC.out);clear HC;subst hC;(refine wp_cond_true rfl ?_))
   ((refine wp_region_lit ?_);(refine wpList_load_row rfl 85 _ rfl B rfl _ _ _ _ ((S.out.pull (A:=[_])).head) Tryz.underlying85 rfl (by rw [hs];kernel_rfl) ?_);(go_wp2_with fail))
   ((have hC:=HCT.out);clear HCT;subst hC;(go_wp2_with fail);(refine (asked_v HV.out w.heap.size Hok.out w3).mono ?_);(rintro e w5 ⟨ro,rc,rfl,hrs,hrf,hb5⟩);(have S5:=uH (S.out.grow hb5));(have Hrs:=uH hrs);(have Hfo:=uH (l0f Hft.out hrf));clear hrs hrf hb5 Hft;(go_wp2_with fail);(refine (St.rowE S5.out ro rc _ w5.heap.size rfl Hrs.out Hfo.out (by have h1:=Hxl.out;rw [e1] at h1;simp only [a0n,lL] at h1 ⊢;omega)).mono ?_);(rintro e w6 ⟨rfl,o6,hS⟩);(rw [←e1] at hS);(have S6:=uH hS);clear hS S5 S Hrs Hfo e1;(go_wp2_with fail);(refine (f0i p w.heap.size (wdB d) o6 w6 S6.out.head (by have:=Hxl.out;omega)).mono ?_);(rintro e w7 ⟨xo,xc,rfl,ho,hb7⟩);(have S7:=uH (S6.out.grow hb7));(have Ho:=uH ho.sl);clear ho hb7 S6;(go_wp2_with fail);(refine (g0n Ho.out (by have:=Hxl.out;omega) w7.heap.size rfl).mono ?_);(rintro e w8 ⟨fo,fc,rfl,hof,hb8⟩);(have Hof:=uH (F.d0t hof S7.out.b.size));(have w8_b:=(S7.out.grow hb8).b);clear hof hb8;(go_wp2_with fail);go_ret2;(refine ⟨w8_b,?_⟩);(rw [if_pos Hm.out]);exact ⟨fo,fc,rfl,Hof.out⟩)
  have t4:(d.kind==4)=false:=by rw [beq_eq_false_iff_ne];exact k4
  ((refine a0a fun C HC=>?_);(go_wp2_with fail);(have hC:=HC.out);clear HC;subst hC;(refine wp_cond_false rfl ?_))
  by_cases k5:d.kind=5
  ·have t5:(d.kind==5)=true:=by rw [k5];rfl
   have e1:wdB d=(j0b d++(encS d.sf++encS d.st))++a0n (encO d.op):=by unfold wdB opsB f0h;simp [k5]
   have Hok:=uH (n0i Hm.out k5)
   ((refine a0a fun C HC=>?_);(go_wp2_with fail);(have hC:=HC.out);clear HC;subst hC;(refine wp_cond_true rfl ?_))
   ((refine wp_region_lit ?_);(refine wpList_load_row rfl 85 _ rfl B rfl _ _ _ _ ((S.out.pull (A:=[_])).head) Tryz.underlying85 rfl (by rw [hs];kernel_rfl) ?_);(go_wp2_with fail))
   ((have hC:=HCT.out);clear HCT;subst hC;(go_wp2_with fail);(refine (called_v HV.out w.heap.size Hok.out w3).mono ?_);(rintro e w5 ⟨ro,rc,rfl,hrs,hrf,hb5⟩);(have S5:=uH (S.out.grow hb5));(have Hrs:=uH hrs);(have Hfo:=uH (l0f Hft.out hrf));clear hrs hrf hb5 Hft;(go_wp2_with fail);(refine (St.rowE S5.out ro rc _ w5.heap.size rfl Hrs.out Hfo.out (by have h1:=Hxl.out;rw [e1] at h1;simp only [a0n,lL] at h1 ⊢;omega)).mono ?_);(rintro e w6 ⟨rfl,o6,hS⟩);(rw [←e1] at hS);(have S6:=uH hS);clear hS S5 S Hrs Hfo e1;(go_wp2_with fail);(refine (f0i p w.heap.size (wdB d) o6 w6 S6.out.head (by have:=Hxl.out;omega)).mono ?_);(rintro e w7 ⟨xo,xc,rfl,ho,hb7⟩);(have S7:=uH (S6.out.grow hb7));(have Ho:=uH ho.sl);clear ho hb7 S6;(go_wp2_with fail);(refine (g0n Ho.out (by have:=Hxl.out;omega) w7.heap.size rfl).mono ?_);(rintro e w8 ⟨fo,fc,rfl,hof,hb8⟩);(have Hof:=uH (F.d0t hof S7.out.b.size));(have w8_b:=(S7.out.grow hb8).b);clear hof hb8;(go_wp2_with fail);go_ret2;(refine ⟨w8_b,?_⟩);(rw [if_pos Hm.out]);exact ⟨fo,fc,rfl,Hof.out⟩)
  have t5:(d.kind==5)=false:=by rw [beq_eq_false_iff_ne];exact k5
  ((refine a0a fun C HC=>?_);(go_wp2_with fail);(have hC:=HC.out);clear HC;subst hC;(refine wp_cond_false rfl ?_))
  by_cases k6:d.kind=6
  ·have t6:(d.kind==6)=true:=by rw [k6];rfl
   have e1:wdB d=((j0b d++(encS d.sf++encS d.st))++encs [d.op.kind,d.op.client,d.op.seq])++a0n (encP d.rep):=by unfold wdB opsB f0h;simp [k6]
   have Hok:=uH (s0v Hm.out k6)
   ((refine a0a fun C HC=>?_);(go_wp2_with fail);(have hC:=HC.out);clear HC;subst hC;(refine wp_cond_true rfl ?_))
   refine a0a fun C HC=>?_
   obtain ⟨c0,c1,c2,c3,c4,c5,c6,c7,c8,c9,c10,c11,c12,c13,c14,c15,c16,c17,c18,c19,c20,c21,c22,c23,c24,c25,c26,c27,c28,c29,c30,c31,c32,c33,c34,c35,c36⟩:=wbox (show w3.heap[B]?=some (.cells (wdV d ms ds) 85 (0,0)) from (by rw [←HV.out];exact (S.out.pull (A:=[_])).head))
   have sB:=(S.out.a0b 1 rfl).1
   clear c0 c1 c2 c3 c4 c5 c6 c7 c8 c9 c13 c14 c15 c16 c17 c18 c19 c20 c21 c22 c23 c24 c25 c26 c27 c28 c29 c30 c31 c32 c33 c34 c35 c36 Hft
   go_wp2_with fail
   refine (S.out.nums [d.op.kind,d.op.client,d.op.seq] w3.heap.size 3 rfl rfl _ rfl (by simp only [List.length_cons,List.length_nil];omega)).mono ?_
   clear c10 c11 c12 sB
   rintro e w4 ⟨rfl,o4,hS⟩
   have S:=uH hS
   have Hft:Hid (∀ x,Foot p o4 x→x<w4.heap.size∧w.heap.size≤x):=uH (fun x hx=>S.out.t.lts _ (List.mem_cons_self ..) x hx)
   clear hS
   go_wp2_with fail
   (have hC:=HC.out);clear HC;subst hC
   ((refine wp_region_lit ?_);(refine wpList_load_row rfl 85 _ rfl B rfl _ _ _ _ ((S.out.pull (A:=[_])).head) Tryz.underlying85 rfl (by rw [hs];kernel_rfl) ?_);(go_wp2_with fail))
   ((have hC:=HCT.out);clear HCT;subst hC;(go_wp2_with fail);(refine (w0d HV.out w.heap.size Hok.out w4).mono ?_);(rintro e w5 ⟨ro,rc,rfl,hrs,hrf,hb5⟩);(have S5:=uH (S.out.grow hb5));(have Hrs:=uH hrs);(have Hfo:=uH (l0f Hft.out hrf));clear hrs hrf hb5 Hft;(go_wp2_with fail);(refine (St.rowE S5.out ro rc _ w5.heap.size rfl Hrs.out Hfo.out (by have h1:=Hxl.out;rw [e1] at h1;simp only [a0n,lL] at h1 ⊢;omega)).mono ?_);(rintro e w6 ⟨rfl,o6,hS⟩);(rw [←e1] at hS);(have S6:=uH hS);clear hS S5 S Hrs Hfo e1;(go_wp2_with fail);(refine (f0i p w.heap.size (wdB d) o6 w6 S6.out.head (by have:=Hxl.out;omega)).mono ?_);(rintro e w7 ⟨xo,xc,rfl,ho,hb7⟩);(have S7:=uH (S6.out.grow hb7));(have Ho:=uH ho.sl);clear ho hb7 S6;(go_wp2_with fail);(refine (g0n Ho.out (by have:=Hxl.out;omega) w7.heap.size rfl).mono ?_);(rintro e w8 ⟨fo,fc,rfl,hof,hb8⟩);(have Hof:=uH (F.d0t hof S7.out.b.size));(have w8_b:=(S7.out.grow hb8).b);clear hof hb8;(go_wp2_with fail);go_ret2;(refine ⟨w8_b,?_⟩);(rw [if_pos Hm.out]);exact ⟨fo,fc,rfl,Hof.out⟩)
  have t6:(d.kind==6)=false:=by rw [beq_eq_false_iff_ne];exact k6
  ((refine a0a fun C HC=>?_);(go_wp2_with fail);(have hC:=HC.out);clear HC;subst hC;(refine wp_cond_false rfl ?_))
  have e1:wdB d=(j0b d++(encS d.sf++encS d.st))++a0n d.data:=by unfold wdB opsB f0h;simp [k3,k4,k5,k6]
  go_wp2_with fail
  ((have hC:=HCT.out);clear HCT;subst hC;(go_wp2_with fail);(refine (w0c HV.out Hds.out w3 (Hsl.out.grow S.out.b) (sl_block Hsl.out)).mono ?_);(rintro e w5 ⟨ro,rc,rfl,hrs,hrf,hb5⟩);(have S5:=uH (S.out.grow hb5));(have Hrs:=uH hrs);(have Hfo:=uH (l0f Hft.out hrf));clear hrs hrf hb5 Hft;(go_wp2_with fail);(refine (St.rowE S5.out ro rc _ w5.heap.size rfl Hrs.out Hfo.out (by have h1:=Hxl.out;rw [e1] at h1;simp only [a0n,lL] at h1 ⊢;omega)).mono ?_);(rintro e w6 ⟨rfl,o6,hS⟩);(rw [←e1] at hS);(have S6:=uH hS);clear hS S5 S Hrs Hfo e1;(go_wp2_with fail);(refine (f0i p w.heap.size (wdB d) o6 w6 S6.out.head (by have:=Hxl.out;omega)).mono ?_);(rintro e w7 ⟨xo,xc,rfl,ho,hb7⟩);(have S7:=uH (S6.out.grow hb7));(have Ho:=uH ho.sl);clear ho hb7 S6;(go_wp2_with fail);(refine (g0n Ho.out (by have:=Hxl.out;omega) w7.heap.size rfl).mono ?_);(rintro e w8 ⟨fo,fc,rfl,hof,hb8⟩);(have Hof:=uH (F.d0t hof S7.out.b.size));(have w8_b:=(S7.out.grow hb8).b);clear hof hb8;(go_wp2_with fail);go_ret2;(refine ⟨w8_b,?_⟩);(rw [if_pos Hm.out]);exact ⟨fo,fc,rfl,Hof.out⟩)
set_option maxRecDepth 20000
open Go.RowKit
theorem a0r {w:World} {n:Nat} {d:Wd} {ms ds:Value} (h:w.heap[n]?=some (.cells (wdV d ms ds) 49 (0,0))):WBox w n d ms ds:=wbox h
theorem d0p (w:World):F.Sl w none 0 []:=⟨Nat.le_refl _,by decide,fun _=>⟨rfl,rfl⟩,fun h=>absurd h (by simp)⟩
end Go.Proofs.YtogamdaomdoapaaGreat
namespace Go.Proofs.YtogamdaomdoapaaGreat.O
open Go.Value renaming int→aI,string→aS
open Go.IntKind renaming i64→aK
open List renaming length_append→lL
open Bool renaming eq_false_or_eq_true→bE
open Go.Lib renaming hid→uH
set_option maxRecDepth 20000
open Go.RowKit
set_option maxHeartbeats 4000000 in
theorem v0u (a1 a2:Option Addr) (k1 k2:Nat) (x y:Mp) (w:World) (h1:ZsAt w a1 x.zs) (h2:ZsAt w a2 y.zs) (hm:x.zs.length≤100000) :
 Calls Tryz.prog 67 #[.agg #[aI aK x.ver,aI aK x.next,.slice a1 x.zs.length k1],.agg #[aI aK y.ver,aI aK y.next,.slice a2 y.zs.length k2]] w fun e w'=>e=.returned (.bool (h0m x y))∧Below w.heap.size w w':=by
 obtain ⟨q,hq⟩:∃ q,q=h0m x y:=⟨_,rfl⟩
 rw [←hq]
 have Hq:=uH hq
 clear hq
 by_cases t1:x.ver=y.ver
 case neg =>
  have t1':(x.ver != y.ver)=true:=by rw [bne_iff_ne];exact t1
  obtain rfl:q=false:=by rw [Hq.out];unfold h0m;rw [decide_eq_false_iff_not];rintro ⟨h,-⟩;exact t1 h
  go_enter Tryz.func67,Tryz.ntmps67
  go_wp2_with fail
  go_ret
  exact ⟨rfl,bg⟩
 have t1':(x.ver != y.ver)=false:=by rw [t1];simp
 by_cases t2:x.next=y.next
 case neg =>
  have t2':(x.next != y.next)=true:=by rw [bne_iff_ne];exact t2
  obtain rfl:q=false:=by rw [Hq.out];unfold h0m;rw [decide_eq_false_iff_not];rintro ⟨-,h,-⟩;exact t2 h
  go_enter Tryz.func67,Tryz.ntmps67
  go_wp2_with fail
  go_ret
  exact ⟨rfl,bg⟩
 have t2':(x.next != y.next)=false:=by rw [t2];simp
 by_cases t3:x.zs.length=y.zs.length
 case neg =>
  have t3':((x.zs.length:Int) != y.zs.length)=true:=by rw [bne_iff_ne];omega
  obtain rfl:q=false:=by rw [Hq.out];unfold h0m;rw [decide_eq_false_iff_not];rintro ⟨-,-,h⟩;exact t3 (by rw [h])
  go_enter Tryz.func67,Tryz.ntmps67
  go_wp2_with fail
  go_ret
  exact ⟨rfl,bg⟩
 have Hq:Hid (q=decide (x.zs=y.zs)):=uH (by rw [Hq.out];unfold h0m;congr 1;simp [t1,t2])
 obtain ⟨v1,n1,l⟩:=x
 obtain ⟨v2,n2,m⟩:=y
 dsimp only at t1 t2 t3 t1' t2' h1 h2 hm Hq ⊢
 subst t1 t2
 have H1:=uH h1
 have H2:=uH h2
 rw [←t3]
 obtain ⟨n,hn⟩:∃ n,n=l.length:=⟨_,rfl⟩
 rw [←hn] at hm t3 ⊢
 have Hn:=uH hn
 have Hm:=uH t3
 clear h1 h2 hn t3
 have e1:((n:Int) != n)=false:=by simp
 go_enter Tryz.func67,Tryz.ntmps67
 go_wp2_with fail
 (refine a0d fun wa hwa=>?_;have wa_s0:=sg w.heap.size hwa;have wa_s1:=sg (w.heap.size+1) hwa;obtain ⟨wa_c0,wa_c1⟩:=kk2 hwa w.heap.size 2 (.slice a1 n k1) (w.heap.size+1) 2 (.slice a2 n k2);have wa_b:Below w.heap.size w wa:=(by rw [hwa];exact bg);clear hwa)
 have wa_le:=wa_b.size
 go_loopw [5] (fun s wr=>∃ i:Nat,s=aI aK i∧i≤n∧Hid (∀ j (hj:j<l.length) (hj':j<m.length),j<i→l[j]=m[j])∧Hid (Below wa.heap.size wa wr)) (fun s _=>n - (intOf s).toNat)
 case atStart=>exact ⟨0,rfl,by omega,uH (fun j _ _ h=>by omega),uH (Below.refl _ _)⟩
 case round =>
  obtain ⟨i,rfl,hi,Hs,Hb⟩:=hrel
  have wr_b:=wa_b.trans (Hb.out.mono wa_le)
  have hsr:=Hb.out.size
  obtain ⟨xc,xf⟩:=a0w Hb.out
  have r0:=(xc _ _ wa_s0).trans wa_c0
  have r1:=(xc _ _ wa_s1).trans wa_c1
  have rs2:w.heap.size<wr.heap.size:=by omega
  have rs3:w.heap.size+1<wr.heap.size:=by omega
  clear xc xf
  by_cases hlt:i<n
  ·have hl1:i<l.length:=by have:=Hn.out;omega
   have hl2:i<m.length:=by have:=Hm.out;omega
   obtain ⟨g1,o1,rfl,hz1⟩:=H1.out (by omega)
   obtain ⟨g2,o2,rfl,hz2⟩:=H2.out (by omega)
   have u1:g1<wr.heap.size:=Nat.lt_of_lt_of_le hz1.lt wr_b.size
   have u2:g2<wr.heap.size:=Nat.lt_of_lt_of_le hz2.lt wr_b.size
   obtain ⟨z,hz⟩:∃ z,z=l[i]:=⟨_,rfl⟩
   obtain ⟨y,hy⟩:∃ y,y=m[i]:=⟨_,rfl⟩
   obtain ⟨d0,d1,d2,d3,d4,d5,d6,d7,d8⟩:=(hz1.grow wr_b).nine i hl1 z hz
   obtain ⟨f0,f1,f2,f3,f4,f5,f6,f7,f8⟩:=(hz2.grow wr_b).nine i hl2 y hy
   obtain ⟨r,hr⟩:∃ r,r=decide (z=y):=⟨_,rfl⟩
   have heq:=fun w=>eql_zn z y w r (by rw [x0y,hr])
   have Hr:Hid (r=true→l[i]=m[i]):=uH fun h=>by rw [←hz,←hy];rw [h] at hr;exact of_decide_eq_true hr.symm
   have Hf:Hid (r=false→q=false):=uH fun h=>by
    rw [Hq.out,decide_eq_false_iff_not]
    rintro rfl
    rw [h,hz,hy] at hr
    exact absurd rfl (of_decide_eq_false hr.symm)
   obtain ⟨wo,rfl⟩:∃ wo:World,wo=wr:=⟨_,rfl⟩
   clear hz hy hz1 hz2 hr
   cases r with
   | true =>
    go_wp2_with fail
    (refine grA ?_;(repeat (go_big_quiet_step (fail)));refine grN fun g0=>?_)
    go_wp2_with fail
    go_roundw
    case rel=>exact ⟨i+1,by go_num,by omega,uH (fun j hj hj' hji=>by
     by_cases e:j=i
     ·subst e;exact Hr.out trivial
     ·exact Hs.out j hj hj' (by omega)),uH (Hb.out.trans ((a0f wo g0).mono (by omega)))⟩
    case measure=>simp [intOf];omega
   | false =>
    have hqf:=Hf.out rfl
    subst hqf
    go_wp2_with fail
    (refine grA ?_;(repeat (go_big_quiet_step (fail)));refine grN fun g0=>?_)
    go_wp2_with fail
    go_ret
    exact ⟨rfl,wr_b.trans ((a0f wo g0).mono wr_b.size)⟩
  ·have hqt:q=true:=by
    rw [Hq.out,decide_eq_true_eq]
    refine List.ext_getElem (by rw [←Hn.out,Hm.out]) fun j hj hj'=>Hs.out j hj hj' ?_
    have:=Hn.out
    omega
   subst hqt
   go_wp2_with fail
   go_ret
   exact ⟨rfl,wr_b⟩
end Go.Proofs.YtogamdaomdoapaaGreat.O
namespace Go.Proofs.YtogamdaomdoapaaGreat
open Go.Value renaming int→aI,string→aS
open Go.IntKind renaming i64→aK
open List renaming length_append→lL
open Bool renaming eq_false_or_eq_true→bE
open Go.Lib renaming hid→uH
set_option maxRecDepth 20000
open Go.RowKit
def j0o (a b:Wd):Bool:=(a.kind==b.kind)&&(a.zone==b.zone)&&(a.epoch==b.epoch)&&(a.index==b.index)&&(a.size==b.size)&&(a.off==b.off)&&(a.host==b.host)&&(a.err==b.err)&&decide (a.sf.toList=b.sf.toList∧a.st.toList=b.st.toList)&&eqR a.op b.op&&eqRp a.rep b.rep&&h0m a.mp b.mp&&eqCh a.ch b.ch&&decide (a.data=b.data)
theorem v0p (a b:Wd):j0o a b=(decide (a.kind=b.kind)&&eqPl a.pl b.pl&&h0m a.mp b.mp&&decide (a.data=b.data)):=by
 unfold j0o eqPl Wd.pl
 rw [Bool.eq_iff_iff]
 simp only [Bool.and_eq_true,decide_eq_true_eq,beq_iff_eq]
 grind
theorem eql_span (f t f' t':ByteArray) (w:World) (r:Bool) (hr:decide (f.toList=f'.toList∧t.toList=t'.toList)=r):(Op.equalIn 10000 37 (.agg #[aS f,aS t]) (.agg #[aS f',aS t'])).run Tryz.prog w=.ok r w:=by
 subst hr
 go_simp
 by_cases h1:f.toList=f'.toList
 ·by_cases h2:t.toList=t'.toList
  ·simp [h1,h2]
  ·simp [h1,h2]
 ·simp [h1]
set_option maxHeartbeats 8000000 in
theorem v0q {a b:Wd} {ms ds ms2 ds2:Value} {V V2:Array Value} (hV:V=wdV a ms ds) (hV2:V2=wdV b ms2 ds2) (a1 a2 d1 d2:Option Addr) (k1 k2 c1 c2:Nat) (hms:ms=.slice a1 a.mp.zs.length k1) (hms2:ms2=.slice a2 b.mp.zs.length k2) (hds:ds=.slice d1 a.data.length c1) (hds2:ds2=.slice d2 b.data.length c2) (w:World)
 (hz1:O.ZsAt w a1 a.mp.zs) (hz2:O.ZsAt w a2 b.mp.zs) (hb1:BAt w d1 a.data) (hb2:BAt w d2 b.data) (hm:a.mp.zs.length≤100000) :
 Calls Tryz.prog 39 #[.agg V,.agg V2] w fun e w'=>e=.returned (.bool (j0o a b))∧Below w.heap.size w w':=by
 have HV:=uH hV
 have HV2:=uH hV2
 have Hz1:=uH hz1
 have Hz2:=uH hz2
 have Hb1:=uH hb1
 have Hb2:=uH hb2
 have Hms:=uH hms
 have Hms2:=uH hms2
 have Hds:=uH hds
 have Hds2:=uH hds2
 obtain ⟨r,hr⟩:∃ r,r=j0o a b:=⟨_,rfl⟩
 rw [←hr]
 unfold j0o at hr
 obtain ⟨q0,hq0⟩:∃ q,(a.kind==b.kind)=q:=⟨_,rfl⟩
 obtain ⟨q1,hq1⟩:∃ q,(a.zone==b.zone)=q:=⟨_,rfl⟩
 obtain ⟨q2,hq2⟩:∃ q,(a.epoch==b.epoch)=q:=⟨_,rfl⟩
 obtain ⟨q3,hq3⟩:∃ q,(a.index==b.index)=q:=⟨_,rfl⟩
 obtain ⟨q4,hq4⟩:∃ q,(a.size==b.size)=q:=⟨_,rfl⟩
 obtain ⟨q5,hq5⟩:∃ q,(a.off==b.off)=q:=⟨_,rfl⟩
 obtain ⟨q6,hq6⟩:∃ q,(a.host==b.host)=q:=⟨_,rfl⟩
 obtain ⟨q7,hq7⟩:∃ q,(a.err==b.err)=q:=⟨_,rfl⟩
 obtain ⟨q8,hq8⟩:∃ q,decide (a.sf.toList=b.sf.toList∧a.st.toList=b.st.toList)=q:=⟨_,rfl⟩
 obtain ⟨q9,hq9⟩:∃ q,eqR a.op b.op=q:=⟨_,rfl⟩
 obtain ⟨q10,hq10⟩:∃ q,eqRp a.rep b.rep=q:=⟨_,rfl⟩
 obtain ⟨q11,hq11⟩:∃ q,h0m a.mp b.mp=q:=⟨_,rfl⟩
 obtain ⟨q12,hq12⟩:∃ q,eqCh a.ch b.ch=q:=⟨_,rfl⟩
 obtain ⟨q13,hq13⟩:∃ q,decide (a.data=b.data)=q:=⟨_,rfl⟩
 rw [hq0,hq1,hq2,hq3,hq4,hq5,hq6,hq7,hq8,hq9,hq10,hq11,hq12,hq13] at hr
 have Hr:=uH hr
 have Heq8:=uH (fun w=>eql_span a.sf a.st b.sf b.st w q8 hq8)
 have Heq9:=uH (fun w=>eql_api.Op a.op b.op w q9 hq9)
 have Heq10:=uH (fun w=>q0v a.rep b.rep w q10 hq10)
 have Heq12:=uH (fun w=>i0o a.ch b.ch w q12 (by rw [←hq12];rfl))
 have Heq13:Hid ((a.data==b.data)=q13):=uH (by rw [←hq13,Bool.eq_iff_iff,beq_iff_eq,decide_eq_true_eq])
 have Hq11:=uH hq11
 have Hq0:=uH hq0
 have Hq1:=uH hq1
 have Hq2:=uH hq2
 have Hq3:=uH hq3
 have Hq4:=uH hq4
 have Hq5:=uH hq5
 have Hq6:=uH hq6
 have Hq7:=uH hq7
 clear hr hV hV2 hz1 hz2 hb1 hb2 hms hms2 hds hds2 hq0 hq1 hq2 hq3 hq4 hq5 hq6 hq7 hq8 hq9 hq10 hq11 hq12 hq13
 go_enter Tryz.func39,Tryz.ntmps39
 refine a0a fun C HC=>?_
 go_wp2_with fail
 refine a0d fun wa hwa=>?_
 obtain ⟨B,hB⟩:∃ B,B=w.heap.size:=⟨_,rfl⟩
 have S:Hid (St w wa [a0c (B+1) (.cells V2 49 (0,0)),a0c B (.cells V 49 (0,0))]):=by
  rw [hwa]
  exact uH (((St.start w).objN _ B hB).objN _ (B+1) (by rw [hB];simp))
 rw [←hB]
 clear hwa hB
 have Wa:Hid (WBox wa B a ms ds):=uH (a0r (by rw [←HV.out];exact (S.out.pull (A:=[_])).head))
 have Wb:Hid (WBox wa (B+1) b ms2 ds2):=uH (a0r (by rw [←HV2.out];exact S.out.head))
 (have hC:=HC.out);clear HC;subst hC
 refine wp_seq ?_
 refine wp_region_lit ?_
 refine a0s 6 fun L HL=>?_
 simp only [List.append_eq,List.take_succ_cons,List.take_zero,List.cons_append,List.nil_append]
 have x0:=Wa.out.c0
 have y0:=Wb.out.c0
 have hq:=Hq0.out
 go_wp2_with fail
 clear x0 y0 hq
 (have hL:=HL.out);clear HL;subst hL
 simp only [List.append_eq,List.cons_append,List.nil_append,List.drop_succ_cons,List.drop_zero]
 obtain rfl | rfl:=bE q0 |>.symm
 ·((go_wp2_with fail);go_ret;exact ⟨by rw [Hr.out];rfl,S.out.b⟩)
 refine a0s 7 fun L HL=>?_
 simp only [List.take_succ_cons,List.take_zero,List.cons_append,List.nil_append]
 have x1:=Wa.out.c1
 have y1:=Wb.out.c1
 have hq:=Hq1.out
 go_wp2_with fail
 clear x1 y1 hq
 ((have hL:=HL.out);clear HL;subst hL;simp only [List.drop_succ_cons,List.drop_zero])
 obtain rfl | rfl:=bE q1 |>.symm
 ·((go_wp2_with fail);go_ret;exact ⟨by rw [Hr.out];rfl,S.out.b⟩)
 refine a0s 7 fun L HL=>?_
 simp only [List.take_succ_cons,List.take_zero,List.cons_append,List.nil_append]
 have x2:=Wa.out.c2
 have y2:=Wb.out.c2
 have hq:=Hq2.out
 go_wp2_with fail
 clear x2 y2 hq
 ((have hL:=HL.out);clear HL;subst hL;simp only [List.drop_succ_cons,List.drop_zero])
 obtain rfl | rfl:=bE q2 |>.symm
 ·((go_wp2_with fail);go_ret;exact ⟨by rw [Hr.out];rfl,S.out.b⟩)
 refine a0s 7 fun L HL=>?_
 simp only [List.take_succ_cons,List.take_zero,List.cons_append,List.nil_append]
 have x3:=Wa.out.c3
 have y3:=Wb.out.c3
 have hq:=Hq3.out
 go_wp2_with fail
 clear x3 y3 hq
 ((have hL:=HL.out);clear HL;subst hL;simp only [List.drop_succ_cons,List.drop_zero])
 obtain rfl | rfl:=bE q3 |>.symm
 ·((go_wp2_with fail);go_ret;exact ⟨by rw [Hr.out];rfl,S.out.b⟩)
 refine a0s 7 fun L HL=>?_
 simp only [List.take_succ_cons,List.take_zero,List.cons_append,List.nil_append]
 have x4:=Wa.out.c4
 have y4:=Wb.out.c4
 have hq:=Hq4.out
 go_wp2_with fail
 clear x4 y4 hq
 ((have hL:=HL.out);clear HL;subst hL;simp only [List.drop_succ_cons,List.drop_zero])
 obtain rfl | rfl:=bE q4 |>.symm
 ·((go_wp2_with fail);go_ret;exact ⟨by rw [Hr.out];rfl,S.out.b⟩)
 refine a0s 7 fun L HL=>?_
 simp only [List.take_succ_cons,List.take_zero,List.cons_append,List.nil_append]
 have x5:=Wa.out.c5
 have y5:=Wb.out.c5
 have hq:=Hq5.out
 go_wp2_with fail
 clear x5 y5 hq
 ((have hL:=HL.out);clear HL;subst hL;simp only [List.drop_succ_cons,List.drop_zero])
 obtain rfl | rfl:=bE q5 |>.symm
 ·((go_wp2_with fail);go_ret;exact ⟨by rw [Hr.out];rfl,S.out.b⟩)
 refine a0s 7 fun L HL=>?_
 simp only [List.take_succ_cons,List.take_zero,List.cons_append,List.nil_append]
 have x6:=Wa.out.c6
 have y6:=Wb.out.c6
 have hq:=Hq6.out
 go_wp2_with fail
 clear x6 y6 hq
 ((have hL:=HL.out);clear HL;subst hL;simp only [List.drop_succ_cons,List.drop_zero])
 obtain rfl | rfl:=bE q6 |>.symm
 ·((go_wp2_with fail);go_ret;exact ⟨by rw [Hr.out];rfl,S.out.b⟩)
 refine a0s 7 fun L HL=>?_
 simp only [List.take_succ_cons,List.take_zero,List.cons_append,List.nil_append]
 have x7:=Wa.out.c7
 have y7:=Wb.out.c7
 have hq:=Hq7.out
 go_wp2_with fail
 clear x7 y7 hq
 ((have hL:=HL.out);clear HL;subst hL;simp only [List.drop_succ_cons,List.drop_zero])
 obtain rfl | rfl:=bE q7 |>.symm
 ·((go_wp2_with fail);go_ret;exact ⟨by rw [Hr.out];rfl,S.out.b⟩)
 refine a0s 7 fun L HL=>?_
 simp only [List.take_succ_cons,List.take_zero,List.cons_append,List.nil_append]
 have x8:=Wa.out.c8
 have y8:=Wb.out.c8
 have x9:=Wa.out.c9
 have y9:=Wb.out.c9
 have hq:=Heq8.out
 go_wp2_with fail
 clear x8 y8 x9 y9 hq
 ((have hL:=HL.out);clear HL;subst hL;simp only [List.drop_succ_cons,List.drop_zero])
 obtain rfl | rfl:=bE q8 |>.symm
 ·((go_wp2_with fail);go_ret;exact ⟨by rw [Hr.out];rfl,S.out.b⟩)
 refine a0s 7 fun L HL=>?_
 simp only [List.take_succ_cons,List.take_zero,List.cons_append,List.nil_append]
 have x10:=Wa.out.c10
 have y10:=Wb.out.c10
 have x11:=Wa.out.c11
 have y11:=Wb.out.c11
 have x12:=Wa.out.c12
 have y12:=Wb.out.c12
 have x13:=Wa.out.c13
 have y13:=Wb.out.c13
 have x14:=Wa.out.c14
 have y14:=Wb.out.c14
 have x15:=Wa.out.c15
 have y15:=Wb.out.c15
 have x16:=Wa.out.c16
 have y16:=Wb.out.c16
 have x17:=Wa.out.c17
 have y17:=Wb.out.c17
 have x18:=Wa.out.c18
 have y18:=Wb.out.c18
 have x19:=Wa.out.c19
 have y19:=Wb.out.c19
 have x20:=Wa.out.c20
 have y20:=Wb.out.c20
 have x21:=Wa.out.c21
 have y21:=Wb.out.c21
 have hq:=Heq9.out
 go_wp2_with fail
 clear x10 y10 x11 y11 x12 y12 x13 y13 x14 y14 x15 y15 x16 y16 x17 y17 x18 y18 x19 y19 x20 y20 x21 y21 hq
 ((have hL:=HL.out);clear HL;subst hL;simp only [List.drop_succ_cons,List.drop_zero])
 obtain rfl | rfl:=bE q9 |>.symm
 ·((go_wp2_with fail);go_ret;exact ⟨by rw [Hr.out];rfl,S.out.b⟩)
 refine a0s 7 fun L HL=>?_
 simp only [List.take_succ_cons,List.take_zero,List.cons_append,List.nil_append]
 have x22:=Wa.out.c22
 have y22:=Wb.out.c22
 have x23:=Wa.out.c23
 have y23:=Wb.out.c23
 have x24:=Wa.out.c24
 have y24:=Wb.out.c24
 have x25:=Wa.out.c25
 have y25:=Wb.out.c25
 have x26:=Wa.out.c26
 have y26:=Wb.out.c26
 have x27:=Wa.out.c27
 have y27:=Wb.out.c27
 have hq:=Heq10.out
 go_wp2_with fail
 clear x22 y22 x23 y23 x24 y24 x25 y25 x26 y26 x27 y27 hq
 ((have hL:=HL.out);clear HL;subst hL;simp only [List.drop_succ_cons,List.drop_zero])
 obtain rfl | rfl:=bE q10 |>.symm
 ·((go_wp2_with fail);go_ret;exact ⟨by rw [Hr.out];rfl,S.out.b⟩)
 refine a0s 7 fun L HL=>?_
 simp only [List.take_succ_cons,List.take_zero,List.cons_append,List.nil_append]
 have x28:=Wa.out.c28
 have y28:=Wb.out.c28
 have x29:=Wa.out.c29
 have y29:=Wb.out.c29
 have x30:=Wa.out.c30
 have y30:=Wb.out.c30
 rw [Hms.out] at x30
 rw [Hms2.out] at y30
 go_wp2_with fail
 refine (O.v0u a1 a2 k1 k2 a.mp b.mp wa (Hz1.out.grow S.out.b) (Hz2.out.grow S.out.b) hm).mono ?_
 rintro e w5 ⟨rfl,hb5⟩
 rw [Hq11.out]
 have S:=uH (S.out.grow hb5)
 clear hb5 x28 y28 x29 y29 x30 y30 Wa Wb
 have Wa:Hid (WBox w5 B a ms ds):=uH (a0r (by rw [←HV.out];exact (S.out.pull (A:=[_])).head))
 have Wb:Hid (WBox w5 (B+1) b ms2 ds2):=uH (a0r (by rw [←HV2.out];exact S.out.head))
 go_wp2_with fail
 ((have hL:=HL.out);clear HL;subst hL;simp only [List.drop_succ_cons,List.drop_zero])
 obtain rfl | rfl:=bE q11 |>.symm
 ·((go_wp2_with fail);go_ret;exact ⟨by rw [Hr.out];rfl,S.out.b⟩)
 refine a0s 7 fun L HL=>?_
 simp only [List.take_succ_cons,List.take_zero,List.cons_append,List.nil_append]
 have x31:=Wa.out.c31
 have y31:=Wb.out.c31
 have x32:=Wa.out.c32
 have y32:=Wb.out.c32
 have x33:=Wa.out.c33
 have y33:=Wb.out.c33
 have x34:=Wa.out.c34
 have y34:=Wb.out.c34
 have x35:=Wa.out.c35
 have y35:=Wb.out.c35
 have hq:=Heq12.out
 go_wp2_with fail
 clear x31 y31 x32 y32 x33 y33 x34 y34 x35 y35 hq
 ((have hL:=HL.out);clear HL;subst hL;simp only [List.drop_succ_cons,List.drop_zero])
 obtain rfl | rfl:=bE q12 |>.symm
 ·((go_wp2_with fail);go_ret;exact ⟨by rw [Hr.out];rfl,S.out.b⟩)
 have x36:=Wa.out.c36
 have y36:=Wb.out.c36
 have u1:=b0c (Hb1.out.below S.out.b) c1
 have u2:=b0c (Hb2.out.below S.out.b) c2
 rw [Hds.out] at x36
 rw [Hds2.out] at y36
 go_wp2_with fail
 clear x36 y36 u1 u2
 go_ret
 exact ⟨by rw [Hr.out,←Heq13.out];rfl,S.out.b⟩
open Go.RowKit
theorem eqPl_iff {a b:Pl}:eqPl a b=true↔a=b:=by
 obtain ⟨a1,a2,a3,a4,a5,a6,a7,a8,a9,⟨b1,b2,b3,b4,b5,b6,b7,b8,b9,b10,b11,b12⟩,⟨c1,c2,⟨d1,d2,d3,d4⟩⟩,⟨e1,e2,e3,e4,e5⟩⟩:=a
 obtain ⟨f1,f2,f3,f4,f5,f6,f7,f8,f9,⟨g1,g2,g3,g4,g5,g6,g7,g8,g9,g10,g11,g12⟩,⟨h1,h2,⟨i1,i2,i3,i4⟩⟩,⟨j1,j2,j3,j4,j5⟩⟩:=b
 unfold eqPl eqR eqRp eqCh
 simp only [Bool.and_eq_true,decide_eq_true_eq,toList_eq,Pl.mk.injEq,Rq.mk.injEq,Rp.mk.injEq,It.mk.injEq,Ch.mk.injEq]
 constructor
 ·rintro ⟨⟨⟨⟨k1,k2,k3,k4,k5,k6,k7,k8,k9⟩,l⟩,m1,m2,m3,m4,m5,m6⟩,n⟩
  exact ⟨k1,k2,k3,k4,k5,k6,k7,k8,k9,l,⟨m1,m2,m3,m4,m5,m6⟩,n⟩
 ·rintro ⟨k1,k2,k3,k4,k5,k6,k7,k8,k9,l,⟨m1,m2,m3,m4,m5,m6⟩,n⟩
  exact ⟨⟨⟨⟨k1,k2,k3,k4,k5,k6,k7,k8,k9⟩,l⟩,m1,m2,m3,m4,m5,m6⟩,n⟩
theorem v0r {a b:Mp}:h0m a b=true↔a=b:=by
 obtain ⟨a1,a2,a3⟩:=a
 obtain ⟨b1,b2,b3⟩:=b
 unfold h0m
 simp only [decide_eq_true_eq,Mp.mk.injEq]
structure Is (d:Wd):Prop where
 ok:okD d=true
 nums:l0b d=true
 pl:d.pl=a0v d
 mp:d.mp=mapW d
 data:d.data=e0p d
theorem is_of {d:Wd} (h:mayW d=true):Is d:=by
 rw [←r0b] at h
 unfold docW at h
 simp only [Bool.and_eq_true,decide_eq_true_eq,eqPl_iff,v0r] at h
 exact ⟨h.1.1,h.1.2,h.2.1.1.symm,h.2.1.2.symm,h.2.2.symm⟩
theorem Is.kind {d:Wd} (h:Is d):d.kind=1∨d.kind=2∨d.kind=3∨d.kind=4∨d.kind=5∨d.kind=6∨d.kind=7∨d.kind=8∨d.kind=9∨d.kind=10:=by
 rcases (show (d.kind=1∨d.kind=2∨d.kind=3∨d.kind=4∨d.kind=5∨d.kind=6∨d.kind=7∨d.kind=8∨d.kind=9∨d.kind=10)∨(d.kind≠1∧d.kind≠2∧d.kind≠3∧d.kind≠4∧d.kind≠5∧d.kind≠6∧d.kind≠7∧d.kind≠8∧d.kind≠9∧d.kind≠10) by omega) with k | ⟨k1,k2,k3,k4,k5,k6,k7,k8,k9,k10⟩
 ·exact k
 ·have:=h.ok
  simp [okD,k1,k2,k3,k4,k5,k6,k7,k8,k9,k10] at this
theorem Is.err {d:Wd} (h:Is d):0≤d.err∧d.err≤19:=by
 by_cases k:d.kind=6
 ·have:=h.ok
  simp [okD,k] at this
  omega
 ·have e:d.err=(a0v d).err:=congrArg Pl.err h.pl
  have:(a0v d).err=0:=by unfold a0v;simp only [k,if_false];split<;>(try split)<;>(try split)<;>(try split)<;>(try split)<;>(try split)<;>rfl
  omega
end Go.Proofs.YtogamdaomdoapaaGreat