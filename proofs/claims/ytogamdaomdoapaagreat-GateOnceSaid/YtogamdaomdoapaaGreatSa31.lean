/- Texts put together: WEn, WGn. -/
import Derived.Test.YtogamdaomdoapaaGreatSa02
import Derived.Test.YtogamdaomdoapaaGreatSa05
import Derived.Test.YtogamdaomdoapaaGreatSa30
import Derived.Laws.CopyOwn
namespace Go.Proofs.YtogamdaomdoapaaGreat
set_option maxRecDepth 20000
open Go.RowKit
def EncWPost (w:World) (d:Wd) (e:Ending) (w':World):Prop:=Below w.heap.size w w' ∧
 if mayW d=true then ∃ ao cap,e=.returned (.tuple #[.slice ao (encW d).length cap,.int .i64 0])∧OwnC w' w.heap.size ao cap (encW d) else e=.returned (.tuple #[.slice none 0 0,.int .i64 1])
theorem St.rowE {W w:World} {L:List Th} {p:Nat} {l:List UInt8} {o:Option Nat} (h:St W w (thWr p W.heap.size l o::L)) (ao:Option Addr) (cap:Nat) (r:List UInt8) (n:Nat) (hn:n=w.heap.size) (hr:F.Sl w ao cap r) (hf:0<r.length→∀ a,ao=some a→¬Foot p o a.block) (hm:l.length+r.length+30≤140737488351232) :
 Calls Tryz.prog 71 #[.pointer (some ⟨p,0,none⟩),.slice (some ⟨n,0,none⟩) 1 1] (w.alloc (.cells #[.slice ao r.length cap] 47)) fun e w'=>e=.returned (.tuple #[])∧∃ o',St W w' (thWr p W.heap.size (l++encRow r) o'::L):=by
 subst hn
 have hw:WrAt w p W.heap.size l o:=h.head
 have hb:=h.b.size
 have hg:St W (w.alloc (.cells #[.slice ao r.length cap] 47)) (thWr p W.heap.size l o::L):=h.grow (below_allocO _ _)
 have hnp:¬Foot p o w.heap.size:=by
  rintro (e | e)
  ·have:=hw.lt;omega
  ·have:=(hw.own_lt _ e).1;omega
 have hrs:=rs_lit (heap_new w (.cells #[.slice ao r.length cap] 47)) [⟨ao,cap,r⟩] rfl (fun x=>x<(w.alloc (.cells #[.slice ao r.length cap] 47)).heap.size∧¬Foot p o x) ⟨by simp,hnp⟩ (fun q hq=>by
  obtain rfl:=List.mem_singleton.1 hq
  refine ⟨hr.le,hr.cm,hr.n0,fun hp=>?_⟩
  obtain ⟨b,off,e,hlt,hrow⟩:=hr.at_ hp
  exact ⟨b,off,e,by simp;omega,⟨by simp;omega,hf hp _ e⟩,hrow.below hlt (below_allocO _ _)⟩)
 refine (wbytes_any p W.heap.size l o _ 1 [⟨ao,cap,r⟩] _ _ hg.head hrs (fun hx=>hx.2 (.inl rfl)) (fun g hgo hx=>hx.2 (.inr hgo)) (fun x hx=>hx.1) (by simp;omega) (by simp [flatR];omega)).mono ?_
 rintro e w' ⟨rfl,hi⟩
 refine ⟨rfl,?_⟩
 have:=hg.wrote hi
 simp only [encRows,List.flatMap_cons,List.flatMap_nil,List.append_nil] at this
 exact this
theorem wdB_length {d:Wd} (h:mayW d=true) (hl:Light d):(wdB d).length≤140000:=by
 have h1:=numsB_length d
 have h2:=opsB_length d
 have h3:=restW_length h hl
 have h4:=encS_length d.sf
 have h5:=encS_length d.st
 have h6:=(encN_length (restW d).length).1
 have h7:=hl.sf
 have h8:=hl.st
 unfold wdB encRow
 simp only [List.length_append]
 omega
theorem frame_one {w:World} {ao:Option Addr} {cap:Nat} {l:List UInt8} (h:F.Sl w ao cap l) (hm:l.length≤1048576) (n:Nat) (hn:n=w.heap.size) :
 Calls Tryz.prog 77 #[.slice (some ⟨n,0,none⟩) 1 1] (w.alloc (.cells #[.slice ao l.length cap] 47)) fun e w'=>∃ fo fc,e=.returned (.tuple #[.slice fo (F.frameB l).length fc,.int .i64 0])∧OwnC w' w.heap.size fo fc (F.frameB l)∧Below w.heap.size w w':=by
 have:=F.encode_any (some ⟨n,0,none⟩) 1 [⟨ao,cap,l⟩] (fun _=>True) _ (F.rs_one h 47 n hn) (by simp) (by simp) (by rw [F.flat_one1];exact hm)
 rw [F.flat_one1] at this
 refine this.mono ?_
 rintro e w' ⟨fo,fc,rfl,ho,hb⟩
 exact ⟨fo,fc,rfl,F.ownC_weak ho (by simp),(F.below_allocF _ _).trans (hb.mono (by simp))⟩
theorem rest_data {d:Wd} {ms ds:Value} {V:Array Value} (hV:V=wdV d ms ds) {dl:Option Addr} {dc N:Nat} (hds:ds=.slice dl d.data.length dc) (w:World) (h:F.Sl w dl dc d.data) (hN:0<d.data.length→∀ a,dl=some a→a.block<N):Calls Tryz.prog 72 #[.agg V] w (RestPost N w d.data):=by
 refine (data_v hV w).mono ?_
 rintro e w' ⟨rfl,hb⟩
 rw [hds]
 exact ⟨dl,dc,rfl,h.grow hb,fun hp a ha=>.inr (hN hp a ha),hb⟩
theorem sl_block {w:World} {dl:Option Addr} {dc:Nat} {l:List UInt8} (h:F.Sl w dl dc l):0<l.length→∀ a,dl=some a→a.block<w.heap.size:=by
 intro hp a ha
 obtain ⟨b,off,e,hlt,-⟩:=h.at_ hp
 rw [ha] at e
 obtain rfl:=Option.some.inj e
 exact hlt
theorem foot_no {p N n k:Nat} {o:Option Nat} {ro:Option Addr} (hf:∀ x,Foot p o x→x<n∧N≤x) (h:0<k→∀ a,ro=some a→n≤a.block∨a.block<N):0<k→∀ a,ro=some a→¬Foot p o a.block:=fun hp a ha hx=>by
 have h1:=h hp a ha
 have h2:=hf _ hx
 omega
set_option maxHeartbeats 4000000 in
theorem wenc_any {d:Wd} {ms ds:Value} {V:Array Value} (hV:V=wdV d ms ds) (ao dl:Option Addr) (zc dc:Nat) (hms:ms=.slice ao d.mp.zs.length zc) (hds:ds=.slice dl d.data.length dc) (w:World) (hz:O.ZsAt w ao d.mp.zs) (hsl:F.Sl w dl dc d.data) (hl:Light d):Calls Tryz.prog 46 #[.agg V] w (EncWPost w d):=by
 have hs:V.size=37:=by rw [hV];rfl
 have HV:=Lib.hid hV
 have HZ:=Lib.hid hz
 have HL:=Lib.hid hl
 have Hsl:=Lib.hid hsl
 have Hms:=Lib.hid hms
 have Hds:=Lib.hid hds
 have Hmy:=Lib.hid (fun (w3:World) (hb:Below w.heap.size w w3)=>wmay_any HV.out ao dl zc dc Hms.out Hds.out w3 (HZ.out.grow hb) HL.out.mp (by have:=HL.out.data;omega))
 have hcv:=conv_bytes
 clear hV hz hl hsl hms hds
 cases hm:mayW d with
 | false =>
  have Hm:=Lib.hid hm
  clear hm
  go_enter Tryz.func46,Tryz.ntmps46
  refine wp_hold fun C HC=>?_
  go_wp2_with fail
  refine wp_name fun wa hwa=>?_
  obtain ⟨B,hB⟩:∃ B,B=w.heap.size:=⟨_,rfl⟩
  have S:Hid (St w wa [thObj B (.cells V 85 (0,0))]):=by rw [hwa];exact Lib.hid ((St.start w).objN _ B hB)
  rw [←hB]
  clear hwa hB
  (have hC:=HC.out);clear HC;subst hC
  refine wp_seq ?_
  refine wp_seq ?_
  refine wp_region_lit ?_
  (refine wpList_load_row rfl 85 _ rfl B rfl _ _ _ _ (S.out.head) Tryz.underlying85 rfl (by rw [hs];kernel_rfl) ?_)
  go_wp2_with fail
  refine (Hmy.out _ S.out.b).mono ?_
  rintro e w1 ⟨rfl,hb1⟩
  rw [Hm.out]
  have w1_b:=(S.out.grow hb1).b
  clear hb1 S
  go_wp2_with fail
  go_ret2
  refine ⟨w1_b,?_⟩
  rw [if_neg (by rw [Hm.out];simp)]
  rfl
 | true =>
  have Hm:=Lib.hid hm
  clear hm
  go_enter Tryz.func46,Tryz.ntmps46
  refine wp_hold fun C HC=>?_
  go_wp2_with fail
  refine wp_name fun wa hwa=>?_
  obtain ⟨B,hB⟩:∃ B,B=w.heap.size:=⟨_,rfl⟩
  have S:Hid (St w wa [thObj B (.cells V 85 (0,0))]):=by rw [hwa];exact Lib.hid ((St.start w).objN _ B hB)
  rw [←hB]
  clear hwa hB
  (have hC:=HC.out);clear HC;subst hC
  refine wp_hold fun C HC=>?_
  refine wp_seq ?_
  refine wp_seq ?_
  refine wp_region_lit ?_
  (refine wpList_load_row rfl 85 _ rfl B rfl _ _ _ _ (S.out.head) Tryz.underlying85 rfl (by rw [hs];kernel_rfl) ?_)
  go_wp2_with fail
  refine (Hmy.out _ S.out.b).mono ?_
  rintro e w1 ⟨rfl,hb1⟩
  rw [Hm.out]
  have S:=Lib.hid (S.out.grow hb1)
  clear hb1
  go_wp2_with fail
  (have hC:=HC.out);clear HC;subst hC
  refine wp_hold fun C HC=>?_
  go_wp2_with fail
  (have hC:=HC.out);clear HC;subst hC
  refine wp_hold fun C HC=>?_
  obtain ⟨c0,c1,c2,c3,c4,c5,c6,c7,c8,c9,c10,c11,c12,c13,c14,c15,c16,c17,c18,c19,c20,c21,c22,c23,c24,c25,c26,c27,c28,c29,c30,c31,c32,c33,c34,c35,c36⟩:=wbox (show w1.heap[B]?=some (.cells (wdV d ms ds) 85 (0,0)) from (by rw [←HV.out];exact S.out.head))
  have sB:=(S.out.cellsN 0 rfl).1
  clear c8 c9 c10 c11 c12 c13 c14 c15 c16 c17 c18 c19 c20 c21 c22 c23 c24 c25 c26 c27 c28 c29 c30 c31 c32 c33 c34 c35 c36
  go_wp2_with fail
  have s2:=S.out.newWr w1.heap.size rfl w.heap.size
  refine (s2.nums [d.kind,d.zone,d.epoch,d.index,d.size,d.off,d.host,d.err] (w1.heap.size+1) 8 (by simp) rfl _ rfl (by simp)).mono ?_
  rintro e w2 ⟨rfl,o2,hS⟩
  have S:Hid (St w w2 [thWr w1.heap.size w.heap.size (numsB d) o2,thObj B (.cells V 85 (0,0))]):=Lib.hid hS
  clear s2 hS c0 c1 c2 c3 c4 c5 c6 c7 sB
  obtain ⟨p,hp⟩:∃ p,p=w1.heap.size:=⟨_,rfl⟩
  rw [←hp] at S ⊢
  clear hp
  go_wp2_with fail
  (have hC:=HC.out);clear HC;subst hC
  refine wp_hold fun C HC=>?_
  obtain ⟨c0,c1,c2,c3,c4,c5,c6,c7,c8,c9,c10,c11,c12,c13,c14,c15,c16,c17,c18,c19,c20,c21,c22,c23,c24,c25,c26,c27,c28,c29,c30,c31,c32,c33,c34,c35,c36⟩:=wbox (show w2.heap[B]?=some (.cells (wdV d ms ds) 85 (0,0)) from (by rw [←HV.out];exact (S.out.pull (A:=[_])).head))
  have sB:=(S.out.cellsN 1 rfl).1
  clear c0 c1 c2 c3 c4 c5 c6 c7 c10 c11 c12 c13 c14 c15 c16 c17 c18 c19 c20 c21 c22 c23 c24 c25 c26 c27 c28 c29 c30 c31 c32 c33 c34 c35 c36
  have hnl:=numsB_length d
  have hsf:=HL.out.sf
  have hst:=HL.out.st
  go_wp2_with fail
  refine (St.text2 S.out d.sf d.st (by omega) (by omega) (w2.heap.size+1+1) (by simp) w2.heap.size (w2.heap.size+1) rfl rfl (by omega)).mono ?_
  rintro e w3 ⟨rfl,o3,hS⟩
  have S:=Lib.hid hS
  have hl3:(numsB d++(encS d.sf++encS d.st)).length≤4200:=by
   have h1:=encS_length d.sf
   have h2:=encS_length d.st
   simp only [List.length_append]
   omega
  clear hS c8 c9 sB hnl hsf hst
  go_wp2_with fail
  (have hC:=HC.out);clear HC;subst hC
  refine wp_hold fun C HC=>?_
  refine wp_seq ?_
  refine wp_region_lit ?_
  (refine wpList_load_row rfl 85 _ rfl B rfl _ _ _ _ ((S.out.pull (A:=[_])).head) Tryz.underlying85 rfl (by rw [hs];kernel_rfl) ?_)
  go_wp2_with fail
  (have hC:=HC.out);clear HC;subst hC
  refine wp_hold fun CT HCT=>?_
  refine wp_seq ?_
  refine wp_hold fun C HC=>?_
  obtain ⟨c0,c1,c2,c3,c4,c5,c6,c7,c8,c9,c10,c11,c12,c13,c14,c15,c16,c17,c18,c19,c20,c21,c22,c23,c24,c25,c26,c27,c28,c29,c30,c31,c32,c33,c34,c35,c36⟩:=wbox (show w3.heap[B]?=some (.cells (wdV d ms ds) 85 (0,0)) from (by rw [←HV.out];exact (S.out.pull (A:=[_])).head))
  clear c1 c2 c3 c4 c5 c6 c7 c8 c9 c10 c11 c12 c13 c14 c15 c16 c17 c18 c19 c20 c21 c22 c23 c24 c25 c26 c27 c28 c29 c30 c31 c32 c33 c34 c35 c36
  go_wp2_with fail
  (have hC:=HC.out);clear HC;subst hC
  clear c0
  refine wp_block ?_
  have Hft:Hid (∀ x,Foot p o3 x→x<w3.heap.size∧w.heap.size≤x):=Lib.hid (fun x hx=>S.out.t.lts _ (List.mem_cons_self ..) x hx)
  have Hxl:=Lib.hid (wdB_length Hm.out HL.out)
  by_cases k3:d.kind=3
  ·have t3:(d.kind==3)=true:=by rw [k3];rfl
   have e1:wdB d=(numsB d++(encS d.sf++encS d.st))++encRow (O.encM d.mp):=by unfold wdB opsB restW;simp [k3]
   ((refine wp_hold fun C HC=>?_);(go_wp2_with fail);(have hC:=HC.out);clear HC;subst hC;(refine wp_cond_true rfl ?_))
   ((refine wp_region_lit ?_);(refine wpList_load_row rfl 85 _ rfl B rfl _ _ _ _ ((S.out.pull (A:=[_])).head) Tryz.underlying85 rfl (by rw [hs];kernel_rfl) ?_);(go_wp2_with fail))
   ((have hC:=HCT.out);clear HCT;subst hC;(go_wp2_with fail);(refine (told_v HV.out w.heap.size ao zc Hms.out w3 (HZ.out.grow S.out.b) HL.out.mp).mono ?_);(rintro e w5 ⟨ro,rc,rfl,hrs,hrf,hb5⟩);(have S5:=Lib.hid (S.out.grow hb5));(have Hrs:=Lib.hid hrs);(have Hfo:=Lib.hid (foot_no Hft.out hrf));clear hrs hrf hb5 Hft;(go_wp2_with fail);(refine (St.rowE S5.out ro rc _ w5.heap.size rfl Hrs.out Hfo.out (by have h1:=Hxl.out;rw [e1] at h1;simp only [encRow,List.length_append] at h1 ⊢;omega)).mono ?_);(rintro e w6 ⟨rfl,o6,hS⟩);(rw [←e1] at hS);(have S6:=Lib.hid hS);clear hS S5 S Hrs Hfo e1;(go_wp2_with fail);(refine (out_any p w.heap.size (wdB d) o6 w6 S6.out.head (by have:=Hxl.out;omega)).mono ?_);(rintro e w7 ⟨xo,xc,rfl,ho,hb7⟩);(have S7:=Lib.hid (S6.out.grow hb7));(have Ho:=Lib.hid ho.sl);clear ho hb7 S6;(go_wp2_with fail);(refine (frame_one Ho.out (by have:=Hxl.out;omega) w7.heap.size rfl).mono ?_);(rintro e w8 ⟨fo,fc,rfl,hof,hb8⟩);(have Hof:=Lib.hid (F.ownC_weak hof S7.out.b.size));(have w8_b:=(S7.out.grow hb8).b);clear hof hb8;(go_wp2_with fail);go_ret2;(refine ⟨w8_b,?_⟩);(rw [if_pos Hm.out]);exact ⟨fo,fc,rfl,Hof.out⟩)
  have t3:(d.kind==3)=false:=by rw [beq_eq_false_iff_ne];exact k3
  ((refine wp_hold fun C HC=>?_);(go_wp2_with fail);(have hC:=HC.out);clear HC;subst hC;(refine wp_cond_false rfl ?_))
  by_cases k4:d.kind=4
  ·have t4:(d.kind==4)=true:=by rw [k4];rfl
   have e1:wdB d=(numsB d++(encS d.sf++encS d.st))++encRow (O.encC d.ch):=by unfold wdB opsB restW;simp [k4]
   have Hok:=Lib.hid (mayW_ch Hm.out k4)
   ((refine wp_hold fun C HC=>?_);(go_wp2_with fail);(have hC:=HC.out);clear HC;subst hC;(refine wp_cond_true rfl ?_))
   ((refine wp_region_lit ?_);(refine wpList_load_row rfl 85 _ rfl B rfl _ _ _ _ ((S.out.pull (A:=[_])).head) Tryz.underlying85 rfl (by rw [hs];kernel_rfl) ?_);(go_wp2_with fail))
   ((have hC:=HCT.out);clear HCT;subst hC;(go_wp2_with fail);(refine (asked_v HV.out w.heap.size Hok.out w3).mono ?_);(rintro e w5 ⟨ro,rc,rfl,hrs,hrf,hb5⟩);(have S5:=Lib.hid (S.out.grow hb5));(have Hrs:=Lib.hid hrs);(have Hfo:=Lib.hid (foot_no Hft.out hrf));clear hrs hrf hb5 Hft;(go_wp2_with fail);(refine (St.rowE S5.out ro rc _ w5.heap.size rfl Hrs.out Hfo.out (by have h1:=Hxl.out;rw [e1] at h1;simp only [encRow,List.length_append] at h1 ⊢;omega)).mono ?_);(rintro e w6 ⟨rfl,o6,hS⟩);(rw [←e1] at hS);(have S6:=Lib.hid hS);clear hS S5 S Hrs Hfo e1;(go_wp2_with fail);(refine (out_any p w.heap.size (wdB d) o6 w6 S6.out.head (by have:=Hxl.out;omega)).mono ?_);(rintro e w7 ⟨xo,xc,rfl,ho,hb7⟩);(have S7:=Lib.hid (S6.out.grow hb7));(have Ho:=Lib.hid ho.sl);clear ho hb7 S6;(go_wp2_with fail);(refine (frame_one Ho.out (by have:=Hxl.out;omega) w7.heap.size rfl).mono ?_);(rintro e w8 ⟨fo,fc,rfl,hof,hb8⟩);(have Hof:=Lib.hid (F.ownC_weak hof S7.out.b.size));(have w8_b:=(S7.out.grow hb8).b);clear hof hb8;(go_wp2_with fail);go_ret2;(refine ⟨w8_b,?_⟩);(rw [if_pos Hm.out]);exact ⟨fo,fc,rfl,Hof.out⟩)
  have t4:(d.kind==4)=false:=by rw [beq_eq_false_iff_ne];exact k4
  ((refine wp_hold fun C HC=>?_);(go_wp2_with fail);(have hC:=HC.out);clear HC;subst hC;(refine wp_cond_false rfl ?_))
  by_cases k5:d.kind=5
  ·have t5:(d.kind==5)=true:=by rw [k5];rfl
   have e1:wdB d=(numsB d++(encS d.sf++encS d.st))++encRow (encO d.op):=by unfold wdB opsB restW;simp [k5]
   have Hok:=Lib.hid (mayW_op Hm.out k5)
   ((refine wp_hold fun C HC=>?_);(go_wp2_with fail);(have hC:=HC.out);clear HC;subst hC;(refine wp_cond_true rfl ?_))
   ((refine wp_region_lit ?_);(refine wpList_load_row rfl 85 _ rfl B rfl _ _ _ _ ((S.out.pull (A:=[_])).head) Tryz.underlying85 rfl (by rw [hs];kernel_rfl) ?_);(go_wp2_with fail))
   ((have hC:=HCT.out);clear HCT;subst hC;(go_wp2_with fail);(refine (called_v HV.out w.heap.size Hok.out w3).mono ?_);(rintro e w5 ⟨ro,rc,rfl,hrs,hrf,hb5⟩);(have S5:=Lib.hid (S.out.grow hb5));(have Hrs:=Lib.hid hrs);(have Hfo:=Lib.hid (foot_no Hft.out hrf));clear hrs hrf hb5 Hft;(go_wp2_with fail);(refine (St.rowE S5.out ro rc _ w5.heap.size rfl Hrs.out Hfo.out (by have h1:=Hxl.out;rw [e1] at h1;simp only [encRow,List.length_append] at h1 ⊢;omega)).mono ?_);(rintro e w6 ⟨rfl,o6,hS⟩);(rw [←e1] at hS);(have S6:=Lib.hid hS);clear hS S5 S Hrs Hfo e1;(go_wp2_with fail);(refine (out_any p w.heap.size (wdB d) o6 w6 S6.out.head (by have:=Hxl.out;omega)).mono ?_);(rintro e w7 ⟨xo,xc,rfl,ho,hb7⟩);(have S7:=Lib.hid (S6.out.grow hb7));(have Ho:=Lib.hid ho.sl);clear ho hb7 S6;(go_wp2_with fail);(refine (frame_one Ho.out (by have:=Hxl.out;omega) w7.heap.size rfl).mono ?_);(rintro e w8 ⟨fo,fc,rfl,hof,hb8⟩);(have Hof:=Lib.hid (F.ownC_weak hof S7.out.b.size));(have w8_b:=(S7.out.grow hb8).b);clear hof hb8;(go_wp2_with fail);go_ret2;(refine ⟨w8_b,?_⟩);(rw [if_pos Hm.out]);exact ⟨fo,fc,rfl,Hof.out⟩)
  have t5:(d.kind==5)=false:=by rw [beq_eq_false_iff_ne];exact k5
  ((refine wp_hold fun C HC=>?_);(go_wp2_with fail);(have hC:=HC.out);clear HC;subst hC;(refine wp_cond_false rfl ?_))
  by_cases k6:d.kind=6
  ·have t6:(d.kind==6)=true:=by rw [k6];rfl
   have e1:wdB d=((numsB d++(encS d.sf++encS d.st))++encs [d.op.kind,d.op.client,d.op.seq])++encRow (encP d.rep):=by unfold wdB opsB restW;simp [k6]
   have Hok:=Lib.hid (mayW_rep Hm.out k6)
   ((refine wp_hold fun C HC=>?_);(go_wp2_with fail);(have hC:=HC.out);clear HC;subst hC;(refine wp_cond_true rfl ?_))
   refine wp_hold fun C HC=>?_
   obtain ⟨c0,c1,c2,c3,c4,c5,c6,c7,c8,c9,c10,c11,c12,c13,c14,c15,c16,c17,c18,c19,c20,c21,c22,c23,c24,c25,c26,c27,c28,c29,c30,c31,c32,c33,c34,c35,c36⟩:=wbox (show w3.heap[B]?=some (.cells (wdV d ms ds) 85 (0,0)) from (by rw [←HV.out];exact (S.out.pull (A:=[_])).head))
   have sB:=(S.out.cellsN 1 rfl).1
   clear c0 c1 c2 c3 c4 c5 c6 c7 c8 c9 c13 c14 c15 c16 c17 c18 c19 c20 c21 c22 c23 c24 c25 c26 c27 c28 c29 c30 c31 c32 c33 c34 c35 c36 Hft
   go_wp2_with fail
   refine (S.out.nums [d.op.kind,d.op.client,d.op.seq] w3.heap.size 3 rfl rfl _ rfl (by simp only [List.length_cons,List.length_nil];omega)).mono ?_
   clear c10 c11 c12 sB
   rintro e w4 ⟨rfl,o4,hS⟩
   have S:=Lib.hid hS
   have Hft:Hid (∀ x,Foot p o4 x→x<w4.heap.size∧w.heap.size≤x):=Lib.hid (fun x hx=>S.out.t.lts _ (List.mem_cons_self ..) x hx)
   clear hS
   go_wp2_with fail
   (have hC:=HC.out);clear HC;subst hC
   ((refine wp_region_lit ?_);(refine wpList_load_row rfl 85 _ rfl B rfl _ _ _ _ ((S.out.pull (A:=[_])).head) Tryz.underlying85 rfl (by rw [hs];kernel_rfl) ?_);(go_wp2_with fail))
   ((have hC:=HCT.out);clear HCT;subst hC;(go_wp2_with fail);(refine (replied_v HV.out w.heap.size Hok.out w4).mono ?_);(rintro e w5 ⟨ro,rc,rfl,hrs,hrf,hb5⟩);(have S5:=Lib.hid (S.out.grow hb5));(have Hrs:=Lib.hid hrs);(have Hfo:=Lib.hid (foot_no Hft.out hrf));clear hrs hrf hb5 Hft;(go_wp2_with fail);(refine (St.rowE S5.out ro rc _ w5.heap.size rfl Hrs.out Hfo.out (by have h1:=Hxl.out;rw [e1] at h1;simp only [encRow,List.length_append] at h1 ⊢;omega)).mono ?_);(rintro e w6 ⟨rfl,o6,hS⟩);(rw [←e1] at hS);(have S6:=Lib.hid hS);clear hS S5 S Hrs Hfo e1;(go_wp2_with fail);(refine (out_any p w.heap.size (wdB d) o6 w6 S6.out.head (by have:=Hxl.out;omega)).mono ?_);(rintro e w7 ⟨xo,xc,rfl,ho,hb7⟩);(have S7:=Lib.hid (S6.out.grow hb7));(have Ho:=Lib.hid ho.sl);clear ho hb7 S6;(go_wp2_with fail);(refine (frame_one Ho.out (by have:=Hxl.out;omega) w7.heap.size rfl).mono ?_);(rintro e w8 ⟨fo,fc,rfl,hof,hb8⟩);(have Hof:=Lib.hid (F.ownC_weak hof S7.out.b.size));(have w8_b:=(S7.out.grow hb8).b);clear hof hb8;(go_wp2_with fail);go_ret2;(refine ⟨w8_b,?_⟩);(rw [if_pos Hm.out]);exact ⟨fo,fc,rfl,Hof.out⟩)
  have t6:(d.kind==6)=false:=by rw [beq_eq_false_iff_ne];exact k6
  ((refine wp_hold fun C HC=>?_);(go_wp2_with fail);(have hC:=HC.out);clear HC;subst hC;(refine wp_cond_false rfl ?_))
  have e1:wdB d=(numsB d++(encS d.sf++encS d.st))++encRow d.data:=by unfold wdB opsB restW;simp [k3,k4,k5,k6]
  go_wp2_with fail
  ((have hC:=HCT.out);clear HCT;subst hC;(go_wp2_with fail);(refine (rest_data HV.out Hds.out w3 (Hsl.out.grow S.out.b) (sl_block Hsl.out)).mono ?_);(rintro e w5 ⟨ro,rc,rfl,hrs,hrf,hb5⟩);(have S5:=Lib.hid (S.out.grow hb5));(have Hrs:=Lib.hid hrs);(have Hfo:=Lib.hid (foot_no Hft.out hrf));clear hrs hrf hb5 Hft;(go_wp2_with fail);(refine (St.rowE S5.out ro rc _ w5.heap.size rfl Hrs.out Hfo.out (by have h1:=Hxl.out;rw [e1] at h1;simp only [encRow,List.length_append] at h1 ⊢;omega)).mono ?_);(rintro e w6 ⟨rfl,o6,hS⟩);(rw [←e1] at hS);(have S6:=Lib.hid hS);clear hS S5 S Hrs Hfo e1;(go_wp2_with fail);(refine (out_any p w.heap.size (wdB d) o6 w6 S6.out.head (by have:=Hxl.out;omega)).mono ?_);(rintro e w7 ⟨xo,xc,rfl,ho,hb7⟩);(have S7:=Lib.hid (S6.out.grow hb7));(have Ho:=Lib.hid ho.sl);clear ho hb7 S6;(go_wp2_with fail);(refine (frame_one Ho.out (by have:=Hxl.out;omega) w7.heap.size rfl).mono ?_);(rintro e w8 ⟨fo,fc,rfl,hof,hb8⟩);(have Hof:=Lib.hid (F.ownC_weak hof S7.out.b.size));(have w8_b:=(S7.out.grow hb8).b);clear hof hb8;(go_wp2_with fail);go_ret2;(refine ⟨w8_b,?_⟩);(rw [if_pos Hm.out]);exact ⟨fo,fc,rfl,Hof.out⟩)
end Go.Proofs.YtogamdaomdoapaaGreat
namespace Go.Proofs.YtogamdaomdoapaaGreat
set_option maxRecDepth 20000
open Go.RowKit
theorem wboxD {w:World} {n:Nat} {d:Wd} {ms ds:Value} (h:w.heap[n]?=some (.cells (wdV d ms ds) 49 (0,0))):WBox w n d ms ds:=wbox h
theorem sl_nil (w:World):F.Sl w none 0 []:=⟨Nat.le_refl _,by decide,fun _=>⟨rfl,rfl⟩,fun h=>absurd h (by simp)⟩
end Go.Proofs.YtogamdaomdoapaaGreat