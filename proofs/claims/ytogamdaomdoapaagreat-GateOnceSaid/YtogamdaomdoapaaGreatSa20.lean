/- Texts put together: OCh, OLp. -/
import Derived.Test.YtogamdaomdoapaaGreatSa10
import Derived.Test.YtogamdaomdoapaaGreatSa18
import Derived.Test.YtogamdaomdoapaaGreatSa19
namespace Go.Proofs.YtogamdaomdoapaaGreat.O
open Go.RowKit
set_option maxRecDepth 20000
def encC (c:Ch):List UInt8:=encs [c.kind,c.zone,c.epoch,c.tt]++encS c.key
def kc (l:List UInt8):List UInt8 × List UInt8 × Bool:=tookOf (rdSt l false 4).1 (rdSt l false 4).2
def decC (l:List UInt8):Ch × Rs:=(⟨rdVal l false 0,rdVal l false 1,rdVal l false 2,rdVal l false 3,txt (kc l).1⟩,(kc l).2)
def goodC (l:List UInt8):Bool:=wholeS (decC l).2&&mayC (decC l).1
theorem mayC_key {c:Ch} (h:mayC c=true):c.key.size≤16:=by
 have hnil:c.key.toList=[]→c.key.size≤16:=fun e=>by rw [size_nil e];omega
 unfold mayC at h
 rw [Bool.and_eq_true] at h
 obtain ⟨-,h⟩:=h
 split at h
 ·rw [decide_eq_true_eq] at h;omega
 ·split at h
  ·rw [decide_eq_true_eq] at h;exact hnil h.2.2
  ·split at h
   ·rw [decide_eq_true_eq] at h;exact hnil h.2.2.2
   ·split at h
    ·rw [decide_eq_true_eq] at h;exact hnil h.2.2.2
    ·cases h
theorem mayC_nums {c:Ch} (h:mayC c=true):numB c.kind∧numB c.zone∧numB c.epoch∧numB c.tt:=by
 unfold mayC at h
 rw [Bool.and_eq_true,decide_eq_true_eq] at h
 obtain ⟨h0,h⟩:=h
 unfold numB
 split at h
 ·rw [decide_eq_true_eq] at h;omega
 ·split at h
  ·rw [decide_eq_true_eq] at h;omega
  ·split at h
   ·rw [decide_eq_true_eq] at h;omega
   ·split at h
    ·rw [decide_eq_true_eq] at h;omega
    ·cases h
theorem decC_enc {c:Ch} (h:mayC c=true):decC (encC c)=(c,[],false):=by
 obtain ⟨h1,h2,h3,h4⟩:=mayC_nums h
 have h5:=mayC_key h
 have e:encC c=encN (clampN c.kind)++(encN (clampN c.zone)++(encN (clampN c.epoch)++(encN (clampN c.tt)++(encRow c.key.data.toList++[])))):=by
  simp only [encC,encS,encs_cons,encs_nil,List.append_nil,List.append_assoc]
 rw [e]
 unfold decC kc
 simp only [rdVal_enc _ _ _ _ (clampN_le _),rdVal_enc0 _ _ _ (clampN_le _),rdSt_enc _ _ _ _ (clampN_le _)]
 rw [rz]
 dsimp only
 rw [tookOf_enc _ _ _ (by rw [Array.length_toList];exact Nat.le_trans h5 (by decide))]
 simp only [h1.cl,h2.cl,h3.cl,h4.cl,txt_of]
def EncCPost (w:World) (c:Ch) (e:Ending) (w':World):Prop:=Below w.heap.size w w' ∧
 if mayC c=true then ∃ ao cap,e=.returned (.tuple #[.slice ao (encC c).length cap,.int .i64 0])∧OwnB w' w.heap.size ao cap (encC c) else e=.returned (.tuple #[.slice none 0 0,.int .i64 1])
set_option maxHeartbeats 4000000 in
theorem pencC_any (c:Ch) (w:World):Calls Tryz.prog 116 #[.agg #[.int .i64 c.kind,.int .i64 c.zone,.int .i64 c.epoch,.int .i64 c.tt,.string c.key]] w (EncCPost w c):=by
 obtain ⟨q,hq⟩:∃ q,q=mayC c:=⟨_,rfl⟩
 have Hmy:=Lib.hid (fun w=>mayC_any c w q hq.symm)
 have Hq:=Lib.hid hq
 have hcv:=conv_bytes
 have Hks:Hid (q=true→c.key.size≤16):=Lib.hid fun h=>mayC_key (by rw [←hq,h])
 clear hq
 obtain ⟨kind,zone,epoch,tt,key⟩:=c
 dsimp only at Hmy Hks ⊢
 cases q with
 | false =>
  go_enter Tryz.func116,Tryz.ntmps116
  go_wp2_with fail
  (refine calls_name fun wa hwa=>?_;have wa_b:Below w.heap.size w wa:=(by rw [hwa];exact bg);clear hwa)
  refine (Hmy.out wa).mono ?_
  (rintro e w1 ⟨rfl,w1_h⟩;obtain ⟨w1_hc,w1_hf⟩:=bcell w1_h;have w1_z:=w1_h.size;have w1_b:=wa_b.trans (w1_h.mono (by have:=wa_b.size;omega));have w1_le:=w1_b.size;clear w1_h)
  go_wp2_with fail
  go_ret2
  unfold EncCPost
  rw [if_neg (by rw [←Hq.out];simp)]
  exact ⟨bg,rfl⟩
 | true =>
  have hks:=Hks.out rfl
  go_enter Tryz.func116,Tryz.ntmps116
  go_wp2_with fail
  have s0:=(St.start w).objN (.cells #[.int .i64 kind,.int .i64 zone,.int .i64 epoch,.int .i64 tt,.string key] 46) w.heap.size rfl
  refine (Hmy.out _).mono ?_
  rintro e w1 ⟨rfl,hb⟩
  have S1:=Lib.hid (s0.grow hb)
  obtain ⟨c1,c2,-⟩:=S1.out.cellsN 0 rfl
  clear s0 hb
  go_wp2_with fail
  have s2:=S1.out.newWr w1.heap.size rfl w.heap.size
  refine (s2.nums [kind,zone,epoch,tt] (w1.heap.size+1) 4 (by simp) rfl _ rfl (by simp)).mono ?_
  rintro e w2 ⟨rfl,o2,hS⟩
  have S3:=Lib.hid hS
  obtain ⟨d1,d2,-⟩:=S3.out.cellsN 1 rfl
  have hl:=encs_length [kind,zone,epoch,tt]
  simp only [List.length_cons,List.length_nil] at hl
  have g1:w.heap.size<w2.heap.size+1:=by omega
  clear s2 hS S1 c1 c2
  go_wp2_with fail
  refine (St.text1 S3.out key (by omega) (w2.heap.size+1) rfl w2.heap.size rfl (by simp only [List.nil_append];omega)).mono ?_
  rintro e w3 ⟨rfl,o3,hS⟩
  obtain ⟨X,hX⟩:∃ X,X=encC ⟨kind,zone,epoch,tt,key⟩:=⟨_,rfl⟩
  have S4:Hid (St w w3 [thWr w1.heap.size w.heap.size X o3,thObj w.heap.size (.cells #[.int .i64 kind,.int .i64 zone,.int .i64 epoch,.int .i64 tt,.string key] 46)]):=by
   rw [hX]
   exact Lib.hid hS
  have hXl:X.length≤140737488351232:=by
   rw [hX]
   have:=encS_length key
   unfold encC
   rw [List.length_append]
   dsimp only
   omega
  have HX:=Lib.hid hX
  clear S3 hS d1 d2 g1 hX hl
  go_wp2_with fail
  refine (out_any w1.heap.size w.heap.size X o3 w3 S4.out.head hXl).mono ?_
  rintro e w5 ⟨ao,cap,rfl,ho,hb⟩
  have Ho:=Lib.hid (own_weak ho S4.out.b.size)
  have Hb:=Lib.hid (S4.out.grow hb).b
  clear ho hb
  go_wp2_with fail
  go_ret2
  unfold EncCPost
  rw [if_pos Hq.out.symm,←HX.out]
  exact ⟨Hb.out,ao,cap,rfl,Ho.out⟩
set_option maxHeartbeats 4000000 in
theorem rencC_any (c:Ch) (w:World):Calls Tryz.prog 92 #[.agg #[.int .i64 c.kind,.int .i64 c.zone,.int .i64 c.epoch,.int .i64 c.tt,.string c.key]] w (EncCPost w c):=by
 obtain ⟨i0,hii,hz0,hz1,hz2⟩:=info_parts byteInfo
 obtain ⟨q,hq⟩:∃ q,q=mayC c:=⟨_,rfl⟩
 have Hmy:=Lib.hid (fun w=>rmayC_any c w q hq.symm)
 have Hq:=Lib.hid hq
 have hcv:=conv_bytes
 have Hks:Hid (q=true→c.key.size≤16):=Lib.hid fun h=>mayC_key (by rw [←hq,h])
 clear hq
 obtain ⟨kind,zone,epoch,tt,key⟩:=c
 dsimp only at Hmy Hks ⊢
 cases q with
 | false =>
  go_enter Tryz.func92,Tryz.ntmps92
  go_wp2_with fail
  (refine calls_name fun wa hwa=>?_;have wa_b:Below w.heap.size w wa:=(by rw [hwa];exact bg);clear hwa)
  refine (Hmy.out wa).mono ?_
  (rintro e w1 ⟨rfl,w1_h⟩;obtain ⟨w1_hc,w1_hf⟩:=bcell w1_h;have w1_z:=w1_h.size;have w1_b:=wa_b.trans (w1_h.mono (by have:=wa_b.size;omega));have w1_le:=w1_b.size;clear w1_h)
  go_wp2_with fail
  go_ret2
  unfold EncCPost
  rw [if_neg (by rw [←Hq.out];simp)]
  exact ⟨bg,rfl⟩
 | true =>
  have hks:=Hks.out rfl
  go_enter Tryz.func92,Tryz.ntmps92
  go_wp2_with fail
  have s0:=(St.start w).objN (.cells #[.int .i64 kind,.int .i64 zone,.int .i64 epoch,.int .i64 tt,.string key] 46) w.heap.size rfl
  refine (Hmy.out _).mono ?_
  rintro e w1 ⟨rfl,hb⟩
  have S1:=Lib.hid (s0.grow hb)
  clear s0 hb
  go_wp2_with fail
  refine wp_name fun wa hwa=>?_
  subst hwa
  obtain ⟨wd,hwd⟩:∃ wd,wd=wa.drew:=⟨_,rfl⟩
  have S2:Hid (St w wd [thObj w.heap.size (.cells #[.int .i64 kind,.int .i64 zone,.int .i64 epoch,.int .i64 tt,.string key] 46)]):=by rw [hwd];exact Lib.hid (S1.out.grow (Below.refl _ _).drew)
  have Hsu:Hid (∀ w',Below wd.heap.size wd w'→(fun W:World=>W.cell? ⟨w.heap.size,0,none⟩=some (.int .i64 kind)∧W.cell? ⟨w.heap.size,1,none⟩=some (.int .i64 zone)∧W.cell? ⟨w.heap.size,2,none⟩=some (.int .i64 epoch)∧W.cell? ⟨w.heap.size,3,none⟩=some (.int .i64 tt)∧W.cell? ⟨w.heap.size,4,none⟩=some (.string key)∧w.heap.size<W.heap.size) w'):=Lib.hid fun w' hb=>by
   obtain ⟨c1,c2,-⟩:=(S2.out.grow hb).cellsN 0 rfl
   exact ⟨c2 0,c2 1,c2 2,c2 3,c2 4,c1⟩
  have HC:=Lib.hid (Hsu.out wd (Below.refl _ _))
  obtain ⟨q1,hq1⟩:∃ q1,q1=encs [kind,zone,epoch,tt]:=⟨_,rfl⟩
  have Hq1:=Lib.hid hq1
  have hql1:q1.length≤40:=by rw [hq1];exact encs_length _
  obtain ⟨q2,hq2⟩:∃ q2,q2=encS key:=⟨_,rfl⟩
  have hql2:q2.length≤26:=by rw [hq2];have:=encS_length key;omega
  have hst:=fun w3 gg cp (ha:BAt w3 (some ⟨gg,0,none⟩) key.data.toList)=>refBytes_str key gg cp w3 ha (by rw [Array.length_toList];exact Nat.le_trans hks (by decide))
  rw [←hq2] at hst
  have Hst:=Lib.hid hst
  have HX:Hid (encC ⟨kind,zone,epoch,tt,key⟩=q1++q2):=by unfold encC;rw [hq1,hq2];exact Lib.hid rfl
  clear hq1 hq2 hst
  refine wp_region_noPanic ?_
  refine wp_region_held (S:=(fun W:World=>W.cell? ⟨w.heap.size,0,none⟩=some (.int .i64 kind)∧W.cell? ⟨w.heap.size,1,none⟩=some (.int .i64 zone)∧W.cell? ⟨w.heap.size,2,none⟩=some (.int .i64 epoch)∧W.cell? ⟨w.heap.size,3,none⟩=some (.int .i64 tt)∧W.cell? ⟨w.heap.size,4,none⟩=some (.string key)∧w.heap.size<W.heap.size)) (by kernel_rfl) ?_
  change wpAnyH _ _ _ _ _ _ _ _ (World.drew _)
  rw [←hwd]
  clear hwd S1
  (refine takeD (i:=0) (v:=?v0x7) 7 rfl rfl (by kernel_rfl) (by kernel_rfl) (by kernel_rfl) (fun _ _ _ h=>h) (Or.inl ⟨by rfl,?hy0x7⟩) HC.out ?rest0x7;(case hy0x7=>(intro w hSw;(obtain ⟨t0,t1,t2,t3,t4,t5⟩:=hSw);go_simp;(try with_reducible rfl)));(try simp only [Act.put,List.setIfInBounds_toArray,List.set_cons_zero,List.set_cons_succ]))
  (refine takeD (i:=1) (v:=?v1x8) 8 rfl rfl (by kernel_rfl) (by kernel_rfl) (by kernel_rfl) (fun _ _ _ h=>h) (Or.inl ⟨by rfl,?hy1x8⟩) HC.out ?rest1x8;(case hy1x8=>(intro w hSw;(obtain ⟨t0,t1,t2,t3,t4,t5⟩:=hSw);go_simp;(try with_reducible rfl)));(try simp only [Act.put,List.setIfInBounds_toArray,List.set_cons_zero,List.set_cons_succ]))
  (refine takeD (i:=2) (v:=?v2x9) 9 rfl rfl (by kernel_rfl) (by kernel_rfl) (by kernel_rfl) (fun _ _ _ h=>h) (Or.inl ⟨by rfl,?hy2x9⟩) HC.out ?rest2x9;(case hy2x9=>(intro w hSw;(obtain ⟨t0,t1,t2,t3,t4,t5⟩:=hSw);go_simp;(try with_reducible rfl)));(try simp only [Act.put,List.setIfInBounds_toArray,List.set_cons_zero,List.set_cons_succ]))
  (refine takeD (i:=3) (v:=?v3x10) 10 rfl rfl (by kernel_rfl) (by kernel_rfl) (by kernel_rfl) (fun _ _ _ h=>h) (Or.inl ⟨by rfl,?hy3x10⟩) HC.out ?rest3x10;(case hy3x10=>(intro w hSw;(obtain ⟨t0,t1,t2,t3,t4,t5⟩:=hSw);go_simp;(try with_reducible rfl)));(try simp only [Act.put,List.setIfInBounds_toArray,List.set_cons_zero,List.set_cons_succ]))
  (refine takeD (i:=4) (v:=?v4x11) 11 rfl rfl (by kernel_rfl) (by kernel_rfl) (by kernel_rfl) (fun _ _ _ h=>h) (Or.inl ⟨by rfl,?hy4x11⟩) HC.out ?rest4x11;(case hy4x11=>(intro w hSw;(obtain ⟨t0,t1,t2,t3,t4,t5⟩:=hSw);go_simp;(try with_reducible rfl)));(try simp only [Act.put,List.setIfInBounds_toArray,List.set_cons_zero,List.set_cons_succ]))
  (refine takeD (i:=5) (v:=?v5x12) 12 rfl rfl (by kernel_rfl) (by kernel_rfl) (by kernel_rfl) (fun _ _ _ h=>h) (Or.inl ⟨by rfl,?hy5x12⟩) HC.out ?rest5x12;(case hy5x12=>(intro w hSw;(obtain ⟨t0,t1,t2,t3,t4,t5⟩:=hSw);go_simp;(try with_reducible rfl)));(try simp only [Act.put,List.setIfInBounds_toArray,List.set_cons_zero,List.set_cons_succ]))
  (refine takeD (i:=6) (v:=?v6x13) 13 rfl rfl (by kernel_rfl) (by kernel_rfl) (by kernel_rfl) (fun _ _ _ h=>h) (Or.inl ⟨by rfl,?hy6x13⟩) HC.out ?rest6x13;(case hy6x13=>(intro w hSw;(obtain ⟨t0,t1,t2,t3,t4,t5⟩:=hSw);go_simp;(try with_reducible rfl)));(try simp only [Act.put,List.setIfInBounds_toArray,List.set_cons_zero,List.set_cons_succ]))
  (refine takeD (i:=7) (v:=?v7x14) 14 rfl rfl (by kernel_rfl) (by kernel_rfl) (by kernel_rfl) (fun _ _ _ h=>h) (Or.inl ⟨by rfl,?hy7x14⟩) HC.out ?rest7x14;(case hy7x14=>(intro w hSw;(obtain ⟨t0,t1,t2,t3,t4,t5⟩:=hSw);go_simp;(try with_reducible rfl)));(try simp only [Act.put,List.setIfInBounds_toArray,List.set_cons_zero,List.set_cons_succ]))
  (refine takeD (i:=10) (v:=?v10x17) 17 rfl rfl (by kernel_rfl) (by kernel_rfl) (by kernel_rfl) (fun _ _ _ h=>h) (Or.inl ⟨by rfl,?hy10x17⟩) HC.out ?rest10x17;(case hy10x17=>(intro w hSw;(obtain ⟨t0,t1,t2,t3,t4,t5⟩:=hSw);go_simp;(try with_reducible rfl)));(try simp only [Act.put,List.setIfInBounds_toArray,List.set_cons_zero,List.set_cons_succ]))
  (refine takeD (i:=11) (v:=?v11x18) 18 rfl rfl (by kernel_rfl) (by kernel_rfl) (by kernel_rfl) (fun _ _ _ h=>h) (Or.inl ⟨by rfl,?hy11x18⟩) HC.out ?rest11x18;(case hy11x18=>(intro w hSw;(obtain ⟨t0,t1,t2,t3,t4,t5⟩:=hSw);go_simp;(try with_reducible rfl)));(try simp only [Act.put,List.setIfInBounds_toArray,List.set_cons_zero,List.set_cons_succ]))
  (refine wpAnyH_all (rs:=[8,12]) (by kernel_rfl) (by simp) (fun i' hi'=>?_);(have hi2:i'=8∨i'=12:=by simpa using hi');clear hi';(rcases hi2 with rfl | rfl))
  case' inr =>
   refine wpOp_step rfl (fun K' hK'=>?_)
   go_simp
   (refine hK' _ _ ⟨Hsu.out _ (bytesWorld_below _ _),?_⟩;clear hK' K';try simp only [Act.put,List.setIfInBounds_toArray,List.set_cons_zero,List.set_cons_succ])
   have bat:=bytesWorld_bat wd key
   (refine wpAnyH_all (rs:=[8]) (by kernel_rfl) (by simp) (fun i' hi'=>?_);(obtain rfl:i'=8:=by simpa using hi');clear hi';(refine wpOp_step rfl (fun K' hK'=>?_)))
   go_simp
   (refine hK' _ _ ⟨Hsu.out _ ((bytesWorld_below _ _).trans ((below_allocO _ _).mono (by rw [bytesWorld_sz];omega))),?_⟩;clear hK' K';try simp only [Act.put,List.setIfInBounds_toArray,List.set_cons_zero,List.set_cons_succ])
   (refine wpAnyH_all (rs:=[9]) (by kernel_rfl) (by simp) (fun i' hi'=>?_);(obtain rfl:i'=9:=by simpa using hi');clear hi';(refine wpOp_step rfl (fun K' hK'=>?_)))
   go_simp
   refine (refNums_eqO [kind,zone,epoch,tt] (Lib.bytesWorld wd 5 key) (wd.heap.size+1) 4 _ (by rw [bytesWorld_sz]) rfl rfl (by simp) q1 Hq1.out.symm).mono ?_
   rintro e w3 ⟨co1,cc1,rfl,ho1,hb3⟩
   have hb:=(bytesWorld_below wd key).trans (hb3.mono (by rw [bytesWorld_sz];omega))
   (refine hK' _ _ ⟨Hsu.out _ (hb),?_⟩;clear hK' K';try simp only [Act.put,List.setIfInBounds_toArray,List.set_cons_zero,List.set_cons_succ])
   (refine wpAnyH_all (rs:=[13]) (by kernel_rfl) (by simp) (fun i' hi'=>?_);(obtain rfl:i'=13:=by simpa using hi');clear hi';(refine wpOp_step rfl (fun K' hK'=>?_)))
   go_simp
   refine (Hst.out w3 _ _ (bat.below hb3)).mono ?_
   rintro e w4 ⟨co2,cc2,rfl,ho2,hb4⟩
   have ho1:=own_growO (own_weak ho1 (show wd.heap.size≤_ by rw [bytesWorld_sz];omega)) hb4
   have ho2:=own_weak ho2 hb.size
   have hb:=hb.trans (hb4.mono hb.size)
   clear bat hb3 hb4
   (refine hK' _ _ ⟨Hsu.out _ (hb),?_⟩;clear hK' K';try simp only [Act.put,List.setIfInBounds_toArray,List.set_cons_zero,List.set_cons_succ])
  case' inl =>
   refine wpOp_step rfl (fun K' hK'=>?_)
   go_simp
   (refine hK' _ _ ⟨Hsu.out _ (below_allocO _ _),?_⟩;clear hK' K';try simp only [Act.put,List.setIfInBounds_toArray,List.set_cons_zero,List.set_cons_succ])
   (refine wpAnyH_all (rs:=[9,12]) (by kernel_rfl) (by simp) (fun i' hi'=>?_);(have hi2:i'=9∨i'=12:=by simpa using hi');clear hi';(rcases hi2 with rfl | rfl))
  case' inl.inl =>
   refine wpOp_step rfl (fun K' hK'=>?_)
   go_simp
   refine (refNums_eqO [kind,zone,epoch,tt] wd wd.heap.size 4 _ rfl rfl rfl (by simp) q1 Hq1.out.symm).mono ?_
   rintro e w3 ⟨co1,cc1,rfl,ho1,hb⟩
   (refine hK' _ _ ⟨Hsu.out _ (hb),?_⟩;clear hK' K';try simp only [Act.put,List.setIfInBounds_toArray,List.set_cons_zero,List.set_cons_succ])
   (refine wpAnyH_all (rs:=[12]) (by kernel_rfl) (by simp) (fun i' hi'=>?_);(obtain rfl:i'=12:=by simpa using hi');clear hi';(refine wpOp_step rfl (fun K' hK'=>?_)))
   go_simp
   have bat:=bytesWorld_bat w3 key
   (refine hK' _ _ ⟨Hsu.out _ (hb.trans ((bytesWorld_below _ _).mono hb.size)),?_⟩;clear hK' K';try simp only [Act.put,List.setIfInBounds_toArray,List.set_cons_zero,List.set_cons_succ])
   (refine wpAnyH_all (rs:=[13]) (by kernel_rfl) (by simp) (fun i' hi'=>?_);(obtain rfl:i'=13:=by simpa using hi');clear hi';(refine wpOp_step rfl (fun K' hK'=>?_)))
   go_simp
   refine (Hst.out _ _ _ bat).mono ?_
   rintro e w4 ⟨co2,cc2,rfl,ho2,hb4⟩
   have ho1:=own_growO (own_growO ho1 (bytesWorld_below w3 key)) hb4
   have hbs:=hb.size
   have ho2:=own_weak ho2 (show wd.heap.size≤_ by rw [bytesWorld_sz];omega)
   have hb:=(hb.trans ((bytesWorld_below w3 key).mono hb.size)).trans (hb4.mono (by rw [bytesWorld_sz];omega))
   clear bat hb4 hbs
   (refine hK' _ _ ⟨Hsu.out _ (hb),?_⟩;clear hK' K';try simp only [Act.put,List.setIfInBounds_toArray,List.set_cons_zero,List.set_cons_succ])
  case' inl.inr =>
   refine wpOp_step rfl (fun K' hK'=>?_)
   go_simp
   have bat:=bytesWorld_bat (wd.alloc (.cells #[.int .i64 kind,.int .i64 zone,.int .i64 epoch,.int .i64 tt] 3)) key
   have bbw:=bytesWorld_below (wd.alloc (.cells #[.int .i64 kind,.int .i64 zone,.int .i64 epoch,.int .i64 tt] 3)) key
   have hb0:Below wd.heap.size wd (Lib.bytesWorld (wd.alloc (.cells #[.int .i64 kind,.int .i64 zone,.int .i64 epoch,.int .i64 tt] 3)) 5 key):=(below_allocO _ _).trans (bbw.mono (by simp))
   (refine hK' _ _ ⟨Hsu.out _ (hb0),?_⟩;clear hK' K';try simp only [Act.put,List.setIfInBounds_toArray,List.set_cons_zero,List.set_cons_succ])
   (refine wpAnyH_all (rs:=[9]) (by kernel_rfl) (by simp) (fun i' hi'=>?_);(obtain rfl:i'=9:=by simpa using hi');clear hi';(refine wpOp_step rfl (fun K' hK'=>?_)))
   go_simp
   refine (refNums_in [kind,zone,epoch,tt] _ wd.heap.size 4 _ ((bbw.block wd.heap.size (by simp)).trans (heap_new wd _)) rfl rfl (by simp) q1 Hq1.out.symm).mono ?_
   rintro e w3 ⟨co1,cc1,rfl,ho1,hb3⟩
   have hb:=hb0.trans (hb3.mono hb0.size)
   (refine hK' _ _ ⟨Hsu.out _ (hb),?_⟩;clear hK' K';try simp only [Act.put,List.setIfInBounds_toArray,List.set_cons_zero,List.set_cons_succ])
   (refine wpAnyH_all (rs:=[13]) (by kernel_rfl) (by simp) (fun i' hi'=>?_);(obtain rfl:i'=13:=by simpa using hi');clear hi';(refine wpOp_step rfl (fun K' hK'=>?_)))
   go_simp
   refine (Hst.out w3 _ _ ((by simpa using bat:BAt _ (some ⟨wd.heap.size+1,0,none⟩) key.data.toList).below hb3)).mono ?_
   rintro e w4 ⟨co2,cc2,rfl,ho2,hb4⟩
   have ho1:=own_growO (own_weak ho1 hb0.size) hb4
   have ho2:=own_weak ho2 hb.size
   have hb:=hb.trans (hb4.mono hb.size)
   clear bat bbw hb0 hb3 hb4
   (refine hK' _ _ ⟨Hsu.out _ (hb),?_⟩;clear hK' K';try simp only [Act.put,List.setIfInBounds_toArray,List.set_cons_zero,List.set_cons_succ])
  all_goals
   have hbs:=hb.size
   (refine wpAnyH_all (rs:=[14]) (by kernel_rfl) (by simp) (fun i' hi'=>?_);(obtain rfl:i'=14:=by simpa using hi');clear hi';(refine wpOp_step rfl (fun K' hK'=>?_)))
   refine step_append_any _ rfl (.tmp 16) (.tmp 20) 47 rfl wd.heap.size 5 i0 (.int .u8 0) 1 1 Tryz.underlying47 hii hz0 hz1 hz2 rfl (by decide) (.slice co1 q1.length cc1) q1.length (bytV q1) rfl ho1 co2 q2.length cc2 (bytV q2) rfl ho2.none (by rw [bytV_length,Nat.mul_one]) ho2.at.cells (bytV_one _) (by unfold maxLen;omega) (by omega) hbs ?_
   intro vv w5 hown hgrow
   have hb5:=below_grown hb hbs hgrow (fun j hj=>own_block ho1 hj)
   obtain ⟨bo,bc,rfl,ho3⟩:=owned_bytes (l:=q1++q2) (by rw [←bytV_append];exact hown) (by rw [List.length_append])
   refine hK' _ _ ⟨Hsu.out _ hb5,?_⟩
   clear hK' K' hown hgrow ho1 ho2
   have HC5:=Lib.hid (Hsu.out _ hb5)
   have Ho:=Lib.hid ho3
   have HB:=Lib.hid (S2.out.grow hb5).b
   have hw5:=S2.out.b.size
   clear hb hb5 hbs ho3
   try simp only [Act.put,List.setIfInBounds_toArray]
   refine takeD (i:=15) (v:=.slice bo (q1++q2).length bc) 2 rfl rfl (by kernel_rfl) (by kernel_rfl) (by kernel_rfl) (fun _ _ _ h=>h) (Or.inl ⟨by rfl,?_⟩) HC5.out ?_
   ·intro w _
    go_simp
   try simp only [Act.put]
   refine takeD (i:=16) (v:=.int .i64 0) 3 rfl rfl (by kernel_rfl) (by kernel_rfl) (by kernel_rfl) (fun _ _ _ h=>h) (Or.inl ⟨by rfl,?_⟩) HC5.out ?_
   ·intro w _
    go_simp
   try simp only [Act.put]
   refine wpAnyH_done (by kernel_rfl) ?_ _
   refine NoPanic.normal ?_
   go_wp2_with fail
   go_ret2
   unfold EncCPost
   rw [if_pos Hq.out.symm,HX.out]
   exact ⟨HB.out,bo,bc,by rw [List.length_append];rfl,own_weak Ho.out hw5⟩
def DecCPost (w:World) (l:List UInt8) (good bad:Value) (e:Ending) (w':World):Prop:=Below w.heap.size w w' ∧
 if goodC l=true then e=.returned (.tuple #[.agg #[.int .i64 ((decC l).1).kind,.int .i64 ((decC l).1).zone,.int .i64 ((decC l).1).epoch,.int .i64 ((decC l).1).tt,.string ((decC l).1).key],good]) else e=.returned (.tuple #[.agg #[.int .i64 0,.int .i64 0,.int .i64 0,.int .i64 0,.string ⟨#[]⟩],bad])
theorem decC_is (l:List UInt8):∃ k z ep t key r b r2 b2,rdVal l false 0=k∧rdVal l false 1=z∧rdVal l false 2=ep∧rdVal l false 3=t∧rdSt l false 4=(r,b)∧tookOf r b=(key,r2,b2)∧r.length≤l.length∧r2.length≤l.length∧decC l=(⟨(k:Nat),(z:Nat),(ep:Nat),(t:Nat),txt key⟩,r2,b2):=by
 obtain ⟨r,b,e4⟩:∃ x y,rdSt l false 4=(x,y):=⟨_,_,rfl⟩
 obtain ⟨key,r2,b2,e5⟩:∃ n x y,tookOf r b=(n,x,y):=⟨_,_,_,eta3 _⟩
 have l4:r.length≤l.length:=by have:=rdSt_le l false 4;rw [e4] at this;exact this
 obtain ⟨k5,l5⟩:=took_len e5
 have a5:kc l=(key,r2,b2):=by unfold kc;rw [e4];exact e5
 exact ⟨_,_,_,_,key,r,b,r2,b2,rfl,rfl,rfl,rfl,e4,e5,l4,by omega,by unfold decC;rw [a5]⟩
set_option maxHeartbeats 4000000 in
theorem pdecC_any (ao:Option Addr) (cap:Nat) (l:List UInt8) (w:World) (h0:ao=none→l.length=0∧cap=0) (ha:BAt w ao l) (hm:l.length≤2000) :
 Calls Tryz.prog 85 #[.slice ao l.length cap] w (DecCPost w l (.int .i64 0) (.int .i64 3)):=by
 have Ha:=Lib.hid ha
 have H0:=Lib.hid h0
 clear ha h0
 obtain ⟨k,z,ep,t,key,r,b,r2,b2,e0,e1,e2,e3,e4,e5,l4,l5,e6⟩:=decC_is l
 have He:=Lib.hid (⟨e0,e1,e2,e3,e4,e5,e6⟩:_∧_∧_∧_∧_∧_∧_)
 clear e0 e1 e2 e3 e4 e5 e6
 go_enter Tryz.func85,Tryz.ntmps85
 go_wp2_with fail
 have S0:Hid (St w _ [thObj (w.heap.size+1) (.cells #[.int .i64 0,.int .i64 0,.int .i64 0,.int .i64 0,.string ⟨#[]⟩] 46),thObj w.heap.size (.cells #[.int .i64 0,.int .i64 0,.int .i64 0,.int .i64 0,.string ⟨#[]⟩] 46)]):=((St.start w).objN (.cells #[.int .i64 0,.int .i64 0,.int .i64 0,.int .i64 0,.string ⟨#[]⟩] 46) w.heap.size rfl).objN (.cells #[.int .i64 0,.int .i64 0,.int .i64 0,.int .i64 0,.string ⟨#[]⟩] 46) (w.heap.size+1) (by simp)
 refine (newReader_any ao cap l _ H0.out (Ha.out.below S0.out.b) (by omega)).mono ?_
 rintro e w1 ⟨p,g,rfl,hr,hb,hp,hg⟩
 have S1:=Lib.hid (S0.out.newRd hr hb hp hg)
 clear S0 hr hb hp hg
 go_wp2_with fail
 refine (St.readNums (O:=[(w.heap.size+1,#[.int .i64 0,.int .i64 0,.int .i64 0,.int .i64 0,.string ⟨#[]⟩],46),(w.heap.size,#[.int .i64 0,.int .i64 0,.int .i64 0,.int .i64 0,.string ⟨#[]⟩],46)]) (L:=[]) S1.out (by omega) [(0,0),(0,1),(0,2),(0,3)] ?_ w1.heap.size 4 rfl rfl (by simp) _ _ rfl).mono ?_
 ·intro q hq
  simp only [List.mem_cons,List.not_mem_nil,or_false] at hq
  rcases hq with rfl | rfl | rfl | rfl<;>exact ⟨_,_,rfl,rfl⟩
 rintro e w2 ⟨rfl,hS⟩
 have S2:Hid (St w w2 [thRd p g r b,thObj (w.heap.size+1) (.cells #[.int .i64 (k:Nat),.int .i64 (z:Nat),.int .i64 (ep:Nat),.int .i64 (t:Nat),.string ⟨#[]⟩] 46),thObj w.heap.size (.cells #[.int .i64 0,.int .i64 0,.int .i64 0,.int .i64 0,.string ⟨#[]⟩] 46)]):=by
  obtain ⟨e0,e1,e2,e3,e4,e5,e6⟩:=He.out
  rw [←e0,←e1,←e2,←e3]
  have h:=hS
  rw [e4] at h
  exact Lib.hid h
 clear hS S1
 go_wp2_with fail
 have hcall:=St.readBytes S2.out (by omega)
 rw [He.out.2.2.2.2.2.1] at hcall
 refine hcall.mono ?_
 rintro e w3 ⟨yo,yc,rfl,ho,hS⟩
 have T:=Lib.hid hS
 obtain ⟨c1,c2,c3⟩:=T.out.cellsN 1 rfl
 have hcv:=conv_str ho.at yc
 clear hcall hS S2 ho
 go_wp2_with fail
 have S3:Hid (St w (w3.setCell ⟨w.heap.size+1,4,none⟩ (.string ⟨key.toArray⟩)) [thRd p g r2 b2,thObj (w.heap.size+1) (.cells #[.int .i64 (k:Nat),.int .i64 (z:Nat),.int .i64 (ep:Nat),.int .i64 (t:Nat),.string ⟨key.toArray⟩] 46),thObj w.heap.size (.cells #[.int .i64 0,.int .i64 0,.int .i64 0,.int .i64 0,.string ⟨#[]⟩] 46)]):=Lib.hid (((T.out.pull (A:=[_])).setObj 4 (.string ⟨key.toArray⟩)).pull (A:=[_]))
 clear T c1 c2 c3 hcv
 (have HW:Hid (wholeS (decC l).2=(!b2&&r2.isEmpty)):=(by rw [He.out.2.2.2.2.2.2];exact Lib.hid rfl));(have HM:Hid ((decC l).1=⟨(k:Nat),(z:Nat),(ep:Nat),(t:Nat),txt key⟩):=(by rw [He.out.2.2.2.2.2.2];exact Lib.hid rfl));(have hwh:=(whole_any p g r2 b2 _ S3.out.head (by omega)));(obtain ⟨q,hq⟩:∃ q,q=(!b2&&r2.isEmpty):=⟨_,rfl⟩);(rw [←hq] at hwh HW);clear hq;(obtain ⟨qm,hqm⟩:∃ qm,qm=mayC ⟨(k:Nat),(z:Nat),(ep:Nat),(t:Nat),txt key⟩:=⟨_,rfl⟩);(have hmay:=fun w=>mayC_any ⟨(k:Nat),(z:Nat),(ep:Nat),(t:Nat),txt key⟩ w qm hqm.symm);(have HG:Hid (goodC l=(q&&qm)):=(by unfold goodC;rw [HW.out,HM.out,hqm];exact Lib.hid rfl));(dsimp only at hmay);(have Hmay:=Lib.hid hmay);clear hqm hmay;(obtain ⟨u1,u2,u3⟩:=S3.out.cellsN 2 rfl);(obtain ⟨x1,x2,x3⟩:=S3.out.cellsN 1 rfl);(have wr_b:=S3.out.b);(refine hwh.mono ?_);(rintro e w4 ⟨rfl,hww⟩);(subst hww);clear hwh;(cases q);(focus ((go_wp2_with fail);exact bodyPost_ret (v:=.tuple #[.agg #[.int .i64 0,.int .i64 0,.int .i64 0,.int .i64 0,.string ⟨#[]⟩],.int .i64 3]) (by simp only [results,Tryz.results85];go_simp) rfl ⟨bg,by rw [if_neg (by rw [HG.out];simp)]⟩));(focus ((go_wp2_with fail);(refine (Hmay.out _).mono ?_);(rintro e w5 ⟨rfl,hb5⟩);(have S4:=Lib.hid (S3.out.grow hb5));(have w5_b:=S4.out.b);(obtain ⟨u1,u2,u3⟩:=S4.out.cellsN 2 rfl);(obtain ⟨x1,x2,x3⟩:=S4.out.cellsN 1 rfl);clear hb5 S3;(cases qm);(focus ((go_wp2_with fail);exact bodyPost_ret (v:=.tuple #[.agg #[.int .i64 0,.int .i64 0,.int .i64 0,.int .i64 0,.string ⟨#[]⟩],.int .i64 3]) (by simp only [results,Tryz.results85];go_simp) rfl ⟨bg,by rw [if_neg (by rw [HG.out];simp)]⟩));(focus ((go_wp2_with fail);refine bodyPost_ret (v:=.tuple #[.agg #[.int .i64 (k:Nat),.int .i64 (z:Nat),.int .i64 (ep:Nat),.int .i64 (t:Nat),.string ⟨key.toArray⟩],.int .i64 0]) (by simp only [results,Tryz.results85];go_simp) rfl ⟨bg,?_⟩;(rw [if_pos (show goodC l=true from HG.out),HM.out]);rfl))))
end Go.Proofs.YtogamdaomdoapaaGreat.O
namespace Go.Proofs.YtogamdaomdoapaaGreat.O
open Go.RowKit
set_option maxRecDepth 20000
theorem size_data (s:ByteArray):s.data.toList.length=s.size:=by rw [Array.length_toList];rfl
theorem mayM_MB {m:Mp} (h:mayM m=true) (hs:SzB m):MB m:=by
 have h':=h
 unfold mayM at h'
 simp only [Bool.and_eq_true,decide_eq_true_eq] at h'
 obtain ⟨⟨h1,h2,h3,h4,h5⟩,h6,-⟩:=h'
 refine ⟨⟨by omega,by omega⟩,⟨by omega,by omega⟩,by omega,fun z hz=>?_⟩
 obtain ⟨i,hi,rfl⟩:=List.mem_iff_getElem.1 hz
 obtain ⟨a1,a2⟩:=zone_at h6 hi
 have hsz:=hs.2 _ hz
 have a1':=a1
 unfold headB at a1'
 rw [decide_eq_true_eq] at a1'
 obtain ⟨b1,b2,-,b4,b5,b6,b7⟩:=a1'
 have hk:(0≤m.zs[i].pend∧m.zs[i].pend≤3)∧(0≤m.zs[i].tt∧m.zs[i].tt≤1048576)∧(0≤m.zs[i].nw∧m.zs[i].nw≤1099511627776):=by
  unfold kindB at a2
  split at a2
  ·rw [decide_eq_true_eq] at a2;omega
  ·split at a2
   ·rw [decide_eq_true_eq] at a2;omega
   ·split at a2
    ·unfold splitsB at a2
     simp only [Bool.and_eq_true,decide_eq_true_eq] at a2
     omega
    ·split at a2
     ·unfold mergesB at a2
      cases hf:findZ m.zs m.zs[i].nw with
      | none=>rw [hf] at a2;cases a2
      | some j =>
       rw [hf] at a2
       simp only [Bool.and_eq_true,decide_eq_true_eq] at a2
       obtain ⟨y,hy,hyid,-⟩:=find_some hf
       obtain ⟨hjl,hje⟩:=List.getElem?_eq_some_iff.1 hy
       have hj:=(zone_at h6 hjl).1
       unfold headB at hj
       rw [decide_eq_true_eq,hje,hyid] at hj
       omega
     ·cases a2
 refine ⟨⟨by omega,by omega⟩,⟨by omega,by omega⟩,⟨by omega,by omega⟩,⟨by omega,by omega⟩,⟨by omega,by omega⟩,⟨by omega,by omega⟩,?_,?_,?_⟩
 ·rw [size_data];omega
 ·rw [size_data];omega
 ·rw [size_data];omega
theorem good_enc {m:Mp} (h:mayM m=true) (hs:SzB m):goodM (encM m)=true∧(decM (encM m)).1=m:=by
 have e:=dec_enc (mayM_MB h hs)
 unfold goodM
 rw [e]
 exact ⟨by rw [h];rfl,rfl⟩
theorem goodC_enc {c:Ch} (h:mayC c=true):goodC (encC c)=true∧(decC (encC c)).1=c:=by
 have e:=decC_enc h
 unfold goodC
 rw [e]
 exact ⟨by rw [h];rfl,rfl⟩
def xM (l:List UInt8):Mp:=if goodM l=true then (decM l).1 else ⟨0,0,[]⟩
def eM (l:List UInt8):Int:=if goodM l=true then 0 else 3
def xC (l:List UInt8):Ch:=if goodC l=true then (decC l).1 else ⟨0,0,0,0,⟨#[]⟩⟩
def eC (l:List UInt8):Int:=if goodC l=true then 0 else 3
def xE (c:Ch):List UInt8:=if mayC c=true then encC c else []
theorem decM_one {w:World} {l:List UInt8} {e:Ending} {w':World} (h:DecMPost w l (.int .i64 0) (.int .i64 3) e w'):Below w.heap.size w w'∧∃ zo zc,e=.returned (.tuple #[.agg #[.int .i64 (xM l).ver,.int .i64 (xM l).next,.slice zo (xM l).zs.length zc],.int .i64 (eM l)])∧ZsAt w' zo (xM l).zs:=by
 obtain ⟨hb,h⟩:=h
 refine ⟨hb,?_⟩
 unfold xM eM
 split at h
 ·rename_i hg
  obtain ⟨zo,zc,he,hz,-⟩:=h
  rw [if_pos hg,if_pos hg]
  exact ⟨zo,zc,he,hz⟩
 ·rename_i hg
  rw [if_neg hg,if_neg hg]
  exact ⟨none,0,h,fun hp=>by simp at hp⟩
theorem decC_one {w:World} {l:List UInt8} {e:Ending} {w':World} (h:DecCPost w l (.int .i64 0) (.int .i64 3) e w'):Below w.heap.size w w'∧e=.returned (.tuple #[.agg #[.int .i64 (xC l).kind,.int .i64 (xC l).zone,.int .i64 (xC l).epoch,.int .i64 (xC l).tt,.string (xC l).key],.int .i64 (eC l)]):=by
 obtain ⟨hb,h⟩:=h
 refine ⟨hb,?_⟩
 unfold xC eC
 split at h
 ·rename_i hg
  rw [if_pos hg,if_pos hg]
  exact h
 ·rename_i hg
  rw [if_neg hg,if_neg hg]
  exact h
theorem xE_length (c:Ch):(xE c).length≤100:=by
 unfold xE
 split
 ·rename_i h
  have h1:=encs_length [c.kind,c.zone,c.epoch,c.tt]
  have h2:=encS_length c.key
  have h3:=mayC_key h
  unfold encC
  rw [List.length_append]
  simp only [List.length_cons,List.length_nil] at h1
  omega
 ·simp
theorem encM_length {m:Mp} (h:LtB m.zs):(encM m).length≤18000:=by
 have h1:=encs_length [m.ver,m.next,(m.zs.length:Int)]
 obtain ⟨hl,hz⟩:=h
 have h2:∀ l:List Zn,(∀ z∈l,z.fr.size≤60∧z.to.size≤60∧z.key.size≤60)→(l.flatMap encZ).length≤270 * l.length:=by
  intro l
  induction l with
  | nil=>intro _;simp
  | cons z r ih =>
   intro hz
   have a:=ih fun y hy=>hz y (by simp [hy])
   obtain ⟨b1,b2,b3⟩:=hz z (by simp)
   have c1:=encs_length [z.id]
   have c2:=encs_length [z.owner,z.epoch,z.pend,z.tt]
   have c3:=encs_length [z.nw]
   have c4:=encS_length z.fr
   have c5:=encS_length z.to
   have c6:=encS_length z.key
   have e:(encZ z).length≤270:=by
    unfold encZ
    simp only [List.length_append,List.length_cons,List.length_nil] at c1 c2 c3 ⊢
    omega
   simp only [List.flatMap_cons,List.length_append,List.length_cons]
   omega
 have h3:=h2 m.zs hz
 unfold encM
 rw [List.length_append]
 simp only [List.length_cons,List.length_nil] at h1
 omega
theorem rdZs_len:∀ (k:Nat) (s:Rs),9 * (rdZs k s).1.length≤s.1.length+9
 | 0,s=>by simp [rdZs]
 | k+1,s=>by
  rw [rdZs_succ]
  by_cases hb:s.2=true
  ·rw [if_pos hb];simp
  ·rw [if_neg hb]
   have ih:=rdZs_len k (s6 s)
   simp only [List.length_cons]
   cases h6:(s6 s).2 with
   | false =>
    have:=s6_less h6
    omega
   | true =>
    have:(rdZs k (s6 s)).1=[]:=by
     cases k with
     | zero=>rfl
     | succ k=>rw [rdZs_succ,if_pos h6]
    rw [this]
    simp
theorem xM_length (l:List UInt8):9 * (xM l).zs.length≤l.length+9:=by
 unfold xM
 split
 ·have h1:=rdZs_len (rdVal l false 2) (rdSt l false 3)
  have h2:=rdSt_le l false 3
  have h3:(decM l).1.zs=(rdZs (rdVal l false 2) (rdSt l false 3)).1:=rfl
  rw [h3]
  omega
 ·simp
end Go.Proofs.YtogamdaomdoapaaGreat.O