/- Texts put together: OCh, OLp. -/
import Derived.Test.YtogamdaomdoapaaGreatGa08
import Derived.Test.YtogamdaomdoapaaGreatGa16
import Derived.Test.YtogamdaomdoapaaGreatGa17
namespace Go.Proofs.YtogamdaomdoapaaGreat.O
open Go.Value renaming int→aI,string→aS
open Go.IntKind renaming i64→aK
open List renaming setIfInBounds_toArray→lA,set_cons_zero→lZ,set_cons_succ→lS,length_append→lL
open Bool renaming and_eq_true→bA
open Go.Lib renaming hid→uH
open Go.RowKit
set_option maxRecDepth 20000
def encC (c:Ch):List UInt8:=encs [c.kind,c.zone,c.epoch,c.tt]++encS c.key
def kc (l:List UInt8):List UInt8 × List UInt8 × Bool:=a0q (rdSt l false 4).1 (rdSt l false 4).2
def decC (l:List UInt8):Ch × Rs:=(⟨a0j l false 0,a0j l false 1,a0j l false 2,a0j l false 3,txt (kc l).1⟩,(kc l).2)
def f0w (l:List UInt8):Bool:=h0n (decC l).2&&mayC (decC l).1
theorem n0j {c:Ch} (h:mayC c=true):c.key.size≤16:=by
 have hnil:c.key.toList=[]→c.key.size≤16:=fun e=>by rw [e0l e];omega
 unfold mayC at h
 rw [bA] at h
 obtain ⟨-,h⟩:=h
 split at h
 ·rw [decide_eq_true_eq] at h;omega
 ·split at h
  ·rw [decide_eq_true_eq] at h;exact hnil h.2.2
  ·split at h
   ·rw [decide_eq_true_eq] at h;exact hnil h.2.2.2
   ·split at h
    ·rw [decide_eq_true_eq] at h;exact hnil h.2.2.2
    ·cases h
def h0f (w:World) (c:Ch) (e:Ending) (w':World):Prop:=Below w.heap.size w w' ∧
 if mayC c=true then ∃ ao cap,e=.returned (.tuple #[.slice ao (encC c).length cap,aI aK 0])∧OwnB w' w.heap.size ao cap (encC c) else e=.returned (.tuple #[.slice none 0 0,aI aK 1])
set_option maxHeartbeats 4000000 in
theorem o0u (c:Ch) (w:World):Calls Tryz.prog 116 #[.agg #[aI aK c.kind,aI aK c.zone,aI aK c.epoch,aI aK c.tt,aS c.key]] w (h0f w c):=by
 obtain ⟨q,hq⟩:∃ q,q=mayC c:=⟨_,rfl⟩
 have Hmy:=uH (fun w=>s0w c w q hq.symm)
 have Hq:=uH hq
 have hcv:=b0y
 have Hks:Hid (q=true→c.key.size≤16):=uH fun h=>n0j (by rw [←hq,h])
 clear hq
 obtain ⟨kind,zone,epoch,tt,key⟩:=c
 dsimp only at Hmy Hks ⊢
 cases q with
 | false =>
  go_enter Tryz.func116,Tryz.ntmps116
  go_wp2_with fail
  (refine a0e fun wa hwa=>?_;have wa_b:Below w.heap.size w wa:=(by rw [hwa];exact bg);clear hwa)
  refine (Hmy.out wa).mono ?_
  (rintro e w1 ⟨rfl,w1_h⟩;obtain ⟨w1_hc,w1_hf⟩:=a0w w1_h;have w1_z:=w1_h.size;have w1_b:=wa_b.trans (w1_h.mono (by have:=wa_b.size;omega));have w1_le:=w1_b.size;clear w1_h)
  go_wp2_with fail
  go_ret2
  unfold h0f
  rw [if_neg (by rw [←Hq.out];simp)]
  exact ⟨bg,rfl⟩
 | true =>
  have hks:=Hks.out rfl
  go_enter Tryz.func116,Tryz.ntmps116
  go_wp2_with fail
  have s0:=(St.start w).objN (.cells #[aI aK kind,aI aK zone,aI aK epoch,aI aK tt,aS key] 46) w.heap.size rfl
  refine (Hmy.out _).mono ?_
  rintro e w1 ⟨rfl,hb⟩
  have S1:=uH (s0.grow hb)
  obtain ⟨c1,c2,-⟩:=S1.out.a0b 0 rfl
  clear s0 hb
  go_wp2_with fail
  have s2:=S1.out.t0z w1.heap.size rfl w.heap.size
  refine (s2.nums [kind,zone,epoch,tt] (w1.heap.size+1) 4 (by simp) rfl _ rfl (by simp)).mono ?_
  rintro e w2 ⟨rfl,o2,hS⟩
  have S3:=uH hS
  obtain ⟨d1,d2,-⟩:=S3.out.a0b 1 rfl
  have hl:=a0m [kind,zone,epoch,tt]
  simp only [List.length_cons,List.length_nil] at hl
  have g1:w.heap.size<w2.heap.size+1:=by omega
  clear s2 hS S1 c1 c2
  go_wp2_with fail
  refine (St.text1 S3.out key (by omega) (w2.heap.size+1) rfl w2.heap.size rfl (by simp only [List.nil_append];omega)).mono ?_
  rintro e w3 ⟨rfl,o3,hS⟩
  obtain ⟨X,hX⟩:∃ X,X=encC ⟨kind,zone,epoch,tt,key⟩:=⟨_,rfl⟩
  have S4:Hid (St w w3 [thWr w1.heap.size w.heap.size X o3,a0c w.heap.size (.cells #[aI aK kind,aI aK zone,aI aK epoch,aI aK tt,aS key] 46)]):=by
   rw [hX]
   exact uH hS
  have hXl:X.length≤140737488351232:=by
   rw [hX]
   have:=a0t key
   unfold encC
   rw [lL]
   dsimp only
   omega
  have HX:=uH hX
  clear S3 hS d1 d2 g1 hX hl
  go_wp2_with fail
  refine (f0i w1.heap.size w.heap.size X o3 w3 S4.out.head hXl).mono ?_
  rintro e w5 ⟨ao,cap,rfl,ho,hb⟩
  have Ho:=uH (b0a ho S4.out.b.size)
  have Hb:=uH (S4.out.grow hb).b
  clear ho hb
  go_wp2_with fail
  go_ret2
  unfold h0f
  rw [if_pos Hq.out.symm,←HX.out]
  exact ⟨Hb.out,ao,cap,rfl,Ho.out⟩
set_option maxHeartbeats 4000000 in
theorem w0h (c:Ch) (w:World):Calls Tryz.prog 92 #[.agg #[aI aK c.kind,aI aK c.zone,aI aK c.epoch,aI aK c.tt,aS c.key]] w (h0f w c):=by
 obtain ⟨i0,hii,hz0,hz1,hz2⟩:=info_parts c0h
 obtain ⟨q,hq⟩:∃ q,q=mayC c:=⟨_,rfl⟩
 have Hmy:=uH (fun w=>k0q c w q hq.symm)
 have Hq:=uH hq
 have hcv:=b0y
 have Hks:Hid (q=true→c.key.size≤16):=uH fun h=>n0j (by rw [←hq,h])
 clear hq
 obtain ⟨kind,zone,epoch,tt,key⟩:=c
 dsimp only at Hmy Hks ⊢
 cases q with
 | false =>
  go_enter Tryz.func92,Tryz.ntmps92
  go_wp2_with fail
  (refine a0e fun wa hwa=>?_;have wa_b:Below w.heap.size w wa:=(by rw [hwa];exact bg);clear hwa)
  refine (Hmy.out wa).mono ?_
  (rintro e w1 ⟨rfl,w1_h⟩;obtain ⟨w1_hc,w1_hf⟩:=a0w w1_h;have w1_z:=w1_h.size;have w1_b:=wa_b.trans (w1_h.mono (by have:=wa_b.size;omega));have w1_le:=w1_b.size;clear w1_h)
  go_wp2_with fail
  go_ret2
  unfold h0f
  rw [if_neg (by rw [←Hq.out];simp)]
  exact ⟨bg,rfl⟩
 | true =>
  have hks:=Hks.out rfl
  go_enter Tryz.func92,Tryz.ntmps92
  go_wp2_with fail
  have s0:=(St.start w).objN (.cells #[aI aK kind,aI aK zone,aI aK epoch,aI aK tt,aS key] 46) w.heap.size rfl
  refine (Hmy.out _).mono ?_
  rintro e w1 ⟨rfl,hb⟩
  have S1:=uH (s0.grow hb)
  clear s0 hb
  go_wp2_with fail
  refine a0d fun wa hwa=>?_
  subst hwa
  obtain ⟨wd,hwd⟩:∃ wd,wd=wa.drew:=⟨_,rfl⟩
  have S2:Hid (St w wd [a0c w.heap.size (.cells #[aI aK kind,aI aK zone,aI aK epoch,aI aK tt,aS key] 46)]):=by rw [hwd];exact uH (S1.out.grow (Below.refl _ _).drew)
  have Hsu:Hid (∀ w',Below wd.heap.size wd w'→(fun W:World=>W.cell? ⟨w.heap.size,0,none⟩=some (aI aK kind)∧W.cell? ⟨w.heap.size,1,none⟩=some (aI aK zone)∧W.cell? ⟨w.heap.size,2,none⟩=some (aI aK epoch)∧W.cell? ⟨w.heap.size,3,none⟩=some (aI aK tt)∧W.cell? ⟨w.heap.size,4,none⟩=some (aS key)∧w.heap.size<W.heap.size) w'):=uH fun w' hb=>by
   obtain ⟨c1,c2,-⟩:=(S2.out.grow hb).a0b 0 rfl
   exact ⟨c2 0,c2 1,c2 2,c2 3,c2 4,c1⟩
  have HC:=uH (Hsu.out wd (Below.refl _ _))
  obtain ⟨q1,hq1⟩:∃ q1,q1=encs [kind,zone,epoch,tt]:=⟨_,rfl⟩
  have Hq1:=uH hq1
  have hql1:q1.length≤40:=by rw [hq1];exact a0m _
  obtain ⟨q2,hq2⟩:∃ q2,q2=encS key:=⟨_,rfl⟩
  have hql2:q2.length≤26:=by rw [hq2];have:=a0t key;omega
  have hst:=fun w3 gg cp (ha:BAt w3 (some ⟨gg,0,none⟩) key.data.toList)=>c0l key gg cp w3 ha (by rw [Array.length_toList];exact Nat.le_trans hks (by decide))
  rw [←hq2] at hst
  have Hst:=uH hst
  have HX:Hid (encC ⟨kind,zone,epoch,tt,key⟩=q1++q2):=by unfold encC;rw [hq1,hq2];exact uH rfl
  clear hq1 hq2 hst
  refine wp_region_noPanic ?_
  refine wp_region_held (S:=(fun W:World=>W.cell? ⟨w.heap.size,0,none⟩=some (aI aK kind)∧W.cell? ⟨w.heap.size,1,none⟩=some (aI aK zone)∧W.cell? ⟨w.heap.size,2,none⟩=some (aI aK epoch)∧W.cell? ⟨w.heap.size,3,none⟩=some (aI aK tt)∧W.cell? ⟨w.heap.size,4,none⟩=some (aS key)∧w.heap.size<W.heap.size)) (by kernel_rfl) ?_
  change wpAnyH _ _ _ _ _ _ _ _ (World.drew _)
  rw [←hwd]
  clear hwd S1
  (refine takeD (i:=0) (v:=?v0x7) 7 rfl rfl (by kernel_rfl) (by kernel_rfl) (by kernel_rfl) (fun _ _ _ h=>h) (Or.inl ⟨by rfl,?hy0x7⟩) HC.out ?rest0x7;(case hy0x7=>(intro w hSw;(obtain ⟨t0,t1,t2,t3,t4,t5⟩:=hSw);go_simp;(try with_reducible rfl)));(try simp only [Act.put,lA,lZ,lS]))
  (refine takeD (i:=1) (v:=?v1x8) 8 rfl rfl (by kernel_rfl) (by kernel_rfl) (by kernel_rfl) (fun _ _ _ h=>h) (Or.inl ⟨by rfl,?hy1x8⟩) HC.out ?rest1x8;(case hy1x8=>(intro w hSw;(obtain ⟨t0,t1,t2,t3,t4,t5⟩:=hSw);go_simp;(try with_reducible rfl)));(try simp only [Act.put,lA,lZ,lS]))
  (refine takeD (i:=2) (v:=?v2x9) 9 rfl rfl (by kernel_rfl) (by kernel_rfl) (by kernel_rfl) (fun _ _ _ h=>h) (Or.inl ⟨by rfl,?hy2x9⟩) HC.out ?rest2x9;(case hy2x9=>(intro w hSw;(obtain ⟨t0,t1,t2,t3,t4,t5⟩:=hSw);go_simp;(try with_reducible rfl)));(try simp only [Act.put,lA,lZ,lS]))
  (refine takeD (i:=3) (v:=?v3x10) 10 rfl rfl (by kernel_rfl) (by kernel_rfl) (by kernel_rfl) (fun _ _ _ h=>h) (Or.inl ⟨by rfl,?hy3x10⟩) HC.out ?rest3x10;(case hy3x10=>(intro w hSw;(obtain ⟨t0,t1,t2,t3,t4,t5⟩:=hSw);go_simp;(try with_reducible rfl)));(try simp only [Act.put,lA,lZ,lS]))
  (refine takeD (i:=4) (v:=?v4x11) 11 rfl rfl (by kernel_rfl) (by kernel_rfl) (by kernel_rfl) (fun _ _ _ h=>h) (Or.inl ⟨by rfl,?hy4x11⟩) HC.out ?rest4x11;(case hy4x11=>(intro w hSw;(obtain ⟨t0,t1,t2,t3,t4,t5⟩:=hSw);go_simp;(try with_reducible rfl)));(try simp only [Act.put,lA,lZ,lS]))
  (refine takeD (i:=5) (v:=?v5x12) 12 rfl rfl (by kernel_rfl) (by kernel_rfl) (by kernel_rfl) (fun _ _ _ h=>h) (Or.inl ⟨by rfl,?hy5x12⟩) HC.out ?rest5x12;(case hy5x12=>(intro w hSw;(obtain ⟨t0,t1,t2,t3,t4,t5⟩:=hSw);go_simp;(try with_reducible rfl)));(try simp only [Act.put,lA,lZ,lS]))
  (refine takeD (i:=6) (v:=?v6x13) 13 rfl rfl (by kernel_rfl) (by kernel_rfl) (by kernel_rfl) (fun _ _ _ h=>h) (Or.inl ⟨by rfl,?hy6x13⟩) HC.out ?rest6x13;(case hy6x13=>(intro w hSw;(obtain ⟨t0,t1,t2,t3,t4,t5⟩:=hSw);go_simp;(try with_reducible rfl)));(try simp only [Act.put,lA,lZ,lS]))
  (refine takeD (i:=7) (v:=?v7x14) 14 rfl rfl (by kernel_rfl) (by kernel_rfl) (by kernel_rfl) (fun _ _ _ h=>h) (Or.inl ⟨by rfl,?hy7x14⟩) HC.out ?rest7x14;(case hy7x14=>(intro w hSw;(obtain ⟨t0,t1,t2,t3,t4,t5⟩:=hSw);go_simp;(try with_reducible rfl)));(try simp only [Act.put,lA,lZ,lS]))
  (refine takeD (i:=10) (v:=?v10x17) 17 rfl rfl (by kernel_rfl) (by kernel_rfl) (by kernel_rfl) (fun _ _ _ h=>h) (Or.inl ⟨by rfl,?hy10x17⟩) HC.out ?rest10x17;(case hy10x17=>(intro w hSw;(obtain ⟨t0,t1,t2,t3,t4,t5⟩:=hSw);go_simp;(try with_reducible rfl)));(try simp only [Act.put,lA,lZ,lS]))
  (refine takeD (i:=11) (v:=?v11x18) 18 rfl rfl (by kernel_rfl) (by kernel_rfl) (by kernel_rfl) (fun _ _ _ h=>h) (Or.inl ⟨by rfl,?hy11x18⟩) HC.out ?rest11x18;(case hy11x18=>(intro w hSw;(obtain ⟨t0,t1,t2,t3,t4,t5⟩:=hSw);go_simp;(try with_reducible rfl)));(try simp only [Act.put,lA,lZ,lS]))
  (refine wpAnyH_all (rs:=[8,12]) (by kernel_rfl) (by simp) (fun i' hi'=>?_);(have hi2:i'=8∨i'=12:=by simpa using hi');clear hi';(rcases hi2 with rfl | rfl))
  case' inr =>
   refine wpOp_step rfl (fun K' hK'=>?_)
   go_simp
   (refine hK' _ _ ⟨Hsu.out _ (bytesWorld_below _ _),?_⟩;clear hK' K';try simp only [Act.put,lA,lZ,lS])
   have bat:=b0k wd key
   (refine oneD 8 rfl (fun K' hK'=>?_))
   go_simp
   (refine hK' _ _ ⟨Hsu.out _ ((bytesWorld_below _ _).trans ((a0p _ _).mono (by rw [a0g];omega))),?_⟩;clear hK' K';try simp only [Act.put,lA,lZ,lS])
   (refine oneD 9 rfl (fun K' hK'=>?_))
   go_simp
   refine (f0u [kind,zone,epoch,tt] (Lib.bytesWorld wd 5 key) (wd.heap.size+1) 4 _ (by rw [a0g]) rfl rfl (by simp) q1 Hq1.out.symm).mono ?_
   rintro e w3 ⟨co1,cc1,rfl,ho1,hb3⟩
   have hb:=(bytesWorld_below wd key).trans (hb3.mono (by rw [a0g];omega))
   (refine hK' _ _ ⟨Hsu.out _ (hb),?_⟩;clear hK' K';try simp only [Act.put,lA,lZ,lS])
   (refine oneD 13 rfl (fun K' hK'=>?_))
   go_simp
   refine (Hst.out w3 _ _ (bat.below hb3)).mono ?_
   rintro e w4 ⟨co2,cc2,rfl,ho2,hb4⟩
   have ho1:=c0v (b0a ho1 (show wd.heap.size≤_ by rw [a0g];omega)) hb4
   have ho2:=b0a ho2 hb.size
   have hb:=hb.trans (hb4.mono hb.size)
   clear bat hb3 hb4
   (refine hK' _ _ ⟨Hsu.out _ (hb),?_⟩;clear hK' K';try simp only [Act.put,lA,lZ,lS])
  case' inl =>
   refine wpOp_step rfl (fun K' hK'=>?_)
   go_simp
   (refine hK' _ _ ⟨Hsu.out _ (a0p _ _),?_⟩;clear hK' K';try simp only [Act.put,lA,lZ,lS])
   (refine wpAnyH_all (rs:=[9,12]) (by kernel_rfl) (by simp) (fun i' hi'=>?_);(have hi2:i'=9∨i'=12:=by simpa using hi');clear hi';(rcases hi2 with rfl | rfl))
  case' inl.inl =>
   refine wpOp_step rfl (fun K' hK'=>?_)
   go_simp
   refine (f0u [kind,zone,epoch,tt] wd wd.heap.size 4 _ rfl rfl rfl (by simp) q1 Hq1.out.symm).mono ?_
   rintro e w3 ⟨co1,cc1,rfl,ho1,hb⟩
   (refine hK' _ _ ⟨Hsu.out _ (hb),?_⟩;clear hK' K';try simp only [Act.put,lA,lZ,lS])
   (refine oneD 12 rfl (fun K' hK'=>?_))
   go_simp
   have bat:=b0k w3 key
   (refine hK' _ _ ⟨Hsu.out _ (hb.trans ((bytesWorld_below _ _).mono hb.size)),?_⟩;clear hK' K';try simp only [Act.put,lA,lZ,lS])
   (refine oneD 13 rfl (fun K' hK'=>?_))
   go_simp
   refine (Hst.out _ _ _ bat).mono ?_
   rintro e w4 ⟨co2,cc2,rfl,ho2,hb4⟩
   have ho1:=c0v (c0v ho1 (bytesWorld_below w3 key)) hb4
   have hbs:=hb.size
   have ho2:=b0a ho2 (show wd.heap.size≤_ by rw [a0g];omega)
   have hb:=(hb.trans ((bytesWorld_below w3 key).mono hb.size)).trans (hb4.mono (by rw [a0g];omega))
   clear bat hb4 hbs
   (refine hK' _ _ ⟨Hsu.out _ (hb),?_⟩;clear hK' K';try simp only [Act.put,lA,lZ,lS])
  case' inl.inr =>
   refine wpOp_step rfl (fun K' hK'=>?_)
   go_simp
   have bat:=b0k (wd.alloc (.cells #[aI aK kind,aI aK zone,aI aK epoch,aI aK tt] 3)) key
   have bbw:=bytesWorld_below (wd.alloc (.cells #[aI aK kind,aI aK zone,aI aK epoch,aI aK tt] 3)) key
   have hb0:Below wd.heap.size wd (Lib.bytesWorld (wd.alloc (.cells #[aI aK kind,aI aK zone,aI aK epoch,aI aK tt] 3)) 5 key):=(a0p _ _).trans (bbw.mono (by simp))
   (refine hK' _ _ ⟨Hsu.out _ (hb0),?_⟩;clear hK' K';try simp only [Act.put,lA,lZ,lS])
   (refine oneD 9 rfl (fun K' hK'=>?_))
   go_simp
   refine (i0z [kind,zone,epoch,tt] _ wd.heap.size 4 _ ((bbw.block wd.heap.size (by simp)).trans (b0r wd _)) rfl rfl (by simp) q1 Hq1.out.symm).mono ?_
   rintro e w3 ⟨co1,cc1,rfl,ho1,hb3⟩
   have hb:=hb0.trans (hb3.mono hb0.size)
   (refine hK' _ _ ⟨Hsu.out _ (hb),?_⟩;clear hK' K';try simp only [Act.put,lA,lZ,lS])
   (refine oneD 13 rfl (fun K' hK'=>?_))
   go_simp
   refine (Hst.out w3 _ _ ((by simpa using bat:BAt _ (some ⟨wd.heap.size+1,0,none⟩) key.data.toList).below hb3)).mono ?_
   rintro e w4 ⟨co2,cc2,rfl,ho2,hb4⟩
   have ho1:=c0v (b0a ho1 hb0.size) hb4
   have ho2:=b0a ho2 hb.size
   have hb:=hb.trans (hb4.mono hb.size)
   clear bat bbw hb0 hb3 hb4
   (refine hK' _ _ ⟨Hsu.out _ (hb),?_⟩;clear hK' K';try simp only [Act.put,lA,lZ,lS])
  all_goals
   have hbs:=hb.size
   (refine oneD 14 rfl (fun K' hK'=>?_))
   refine d0o _ rfl (.tmp 16) (.tmp 20) 47 rfl wd.heap.size 5 i0 (aI .u8 0) 1 1 Tryz.underlying47 hii hz0 hz1 hz2 rfl (by decide) (.slice co1 q1.length cc1) q1.length (bytV q1) rfl ho1 co2 q2.length cc2 (bytV q2) rfl ho2.none (by rw [a0u,Nat.mul_one]) ho2.at.cells (a0x _) (by unfold maxLen;omega) (by omega) hbs ?_
   intro vv w5 hown hgrow
   have hb5:=below_grown hb hbs hgrow (fun j hj=>b0o ho1 hj)
   obtain ⟨bo,bc,rfl,ho3⟩:=c0n (l:=q1++q2) (by rw [←a0y];exact hown) (by rw [lL])
   refine hK' _ _ ⟨Hsu.out _ hb5,?_⟩
   clear hK' K' hown hgrow ho1 ho2
   have HC5:=uH (Hsu.out _ hb5)
   have Ho:=uH ho3
   have HB:=uH (S2.out.grow hb5).b
   have hw5:=S2.out.b.size
   clear hb hb5 hbs ho3
   try simp only [Act.put,lA]
   refine takeD (i:=15) (v:=.slice bo (q1++q2).length bc) 2 rfl rfl (by kernel_rfl) (by kernel_rfl) (by kernel_rfl) (fun _ _ _ h=>h) (Or.inl ⟨by rfl,?_⟩) HC5.out ?_
   ·intro w _
    go_simp
   try simp only [Act.put]
   refine takeD (i:=16) (v:=aI aK 0) 3 rfl rfl (by kernel_rfl) (by kernel_rfl) (by kernel_rfl) (fun _ _ _ h=>h) (Or.inl ⟨by rfl,?_⟩) HC5.out ?_
   ·intro w _
    go_simp
   try simp only [Act.put]
   refine wpAnyH_done (by kernel_rfl) ?_ _
   refine NoPanic.normal ?_
   go_wp2_with fail
   go_ret2
   unfold h0f
   rw [if_pos Hq.out.symm,HX.out]
   exact ⟨HB.out,bo,bc,by rw [lL];rfl,b0a Ho.out hw5⟩
def o0a (w:World) (l:List UInt8) (good bad:Value) (e:Ending) (w':World):Prop:=Below w.heap.size w w' ∧
 if f0w l=true then e=.returned (.tuple #[.agg #[aI aK ((decC l).1).kind,aI aK ((decC l).1).zone,aI aK ((decC l).1).epoch,aI aK ((decC l).1).tt,aS ((decC l).1).key],good]) else e=.returned (.tuple #[.agg #[aI aK 0,aI aK 0,aI aK 0,aI aK 0,aS ⟨#[]⟩],bad])
theorem y0l (l:List UInt8):∃ k z ep t key r b r2 b2,a0j l false 0=k∧a0j l false 1=z∧a0j l false 2=ep∧a0j l false 3=t∧rdSt l false 4=(r,b)∧a0q r b=(key,r2,b2)∧r.length≤l.length∧r2.length≤l.length∧decC l=(⟨(k:Nat),(z:Nat),(ep:Nat),(t:Nat),txt key⟩,r2,b2):=by
 obtain ⟨r,b,e4⟩:∃ x y,rdSt l false 4=(x,y):=⟨_,_,rfl⟩
 obtain ⟨key,r2,b2,e5⟩:∃ n x y,a0q r b=(n,x,y):=⟨_,_,_,eta3 _⟩
 have l4:r.length≤l.length:=by have:=b0f l false 4;rw [e4] at this;exact this
 obtain ⟨k5,l5⟩:=e0k e5
 have a5:kc l=(key,r2,b2):=by unfold kc;rw [e4];exact e5
 exact ⟨_,_,_,_,key,r,b,r2,b2,rfl,rfl,rfl,rfl,e4,e5,l4,by omega,by unfold decC;rw [a5]⟩
set_option maxHeartbeats 4000000 in
theorem w0s (ao:Option Addr) (cap:Nat) (l:List UInt8) (w:World) (h0:ao=none→l.length=0∧cap=0) (ha:BAt w ao l) (hm:l.length≤2000) :
 Calls Tryz.prog 85 #[.slice ao l.length cap] w (o0a w l (aI aK 0) (aI aK 3)):=by
 have Ha:=uH ha
 have H0:=uH h0
 clear ha h0
 obtain ⟨k,z,ep,t,key,r,b,r2,b2,e0,e1,e2,e3,e4,e5,l4,l5,e6⟩:=y0l l
 have He:=uH (⟨e0,e1,e2,e3,e4,e5,e6⟩:_∧_∧_∧_∧_∧_∧_)
 clear e0 e1 e2 e3 e4 e5 e6
 go_enter Tryz.func85,Tryz.ntmps85
 go_wp2_with fail
 have S0:Hid (St w _ [a0c (w.heap.size+1) (.cells #[aI aK 0,aI aK 0,aI aK 0,aI aK 0,aS ⟨#[]⟩] 46),a0c w.heap.size (.cells #[aI aK 0,aI aK 0,aI aK 0,aI aK 0,aS ⟨#[]⟩] 46)]):=((St.start w).objN (.cells #[aI aK 0,aI aK 0,aI aK 0,aI aK 0,aS ⟨#[]⟩] 46) w.heap.size rfl).objN (.cells #[aI aK 0,aI aK 0,aI aK 0,aI aK 0,aS ⟨#[]⟩] 46) (w.heap.size+1) (by simp)
 refine (d0u ao cap l _ H0.out (Ha.out.below S0.out.b) (by omega)).mono ?_
 rintro e w1 ⟨p,g,rfl,hr,hb,hp,hg⟩
 have S1:=uH (S0.out.x0d hr hb hp hg)
 clear S0 hr hb hp hg
 go_wp2_with fail
 refine (St.f0b (O:=[(w.heap.size+1,#[aI aK 0,aI aK 0,aI aK 0,aI aK 0,aS ⟨#[]⟩],46),(w.heap.size,#[aI aK 0,aI aK 0,aI aK 0,aI aK 0,aS ⟨#[]⟩],46)]) (L:=[]) S1.out (by omega) [(0,0),(0,1),(0,2),(0,3)] ?_ w1.heap.size 4 rfl rfl (by simp) _ _ rfl).mono ?_
 ·intro q hq
  simp only [List.mem_cons,List.not_mem_nil,or_false] at hq
  rcases hq with rfl | rfl | rfl | rfl<;>exact ⟨_,_,rfl,rfl⟩
 rintro e w2 ⟨rfl,hS⟩
 have S2:Hid (St w w2 [thRd p g r b,a0c (w.heap.size+1) (.cells #[aI aK (k:Nat),aI aK (z:Nat),aI aK (ep:Nat),aI aK (t:Nat),aS ⟨#[]⟩] 46),a0c w.heap.size (.cells #[aI aK 0,aI aK 0,aI aK 0,aI aK 0,aS ⟨#[]⟩] 46)]):=by
  obtain ⟨e0,e1,e2,e3,e4,e5,e6⟩:=He.out
  rw [←e0,←e1,←e2,←e3]
  have h:=hS
  rw [e4] at h
  exact uH h
 clear hS S1
 go_wp2_with fail
 have hcall:=St.c0u S2.out (by omega)
 rw [He.out.2.2.2.2.2.1] at hcall
 refine hcall.mono ?_
 rintro e w3 ⟨yo,yc,rfl,ho,hS⟩
 have T:=uH hS
 obtain ⟨c1,c2,c3⟩:=T.out.a0b 1 rfl
 have hcv:=b0c ho.at yc
 clear hcall hS S2 ho
 go_wp2_with fail
 have S3:Hid (St w (w3.setCell ⟨w.heap.size+1,4,none⟩ (aS ⟨key.toArray⟩)) [thRd p g r2 b2,a0c (w.heap.size+1) (.cells #[aI aK (k:Nat),aI aK (z:Nat),aI aK (ep:Nat),aI aK (t:Nat),aS ⟨key.toArray⟩] 46),a0c w.heap.size (.cells #[aI aK 0,aI aK 0,aI aK 0,aI aK 0,aS ⟨#[]⟩] 46)]):=uH (((T.out.pull (A:=[_])).setObj 4 (aS ⟨key.toArray⟩)).pull (A:=[_]))
 clear T c1 c2 c3 hcv
 (have HW:Hid (h0n (decC l).2=(!b2&&r2.isEmpty)):=(by rw [He.out.2.2.2.2.2.2];exact uH rfl));(have HM:Hid ((decC l).1=⟨(k:Nat),(z:Nat),(ep:Nat),(t:Nat),txt key⟩):=(by rw [He.out.2.2.2.2.2.2];exact uH rfl));(have hwh:=(f0m p g r2 b2 _ S3.out.head (by omega)));(obtain ⟨q,hq⟩:∃ q,q=(!b2&&r2.isEmpty):=⟨_,rfl⟩);(rw [←hq] at hwh HW);clear hq;(obtain ⟨qm,hqm⟩:∃ qm,qm=mayC ⟨(k:Nat),(z:Nat),(ep:Nat),(t:Nat),txt key⟩:=⟨_,rfl⟩);(have hmay:=fun w=>s0w ⟨(k:Nat),(z:Nat),(ep:Nat),(t:Nat),txt key⟩ w qm hqm.symm);(have HG:Hid (f0w l=(q&&qm)):=(by unfold f0w;rw [HW.out,HM.out,hqm];exact uH rfl));(dsimp only at hmay);(have Hmay:=uH hmay);clear hqm hmay;(obtain ⟨u1,u2,u3⟩:=S3.out.a0b 2 rfl);(obtain ⟨x1,x2,x3⟩:=S3.out.a0b 1 rfl);(have wr_b:=S3.out.b);(refine hwh.mono ?_);(rintro e w4 ⟨rfl,hww⟩);(subst hww);clear hwh;(cases q);(focus ((go_wp2_with fail);exact bodyPost_ret (v:=.tuple #[.agg #[aI aK 0,aI aK 0,aI aK 0,aI aK 0,aS ⟨#[]⟩],aI aK 3]) (by simp only [results,Tryz.results85];go_simp) rfl ⟨bg,by rw [if_neg (by rw [HG.out];simp)]⟩));(focus ((go_wp2_with fail);(refine (Hmay.out _).mono ?_);(rintro e w5 ⟨rfl,hb5⟩);(have S4:=uH (S3.out.grow hb5));(have w5_b:=S4.out.b);(obtain ⟨u1,u2,u3⟩:=S4.out.a0b 2 rfl);(obtain ⟨x1,x2,x3⟩:=S4.out.a0b 1 rfl);clear hb5 S3;(cases qm);(focus ((go_wp2_with fail);exact bodyPost_ret (v:=.tuple #[.agg #[aI aK 0,aI aK 0,aI aK 0,aI aK 0,aS ⟨#[]⟩],aI aK 3]) (by simp only [results,Tryz.results85];go_simp) rfl ⟨bg,by rw [if_neg (by rw [HG.out];simp)]⟩));(focus ((go_wp2_with fail);refine bodyPost_ret (v:=.tuple #[.agg #[aI aK (k:Nat),aI aK (z:Nat),aI aK (ep:Nat),aI aK (t:Nat),aS ⟨key.toArray⟩],aI aK 0]) (by simp only [results,Tryz.results85];go_simp) rfl ⟨bg,?_⟩;(rw [if_pos (show f0w l=true from HG.out),HM.out]);rfl))))
set_option maxHeartbeats 4000000 in
theorem w0n (ao:Option Addr) (cap:Nat) (l:List UInt8) (w:World) (h0:ao=none→l.length=0∧cap=0) (hlc:l.length≤cap) (hcm:cap≤9223372036854775807) (ha:BAt w ao l) (hm:l.length≤2000) :
 Calls Tryz.prog 99 #[.slice ao l.length cap] w (o0a w l (aI aK 0) (aI aK 3)):=by
 have Ha:=uH ha
 have H0:=uH h0
 clear ha h0
 obtain ⟨k,z,ep,t,key,r,b,r2,b2,e0,e1,e2,e3,e4,e5,l4,l5,e6⟩:=y0l l
 have He:=uH (⟨e0,e1,e2,e3,e4,e5,e6⟩:_∧_∧_∧_∧_∧_∧_)
 clear e0 e1 e2 e3 e4 e5 e6
 obtain ⟨d1,x1,y1,q1⟩:∃ d x y,numT l false=(d,x,y):=⟨_,_,_,eta3 _⟩
 obtain ⟨d2,x2,y2,q2⟩:∃ d x y,numT x1 y1=(d,x,y):=⟨_,_,_,eta3 _⟩
 obtain ⟨d3,x3,y3,q3⟩:∃ d x y,numT x2 y2=(d,x,y):=⟨_,_,_,eta3 _⟩
 obtain ⟨d4,x4,y4,q4⟩:∃ d x y,numT x3 y3=(d,x,y):=⟨_,_,_,eta3 _⟩
 have HF:=uH (x0v q1 q2 q3 q4)
 have Hl1:=uH (j0c q1)
 have Hl2:=uH (j0c q2)
 have Hl3:=uH (j0c q3)
 have Hq1:=uH q1
 have Hq2:=uH q2
 have Hq3:=uH q3
 have Hq4:=uH q4
 clear q1 q2 q3 q4
 go_enter Tryz.func99,Tryz.ntmps99
 go_wp2_with fail
 have s0:=(St.start w).objN (.cells #[aI aK 0,aI aK 0,aI aK 0,aI aK 0,aS ⟨#[]⟩] 46) w.heap.size rfl
 obtain ⟨g,s1⟩:=s0.newRO (w.heap.size+1) (by simp) ao cap l hlc hcm H0.out Ha.out
 obtain ⟨p,hp⟩:∃ p,p=w.heap.size+1:=⟨_,rfl⟩
 rw [←hp] at s1 ⊢
 have S1:Hid (St w _ [thRO w p g l false,a0c w.heap.size (.cells #[aI aK 0,aI aK 0,aI aK 0,aI aK 0,aS ⟨#[]⟩] 46)]):=uH s1
 clear s0 s1 hp
 have hcall:=St.b0g S1.out (by omega)
 rw [Hq1.out] at hcall
 refine hcall.mono ?_
 rintro e v1 ⟨rfl,hS⟩
 have T1:=uH hS
 dsimp only at T1 ⊢
 clear hcall hS S1
 go_wp2_with fail
 have hcall:=St.b0g T1.out (by have:=Hl1.out;omega)
 rw [Hq2.out] at hcall
 refine hcall.mono ?_
 rintro e v2 ⟨rfl,hS⟩
 have T2:=uH hS
 dsimp only at T2 ⊢
 clear hcall hS T1
 go_wp2_with fail
 have hcall:=St.b0g T2.out (by have:=Hl1.out;have:=Hl2.out;omega)
 rw [Hq3.out] at hcall
 refine hcall.mono ?_
 rintro e v3 ⟨rfl,hS⟩
 have T3:=uH hS
 dsimp only at T3 ⊢
 clear hcall hS T2
 go_wp2_with fail
 have hcall:=St.b0g T3.out (by have:=Hl1.out;have:=Hl2.out;have:=Hl3.out;omega)
 rw [Hq4.out] at hcall
 refine hcall.mono ?_
 rintro e v4 ⟨rfl,hS⟩
 have T4:=uH hS
 dsimp only at T4 ⊢
 clear hcall hS T3
 go_wp2_with fail
 have S5:Hid (St w v4 [thRO w p g r b,a0c w.heap.size (.cells #[aI aK 0,aI aK 0,aI aK 0,aI aK 0,aS ⟨#[]⟩] 46)]):=by
  have e:=HF.out.2.2.2.2
  rw [He.out.2.2.2.2.1,Prod.mk.injEq] at e
  rw [e.1,e.2]
  exact T4
 clear T4
 have hcall:=g0x S5.out (by omega)
 rw [He.out.2.2.2.2.2.1] at hcall
 refine hcall.mono ?_
 rintro e w5 ⟨yo,yc,rfl,ho,hS,-⟩
 have T:=uH hS
 have hcv:=b0c ho.at yc
 clear hcall hS S5 ho
 go_wp2_with fail
 have hd1:d1=k:=by rw [←HF.out.1];exact He.out.1
 have hd2:d2=z:=by rw [←HF.out.2.1];exact He.out.2.1
 have hd3:d3=ep:=by rw [←HF.out.2.2.1];exact He.out.2.2.1
 have hd4:d4=t:=by rw [←HF.out.2.2.2.1];exact He.out.2.2.2.1
 rw [hd1,hd2,hd3,hd4]
 clear hd1 hd2 hd3 hd4 HF Hl1 Hl2 Hl3 Hq1 Hq2 Hq3 Hq4 hcv
 have S3:Hid (St w _ [thRO w p g r2 b2,a0c w5.heap.size (.cells #[aI aK (k:Nat),aI aK (z:Nat),aI aK (ep:Nat),aI aK (t:Nat),aS ⟨key.toArray⟩] 46),a0c w.heap.size (.cells #[aI aK 0,aI aK 0,aI aK 0,aI aK 0,aS ⟨#[]⟩] 46)]):=uH ((T.out.objN (.cells #[aI aK (k:Nat),aI aK (z:Nat),aI aK (ep:Nat),aI aK (t:Nat),aS ⟨key.toArray⟩] 46) w5.heap.size rfl).pull (A:=[_]))
 clear T
 (have HW:Hid (h0n (decC l).2=(!b2&&r2.isEmpty)):=(by rw [He.out.2.2.2.2.2.2];exact uH rfl));(have HM:Hid ((decC l).1=⟨(k:Nat),(z:Nat),(ep:Nat),(t:Nat),txt key⟩):=(by rw [He.out.2.2.2.2.2.2];exact uH rfl));(have hwh:=S3.out.r0p);(obtain ⟨q,hq⟩:∃ q,q=(!b2&&r2.isEmpty):=⟨_,rfl⟩);(rw [←hq] at hwh HW);clear hq;(obtain ⟨qm,hqm⟩:∃ qm,qm=mayC ⟨(k:Nat),(z:Nat),(ep:Nat),(t:Nat),txt key⟩:=⟨_,rfl⟩);(have hmay:=fun w=>k0q ⟨(k:Nat),(z:Nat),(ep:Nat),(t:Nat),txt key⟩ w qm hqm.symm);(have HG:Hid (f0w l=(q&&qm)):=(by unfold f0w;rw [HW.out,HM.out,hqm];exact uH rfl));(dsimp only at hmay);(have Hmay:=uH hmay);clear hqm hmay;(obtain ⟨u1,u2,u3⟩:=S3.out.a0b 2 rfl);(obtain ⟨x1,x2,x3⟩:=S3.out.a0b 1 rfl);(have wr_b:=S3.out.b);(refine hwh.mono ?_);(rintro e w4 ⟨rfl,hww⟩);(subst hww);clear hwh;(cases q);(focus ((go_wp2_with fail);exact bodyPost_ret (v:=.tuple #[.agg #[aI aK 0,aI aK 0,aI aK 0,aI aK 0,aS ⟨#[]⟩],aI aK 3]) (by simp only [results,Tryz.results99];go_simp) rfl ⟨bg,by rw [if_neg (by rw [HG.out];simp)]⟩));(focus ((go_wp2_with fail);(refine (Hmay.out _).mono ?_);(rintro e w5 ⟨rfl,hb5⟩);(have S4:=uH (S3.out.grow hb5));(have w5_b:=S4.out.b);(obtain ⟨u1,u2,u3⟩:=S4.out.a0b 2 rfl);(obtain ⟨x1,x2,x3⟩:=S4.out.a0b 1 rfl);clear hb5 S3;(cases qm);(focus ((go_wp2_with fail);exact bodyPost_ret (v:=.tuple #[.agg #[aI aK 0,aI aK 0,aI aK 0,aI aK 0,aS ⟨#[]⟩],aI aK 3]) (by simp only [results,Tryz.results99];go_simp) rfl ⟨bg,by rw [if_neg (by rw [HG.out];simp)]⟩));(focus ((go_wp2_with fail);refine bodyPost_ret (v:=.tuple #[.agg #[aI aK (k:Nat),aI aK (z:Nat),aI aK (ep:Nat),aI aK (t:Nat),aS ⟨key.toArray⟩],aI aK 0]) (by simp only [results,Tryz.results99];go_simp) rfl ⟨bg,?_⟩;(rw [if_pos (show f0w l=true from HG.out),HM.out]);rfl))))
end Go.Proofs.YtogamdaomdoapaaGreat.O
namespace Go.Proofs.YtogamdaomdoapaaGreat.O
open Go.Value renaming int→aI,string→aS
open Go.IntKind renaming i64→aK
open List renaming setIfInBounds_toArray→lA,set_cons_zero→lZ,set_cons_succ→lS,length_append→lL
open Bool renaming and_eq_true→bA
open Go.Lib renaming hid→uH
open Go.RowKit
set_option maxRecDepth 20000
theorem size_data (s:ByteArray):s.data.toList.length=s.size:=by rw [Array.length_toList];rfl
theorem mayM_MB {m:Mp} (h:mayM m=true) (hs:SzB m):MB m:=by
 have h':=h
 unfold mayM at h'
 simp only [bA,decide_eq_true_eq] at h'
 obtain ⟨⟨h1,h2,h3,h4,h5⟩,h6,-⟩:=h'
 refine ⟨⟨by omega,by omega⟩,⟨by omega,by omega⟩,by omega,fun z hz=>?_⟩
 obtain ⟨i,hi,rfl⟩:=List.mem_iff_getElem.1 hz
 obtain ⟨a1,a2⟩:=f0r h6 hi
 have hsz:=hs.2 _ hz
 have a1':=a1
 unfold b0x at a1'
 rw [decide_eq_true_eq] at a1'
 obtain ⟨b1,b2,-,b4,b5,b6,b7⟩:=a1'
 have hk:(0≤m.zs[i].pend∧m.zs[i].pend≤3)∧(0≤m.zs[i].tt∧m.zs[i].tt≤1048576)∧(0≤m.zs[i].nw∧m.zs[i].nw≤1099511627776):=by
  unfold g0k at a2
  split at a2
  ·rw [decide_eq_true_eq] at a2;omega
  ·split at a2
   ·rw [decide_eq_true_eq] at a2;omega
   ·split at a2
    ·unfold c0c at a2
     simp only [bA,decide_eq_true_eq] at a2
     omega
    ·split at a2
     ·unfold b0n at a2
      cases hf:c0w m.zs m.zs[i].nw with
      | none=>rw [hf] at a2;cases a2
      | some j =>
       rw [hf] at a2
       simp only [bA,decide_eq_true_eq] at a2
       obtain ⟨y,hy,hyid,-⟩:=g0o hf
       obtain ⟨hjl,hje⟩:=List.getElem?_eq_some_iff.1 hy
       have hj:=(f0r h6 hjl).1
       unfold b0x at hj
       rw [decide_eq_true_eq,hje,hyid] at hj
       omega
     ·cases a2
 refine ⟨⟨by omega,by omega⟩,⟨by omega,by omega⟩,⟨by omega,by omega⟩,⟨by omega,by omega⟩,⟨by omega,by omega⟩,⟨by omega,by omega⟩,?_,?_,?_⟩
 ·rw [size_data];omega
 ·rw [size_data];omega
 ·rw [size_data];omega
theorem n0q {m:Mp} (h:mayM m=true) (hs:SzB m):e0f (encM m)=true∧(decM (encM m)).1=m:=by
 have e:=dec_enc (mayM_MB h hs)
 unfold e0f
 rw [e]
 exact ⟨by rw [h];rfl,rfl⟩
def xM (l:List UInt8):Mp:=if e0f l=true then (decM l).1 else ⟨0,0,[]⟩
def eM (l:List UInt8):Int:=if e0f l=true then 0 else 3
def xC (l:List UInt8):Ch:=if f0w l=true then (decC l).1 else ⟨0,0,0,0,⟨#[]⟩⟩
def eC (l:List UInt8):Int:=if f0w l=true then 0 else 3
def xE (c:Ch):List UInt8:=if mayC c=true then encC c else []
theorem n0v {w:World} {l:List UInt8} {e:Ending} {w':World} (h:n0z w l (aI aK 0) (aI aK 3) e w'):Below w.heap.size w w'∧∃ zo zc,e=.returned (.tuple #[.agg #[aI aK (xM l).ver,aI aK (xM l).next,.slice zo (xM l).zs.length zc],aI aK (eM l)])∧ZsAt w' zo (xM l).zs:=by
 obtain ⟨hb,h⟩:=h
 refine ⟨hb,?_⟩
 unfold xM eM
 split at h
 ·rename_i hg
  obtain ⟨zo,zc,he,hz,-⟩:=h
  rw [if_pos hg,if_pos hg]
  exact ⟨zo,zc,he,hz⟩
 ·rename_i hg
  rw [if_neg hg,if_neg hg]
  exact ⟨none,0,h,fun hp=>by simp at hp⟩
theorem t0c {w:World} {l:List UInt8} {e:Ending} {w':World} (h:o0a w l (aI aK 0) (aI aK 3) e w'):Below w.heap.size w w'∧e=.returned (.tuple #[.agg #[aI aK (xC l).kind,aI aK (xC l).zone,aI aK (xC l).epoch,aI aK (xC l).tt,aS (xC l).key],aI aK (eC l)]):=by
 obtain ⟨hb,h⟩:=h
 refine ⟨hb,?_⟩
 unfold xC eC
 split at h
 ·rename_i hg
  rw [if_pos hg,if_pos hg]
  exact h
 ·rename_i hg
  rw [if_neg hg,if_neg hg]
  exact h
theorem u0z (c:Ch):(xE c).length≤100:=by
 unfold xE
 split
 ·rename_i h
  have h1:=a0m [c.kind,c.zone,c.epoch,c.tt]
  have h2:=a0t c.key
  have h3:=n0j h
  unfold encC
  rw [lL]
  simp only [List.length_cons,List.length_nil] at h1
  omega
 ·simp
theorem r0a {m:Mp} (h:LtB m.zs):(encM m).length≤18000:=by
 have h1:=a0m [m.ver,m.next,(m.zs.length:Int)]
 obtain ⟨hl,hz⟩:=h
 have h2:∀ l:List Zn,(∀ z∈l,z.fr.size≤60∧z.to.size≤60∧z.key.size≤60)→(l.flatMap encZ).length≤270 * l.length:=by
  intro l
  induction l with
  | nil=>intro _;simp
  | cons z r ih =>
   intro hz
   have a:=ih fun y hy=>hz y (by simp [hy])
   obtain ⟨b1,b2,b3⟩:=hz z (by simp)
   have c1:=a0m [z.id]
   have c2:=a0m [z.owner,z.epoch,z.pend,z.tt]
   have c3:=a0m [z.nw]
   have c4:=a0t z.fr
   have c5:=a0t z.to
   have c6:=a0t z.key
   have e:(encZ z).length≤270:=by
    unfold encZ
    simp only [lL,List.length_cons,List.length_nil] at c1 c2 c3 ⊢
    omega
   simp only [List.flatMap_cons,lL,List.length_cons]
   omega
 have h3:=h2 m.zs hz
 unfold encM
 rw [lL]
 simp only [List.length_cons,List.length_nil] at h1
 omega
theorem s0l:∀ (k:Nat) (s:Rs),9 * (rdZs k s).1.length≤s.1.length+9
 | 0,s=>by simp [rdZs]
 | k+1,s=>by
  rw [i0h]
  by_cases hb:s.2=true
  ·rw [if_pos hb];simp
  ·rw [if_neg hb]
   have ih:=s0l k (s6 s)
   simp only [List.length_cons]
   cases h6:(s6 s).2 with
   | false =>
    have:=v0t h6
    omega
   | true =>
    have:(rdZs k (s6 s)).1=[]:=by
     cases k with
     | zero=>rfl
     | succ k=>rw [i0h,if_pos h6]
    rw [this]
    simp
theorem o0c (l:List UInt8):9 * (xM l).zs.length≤l.length+9:=by
 unfold xM
 split
 ·have h1:=s0l (a0j l false 2) (rdSt l false 3)
  have h2:=b0f l false 3
  have h3:(decM l).1.zs=(rdZs (a0j l false 2) (rdSt l false 3)).1:=rfl
  rw [h3]
  omega
 ·simp
end Go.Proofs.YtogamdaomdoapaaGreat.O