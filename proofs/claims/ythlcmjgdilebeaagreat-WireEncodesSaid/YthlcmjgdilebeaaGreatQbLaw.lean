/- WireEncodes: any word as bytes, or refused; there and back it is it. It holds of all words, without a condition. -/
import Derived.Test.YthlcmjgdilebeaaGreatQb32
import Derived.Test.YthlcmjgdilebeaaGreatQb46
import Derived.Test.YthlcmjgdilebeaaGreatQb47
import Derived.Test.YthlcmjgdilebeaaGreatQb49
import Derived.Test.YthlcmjgdilebeaaGreatQb50
import Derived.Test.YthlcmjgdilebeaaGreatRows
namespace Go.Proofs.YthlcmjgdilebeaaGreat
set_option maxRecDepth 20000
open Go.RowKit Go.Joins
theorem renc_one {w:World} {d:Wd} {e:Ending} {w':World} (h:REncWPost w d e w'):Below w.heap.size w w'∧∃ xo xc,e=.returned (.tuple #[.slice xo (bytW d).length xc,.int .i64 (codW d)])∧F.Sl w' xo xc (bytW d):=by
 obtain ⟨hb,h⟩:=h
 refine ⟨hb,?_⟩
 unfold bytW codW
 cases hm:mayW d with
 | true =>
  rw [if_pos hm] at h
  exact h
 | false =>
  rw [if_neg (by rw [hm];simp)] at h
  subst h
  exact ⟨none,0,rfl,sl_nil w'⟩
theorem dec_byt {d:Wd} (hl:Light d):wdDec (bytW d)=if mayW d=true then (d,0) else (zWd,2):=by
 cases hm:mayW d with
 | true=>unfold bytW;rw [if_pos hm,if_pos rfl];exact wdDec_enc hm hl (by have:=wdB_length hm hl;omega)
 | false=>unfold bytW;rw [if_neg (by rw [hm];simp),if_neg (by simp)];rfl
theorem byt_small {d:Wd} (hl:Light d) (hd:d.data.length≤2000) (p:List UInt8) (h:F.oneB (bytW d)=(p,0)):SmW p:=by
 cases hm:mayW d with
 | true =>
  unfold bytW encW at h
  rw [if_pos hm,one_frameW _ (by have:=wdB_length hm hl;omega)] at h
  rw [←(Prod.mk.inj h).1]
  exact small_enc hm hl hd
 | false =>
  unfold bytW at h
  rw [if_neg (by rw [hm];simp)] at h
  exact absurd (congrArg Prod.snd h) (show ¬(2:Nat)=0 by decide)
theorem byt_len {d:Wd} (hl:Light d):(bytW d).length≤150000:=by
 cases hm:mayW d with
 | true =>
  unfold bytW encW
  rw [if_pos hm,F.frameB_length]
  have:=wdB_length hm hl
  omega
 | false=>unfold bytW;rw [if_neg (by rw [hm];simp)];simp
set_option maxHeartbeats 8000000 in
theorem encodes_walk {d:Wd} {V:Array Value} (ao bo:Option Addr) (zc bc:Nat) (hV:V=wdV d (.slice ao d.mp.zs.length zc) (.slice bo d.data.length bc)) (w:World) (hz:O.ZsAt w ao d.mp.zs) (hzl:d.mp.zs.length≤9223372036854775807) (hsl:F.Sl w bo bc d.data) :
 Calls Tryz.prog 3 #[.agg V] w fun e w'=>e=.returned (.bool true)∧Below w.heap.size w w':=by
 have HV:=Lib.hid hV
 have HZ:=Lib.hid hz
 have Hsl:=Lib.hid hsl
 have hs:V.size=37:=by rw [hV];rfl
 have Hdl:Hid (d.data.length≤9223372036854775807):=Lib.hid (by have:=hsl.le;have:=hsl.cm;omega)
 clear hV hz hsl
 go_enter Tryz.func3,Tryz.ntmps3
 refine wp_hold fun C HC=>?_
 go_wp2_with fail
 refine wp_name fun wa hwa=>?_
 obtain ⟨B,hB⟩:∃ B,B=w.heap.size:=⟨_,rfl⟩
 have S:Hid (St w wa [thObj B (.cells V 40 (0,0))]):=by rw [hwa];exact Lib.hid ((St.start w).objN _ B hB)
 rw [←hB]
 clear hwa hB
 ((have hC:=HC.out);clear HC;subst hC)
 refine wp_hold fun C HC=>?_
 refine wp_seq ?_
 refine wp_seq ?_
 refine wp_region_lit ?_
 (refine wpList_load_row rfl 40 _ rfl (B) rfl _ _ _ _ (S.out.head) Tryz.underlying40 rfl (by rw [hs];kernel_rfl) ?_)
 go_wp2_with fail
 refine (heavyW_any HV.out ao bo zc bc rfl rfl wa (HZ.out.grow S.out.b) hzl Hdl.out).mono ?_
 rintro e w1 ⟨hb1,he⟩
 have S:=Lib.hid (S.out.grow hb1)
 clear hb1
 rcases he with rfl | ⟨rfl,hli,hda⟩
 ·go_wp2_with fail
  go_ret
  exact ⟨rfl,S.out.b⟩
 have HL1:=Lib.hid hli
 have Hda:=Lib.hid hda
 clear hli hda
 go_wp2_with fail
 ((have hC:=HC.out);clear HC;subst hC)
 refine wp_hold fun C HC=>?_
 refine wp_seq ?_
 refine wp_region_lit ?_
 (refine wpList_load_row rfl 40 _ rfl (B) rfl _ _ _ _ (S.out.head) Tryz.underlying40 rfl (by rw [hs];kernel_rfl) ?_)
 go_wp2_with fail
 refine ((wenc_any HV.out ao bo zc bc rfl rfl w1 (HZ.out.grow S.out.b) (Hsl.out.grow S.out.b) HL1.out).mono (fun e w' h=>penc_one h)).mono ?_
 rintro e w2 ⟨hb2,xo,xc,rfl,hx⟩
 have S:=Lib.hid (S.out.grow hb2)
 have Hx:=Lib.hid hx
 clear hb2 hx
 obtain ⟨X,hX⟩:∃ X,X=bytW d:=⟨_,rfl⟩
 obtain ⟨c,hc⟩:∃ c,c=codW d:=⟨_,rfl⟩
 rw [←hX] at Hx ⊢
 rw [←hc]
 have Hlk:=Lib.hid (fun w=>like_any HV.out w)
 have Hre:=Lib.hid (fun (w5:World) (hbw:Below w.heap.size w w5)=>(rencW_any HV.out ao bo zc bc rfl rfl w5 (HZ.out.grow hbw) (Hsl.out.grow hbw) HL1.out).mono (fun e w' h=>renc_one h))
 rw [←hX,←hc] at Hre
 have HX:=Lib.hid hX
 have Hc:=Lib.hid hc
 clear hX hc
 go_wp2_with fail
 ((have hC:=HC.out);clear HC;subst hC)
 refine wp_hold fun C HC=>?_
 refine wp_seq ?_
 refine wp_region_lit ?_
 (refine wpList_load_row rfl 40 _ rfl (B) rfl _ _ _ _ (S.out.head) Tryz.underlying40 rfl (by rw [hs];kernel_rfl) ?_)
 go_wp2_with fail
 refine (Hlk.out _).mono ?_
 (rintro e w3 ⟨rfl,hbb⟩;(have S:=Lib.hid (S.out.grow hbb));(have Hx:=Lib.hid (Hx.out.grow hbb));clear hbb)
 go_wp2_with fail
 refine (Hre.out w3 S.out.b).mono ?_
 rintro e w4 ⟨hb4,yo,yc,rfl,hy⟩
 have S:=Lib.hid (S.out.grow hb4)
 have Hx:=Lib.hid (Hx.out.grow hb4)
 have Hy:=Lib.hid hy
 clear hb4 hy Hre
 go_wp2_with fail
 ((have hC:=HC.out);clear HC;subst hC)
 refine wp_hold fun C HC=>?_
 refine wp_seq ?_
 refine wp_hold fun C5 HC5=>?_
 refine wp_seq ?_
 refine wp_region_lit ?_
 obtain ⟨my,hmy⟩:∃ my,my=mayW d:=⟨_,rfl⟩
 have hcc:(c != c)=false:=bne_self_eq_false c
 have hmc:(my==(c==0))=true:=by rw [hmy,Hc.out];unfold codW;cases mayW d<;>rfl
 have Hmy:=Lib.hid hmy
 have hcx:=conv_str Hx.out.at_ xc
 have hcy:=conv_str Hy.out.at_ yc
 have hmay:=wmay_any HV.out ao bo zc bc rfl rfl w4 (HZ.out.grow S.out.b) HL1.out.mp (by have:=HL1.out.data;omega)
 rw [←hmy] at hmay
 have Hmay:=Lib.hid hmay
 clear hmy hmay
 ((refine list_hold 11 fun L HL=>?_);simp only [List.take_succ_cons,List.take_zero,List.cons_append,List.nil_append];(go_wp2_with fail))
 clear hcx hcy
 ((have hL:=HL.out);clear HL;subst hL;simp only [List.drop_succ_cons,List.drop_zero])
 (refine wpList_load_rowG (by rfl) 40 _ rfl (B) rfl _ _ _ _ (S.out.head) Tryz.underlying40 rfl (by rw [hs];kernel_rfl) ?_)
 go_wp2_with fail
 refine Hmay.out.mono ?_
 (rintro e w5 ⟨rfl,hbb⟩;(have S:=Lib.hid (S.out.grow hbb));(have Hx:=Lib.hid (Hx.out.grow hbb));clear hbb)
 clear Hmay Hy
 go_wp2_with fail
 (have hC:=HC5.out);clear HC5;subst hC
 refine wp_cond_false rfl ?_
 go_wp2_with fail
 ((have hC:=HC.out);clear HC;subst hC)
 refine wp_hold fun C HC=>?_
 refine wp_seq ?_
 refine wp_region_lit ?_
 have hdec:=wdec_all xo xc X w5 Hx.out (by rw [HX.out];have:=byt_len HL1.out;omega) (fun p hp=>byt_small HL1.out Hda.out p (by rw [←HX.out];exact hp))
 have hx5:wdDec X=if my=true then (d,0) else (zWd,2):=by rw [HX.out,Hmy.out];exact dec_byt HL1.out
 obtain ⟨D,hD⟩:∃ D,D=(wdDec X).1:=⟨_,rfl⟩
 obtain ⟨q,hq⟩:∃ q,q=(wdDec X).2:=⟨_,rfl⟩
 have HD:Hid (D=if my=true then d else zWd):=by rw [hD,hx5];cases my<;>exact Lib.hid rfl
 have Hq:Hid (q=if my=true then 0 else 2):=by rw [hq,hx5];cases my<;>exact Lib.hid rfl
 have Hdec:=Lib.hid hdec
 clear hdec hx5
 ((refine list_hold 6 fun L HL=>?_);simp only [List.take_succ_cons,List.take_zero,List.cons_append,List.nil_append];(go_wp2_with fail))
 refine (Hdec.out).mono ?_
 intro e w6 hde
 obtain ⟨VX,m1,z1,d1,k1,hV,hsx,hox,rfl,hbb,hz,hsd⟩:=dec_named hde
 rw [←hD] at hV hz hsd
 rw [←hq]
 have HV1:=Lib.hid hV
 have HZ1:=Lib.hid hz
 have HS1:=Lib.hid hsd
 have S:=Lib.hid (S.out.grow hbb)
 have Hw6:=Lib.hid (S.out.b)
 clear hde hV hz hsd hbb Hdec hD hq Hx
 go_wp2_with fail
 refine list_name fun wn hwn=>?_
 obtain ⟨P,hP⟩:∃ n,n=w6.heap.size:=⟨_,rfl⟩
 have S6:Hid (St w wn (thObj P (.cells #[.int .i64 0,.int .i64 0,.int .i64 0,.int .i64 0,.int .i64 0,.int .i64 0,.int .i64 0,.int .i64 0,.string ⟨#[]⟩,.string ⟨#[]⟩,.int .i64 0,.int .i64 0,.int .i64 0,.string ⟨#[]⟩,.string ⟨#[]⟩,.string ⟨#[]⟩,.string ⟨#[]⟩,.int .i64 0,.int .i64 0,.int .i64 0,.bool false,.int .i64 0,.int .i64 0,.int .i64 0,.int .i64 0,.int .i64 0,.int .i64 0,.int .i64 0,.int .i64 0,.int .i64 0,.slice none 0 0,.int .i64 0,.int .i64 0,.int .i64 0,.int .i64 0,.string ⟨#[]⟩,.slice none 0 0] 40 (0,0))::[thObj B (.cells V 40 (0,0))])):=by rw [hwn];exact Lib.hid (S.out.objN _ P hP)
 rw [←hP]
 have hb7:Below w6.heap.size w6 wn:=by rw [hwn];exact below_allocO _ _
 have hPw:w6.heap.size≤P:=Nat.le_of_eq hP.symm
 clear hwn hP
 ((have hL:=HL.out);clear HL;subst hL;simp only [List.drop_succ_cons,List.drop_zero])
 refine wpList_store_row rfl 40 _ _ rfl P VX rfl rfl 40 _ S6.out.head (by rw [hsx];kernel_rfl) (by rw [hsx];rfl) hox ?_
 have T:=Lib.hid (S6.out.setRow37 VX)
 clear S6
 refine list_name fun w8 hwn=>?_
 have H68:Hid (Below w6.heap.size w6 w8):=by rw [hwn];exact Lib.hid (below_setRow hb7 hPw VX)
 have Hle:=Lib.hid H68.out.size
 rw [←hwn] at T
 clear hb7 hPw
 clear hwn
 go_wp2_with fail
 ((have hC:=HC.out);clear HC;subst hC)
 clear S
 have S:=T
 clear T
 refine wp_seq ?_
 obtain ⟨wd,hwd⟩:∃ wd,wd=w8.drew:=⟨_,rfl⟩
 have hdw:Below w8.heap.size w8 wd:=by rw [hwd];exact (Below.refl _ _).drew
 have hw6:w6.heap.size≤wd.heap.size:=by have h1:=hdw.size;have h2:=Hle.out;omega
 have H68:=Lib.hid (H68.out.trans (hdw.mono Hle.out))
 have S:=Lib.hid (S.out.grow hdw)
 clear hdw hcc hmc
 have Hsu:Hid (∀ w',Below wd.heap.size wd w'→(fun W:World=>W.heap[P]?=some (.cells VX 40 (0,0))∧W.heap[B]?=some (.cells V 40 (0,0))) w'):=Lib.hid fun w' hb=>⟨(S.out.grow hb).head,((S.out.grow hb).pull (A:=[_])).head⟩
 have HB:=Lib.hid (Below.refl wd.heap.size wd)
 have HC:Hid ((fun W:World=>W.heap[P]?=some (.cells VX 40 (0,0))∧W.heap[B]?=some (.cells V 40 (0,0))) wd):=Lib.hid (Hsu.out wd HB.out)
 cases my with
 | false =>
  obtain rfl:c=1:=by rw [Hc.out];unfold codW;rw [←Hmy.out];rfl
  refine wp_region_noPanic ?_
  refine wp_region_held (S:=(fun W:World=>W.heap[P]?=some (.cells VX 40 (0,0))∧W.heap[B]?=some (.cells V 40 (0,0)))) (by kernel_rfl) ?_
  change wpAnyH _ _ _ _ _ _ _ _ (World.drew _)
  rw [←hwd]
  clear hwd
  (refine takeD (i:=0) (v:=.int .i64 1) 44 rfl rfl (by kernel_rfl) (by kernel_rfl) (by kernel_rfl) (fun _ _ _ h=>h) (Or.inl ⟨by rfl,fun w hSw=>(by clear hSw;go_simp)⟩) HC.out ?_;(try simp only [Act.put,List.setIfInBounds_toArray,List.set_cons_zero,List.set_cons_succ]))
  (refine takeD (i:=1) (v:=.bool true) 45 rfl rfl (by kernel_rfl) (by kernel_rfl) (by kernel_rfl) (fun _ _ _ h=>h) (Or.inl ⟨by rfl,fun w hSw=>(by clear hSw;go_simp)⟩) HC.out ?_;(try simp only [Act.put,List.setIfInBounds_toArray,List.set_cons_zero,List.set_cons_succ]))
  (refine takeD (i:=2) (v:=.bool true) 46 rfl rfl (by kernel_rfl) (by kernel_rfl) (by kernel_rfl) (fun _ _ _ h=>h) (Or.inl ⟨by rfl,fun w hSw=>(by clear hSw;go_simp)⟩) HC.out ?_;(try simp only [Act.put,List.setIfInBounds_toArray,List.set_cons_zero,List.set_cons_succ]))
  (refine takeD (i:=3) (v:=undef) 47 rfl rfl (by kernel_rfl) (by kernel_rfl) (by kernel_rfl) (fun _ _ _ h=>h) (Or.inr ⟨by rfl,rfl⟩) HC.out ?_;(try simp only [Act.put,List.setIfInBounds_toArray,List.set_cons_zero,List.set_cons_succ]))
  (refine takeD (i:=4) (v:=undef) 48 rfl rfl (by kernel_rfl) (by kernel_rfl) (by kernel_rfl) (fun _ _ _ h=>h) (Or.inr ⟨by rfl,rfl⟩) HC.out ?_;(try simp only [Act.put,List.setIfInBounds_toArray,List.set_cons_zero,List.set_cons_succ]))
  (refine takeD (i:=5) (v:=undef) 49 rfl rfl (by kernel_rfl) (by kernel_rfl) (by kernel_rfl) (fun _ _ _ h=>h) (Or.inr ⟨by rfl,rfl⟩) HC.out ?_;(try simp only [Act.put,List.setIfInBounds_toArray,List.set_cons_zero,List.set_cons_succ]))
  (refine takeD (i:=6) (v:=undef) 50 rfl rfl (by kernel_rfl) (by kernel_rfl) (by kernel_rfl) (fun _ _ _ h=>h) (Or.inr ⟨by rfl,rfl⟩) HC.out ?_;(try simp only [Act.put,List.setIfInBounds_toArray,List.set_cons_zero,List.set_cons_succ]))
  (refine takeD (i:=8) (v:=undef) 52 rfl rfl (by kernel_rfl) (by kernel_rfl) (by kernel_rfl) (fun _ _ _ h=>h) (Or.inr ⟨by rfl,rfl⟩) HC.out ?_;(try simp only [Act.put,List.setIfInBounds_toArray,List.set_cons_zero,List.set_cons_succ]))
  ((refine wpAnyH_all (rs:=[7]) (by kernel_rfl) (by simp) (fun i' hi'=>?_);(obtain rfl:i'=7:=by simpa using hi');clear hi';(refine wpOp_step rfl (fun K' hK'=>?_)));go_simp;(refine hK' _ _ ⟨HC.out,?_⟩);clear hK' K';(try simp only [Act.put,List.setIfInBounds_toArray,List.set_cons_zero,List.set_cons_succ]))
  ((refine wpAnyH_all (rs:=[9]) (by kernel_rfl) (by simp) (fun i' hi'=>?_);(obtain rfl:i'=9:=by simpa using hi');clear hi';(refine wpOp_step rfl (fun K' hK'=>?_)));go_simp;(refine hK' _ _ ⟨HC.out,?_⟩);clear hK' K';(try simp only [Act.put,List.setIfInBounds_toArray,List.set_cons_zero,List.set_cons_succ]))
  ((refine wpAnyH_all (rs:=[10]) (by kernel_rfl) (by simp) (fun i' hi'=>?_);(obtain rfl:i'=10:=by simpa using hi');clear hi';(refine wpOp_step rfl (fun K' hK'=>?_)));go_simp;(refine hK' _ _ ⟨HC.out,?_⟩);clear hK' K';(try simp only [Act.put,List.setIfInBounds_toArray,List.set_cons_zero,List.set_cons_succ]))
  (refine takeD (i:=11) (v:=undef) 55 rfl rfl (by kernel_rfl) (by kernel_rfl) (by kernel_rfl) (fun _ _ _ h=>h) (Or.inr ⟨by rfl,rfl⟩) HC.out ?_;(try simp only [Act.put,List.setIfInBounds_toArray,List.set_cons_zero,List.set_cons_succ]))
  (refine takeD (i:=12) (v:=.bool true) 56 rfl rfl (by kernel_rfl) (by kernel_rfl) (by kernel_rfl) (fun _ _ _ h=>h) (Or.inl ⟨by rfl,fun w hSw=>(by clear hSw;go_simp)⟩) HC.out ?_;(try simp only [Act.put,List.setIfInBounds_toArray,List.set_cons_zero,List.set_cons_succ]))
  (refine takeD (i:=13) (v:=.bool true) 57 rfl rfl (by kernel_rfl) (by kernel_rfl) (by kernel_rfl) (fun _ _ _ h=>h) (Or.inl ⟨by rfl,fun w hSw=>(by clear hSw;go_simp)⟩) HC.out ?_;(try simp only [Act.put,List.setIfInBounds_toArray,List.set_cons_zero,List.set_cons_succ]))
  ((refine wpAnyH_all (rs:=[14]) (by kernel_rfl) (by simp) (fun i' hi'=>?_);(obtain rfl:i'=14:=by simpa using hi');clear hi';(refine wpOp_step rfl (fun K' hK'=>?_)));go_simp;(refine (knownW_any wd).mono ?_);(rintro e w9 ⟨rfl,hbb⟩);(have S:=Lib.hid (S.out.grow hbb));(have HB:=Lib.hid (HB.out.trans (hbb.mono HB.out.size)));clear hbb HC;(have HC:Hid ((fun W:World=>W.heap[P]?=some (.cells VX 40 (0,0))∧W.heap[B]?=some (.cells V 40 (0,0))) w9):=Lib.hid (Hsu.out w9 HB.out));(refine hK' _ _ ⟨HC.out,?_⟩);clear hK' K';(try simp only [Act.put,List.setIfInBounds_toArray,List.set_cons_zero,List.set_cons_succ]))
  (refine takeD (i:=15) (v:=.bool true) 59 rfl rfl (by kernel_rfl) (by kernel_rfl) (by kernel_rfl) (fun _ _ _ h=>h) (Or.inl ⟨by rfl,fun w hSw=>(by clear hSw;go_simp)⟩) HC.out ?_;(try simp only [Act.put,List.setIfInBounds_toArray,List.set_cons_zero,List.set_cons_succ]))
  (refine takeD (i:=16) (v:=.bool true) 2 rfl rfl (by kernel_rfl) (by kernel_rfl) (by kernel_rfl) (fun _ _ _ h=>h) (Or.inl ⟨by rfl,fun w hSw=>(by clear hSw;go_simp)⟩) HC.out ?_;(try simp only [Act.put,List.setIfInBounds_toArray,List.set_cons_zero,List.set_cons_succ]))
  refine wpAnyH_done (by kernel_rfl) ?_ _
  refine NoPanic.normal ?_
  have hfin:=S.out.b
  go_wp2_with fail
  go_ret
  exact ⟨rfl,hfin⟩
 | true =>
  obtain rfl:c=0:=by rw [Hc.out];unfold codW;rw [←Hmy.out];rfl
  obtain rfl:q=0:=Hq.out
  obtain rfl:D=d:=HD.out
  refine wp_region_noPanic ?_
  refine wp_region_held (S:=(fun W:World=>W.heap[P]?=some (.cells VX 40 (0,0))∧W.heap[B]?=some (.cells V 40 (0,0)))) (by kernel_rfl) ?_
  change wpAnyH _ _ _ _ _ _ _ _ (World.drew _)
  rw [←hwd]
  clear hwd
  (refine takeD (i:=0) (v:=.int .i64 0) 44 rfl rfl (by kernel_rfl) (by kernel_rfl) (by kernel_rfl) (fun _ _ _ h=>h) (Or.inl ⟨by rfl,fun w hSw=>(by clear hSw;go_simp)⟩) HC.out ?_;(try simp only [Act.put,List.setIfInBounds_toArray,List.set_cons_zero,List.set_cons_succ]))
  (refine takeD (i:=1) (v:=.bool false) 45 rfl rfl (by kernel_rfl) (by kernel_rfl) (by kernel_rfl) (fun _ _ _ h=>h) (Or.inl ⟨by rfl,fun w hSw=>(by clear hSw;go_simp)⟩) HC.out ?_;(try simp only [Act.put,List.setIfInBounds_toArray,List.set_cons_zero,List.set_cons_succ]))
  (refine takeD (i:=2) (v:=.bool false) 46 rfl rfl (by kernel_rfl) (by kernel_rfl) (by kernel_rfl) (fun _ _ _ h=>h) (Or.inl ⟨by rfl,fun w hSw=>(by clear hSw;go_simp)⟩) HC.out ?_;(try simp only [Act.put,List.setIfInBounds_toArray,List.set_cons_zero,List.set_cons_succ]))
  (refine takeD (i:=3) (v:=.int .i64 0) 47 rfl rfl (by kernel_rfl) (by kernel_rfl) (by kernel_rfl) (fun _ _ _ h=>h) (Or.inl ⟨by rfl,fun w hSw=>(by clear hSw;go_simp)⟩) HC.out ?_;(try simp only [Act.put,List.setIfInBounds_toArray,List.set_cons_zero,List.set_cons_succ]))
  (refine takeD (i:=4) (v:=.bool true) 48 rfl rfl (by kernel_rfl) (by kernel_rfl) (by kernel_rfl) (fun _ _ _ h=>h) (Or.inl ⟨by rfl,fun w hSw=>(by clear hSw;go_simp)⟩) HC.out ?_;(try simp only [Act.put,List.setIfInBounds_toArray,List.set_cons_zero,List.set_cons_succ]))
  (refine takeD (i:=5) (v:=.bool true) 49 rfl rfl (by kernel_rfl) (by kernel_rfl) (by kernel_rfl) (fun _ _ _ h=>h) (Or.inl ⟨by rfl,fun w hSw=>(by clear hSw;go_simp)⟩) HC.out ?_;(try simp only [Act.put,List.setIfInBounds_toArray,List.set_cons_zero,List.set_cons_succ]))
  (refine takeD (i:=6) (v:=.agg VX) 50 rfl rfl (by kernel_rfl) (by kernel_rfl) (by kernel_rfl) (fun _ _ _ h=>h) (Or.inl ⟨by rfl,fun w hSw=>(by obtain ⟨t0,t1⟩:=hSw;exact exec_load_row 40 _ rfl P rfl _ VX _ _ t0 Tryz.underlying40 rfl (by rw [hsx];kernel_rfl))⟩) HC.out ?_;(try simp only [Act.put,List.setIfInBounds_toArray,List.set_cons_zero,List.set_cons_succ]))
  (refine takeD (i:=8) (v:=.agg V) 52 rfl rfl (by kernel_rfl) (by kernel_rfl) (by kernel_rfl) (fun _ _ _ h=>h) (Or.inl ⟨by rfl,fun w hSw=>(by obtain ⟨t0,t1⟩:=hSw;exact exec_load_row 40 _ rfl B rfl _ V _ _ t1 Tryz.underlying40 rfl (by rw [hs];kernel_rfl))⟩) HC.out ?_;(try simp only [Act.put,List.setIfInBounds_toArray,List.set_cons_zero,List.set_cons_succ]))
  ((refine wpAnyH_all (rs:=[7]) (by kernel_rfl) (by simp) (fun i' hi'=>?_);(obtain rfl:i'=7:=by simpa using hi');clear hi';(refine wpOp_step rfl (fun K' hK'=>?_)));go_simp;(refine (like_any HV1.out wd).mono ?_);(rintro e w9 ⟨rfl,hbb⟩);(have S:=Lib.hid (S.out.grow hbb));(have HB:=Lib.hid (HB.out.trans (hbb.mono HB.out.size)));clear hbb HC;(have HC:Hid ((fun W:World=>W.heap[P]?=some (.cells VX 40 (0,0))∧W.heap[B]?=some (.cells V 40 (0,0))) w9):=Lib.hid (Hsu.out w9 HB.out));(refine hK' _ _ ⟨HC.out,?_⟩);clear hK' K';(try simp only [Act.put,List.setIfInBounds_toArray,List.set_cons_zero,List.set_cons_succ]))
  ((refine wpAnyH_all (rs:=[9]) (by kernel_rfl) (by simp) (fun i' hi'=>?_);(obtain rfl:i'=9:=by simpa using hi');clear hi';(refine wpOp_step rfl (fun K' hK'=>?_)));go_simp;(refine (like_any HV.out w9).mono ?_);(rintro e wA ⟨rfl,hbb⟩);(have S:=Lib.hid (S.out.grow hbb));(have HB:=Lib.hid (HB.out.trans (hbb.mono HB.out.size)));clear hbb HC;(have HC:Hid ((fun W:World=>W.heap[P]?=some (.cells VX 40 (0,0))∧W.heap[B]?=some (.cells V 40 (0,0))) wA):=Lib.hid (Hsu.out wA HB.out));(refine hK' _ _ ⟨HC.out,?_⟩);clear hK' K';(try simp only [Act.put,List.setIfInBounds_toArray,List.set_cons_zero,List.set_cons_succ]))
  have hb6:=H68.out.trans (HB.out.mono hw6)
  have hsame:=sameW_any HV1.out HV.out m1 ao d1 bo z1 zc k1 bc rfl rfl rfl rfl wA (HZ1.out.grow hb6) (HZ.out.grow S.out.b) (HS1.out.grow hb6).at_ (Hsl.out.grow S.out.b).at_ (by have:=HL1.out.mp.n;omega)
  rw [sameWd_iff.2 rfl] at hsame
  ((refine wpAnyH_all (rs:=[10]) (by kernel_rfl) (by simp) (fun i' hi'=>?_);(obtain rfl:i'=10:=by simpa using hi');clear hi';(refine wpOp_step rfl (fun K' hK'=>?_)));go_simp;(refine (hsame).mono ?_);(rintro e wB ⟨rfl,hbb⟩);(have S:=Lib.hid (S.out.grow hbb));(have HB:=Lib.hid (HB.out.trans (hbb.mono HB.out.size)));clear hbb HC;(have HC:Hid ((fun W:World=>W.heap[P]?=some (.cells VX 40 (0,0))∧W.heap[B]?=some (.cells V 40 (0,0))) wB):=Lib.hid (Hsu.out wB HB.out));(refine hK' _ _ ⟨HC.out,?_⟩);clear hK' K';(try simp only [Act.put,List.setIfInBounds_toArray,List.set_cons_zero,List.set_cons_succ]))
  clear hsame hb6
  (refine takeD (i:=11) (v:=.bool true) 55 rfl rfl (by kernel_rfl) (by kernel_rfl) (by kernel_rfl) (fun _ _ _ h=>h) (Or.inl ⟨by rfl,fun w hSw=>(by clear hSw;go_simp)⟩) HC.out ?_;(try simp only [Act.put,List.setIfInBounds_toArray,List.set_cons_zero,List.set_cons_succ]))
  (refine takeD (i:=12) (v:=.bool true) 56 rfl rfl (by kernel_rfl) (by kernel_rfl) (by kernel_rfl) (fun _ _ _ h=>h) (Or.inl ⟨by rfl,fun w hSw=>(by clear hSw;go_simp)⟩) HC.out ?_;(try simp only [Act.put,List.setIfInBounds_toArray,List.set_cons_zero,List.set_cons_succ]))
  (refine takeD (i:=13) (v:=.bool true) 57 rfl rfl (by kernel_rfl) (by kernel_rfl) (by kernel_rfl) (fun _ _ _ h=>h) (Or.inl ⟨by rfl,fun w hSw=>(by clear hSw;go_simp)⟩) HC.out ?_;(try simp only [Act.put,List.setIfInBounds_toArray,List.set_cons_zero,List.set_cons_succ]))
  ((refine wpAnyH_all (rs:=[14]) (by kernel_rfl) (by simp) (fun i' hi'=>?_);(obtain rfl:i'=14:=by simpa using hi');clear hi';(refine wpOp_step rfl (fun K' hK'=>?_)));go_simp;(refine (knownW_any wB).mono ?_);(rintro e wC ⟨rfl,hbb⟩);(have S:=Lib.hid (S.out.grow hbb));(have HB:=Lib.hid (HB.out.trans (hbb.mono HB.out.size)));clear hbb HC;(have HC:Hid ((fun W:World=>W.heap[P]?=some (.cells VX 40 (0,0))∧W.heap[B]?=some (.cells V 40 (0,0))) wC):=Lib.hid (Hsu.out wC HB.out));(refine hK' _ _ ⟨HC.out,?_⟩);clear hK' K';(try simp only [Act.put,List.setIfInBounds_toArray,List.set_cons_zero,List.set_cons_succ]))
  (refine takeD (i:=15) (v:=.bool true) 59 rfl rfl (by kernel_rfl) (by kernel_rfl) (by kernel_rfl) (fun _ _ _ h=>h) (Or.inl ⟨by rfl,fun w hSw=>(by clear hSw;go_simp)⟩) HC.out ?_;(try simp only [Act.put,List.setIfInBounds_toArray,List.set_cons_zero,List.set_cons_succ]))
  (refine takeD (i:=16) (v:=.bool true) 2 rfl rfl (by kernel_rfl) (by kernel_rfl) (by kernel_rfl) (fun _ _ _ h=>h) (Or.inl ⟨by rfl,fun w hSw=>(by clear hSw;go_simp)⟩) HC.out ?_;(try simp only [Act.put,List.setIfInBounds_toArray,List.set_cons_zero,List.set_cons_succ]))
  refine wpAnyH_done (by kernel_rfl) ?_ _
  refine NoPanic.normal ?_
  have hfin:=S.out.b
  go_wp2_with fail
  go_ret
  exact ⟨rfl,hfin⟩
namespace WireEncodesLift
open Go.ChangeShapes Go.WideShapes Go.ChangeAt Go.RowKit Go.Joins Go.Deep
open Go.ChangeMaps (open_string shut_string)
theorem own:ownKnob Tryz.prog.godebug=none:=by kernel_rfl
theorem laidOut:laidOutB Tryz.prog=true:=by kernel_rfl
set_option maxHeartbeats 1000000 in
set_option maxRecDepth 100000 in
theorem lifted (os:Os) (started:os.Started) (H:Type) (enc:TypeId × Value→H) :
 ReturnsInHanded {} Tryz.checked os 3 .any (Rows.wireEncodesSpec.pre6 enc Tryz.prog Tryz.f3 Rows.wireEncodesRow.domain false) (Rows.wireEncodesSpec.post enc Tryz.prog Tryz.f3 false true false false):=by
 refine returnsInHanded_of_change_sized (C:=Tryz.checked) own started (by kernel_rfl) Tryz.func3
  (ChangeSpec.witness6 (enc:=enc) (C:=Tryz.checked) false ⟨#[],#[.agg #[.int .i64 0,.int .i64 0,.int .i64 0,.int .i64 0,.int .i64 0,.int .i64 0,.int .i64 0,.int .i64 0,.string ⟨#[]⟩,.string ⟨#[]⟩,.int .i64 0,.int .i64 0,.int .i64 0,.string ⟨#[]⟩,.string ⟨#[]⟩,.string ⟨#[]⟩,.string ⟨#[]⟩,.int .i64 0,.int .i64 0,.int .i64 0,.bool false,.int .i64 0,.int .i64 0,.int .i64 0,.int .i64 0,.int .i64 0,.int .i64 0,.int .i64 0,.int .i64 0,.int .i64 0,.slice none 0 0,.int .i64 0,.int .i64 0,.int .i64 0,.int .i64 0,.string ⟨#[]⟩,.slice none 0 0]],[]⟩ 8 (by kernel_rfl) (by kernel_rfl) (by kernel_rfl) (by kernel_rfl)) ?_
 intro W base args ds gs before hval0 hW hcnd hsz0 _
 have hval:∀ (j:Nat) t v,Tryz.f3.params[j]?=some t→args[j]?=some v→Value.okWide Tryz.prog W .any base t v:=hval0
 have hW':=hW
 obtain ⟨p,q,hA0,hV,rfl,hfz,hnd⟩:=hW
 have hA:DataW.TrodAll enc Tryz.prog W 0 (fun _=>true) true Tryz.f3.params.toList args.toList ds p:=hA0
 have hsz:(DataW.weightsEach Tryz.prog (Tryz.f3.params.toList++Rows.wireEncodesSpec.plain.varTypes Tryz.prog) (ds++gs)).all (·≤reachBytes)=true:=hsz0
 rw [Tryz.params3] at hA hval hsz
 obtain ⟨v0,vs0,d0,ds0,p0,q0,hargs,rfl,rfl,h0,r0⟩:=trodAll_cons hA
 obtain ⟨rfl,rfl,rfl⟩:=trodAll_nil r0
 obtain rfl:args=#[v0]:=by cases args;simp_all
 obtain ⟨rfl,rfl⟩:=trodVars_none hV
 have k0:=h0
 have lt0:∀ x∈p0,x.block<W.heap.size:=by obtain ⟨m,hm⟩:=k0;exact DataW.trod_lt m _ _ _ hm
 have post:∀ e W',e=Ending.returned (.bool true)→Below W.heap.size W W'→∃ v,e=.returned v∧Rows.wireEncodesSpec.post enc Tryz.prog Tryz.f3 false true false false W #[v0] v W':=by
  intro e W' he bel
  subst he
  exact ⟨_,rfl,_,_,_,[],_,[],hW',trodAll_mk1 (shut_bool Tryz.underlying4 _),(trodAll_cons_mk (Below.trod laidOut (by kernel_rfl) (of_decide_eq_true (by kernel_rfl)) k0 bel lt0) trodAll_mk0),rfl,bel.frame _,fun h=>by cases h⟩
 clear hW' hcnd hfz hnd hA0 hA hval0
 obtain ⟨d,ao,zc,bo,bc,rfl,hm1,hm2,hm3,hb1,hb2,hb3,hb4⟩:=open_word (hval 0 40 v0 rfl rfl) h0
 exact (encodes_walk ao bo zc bc rfl W hm3 (by unfold maxLen at hm2;omega) ⟨hb1,by unfold maxLen at hb2;omega,hb3,hb4⟩).mono fun e W' ⟨he,bel⟩=>post e W' he bel
theorem over:Rows.wireEncodesRow.holds Tryz.pinned (OpenSpec.ofChange Rows.wireEncodesSpec) :=
 OpenClaim.holds_of_wide 3 Tryz.f3 rfl rfl rfl rfl rfl rfl rfl ⟨rfl,rfl,rfl,rfl,rfl⟩ rfl rfl rfl rfl rfl (by kernel_rfl) Tryz.func3 (by kernel_rfl)
  (of_decide_eq_true (by kernel_rfl)) (by unfold Func.isWrapper;first | (rw [if_pos (by decide +kernel)];kernel_rfl) | (rw [if_neg (by decide +kernel)];exact ⟨rfl,rfl⟩))
  (fun os started H enc _=>lifted os started H enc)
end WireEncodesLift
theorem wireEncodes_holds:Rows.WireEncodesSaid:=WireEncodesLift.over
#print axioms wireEncodes_holds
end Go.Proofs.YthlcmjgdilebeaaGreat