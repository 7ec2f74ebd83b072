/- WireDecodes: any bytes as a word, or refused. It holds of all bytes, without a condition. -/
import Derived.Test.YthlcmjgdilebeaaGreatQa05
import Derived.Test.YthlcmjgdilebeaaGreatQa32
import Derived.Test.YthlcmjgdilebeaaGreatQa51
import Derived.Test.YthlcmjgdilebeaaGreatRows
namespace Go.Proofs.YthlcmjgdilebeaaGreat
set_option maxRecDepth 20000
open Go.RowKit Go.Joins
theorem dec_few {l:List UInt8} (h:l.length≤2000):(wdDec l).1.mp.zs.length≤100000:=by
 unfold wdDec
 obtain ⟨p,c,hp⟩:∃ p c,F.oneB l=(p,c):=⟨_,_,rfl⟩
 rw [hp]
 dsimp only
 split
 ·next hc =>
  split
  ·next hg =>
   have hs:=small_le (p:=p) (by have:=one_len hp hc;omega)
   unfold goodW at hg
   simp only [Bool.and_eq_true] at hg
   have:=(hs.li hg.1.1 hg.1.2).mp.n
   dsimp only
   omega
  ·exact (by decide:(0:Nat)≤100000)
 ·exact (by decide:(0:Nat)≤100000)
set_option maxHeartbeats 8000000 in
theorem decodes_walk (ao:Option Addr) (cap:Nat) (l:List UInt8) (w:World) (h:F.Sl w ao cap l) :
 Calls Tryz.prog 4 #[.slice ao l.length cap] w fun e w'=>e=.returned (.bool true)∧Below w.heap.size w w':=by
 obtain ⟨n,hn⟩:∃ n,n=l.length:=⟨_,rfl⟩
 have H:=Lib.hid h
 have hcm:=h.cm
 have hle:=h.le
 rw [←hn] at hle ⊢
 by_cases hbig:(2000:Int)<n
 ·clear h hn hle
  go_enter Tryz.func4,Tryz.ntmps4
  go_wp2_with fail
  go_ret
  exact ⟨rfl,bg⟩
 have hm:n≤2000:=by omega
 have Hm:Hid (l.length≤2000):=by rw [←hn];exact Lib.hid hm
 have Hfew:=Lib.hid (dec_few Hm.out)
 obtain ⟨i0,hi,hz0,hz1,hz2⟩:=info_parts byteInfo
 have Hp:=Lib.hid (fun ao cap w (hh:F.Sl w ao cap l)=>wdec_all ao cap l w hh (by have:=Hm.out;omega) (fun p hp=>small_le (by have:=one_len hp rfl;have:=Hm.out;omega)))
 have Hr:=Lib.hid (fun w (hh:F.Sl w ao cap l)=>rdec_all ao cap l w hh Hm.out)
 rw [←hn] at Hp Hr
 obtain ⟨d,hd⟩:∃ d,d=(wdDec l).1:=⟨_,rfl⟩
 obtain ⟨c,hc⟩:∃ c,c=(wdDec l).2:=⟨_,rfl⟩
 have Hd:=Lib.hid hd
 have Hc:=Lib.hid hc
 have Hn:=Lib.hid hn
 have hcc:(c==c)=true:=beq_self_eq_true c
 rw [←hd] at Hfew
 clear h hn hd hc
 go_enter Tryz.func4,Tryz.ntmps4
 refine wp_hold fun C HC=>?_
 go_wp2_with fail
 ((have hC:=HC.out);clear HC;subst hC)
 refine wp_hold fun C HC=>?_
 go_wp2_with fail
 ((have hC:=HC.out);clear HC;subst hC)
 refine wp_hold fun C HC=>?_
 refine wp_seq ?_
 refine wp_region_lit ?_
 (refine list_hold 3 fun L HL=>?_)
 simp only [List.take_succ_cons,List.take_zero,List.cons_append,List.nil_append]
 go_wp2_with (at_builtin;go_must (refine wpList_append_any _ rfl (.tmp 11) (.tmp 12) 38 rfl w.heap.size 5 i0 (.int .u8 0) 1 1 Tryz.underlying38 hi hz0 hz1 hz2 rfl (by decide) _ 0 [] rfl (owns_emptyAt _ w.heap.size rfl w.heap.size (Nat.le_refl _) 5 1) ao n cap (bytV l) rfl (by have:=H.out.n0;rw [←Hn.out] at this;exact this) (by rw [bytV_length,Nat.mul_one];exact Hn.out.symm) (H.out.at_.below ((Below.refl _ _).alloc (Nat.le_refl _) _)).cells (bytV_one l) (by unfold maxLen;omega) (by omega) (by simp) ?_))
 intro v w1 hown hgrow
 have hb:Below w.heap.size w w1:=below_grown ((Below.refl _ _).alloc (Nat.le_refl _) _) (by simp) hgrow (fun k hk=>by simp [Value.ownBlock] at hk;omega)
 obtain ⟨bo,c1,hv,ho⟩:=owned_bytes (l:=l) (by simpa using hown) (by have:=Hn.out;omega)
 have Ho:=Lib.hid ho.sl
 have S:=Lib.hid ((St.start w).grow hb)
 clear hown hgrow ho hb
 subst hv
 rw [←Hn.out]
 ((have hL:=HL.out);clear HL;subst hL;simp only [List.drop_succ_cons,List.drop_zero])
 ((refine list_hold 5 fun L HL=>?_);simp only [List.take_succ_cons,List.take_zero,List.cons_append,List.nil_append];(go_wp2_with fail))
 refine (Hp.out bo c1 _ Ho.out).mono ?_
 intro e w2 hde
 obtain ⟨V1,m1,z1,d1,k1,hV,hs1,ho1,rfl,hbb,hz,hsd⟩:=dec_named hde
 rw [←Hd.out] at hV hz hsd
 rw [←Hc.out]
 have HV1:=Lib.hid hV
 have HZ1:=Lib.hid hz
 have HS1:=Lib.hid hsd
 have S:=Lib.hid (S.out.grow hbb)
 clear hde hV hz hsd hbb Hp Ho
 go_wp2_with fail
 refine list_name fun wn hwn=>?_
 obtain ⟨P,hP⟩:∃ n,n=w2.heap.size:=⟨_,rfl⟩
 have S6:Hid (St w2 wn (thObj P (.cells #[.int .i64 0,.int .i64 0,.int .i64 0,.int .i64 0,.int .i64 0,.int .i64 0,.int .i64 0,.int .i64 0,.string ⟨#[]⟩,.string ⟨#[]⟩,.int .i64 0,.int .i64 0,.int .i64 0,.string ⟨#[]⟩,.string ⟨#[]⟩,.string ⟨#[]⟩,.string ⟨#[]⟩,.int .i64 0,.int .i64 0,.int .i64 0,.bool false,.int .i64 0,.int .i64 0,.int .i64 0,.int .i64 0,.int .i64 0,.int .i64 0,.int .i64 0,.int .i64 0,.int .i64 0,.slice none 0 0,.int .i64 0,.int .i64 0,.int .i64 0,.int .i64 0,.string ⟨#[]⟩,.slice none 0 0] 40 (0,0))::[])):=by rw [hwn];exact Lib.hid ((St.start w2).objN _ P hP)
 rw [←hP]
 clear hwn hP
 ((have hL:=HL.out);clear HL;subst hL;simp only [List.drop_succ_cons,List.drop_zero])
 refine wpList_store_row rfl 40 _ _ rfl P V1 rfl rfl 40 _ S6.out.head (by rw [hs1];kernel_rfl) (by rw [hs1];rfl) ho1 ?_
 have T:=Lib.hid (S6.out.setRow37 V1)
 clear S6
 refine list_name fun w3 hwn=>?_
 rw [←hwn] at T
 clear hwn
 go_wp2_with fail
 ((have hC:=HC.out);clear HC;subst hC)
 have hw2:=S.out.b
 have Hw2:=Lib.hid hw2
 clear hw2 S
 refine wp_hold fun C HC=>?_
 refine wp_seq ?_
 refine wp_region_lit ?_
 ((refine list_hold 6 fun L HL=>?_);simp only [List.take_succ_cons,List.take_zero,List.cons_append,List.nil_append];(go_wp2_with fail))
 have HW3:=Lib.hid (Hw2.out.trans (T.out.b.mono Hw2.out.size))
 refine (Hr.out _ (H.out.grow HW3.out)).mono ?_
 intro e w5 hde
 obtain ⟨V2,m2,z2,d2,k2,hV,hs2,ho2,rfl,hbb,hz,hsd⟩:=dec_named hde
 rw [←Hd.out] at hV hz hsd
 rw [←Hc.out]
 have HV2:=Lib.hid hV
 have HZ2:=Lib.hid hz
 have HS2:=Lib.hid hsd
 have T5:=T.out.grow hbb
 have HZ1:=Lib.hid (HZ1.out.grow T5.b)
 have HS1:=Lib.hid (HS1.out.grow T5.b)
 have hP5:=T5.head
 have hPl:=lt_of_block hP5
 have HP5:=Lib.hid hP5
 have Hw5:=Lib.hid (HW3.out.trans (hbb.mono HW3.out.size))
 clear hde hV hz hsd hbb Hr T T5 hP5 HW3 Hw2
 go_wp2_with fail
 refine list_name fun wn hwn=>?_
 obtain ⟨Q,hQ⟩:∃ n,n=w5.heap.size:=⟨_,rfl⟩
 have S6:Hid (St w5 wn (thObj Q (.cells #[.int .i64 0,.int .i64 0,.int .i64 0,.int .i64 0,.int .i64 0,.int .i64 0,.int .i64 0,.int .i64 0,.string ⟨#[]⟩,.string ⟨#[]⟩,.int .i64 0,.int .i64 0,.int .i64 0,.string ⟨#[]⟩,.string ⟨#[]⟩,.string ⟨#[]⟩,.string ⟨#[]⟩,.int .i64 0,.int .i64 0,.int .i64 0,.bool false,.int .i64 0,.int .i64 0,.int .i64 0,.int .i64 0,.int .i64 0,.int .i64 0,.int .i64 0,.int .i64 0,.int .i64 0,.slice none 0 0,.int .i64 0,.int .i64 0,.int .i64 0,.int .i64 0,.string ⟨#[]⟩,.slice none 0 0] 46 (0,0))::[])):=by rw [hwn];exact Lib.hid ((St.start w5).objN _ Q hQ)
 rw [←hQ]
 clear hwn hQ
 ((have hL:=HL.out);clear HL;subst hL;simp only [List.drop_succ_cons,List.drop_zero])
 refine wpList_store_row rfl 46 _ _ rfl Q V2 rfl rfl 46 _ S6.out.head (by rw [hs2];kernel_rfl) (by rw [hs2];rfl) ho2 ?_
 have S:=Lib.hid (S6.out.setRow37 V2)
 clear S6
 refine list_name fun w6 hwn=>?_
 rw [←hwn] at S
 clear hwn
 go_wp2_with fail
 ((have hC:=HC.out);clear HC;subst hC)
 refine wp_seq ?_
 obtain ⟨wd,hwd⟩:∃ wd,wd=w6.drew:=⟨_,rfl⟩
 have hdw:Below w6.heap.size w6 wd:=by rw [hwd];exact (Below.refl _ _).drew
 have S:=Lib.hid (S.out.grow hdw)
 clear hdw
 have Hsu:Hid (∀ w',Below wd.heap.size wd w'→(fun W:World=>W.heap[P]?=some (.cells V1 40 (0,0))∧W.heap[Q]?=some (.cells V2 46 (0,0))) w'):=Lib.hid fun w' hb=>⟨((S.out.grow hb).b.block P hPl).trans HP5.out,(S.out.grow hb).head⟩
 have HB:=Lib.hid (Below.refl wd.heap.size wd)
 have HC:Hid ((fun W:World=>W.heap[P]?=some (.cells V1 40 (0,0))∧W.heap[Q]?=some (.cells V2 46 (0,0))) wd):=Lib.hid (Hsu.out wd HB.out)
 refine wp_region_noPanic ?_
 refine wp_region_held (S:=(fun W:World=>W.heap[P]?=some (.cells V1 40 (0,0))∧W.heap[Q]?=some (.cells V2 46 (0,0)))) (by kernel_rfl) ?_
 change wpAnyH _ _ _ _ _ _ _ _ (World.drew _)
 rw [←hwd]
 clear hwd
 (refine takeD (i:=0) (v:=.agg V1) 22 rfl rfl (by kernel_rfl) (by kernel_rfl) (by kernel_rfl) (fun _ _ _ h=>h) (Or.inl ⟨by rfl,fun w hSw=>(by obtain ⟨t0,t1⟩:=hSw;exact exec_load_row 40 _ rfl P rfl _ V1 _ _ t0 Tryz.underlying40 rfl (by rw [hs1];kernel_rfl))⟩) HC.out ?_;(try simp only [Act.put,List.setIfInBounds_toArray,List.set_cons_zero,List.set_cons_succ]))
 (refine takeD (i:=2) (v:=.agg V2) 24 rfl rfl (by kernel_rfl) (by kernel_rfl) (by kernel_rfl) (fun _ _ _ h=>h) (Or.inl ⟨by rfl,fun w hSw=>(by obtain ⟨t0,t1⟩:=hSw;exact exec_load_row 46 _ rfl Q rfl _ V2 _ _ t1 Tryz.underlying46 rfl (by rw [hs2];kernel_rfl))⟩) HC.out ?_;(try simp only [Act.put,List.setIfInBounds_toArray,List.set_cons_zero,List.set_cons_succ]))
 ((refine wpAnyH_all (rs:=[1]) (by kernel_rfl) (by simp) (fun i' hi'=>?_);(obtain rfl:i'=1:=by simpa using hi');clear hi';(refine wpOp_step rfl (fun K' hK'=>?_)));go_simp;(refine (like_any HV1.out wd).mono ?_);(rintro e w7 ⟨rfl,hbb⟩);(have S:=Lib.hid (S.out.grow hbb));(have HB:=Lib.hid (HB.out.trans (hbb.mono HB.out.size)));clear hbb HC;(have HC:Hid ((fun W:World=>W.heap[P]?=some (.cells V1 40 (0,0))∧W.heap[Q]?=some (.cells V2 46 (0,0))) w7):=Lib.hid (Hsu.out w7 HB.out));(refine hK' _ _ ⟨HC.out,?_⟩);clear hK' K';(try simp only [Act.put,List.setIfInBounds_toArray,List.set_cons_zero,List.set_cons_succ]))
 have hsame:=sameW_any HV1.out HV2.out m1 m2 d1 d2 z1 z2 k1 k2 rfl rfl rfl rfl w7 (HZ1.out.grow S.out.b) (HZ2.out.grow S.out.b) (HS1.out.grow S.out.b).at_ (HS2.out.grow S.out.b).at_ Hfew.out
 rw [sameWd_iff.2 rfl] at hsame
 ((refine wpAnyH_all (rs:=[3]) (by kernel_rfl) (by simp) (fun i' hi'=>?_);(obtain rfl:i'=3:=by simpa using hi');clear hi';(refine wpOp_step rfl (fun K' hK'=>?_)));go_simp;(refine (hsame).mono ?_);(rintro e w8 ⟨rfl,hbb⟩);(have S:=Lib.hid (S.out.grow hbb));(have HB:=Lib.hid (HB.out.trans (hbb.mono HB.out.size)));clear hbb HC;(have HC:Hid ((fun W:World=>W.heap[P]?=some (.cells V1 40 (0,0))∧W.heap[Q]?=some (.cells V2 46 (0,0))) w8):=Lib.hid (Hsu.out w8 HB.out));(refine hK' _ _ ⟨HC.out,?_⟩);clear hK' K';(try simp only [Act.put,List.setIfInBounds_toArray,List.set_cons_zero,List.set_cons_succ]))
 clear hsame
 (refine takeD (i:=4) (v:=.bool true) 26 rfl rfl (by kernel_rfl) (by kernel_rfl) (by kernel_rfl) (fun _ _ _ h=>h) (Or.inl ⟨by rfl,fun w hSw=>(by clear hSw;go_simp)⟩) HC.out ?_;(try simp only [Act.put,List.setIfInBounds_toArray,List.set_cons_zero,List.set_cons_succ]))
 (refine takeD (i:=5) (v:=.int .i64 c) 27 rfl rfl (by kernel_rfl) (by kernel_rfl) (by kernel_rfl) (fun _ _ _ h=>h) (Or.inl ⟨by rfl,fun w hSw=>(by clear hSw;go_simp)⟩) HC.out ?_;(try simp only [Act.put,List.setIfInBounds_toArray,List.set_cons_zero,List.set_cons_succ]))
 (refine takeD (i:=6) (v:=.int .i64 c) 28 rfl rfl (by kernel_rfl) (by kernel_rfl) (by kernel_rfl) (fun _ _ _ h=>h) (Or.inl ⟨by rfl,fun w hSw=>(by clear hSw;go_simp)⟩) HC.out ?_;(try simp only [Act.put,List.setIfInBounds_toArray,List.set_cons_zero,List.set_cons_succ]))
 (refine takeD (i:=7) (v:=.bool true) 29 rfl rfl (by kernel_rfl) (by kernel_rfl) (by kernel_rfl) (fun _ _ _ h=>h) (Or.inl ⟨by rfl,fun w hSw=>(by clear hSw;go_simp)⟩) HC.out ?_;(try simp only [Act.put,List.setIfInBounds_toArray,List.set_cons_zero,List.set_cons_succ]))
 (refine takeD (i:=8) (v:=.bool true) 30 rfl rfl (by kernel_rfl) (by kernel_rfl) (by kernel_rfl) (fun _ _ _ h=>h) (Or.inl ⟨by rfl,fun w hSw=>(by clear hSw;go_simp)⟩) HC.out ?_;(try simp only [Act.put,List.setIfInBounds_toArray,List.set_cons_zero,List.set_cons_succ]))
 (refine takeD (i:=9) (v:=.bool true) 31 rfl rfl (by kernel_rfl) (by kernel_rfl) (by kernel_rfl) (fun _ _ _ h=>h) (Or.inl ⟨by rfl,fun w hSw=>(by clear hSw;go_simp)⟩) HC.out ?_;(try simp only [Act.put,List.setIfInBounds_toArray,List.set_cons_zero,List.set_cons_succ]))
 ((refine wpAnyH_all (rs:=[10]) (by kernel_rfl) (by simp) (fun i' hi'=>?_);(obtain rfl:i'=10:=by simpa using hi');clear hi';(refine wpOp_step rfl (fun K' hK'=>?_)));go_simp;(refine (knownW_any w8).mono ?_);(rintro e w9 ⟨rfl,hbb⟩);(have S:=Lib.hid (S.out.grow hbb));(have HB:=Lib.hid (HB.out.trans (hbb.mono HB.out.size)));clear hbb HC;(have HC:Hid ((fun W:World=>W.heap[P]?=some (.cells V1 40 (0,0))∧W.heap[Q]?=some (.cells V2 46 (0,0))) w9):=Lib.hid (Hsu.out w9 HB.out));(refine hK' _ _ ⟨HC.out,?_⟩);clear hK' K';(try simp only [Act.put,List.setIfInBounds_toArray,List.set_cons_zero,List.set_cons_succ]))
 (refine takeD (i:=11) (v:=.bool true) 33 rfl rfl (by kernel_rfl) (by kernel_rfl) (by kernel_rfl) (fun _ _ _ h=>h) (Or.inl ⟨by rfl,fun w hSw=>(by clear hSw;go_simp)⟩) HC.out ?_;(try simp only [Act.put,List.setIfInBounds_toArray,List.set_cons_zero,List.set_cons_succ]))
 (refine takeD (i:=12) (v:=.bool true) 2 rfl rfl (by kernel_rfl) (by kernel_rfl) (by kernel_rfl) (fun _ _ _ h=>h) (Or.inl ⟨by rfl,fun w hSw=>(by clear hSw;go_simp)⟩) HC.out ?_;(try simp only [Act.put,List.setIfInBounds_toArray,List.set_cons_zero,List.set_cons_succ]))
 refine wpAnyH_done (by kernel_rfl) ?_ _
 refine NoPanic.normal ?_
 have hfin:=Hw5.out.trans (S.out.b.mono Hw5.out.size)
 go_wp2_with fail
 go_ret
 exact ⟨rfl,hfin⟩
namespace WireDecodesLift
open Go.ChangeShapes Go.WideShapes Go.ChangeAt Go.RowKit Go.Joins Go.Deep
open Go.ChangeMaps (open_string shut_string)
theorem own:ownKnob Tryz.prog.godebug=none:=by kernel_rfl
theorem laidOut:laidOutB Tryz.prog=true:=by kernel_rfl
set_option maxHeartbeats 1000000 in
set_option maxRecDepth 100000 in
theorem lifted (os:Os) (started:os.Started) (H:Type) (enc:TypeId × Value→H) :
 ReturnsInHanded {} Tryz.checked os 4 .any (Rows.wireDecodesSpec.pre6 enc Tryz.prog Tryz.f4 Rows.wireDecodesRow.domain false) (Rows.wireDecodesSpec.post enc Tryz.prog Tryz.f4 false true false false):=by
 refine returnsInHanded_of_change (C:=Tryz.checked) own started (by kernel_rfl) Tryz.func4
  (ChangeSpec.witness6 (enc:=enc) (C:=Tryz.checked) false ⟨#[],#[.slice none 0 0],[]⟩ 8 (by kernel_rfl) (by kernel_rfl) (by kernel_rfl) (by kernel_rfl)) ?_
 intro W base args ds gs before hval0 hW hcnd _
 have hval:∀ (j:Nat) t v,Tryz.f4.params[j]?=some t→args[j]?=some v→Value.okWide Tryz.prog W .any base t v:=hval0
 have hW':=hW
 obtain ⟨p,q,hA0,hV,rfl,hfz,hnd⟩:=hW
 have hA:DataW.TrodAll enc Tryz.prog W 0 (fun _=>true) true Tryz.f4.params.toList args.toList ds p:=hA0
 rw [Tryz.params4] at hA hval
 obtain ⟨v0,vs0,d0,ds0,p0,q0,hargs,rfl,rfl,h0,r0⟩:=trodAll_cons hA
 obtain ⟨rfl,rfl,rfl⟩:=trodAll_nil r0
 obtain rfl:args=#[v0]:=by cases args;simp_all
 obtain ⟨rfl,rfl⟩:=trodVars_none hV
 have k0:=h0
 have lt0:∀ x∈p0,x.block<W.heap.size:=by obtain ⟨m,hm⟩:=k0;exact DataW.trod_lt m _ _ _ hm
 have post:∀ e W',e=Ending.returned (.bool true)→Below W.heap.size W W'→∃ v,e=.returned v∧Rows.wireDecodesSpec.post enc Tryz.prog Tryz.f4 false true false false W #[v0] v W':=by
  intro e W' he bel
  subst he
  exact ⟨_,rfl,_,_,_,[],_,[],hW',trodAll_mk1 (shut_bool Tryz.underlying4 _),(trodAll_cons_mk (Below.trod laidOut (by kernel_rfl) (of_decide_eq_true (by kernel_rfl)) k0 bel lt0) trodAll_mk0),rfl,bel.frame _,fun h=>by cases h⟩
 clear hW' hcnd hfz hnd hA0 hA hval0
 obtain ⟨ao,l,cap,rfl,hlc,hcm,h0',ha⟩:=open_bytes (hval 0 38 v0 rfl rfl) h0
 exact (decodes_walk ao cap l W ⟨hlc,by unfold maxLen at hcm;exact hcm,h0',ha⟩).mono fun e W' ⟨he,bel⟩=>post e W' he bel
theorem over:Rows.wireDecodesRow.holds Tryz.pinned (OpenSpec.ofChange Rows.wireDecodesSpec) :=
 OpenClaim.holds_of_wide 4 Tryz.f4 rfl rfl rfl rfl rfl rfl rfl ⟨rfl,rfl,rfl,rfl,rfl⟩ rfl rfl rfl rfl rfl (by kernel_rfl) Tryz.func4 (by kernel_rfl)
  (of_decide_eq_true (by kernel_rfl)) (by unfold Func.isWrapper;first | (rw [if_pos (by decide +kernel)];kernel_rfl) | (rw [if_neg (by decide +kernel)];exact ⟨rfl,rfl⟩))
  (fun os started H enc _=>lifted os started H enc)
end WireDecodesLift
theorem wireDecodes_holds:Rows.WireDecodesSaid:=WireDecodesLift.over
#print axioms wireDecodes_holds
end Go.Proofs.YthlcmjgdilebeaaGreat