/- Texts put together: WHv. -/
import Derived.Test.YthlcmjgdilebeaaGreatQb10
import Derived.Test.YthlcmjgdilebeaaGreatQb31
import Derived.Laws.CopyOwn
namespace Go.Proofs.YthlcmjgdilebeaaGreat
set_option maxRecDepth 20000
open Go.RowKit
set_option maxHeartbeats 4000000 in
theorem like_any {d:Wd} {V:Array Value} {a1 a2:Option Addr} {n1 k1 n2 k2:Nat} (hV:V=wdV d (.slice a1 n1 k1) (.slice a2 n2 k2)) (w:World):Calls Tryz.prog 8 #[.agg V] w fun e w'=>e=.returned (.agg V)∧Below w.heap.size w w':=by
 have HV:=Lib.hid hV
 have Hone:Hid (V.all (·.oneCell')=true):=Lib.hid (by rw [hV];simp [wdV,Value.oneCell'])
 have Hs:Hid (V.size=37):=Lib.hid (by rw [hV];rfl)
 clear hV
 go_enter Tryz.func8,Tryz.ntmps8
 refine wp_holdQ fun R HR=>?_
 refine wp_hold fun C HC=>?_
 go_wp2_with fail
 (refine wp_name fun wa hwa=>?_;have wa_s0:=sg w.heap.size hwa;have wa_s1:=sg (w.heap.size+1) hwa;have wa_b:Below w.heap.size w wa:=(by rw [hwa];exact bg);have wa_h:wa.heap[w.heap.size+1]?=some (.cells #[.int .i64 0,.int .i64 0,.int .i64 0,.int .i64 0,.int .i64 0,.int .i64 0,.int .i64 0,.int .i64 0,.string ⟨#[]⟩,.string ⟨#[]⟩,.int .i64 0,.int .i64 0,.int .i64 0,.string ⟨#[]⟩,.string ⟨#[]⟩,.string ⟨#[]⟩,.string ⟨#[]⟩,.int .i64 0,.int .i64 0,.int .i64 0,.bool false,.int .i64 0,.int .i64 0,.int .i64 0,.int .i64 0,.int .i64 0,.int .i64 0,.int .i64 0,.int .i64 0,.int .i64 0,.slice none 0 0,.int .i64 0,.int .i64 0,.int .i64 0,.int .i64 0,.string ⟨#[]⟩,.slice none 0 0] 46 (0,0)):=(by rw [hwa];exact heap_alloc2_new w _ _);have wa_bh:wa.heap[w.heap.size]?=some (.cells V 40 (0,0)):=(by rw [hwa];exact heap_alloc2_old w _ _);clear hwa)
 obtain ⟨c0,c1,c2,c3,c4,c5,c6,c7,c8,c9,c10,c11,c12,c13,c14,c15,c16,c17,c18,c19,c20,c21,c22,c23,c24,c25,c26,c27,c28,c29,c30,c31,c32,c33,c34,c35,c36⟩:=wbox (show wa.heap[w.heap.size]?=some (.cells (wdV d (.slice a1 n1 k1) (.slice a2 n2 k2)) 40 (0,0)) from (by rw [←HV.out];exact wa_bh))
 (have hC:=HC.out);clear HC;subst hC
 refine wp_seq ?_
 refine wp_region_lit ?_
 refine list_hold 28 fun L HL=>?_
 simp only [List.take_succ_cons,List.take_zero,List.cons_append,List.nil_append]
 go_wp2_with fail
 (have hL:=HL.out);clear HL;subst hL
 simp only [List.drop_succ_cons,List.drop_zero]
 refine list_hold 1 fun L HL=>?_
 simp only [List.take_succ_cons,List.take_zero,List.cons_append,List.nil_append]
 go_wp2_with fail
 (have hL:=HL.out);clear HL;subst hL
 simp only [List.drop_succ_cons,List.drop_zero]
 refine wpList_store_row rfl 46 _ _ rfl (w.heap.size+1) V rfl (by rw [HV.out];rfl) 46 _ wa_h (by rw [Hs.out];kernel_rfl) (by rw [Hs.out];rfl) Hone.out ?_
 (have hR:=HR.out);clear HR;subst hR
 go_wp2_with fail
 refine bodyPost_ret (results_cell_row rfl _ _ (w.heap.size+1) 46 _ (0,0) _ rfl (setRow_heap _ _ _ _ _ _ wa_h) Tryz.underlying46 rfl (by rw [Hs.out];kernel_rfl)) rfl ⟨rfl,below_setRow wa_b (by omega) _⟩
def WHvPost (w:World) (d:Wd) (e:Ending) (w':World):Prop:=Below w.heap.size w w'∧(e=.returned (.bool true)∨(e=.returned (.bool false)∧Light d∧d.data.length≤2000))
set_option maxHeartbeats 4000000 in
theorem heavyW_any {d:Wd} {ms ds:Value} {V:Array Value} (hV:V=wdV d ms ds) (ao dl:Option Addr) (zc dc:Nat) (hms:ms=.slice ao d.mp.zs.length zc) (hds:ds=.slice dl d.data.length dc) (w:World) (hz:O.ZsAt w ao d.mp.zs) (hm:d.mp.zs.length≤9223372036854775807) (hd:d.data.length≤9223372036854775807):Calls Tryz.prog 5 #[.agg V] w (WHvPost w d):=by
 have HV:=Lib.hid hV
 have HZ:=Lib.hid hz
 clear hV hz
 go_enter Tryz.func5,Tryz.ntmps5
 ((refine wp_hold fun C HC=>?_);(go_wp2_with fail);(refine wp_name fun wa hwa=>?_;have wa_s0:=sg w.heap.size hwa;have wa_b:Below w.heap.size w wa:=(by rw [hwa];exact bg);have wa_bh:wa.heap[w.heap.size]?=some (.cells V 40 (0,0)):=(by rw [hwa];exact heap_alloc_new w _);clear hwa);(obtain ⟨c0,c1,c2,c3,c4,c5,c6,c7,c8,c9,c10,c11,c12,c13,c14,c15,c16,c17,c18,c19,c20,c21,c22,c23,c24,c25,c26,c27,c28,c29,c30,c31,c32,c33,c34,c35,c36⟩:=wbox (show wa.heap[w.heap.size]?=some (.cells (wdV d ms ds) 40 (0,0)) from (by rw [←HV.out];exact wa_bh)));(have hC:=HC.out);clear HC;subst hC)
 subst hms hds
 clear c0 c1 c2 c3 c4 c5 c6 c7 c10 c11 c12 c17 c18 c19 c20 c21 c22 c23 c24 c25 c26 c27 c31 c32 c33 c34
 go_wp2_with fail
 refine (O.heavyMap_any ao zc d.mp.zs d.mp.ver d.mp.next wa (HZ.out.grow wa_b) hm).mono ?_
 rintro e w1 ⟨hb1,he⟩
 obtain ⟨w1_hc,w1_hf⟩:=bcell hb1
 have w1_z:=hb1.size
 have w1_b:=wa_b.trans (hb1.mono wa_b.size)
 clear hb1
 rcases he with rfl | ⟨rfl,hlt⟩
 ·((go_wp2_with fail);go_ret;exact ⟨w1_b,.inl rfl⟩)
 have Hlt:=Lib.hid hlt
 clear hlt
 rcases Bool.eq_false_or_eq_true (decide ((2000:Int)<d.data.length)) with t0 | t0
 ·((go_wp2_with fail);go_ret;exact ⟨w1_b,.inl rfl⟩)
 rcases Bool.eq_false_or_eq_true (decide ((60:Int)<d.sf.size)) with t1 | t1
 ·((go_wp2_with fail);go_ret;exact ⟨w1_b,.inl rfl⟩)
 rcases Bool.eq_false_or_eq_true (decide ((60:Int)<d.st.size)) with t2 | t2
 ·((go_wp2_with fail);go_ret;exact ⟨w1_b,.inl rfl⟩)
 rcases Bool.eq_false_or_eq_true (decide ((60:Int)<d.ch.key.size)) with t3 | t3
 ·((go_wp2_with fail);go_ret;exact ⟨w1_b,.inl rfl⟩)
 rcases Bool.eq_false_or_eq_true (decide ((60:Int)<d.op.key.size)) with t4 | t4
 ·((go_wp2_with fail);go_ret;exact ⟨w1_b,.inl rfl⟩)
 rcases Bool.eq_false_or_eq_true (decide ((60:Int)<d.op.who.size)) with t5 | t5
 ·((go_wp2_with fail);go_ret;exact ⟨w1_b,.inl rfl⟩)
 rcases Bool.eq_false_or_eq_true (decide ((60:Int)<d.op.tkey.size)) with t6 | t6
 ·((go_wp2_with fail);go_ret;exact ⟨w1_b,.inl rfl⟩)
 rcases Bool.eq_false_or_eq_true (decide ((60:Int)<d.op.twho.size)) with t7 | t7
 ·((go_wp2_with fail);go_ret;exact ⟨w1_b,.inl rfl⟩)
 have hL:Hid (Light d∧d.data.length≤2000):=by
  rw [decide_eq_false_iff_not] at t0 t1 t2 t3 t4 t5 t6 t7
  exact Lib.hid ⟨⟨O.MzB.of Hlt.out,by omega,by omega,by omega⟩,by omega⟩
 go_wp2_with fail
 go_ret
 exact ⟨w1_b,.inr ⟨rfl,hL.out⟩⟩
def kdW:Wd:=⟨2,0,0,3,0,0,0,0,e0,e0,rq0,zRp,mp0,ch0,[]⟩
theorem kdW_may:mayW kdW=true:=by decide +kernel
theorem kdW_len:(encW kdW).length=23:=by decide +kernel
theorem kdW_light:Light kdW:=⟨O.MzB.of ⟨by decide,fun z hz=>by cases hz⟩,by decide,by decide,by decide⟩
set_option maxHeartbeats 4000000 in
theorem knownW_any (w:World):Calls Tryz.prog 12 #[] w fun e w'=>e=.returned (.bool true)∧Below w.heap.size w w':=by
 have Hen:=Lib.hid (fun w=>wenc_any (V:=wdV kdW (.slice none 0 0) (.slice none 0 0)) rfl none none 0 0 rfl rfl w (fun h=>absurd h (by decide)) (sl_nil w) kdW_light)
 have hv:wdV kdW (.slice none 0 0) (.slice none 0 0)=#[.int .i64 2,.int .i64 0,.int .i64 0,.int .i64 3,.int .i64 0,.int .i64 0,.int .i64 0,.int .i64 0,.string ⟨#[]⟩,.string ⟨#[]⟩,.int .i64 0,.int .i64 0,.int .i64 0,.string ⟨#[]⟩,.string ⟨#[]⟩,.string ⟨#[]⟩,.string ⟨#[]⟩,.int .i64 0,.int .i64 0,.int .i64 0,.bool false,.int .i64 0,.int .i64 0,.int .i64 0,.int .i64 0,.int .i64 0,.int .i64 0,.int .i64 0,.int .i64 0,.int .i64 0,.slice none 0 0,.int .i64 0,.int .i64 0,.int .i64 0,.int .i64 0,.string ⟨#[]⟩,.slice none 0 0]:=rfl
 rw [hv] at Hen
 clear hv
 go_enter Tryz.func12,Tryz.ntmps12
 go_wp2_with fail
 refine (Hen.out w).mono ?_
 rintro e w1 ⟨hb1,h⟩
 rw [if_pos kdW_may] at h
 obtain ⟨ao,cap,rfl,-⟩:=h
 rw [kdW_len]
 go_wp2_with fail
 go_ret
 exact ⟨rfl,hb1⟩
end Go.Proofs.YthlcmjgdilebeaaGreat