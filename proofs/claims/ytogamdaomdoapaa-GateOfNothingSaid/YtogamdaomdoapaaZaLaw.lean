/- GateOfNothing: a nil Gate asks nothing. It holds of all arguments, without a condition. -/
import Derived.Test.YtogamdaomdoapaaRows
import Derived.Test.YtogamdaomdoapaaZa08
import Derived.Test.YtogamdaomdoapaaZa41
import Derived.Test.YtogamdaomdoapaaZa42
namespace Go.Proofs.Ytogamdaomdoapaa
set_option maxRecDepth 20000
open Go.RowKit
namespace G
theorem submit_nil (o:Rq) (w:World):Calls Try.prog 7 #[.pointer none,.agg #[.int .i64 o.kind,.int .i64 o.client,.int .i64 o.seq,.string o.key,.string o.who,.string o.tkey,.string o.twho,.int .i64 o.item,.int .i64 o.count,.int .i64 o.price,.bool o.buy,.int .i64 o.id]] w fun e w'=>e=.returned (.tuple #[.agg #[.int .i64 0,.int .i64 0,.int .i64 0,.string ⟨#[]⟩,.string ⟨#[]⟩,.string ⟨#[]⟩,.string ⟨#[]⟩,.int .i64 0,.int .i64 0,.int .i64 0,.bool false,.int .i64 0],.int .i64 1])∧Below w.heap.size w w':=by
 go_enter Try.func7,Try.ntmps7
 go_wp2_with fail
 exact bodyPost_ret (v:=.tuple #[.agg #[.int .i64 0,.int .i64 0,.int .i64 0,.string ⟨#[]⟩,.string ⟨#[]⟩,.string ⟨#[]⟩,.string ⟨#[]⟩,.int .i64 0,.int .i64 0,.int .i64 0,.bool false,.int .i64 0],.int .i64 1]) (by simp only [results,Try.results7];go_simp) rfl ⟨rfl,bg⟩
theorem tick_nil (w:World):Calls Try.prog 9 #[.pointer none] w fun e w'=>e=.returned (.slice none 0 0)∧Below w.heap.size w w':=by
 go_enter Try.func9,Try.ntmps9
 go_wp2_with fail
 go_ret
 exact ⟨rfl,bg⟩
theorem pending_nil (w:World):Calls Try.prog 11 #[.pointer none] w fun e w'=>e=.returned (.tuple #[.agg #[.int .i64 0,.int .i64 0,.int .i64 0,.string ⟨#[]⟩,.string ⟨#[]⟩,.string ⟨#[]⟩,.string ⟨#[]⟩,.int .i64 0,.int .i64 0,.int .i64 0,.bool false,.int .i64 0],.bool false])∧Below w.heap.size w w':=by
 go_enter Try.func11,Try.ntmps11
 go_wp2_with fail
 exact bodyPost_ret (v:=.tuple #[.agg #[.int .i64 0,.int .i64 0,.int .i64 0,.string ⟨#[]⟩,.string ⟨#[]⟩,.string ⟨#[]⟩,.string ⟨#[]⟩,.int .i64 0,.int .i64 0,.int .i64 0,.bool false,.int .i64 0],.bool false]) (by simp only [results,Try.results11];go_simp) rfl ⟨rfl,bg⟩
theorem answers_nil (w:World):Calls Try.prog 13 #[.pointer none] w fun e w'=>e=.returned (.slice none 0 0)∧Below w.heap.size w w':=by
 go_enter Try.func13,Try.ntmps13
 go_wp2_with fail
 go_ret
 exact ⟨rfl,bg⟩
theorem hear_nil (f t:Int) (ao:Option Addr) (n cap:Nat) (w:World):Calls Try.prog 12 #[.pointer none,.agg #[.int .i64 f,.int .i64 t,.slice ao n cap]] w fun e w'=>e=.returned (.slice none 0 0)∧Below w.heap.size w w':=by
 go_enter Try.func12,Try.ntmps12
 go_wp2_with fail
 refine wp_name fun wa hwa=>?_
 have wa_b:Below w.heap.size w wa:=by rw [hwa];exact bg
 clear hwa
 go_region
 go_wp2_with fail
 go_ret
 exact ⟨rfl,bg⟩
set_option maxHeartbeats 2000000 in
theorem heavy_one (o:Rq) (b:Nat) (w:World) (h:w.heap[b]?=some (.cells #[.int .i64 o.kind,.int .i64 o.client,.int .i64 o.seq,.string o.key,.string o.who,.string o.tkey,.string o.twho,.int .i64 o.item,.int .i64 o.count,.int .i64 o.price,.bool o.buy,.int .i64 o.id] 30 (0,0))):Calls Try.prog 10 #[.slice (some ⟨b,0,none⟩) 1 1] w fun e w'=>(e=.returned (.bool true)∨e=.returned (.bool false))∧w'=w:=by
 have hc:=(cells_of_obj h).1
 have k3:w.cell? ⟨b,3,none⟩=some (.string o.key):=hc 3
 have k4:w.cell? ⟨b,4,none⟩=some (.string o.who):=hc 4
 have k5:w.cell? ⟨b,5,none⟩=some (.string o.tkey):=hc 5
 have k6:w.cell? ⟨b,6,none⟩=some (.string o.twho):=hc 6
 have hb:=lt_of_block h
 clear hc h
 rcases Bool.eq_false_or_eq_true (decide ((60:Int)<o.key.size)) with t1 | t1
 ·go_enter Try.func10,Try.ntmps10
  go_wp2_with fail
  (refine wp_loop_rounds 2 ?_;(repeat any_goals (rw [rounds_succ];go_wp2_with fail)))
  go_ret
  exact ⟨.inl rfl,rfl⟩
 rcases Bool.eq_false_or_eq_true (decide ((60:Int)<o.who.size)) with t2 | t2
 ·go_enter Try.func10,Try.ntmps10
  go_wp2_with fail
  (refine wp_loop_rounds 2 ?_;(repeat any_goals (rw [rounds_succ];go_wp2_with fail)))
  go_ret
  exact ⟨.inl rfl,rfl⟩
 rcases Bool.eq_false_or_eq_true (decide ((60:Int)<o.tkey.size)) with t3 | t3
 ·go_enter Try.func10,Try.ntmps10
  go_wp2_with fail
  (refine wp_loop_rounds 2 ?_;(repeat any_goals (rw [rounds_succ];go_wp2_with fail)))
  go_ret
  exact ⟨.inl rfl,rfl⟩
 rcases Bool.eq_false_or_eq_true (decide ((60:Int)<o.twho.size)) with t4 | t4
 ·go_enter Try.func10,Try.ntmps10
  go_wp2_with fail
  (refine wp_loop_rounds 2 ?_;(repeat any_goals (rw [rounds_succ];go_wp2_with fail)))
  go_ret
  exact ⟨.inl rfl,rfl⟩
 go_enter Try.func10,Try.ntmps10
 go_wp2_with fail
 (refine wp_loop_rounds 2 ?_;(repeat any_goals (rw [rounds_succ];go_wp2_with fail)))
 go_ret
 exact ⟨.inr rfl,rfl⟩
set_option maxHeartbeats 4000000 in
theorem nothing_walk (o:Rq) (f t:Int) (ao:Option Addr) (n cap:Nat) (w:World):Calls Try.prog 4 #[.agg #[.int .i64 o.kind,.int .i64 o.client,.int .i64 o.seq,.string o.key,.string o.who,.string o.tkey,.string o.twho,.int .i64 o.item,.int .i64 o.count,.int .i64 o.price,.bool o.buy,.int .i64 o.id],.agg #[.int .i64 f,.int .i64 t,.slice ao n cap]] w fun e w'=>e=.returned (.bool true)∧Below w.heap.size w w':=by
 have hze:∀ w,(Op.equalIn 10000 30 (.agg #[.int .i64 0,.int .i64 0,.int .i64 0,.string ⟨#[]⟩,.string ⟨#[]⟩,.string ⟨#[]⟩,.string ⟨#[]⟩,.int .i64 0,.int .i64 0,.int .i64 0,.bool false,.int .i64 0]) (.agg #[.int .i64 0,.int .i64 0,.int .i64 0,.string ⟨#[]⟩,.string ⟨#[]⟩,.string ⟨#[]⟩,.string ⟨#[]⟩,.int .i64 0,.int .i64 0,.int .i64 0,.bool false,.int .i64 0])).run Try.prog w=.ok true w:=fun w=>eql_api.Op rq0 rq0 w true (by decide +kernel)
 have HZ:=Lib.hid hze
 clear hze
 go_enter Try.func4,Try.ntmps4
 go_wp2_with fail
 refine calls_name fun wa hwa=>?_
 obtain ⟨P,hP⟩:∃ P,P=w.heap.size:=⟨_,rfl⟩
 have S:Hid (St w wa [thObj P (.cells #[.int .i64 o.kind,.int .i64 o.client,.int .i64 o.seq,.string o.key,.string o.who,.string o.tkey,.string o.twho,.int .i64 o.item,.int .i64 o.count,.int .i64 o.price,.bool o.buy,.int .i64 o.id] 30 (0,0)),thObj (P+1) (.cells #[.int .i64 f,.int .i64 t,.slice ao n cap] 38 (0,0)),thObj (P+2) (.cells #[.int .i64 o.kind,.int .i64 o.client,.int .i64 o.seq,.string o.key,.string o.who,.string o.tkey,.string o.twho,.int .i64 o.item,.int .i64 o.count,.int .i64 o.price,.bool o.buy,.int .i64 o.id] 30 (0,0))]):=by
  rw [hwa]
  have h:=(((St.start w).objN (.cells #[.int .i64 o.kind,.int .i64 o.client,.int .i64 o.seq,.string o.key,.string o.who,.string o.tkey,.string o.twho,.int .i64 o.item,.int .i64 o.count,.int .i64 o.price,.bool o.buy,.int .i64 o.id] 30) P hP).objN (.cells #[.int .i64 f,.int .i64 t,.slice ao n cap] 38) (P+1) (by rw [hP];simp)).objN (.cells #[.int .i64 o.kind,.int .i64 o.client,.int .i64 o.seq,.string o.key,.string o.who,.string o.tkey,.string o.twho,.int .i64 o.item,.int .i64 o.count,.int .i64 o.price,.bool o.buy,.int .i64 o.id] 30) (P+2) (by rw [hP];simp)
  exact Lib.hid ((h.pull (A:=[_,_])).perm (List.Perm.cons _ (List.Perm.swap _ _ _)))
 have hn2:w.heap.size+1+1=P+2:=by omega
 rw [hn2,←hP]
 clear hwa hP hn2
 have hob:=(S.out.pull (A:=[_,_])).head
 refine (heavy_one o (P+2) wa hob).mono ?_
 clear hob
 rintro e w1 ⟨he,rfl⟩
 obtain ⟨l1,c1,-⟩:=S.out.cellsN 1 rfl
 rcases he with rfl | rfl
 ·go_wp2_with fail
  go_ret
  exact ⟨rfl,S.out.b⟩
 rcases Bool.eq_false_or_eq_true (decide ((300:Int)<n)) with t1 | t1
 ·go_wp2_with fail
  go_ret
  exact ⟨rfl,S.out.b⟩
 obtain ⟨l0,c0,-⟩:=S.out.cellsN 0 rfl
 go_wp2_with fail
 refine (submit_nil o w1).mono ?_
 rintro e w2 ⟨rfl,hb⟩
 have S:=Lib.hid (S.out.grow hb)
 clear hb l0 c0 l1 c1 t1
 go_wp2_with fail
 refine calls_name fun w3 hw3=>?_
 obtain ⟨A,hA⟩:∃ A,A=w2.heap.size:=⟨_,rfl⟩
 have S:=Lib.hid (by have h:=S.out.objN (.cells #[.int .i64 0,.int .i64 0,.int .i64 0,.string ⟨#[]⟩,.string ⟨#[]⟩,.string ⟨#[]⟩,.string ⟨#[]⟩,.int .i64 0,.int .i64 0,.int .i64 0,.bool false,.int .i64 0] 30) A hA;rw [←hw3] at h;exact h)
 rw [←hA]
 clear hw3 hA
 refine (pending_nil w3).mono ?_
 rintro e w4 ⟨rfl,hb⟩
 have S:=Lib.hid (S.out.grow hb)
 clear hb
 obtain ⟨la,ca,-⟩:=S.out.cellsN 0 rfl
 have hz:=HZ.out
 go_wp2_with fail
 refine calls_name fun w5 hw5=>?_
 obtain ⟨B,hB⟩:∃ B,B=w4.heap.size:=⟨_,rfl⟩
 have S:=Lib.hid (by have h:=S.out.objN (.cells #[.int .i64 0,.int .i64 0,.int .i64 0,.string ⟨#[]⟩,.string ⟨#[]⟩,.string ⟨#[]⟩,.string ⟨#[]⟩,.int .i64 0,.int .i64 0,.int .i64 0,.bool false,.int .i64 0] 30) B hB;rw [←hw5] at h;exact h)
 rw [←hB]
 clear hw5 hB la ca hz
 refine (tick_nil w5).mono ?_
 rintro e w6 ⟨rfl,hb⟩
 have S:=Lib.hid (S.out.grow hb)
 clear hb
 obtain ⟨l1,c1,-⟩:=S.out.cellsN 3 rfl
 go_wp2_with fail
 refine (hear_nil f t ao n cap w6).mono ?_
 rintro e w7 ⟨rfl,hb⟩
 have S:=Lib.hid (S.out.grow hb)
 clear hb l1 c1
 obtain ⟨lb,cb,-⟩:=S.out.cellsN 0 rfl
 have hz:=HZ.out
 go_wp2_with fail
 refine (answers_nil w7).mono ?_
 rintro e w8 ⟨rfl,hb⟩
 have S:=Lib.hid (S.out.grow hb)
 clear hb hz lb cb
 go_wp2_with fail
 refine (known_g w8).mono ?_
 rintro e w9 ⟨rfl,hb⟩
 have hfin:=(S.out.grow hb).b
 clear hb
 go_wp2_with fail
 go_ret
 exact ⟨rfl,hfin⟩
theorem open_msg {H:Type} {enc:TypeId × Value→H} {W:World} {v:Value} {d:DataW H} {p:List MemPlace} {b:Nat} (hv:Value.okWide Try.prog W .any b 38 v) (h:DataW.Trod enc Try.prog W 0 (fun _=>true) true 38 v d p) :
 ∃ f t ao n cap,v=.agg #[.int .i64 f,.int .i64 t,.slice ao n cap]:=by
 obtain ⟨v0,v1,v2,y0,y1,y2,m,rfl,-,-,g0,g1,g2⟩:=Go.Joins.open_agg3 Try.underlying38 (by kernel_rfl) (by kernel_rfl) hv h
 obtain ⟨f,e0,-,-⟩:=DataW.trod_int Try.underlying3 g0
 obtain ⟨t,e1,-,-⟩:=DataW.trod_int Try.underlying3 g1
 obtain ⟨ao,l,cap,e2,-⟩:=trod_bytes g2
 simp only [List.cons.injEq,and_true] at e0 e1 e2
 subst e0 e1 e2
 exact ⟨f,t,ao,_,cap,rfl⟩
end G
namespace GateOfNothingLift
open Go.ChangeShapes Go.WideShapes Go.ChangeAt Go.RowKit Go.Joins Go.Deep
open Go.ChangeMaps (open_string shut_string)
theorem own:ownKnob Try.prog.godebug=none:=by kernel_rfl
theorem laidOut:laidOutB Try.prog=true:=by kernel_rfl
set_option maxHeartbeats 1000000 in
set_option maxRecDepth 100000 in
theorem lifted (os:Os) (started:os.Started) (H:Type) (enc:TypeId × Value→H) :
 ReturnsInHanded {} Try.checked os 4 .any (Rows.gateOfNothingSpec.pre6 enc Try.prog Try.f4 Rows.gateOfNothingRow.domain false) (Rows.gateOfNothingSpec.post enc Try.prog Try.f4 false true false false):=by
 refine returnsInHanded_of_change (C:=Try.checked) own started (by kernel_rfl) Try.func4
  (ChangeSpec.witness6 (enc:=enc) (C:=Try.checked) false ⟨#[],#[.agg #[.int .i64 0,.int .i64 0,.int .i64 0,.string ⟨#[]⟩,.string ⟨#[]⟩,.string ⟨#[]⟩,.string ⟨#[]⟩,.int .i64 0,.int .i64 0,.int .i64 0,.bool false,.int .i64 0],.agg #[.int .i64 0,.int .i64 0,.slice none 0 0]],[]⟩ 8 (by kernel_rfl) (by kernel_rfl) (by kernel_rfl) (by kernel_rfl)) ?_
 intro W base args ds gs before hval0 hW hcnd _
 have hval:∀ (j:Nat) t v,Try.f4.params[j]?=some t→args[j]?=some v→Value.okWide Try.prog W .any base t v:=hval0
 have hW':=hW
 obtain ⟨p,q,hA0,hV,rfl,hfz,hnd⟩:=hW
 have hA:DataW.TrodAll enc Try.prog W 0 (fun _=>true) true Try.f4.params.toList args.toList ds p:=hA0
 rw [Try.params4] at hA hval
 obtain ⟨v0,vs0,d0,ds0,p0,q0,hargs,rfl,rfl,h0,r0⟩:=trodAll_cons hA
 obtain ⟨v1,vs1,d1,ds1,p1,q1,rfl,rfl,rfl,h1,r1⟩:=trodAll_cons r0
 obtain ⟨rfl,rfl,rfl⟩:=trodAll_nil r1
 obtain rfl:args=#[v0,v1]:=by cases args;simp_all
 obtain ⟨rfl,rfl⟩:=trodVars_none hV
 have k0:=h0
 have lt0:∀ x∈p0,x.block<W.heap.size:=by obtain ⟨m,hm⟩:=k0;exact DataW.trod_lt m _ _ _ hm
 have k1:=h1
 have lt1:∀ x∈p1,x.block<W.heap.size:=by obtain ⟨m,hm⟩:=k1;exact DataW.trod_lt m _ _ _ hm
 have post:∀ e W',e=Ending.returned (.bool true)→Below W.heap.size W W'→∃ v,e=.returned v∧Rows.gateOfNothingSpec.post enc Try.prog Try.f4 false true false false W #[v0,v1] v W':=by
  intro e W' he bel
  subst he
  exact ⟨_,rfl,_,_,_,[],_,[],hW',trodAll_mk1 (shut_bool Try.underlying4 _),(trodAll_cons_mk (Below.trod laidOut (by kernel_rfl) (of_decide_eq_true (by kernel_rfl)) k0 bel lt0) (trodAll_cons_mk (Below.trod laidOut (by kernel_rfl) (of_decide_eq_true (by kernel_rfl)) k1 bel lt1) trodAll_mk0)),rfl,bel.frame _,fun h=>by cases h⟩
 clear hW' hcnd hfz hnd hA0 hA hval0
 obtain ⟨o0,rfl⟩:=open_op (hval 0 30 v0 rfl rfl) h0
 obtain ⟨f0,t0,ao,n,cap,rfl⟩:=G.open_msg (hval 1 38 v1 rfl rfl) h1
 exact (G.nothing_walk o0 f0 t0 ao n cap W).mono fun e W' ⟨he,bel⟩=>post e W' he bel
theorem over:Rows.gateOfNothingRow.holds Try.pinned (OpenSpec.ofChange Rows.gateOfNothingSpec) :=
 OpenClaim.holds_of_wide 4 Try.f4 rfl rfl rfl rfl rfl rfl rfl ⟨rfl,rfl,rfl,rfl,rfl⟩ rfl rfl rfl rfl rfl (by kernel_rfl) Try.func4 (by kernel_rfl)
  (of_decide_eq_true (by kernel_rfl)) (by unfold Func.isWrapper;first | (rw [if_pos (by decide +kernel)];kernel_rfl) | (rw [if_neg (by decide +kernel)];exact ⟨rfl,rfl⟩))
  (fun os started H enc _=>lifted os started H enc)
end GateOfNothingLift
theorem gateOfNothing_holds:Rows.GateOfNothingSaid:=GateOfNothingLift.over
#print axioms gateOfNothing_holds
end Go.Proofs.Ytogamdaomdoapaa