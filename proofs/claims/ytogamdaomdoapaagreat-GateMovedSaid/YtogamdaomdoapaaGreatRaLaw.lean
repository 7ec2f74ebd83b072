/- GateMoved: who is told of another host asks that one at once; what is told of no host changes nothing. It holds of all arguments, without a condition. -/
import Derived.Test.YtogamdaomdoapaaGreatRa05
import Derived.Test.YtogamdaomdoapaaGreatRa50
import Derived.Test.YtogamdaomdoapaaGreatRows
namespace Go.Proofs.YtogamdaomdoapaaGreat
set_option maxRecDepth 20000
open Go.RowKit
namespace G
def mvW (a:Int):Wd:=⟨6,0,0,0,0,0,a,15,e0,e0,⟨5,1,1,e0,e0,e0,e0,0,0,0,false,0⟩,zRp,mp0,ch0,[]⟩
theorem mv_may {a:Int} (h:0≤a∧a≤100):mayW (mvW a)=true:=by
 have hn:numW a=true:=by unfold numW;rw [decide_eq_true_eq];omega
 have h0:mayW (mvW 0)=true:=by decide +kernel
 have hs:mayW (mvW a)=(numW a&&mayW (mvW 0)):=by
  unfold mayW okW ansW namedW mvW Wd.pl
  simp [eqPl,eqRp,eqCh,eqR,headR,numW,hasD,hasM,mapsB,mp0,pl0]
  ac_rfl
 rw [hs,hn,h0]
 rfl
theorem mv_light (a:Int):Light (mvW a):=⟨MzB0,(by decide:(0:Nat)≤131072),(by decide:e0.size≤2000),(by decide:e0.size≤2000)⟩
set_option maxHeartbeats 8000000 in
theorem moved_walk (h a f:Int) (w:World):Calls Tryz.prog 3 #[.int .i64 h,.int .i64 a,.int .i64 f] w fun e w'=>e=.returned (.bool true)∧Below w.heap.size w w':=by
 rcases Bool.eq_false_or_eq_true (decide (h<1)) with t1 | t1
 ·(go_enter Tryz.func3,Tryz.ntmps3;(go_wp2_with fail);(refine (known_g _).mono ?_);(rintro e w1 ⟨rfl,hb⟩);(go_wp2_with fail);go_ret;exact ⟨rfl,hb⟩)
 rcases Bool.eq_false_or_eq_true (decide (6<h)) with t2 | t2
 ·(go_enter Tryz.func3,Tryz.ntmps3;(go_wp2_with fail);(refine (known_g _).mono ?_);(rintro e w1 ⟨rfl,hb⟩);(go_wp2_with fail);go_ret;exact ⟨rfl,hb⟩)
 rcases Bool.eq_false_or_eq_true (decide (a<0)) with t3 | t3
 ·(go_enter Tryz.func3,Tryz.ntmps3;(go_wp2_with fail);(refine (known_g _).mono ?_);(rintro e w1 ⟨rfl,hb⟩);(go_wp2_with fail);go_ret;exact ⟨rfl,hb⟩)
 rcases Bool.eq_false_or_eq_true (decide (100<a)) with t4 | t4
 ·(go_enter Tryz.func3,Tryz.ntmps3;(go_wp2_with fail);(refine (known_g _).mono ?_);(rintro e w1 ⟨rfl,hb⟩);(go_wp2_with fail);go_ret;exact ⟨rfl,hb⟩)
 have hh:1≤h∧h≤6:=by rw [decide_eq_false_iff_not] at t1 t2;omega
 have ha:0≤a∧a≤100:=by rw [decide_eq_false_iff_not] at t3 t4;omega
 have Hh:=Lib.hid hh
 have Ha:=Lib.hid ha
 have hv:(.agg #[.int .i64 lookO.kind,.int .i64 lookO.client,.int .i64 lookO.seq,.string lookO.key,.string lookO.who,.string lookO.tkey,.string lookO.twho,.int .i64 lookO.item,.int .i64 lookO.count,.int .i64 lookO.price,.bool lookO.buy,.int .i64 lookO.id]:Value)=.agg #[.int .i64 5,.int .i64 0,.int .i64 0,.string ⟨#[97]⟩,.string ⟨#[98]⟩,.string ⟨#[]⟩,.string ⟨#[]⟩,.int .i64 0,.int .i64 0,.int .i64 0,.bool false,.int .i64 0]:=rfl
 have hq:(.agg #[.int .i64 lookQ.kind,.int .i64 lookQ.client,.int .i64 lookQ.seq,.string lookQ.key,.string lookQ.who,.string lookQ.tkey,.string lookQ.twho,.int .i64 lookQ.item,.int .i64 lookQ.count,.int .i64 lookQ.price,.bool lookQ.buy,.int .i64 lookQ.id]:Value)=.agg #[.int .i64 5,.int .i64 1,.int .i64 1,.string ⟨#[97]⟩,.string ⟨#[98]⟩,.string ⟨#[]⟩,.string ⟨#[]⟩,.int .i64 0,.int .i64 0,.int .i64 0,.bool false,.int .i64 0]:=rfl
 have Hlk:=Lib.hid (fun w=>look_any w)
 have Hsu:=Lib.hid (fun (w1:World) (p:Nat) (S:St w w1 [thG p (newG 32 h) nilA])=>sub_look hh S)
 rw [hv] at Hlk Hsu
 rw [hq] at Hsu
 have hmm:=mv_may ha
 have Hms:=Lib.hid (fun (f:Int) (w:World)=>msg_any (d:=mvW a) (V:=wdV (mvW a) (.slice none 0 0) (.slice none 0 0)) rfl rfl rfl (mv_light a) f 32 w)
 have hby:byG (mvW a)=encW (mvW a):=by unfold byG;rw [if_pos hmm]
 rw [hby] at Hms
 have Hmm:=Lib.hid hmm
 clear hv hq hmm hby ha
 go_enter Tryz.func3,Tryz.ntmps3
 refine wp_hold fun C HC=>?_
 go_wp2_with fail
 ((have hC:=HC.out);clear HC;subst hC)
 refine wp_hold fun C HC=>?_
 go_wp2_with fail
 ((have hC:=HC.out);clear HC;subst hC)
 refine wp_hold fun C HC=>?_
 go_wp2_with fail
 refine (new_32 hh w).mono ?_
 rintro e w1 ⟨p,rfl,hS⟩
 have S:=Lib.hid hS
 clear hS hh t1 t2 t3 t4
 go_wp2_with fail
 ((have hC:=HC.out);clear HC;subst hC)
 refine wp_hold fun C HC=>?_
 go_wp2_with fail
 ((have hC:=HC.out);clear HC;subst hC)
 refine wp_hold fun C HC=>?_
 go_wp2_with fail
 refine (Hlk.out w1).mono ?_
 rintro e w2 ⟨rfl,hb⟩
 have S:=Lib.hid (S.out.grow hb)
 clear hb
 go_wp2_with fail
 refine (Hsu.out w2 p S.out).mono ?_
 rintro e w3 ⟨rfl,hS⟩
 have S:=Lib.hid hS
 clear hS Hsu Hlk
 go_wp2_with fail
 refine wp_name fun w4 hw4=>?_
 obtain ⟨X,hX⟩:∃ X,X=w3.heap.size:=⟨_,rfl⟩
 have S4:Hid (St w w4 [thG p (gtL h) nilA,thObj X (.cells #[.int .i64 5,.int .i64 1,.int .i64 1,.string ⟨#[97]⟩,.string ⟨#[98]⟩,.string ⟨#[]⟩,.string ⟨#[]⟩,.int .i64 0,.int .i64 0,.int .i64 0,.bool false,.int .i64 0] 30 (0,0))]):=by
  rw [hw4]
  exact Lib.hid ((S.out.objN _ X hX).pull (A:=[_]))
 rw [←hX]
 clear hw4 hX S
 ((have hC:=HC.out);clear HC;subst hC)
 refine wp_hold fun C HC=>?_
 go_wp2_with fail
 refine (tick_g S4.out (ok_L Hh.out)).mono ?_
 intro e w5 hT
 obtain ⟨hS,hM⟩:=hT
 rw [if_pos (show saysB (gtL h)=true from rfl)] at hM
 obtain ⟨b,rfl,-⟩:=hM
 obtain ⟨g1,hg1⟩:∃ g1,g1=tickG (gtL h):=⟨_,rfl⟩
 rw [←hg1] at hS
 have Hok1:Hid (Ok g1):=Lib.hid (by rw [hg1];exact tick_ok (ok_L Hh.out))
 have Hg1:Hid (g1.id=32∧g1.hosts=h∧g1.pend=true∧g1.op=lookQ):=by rw [hg1];exact Lib.hid ⟨rfl,rfl,rfl,rfl⟩
 have S5:=Lib.hid hS
 clear hS hg1 S4
 go_wp2_with fail
 ((have hC:=HC.out);clear HC;subst hC)
 refine wp_hold fun C HC=>?_
 refine wp_seq ?_
 refine wp_region_lit ?_
 obtain ⟨x1,x2,-⟩:=S5.out.cellsN 1 rfl
 ((refine list_hold 9 fun LL HL=>?_);simp only [List.take_succ_cons,List.take_zero,List.cons_append,List.nil_append];(go_wp2_with fail))
 clear x1 x2
 ((have hL:=HL.out);clear HL;subst hL;simp only [List.drop_succ_cons,List.drop_zero])
 ((refine list_hold 1 fun LL HL=>?_);simp only [List.take_succ_cons,List.take_zero,List.cons_append,List.nil_append];(go_wp2_with fail))
 refine list_name fun wn hwn=>?_
 obtain ⟨B,hB⟩:∃ B,B=w5.heap.size:=⟨_,rfl⟩
 have S6:Hid (St w wn [thObj B (.cells #[.int .i64 0,.int .i64 0,.int .i64 0,.int .i64 0,.int .i64 0,.int .i64 0,.int .i64 0,.int .i64 0,.string ⟨#[]⟩,.string ⟨#[]⟩,.int .i64 0,.int .i64 0,.int .i64 0,.string ⟨#[]⟩,.string ⟨#[]⟩,.string ⟨#[]⟩,.string ⟨#[]⟩,.int .i64 0,.int .i64 0,.int .i64 0,.bool false,.int .i64 0,.int .i64 0,.int .i64 0,.int .i64 0,.int .i64 0,.int .i64 0,.int .i64 0,.int .i64 0,.int .i64 0,.slice none 0 0,.int .i64 0,.int .i64 0,.int .i64 0,.int .i64 0,.string ⟨#[]⟩,.slice none 0 0] 49 (0,0)),thG p g1 nilA,thObj X (.cells #[.int .i64 5,.int .i64 1,.int .i64 1,.string ⟨#[97]⟩,.string ⟨#[98]⟩,.string ⟨#[]⟩,.string ⟨#[]⟩,.int .i64 0,.int .i64 0,.int .i64 0,.bool false,.int .i64 0] 30 (0,0))]):=by rw [hwn];exact Lib.hid (S5.out.objN _ B hB)
 rw [←hB]
 clear hwn hB S5
 ((have hL:=HL.out);clear HL;subst hL;simp only [List.drop_succ_cons,List.drop_zero])
 obtain ⟨V,hV⟩:∃ V,V=wdV (mvW a) (.slice none 0 0) (.slice none 0 0):=⟨_,rfl⟩
 have hsz:V.size=37:=by rw [hV];rfl
 have hone:V.all (·.oneCell')=true:=by rw [hV];simp [wdV,Value.oneCell']
 refine wpList_store_row rfl 49 _ _ rfl B V rfl (by rw [hV];rfl) 49 _ S6.out.head (by rw [hsz];kernel_rfl) (by rw [hsz];rfl) hone ?_
 have S7:=Lib.hid (S6.out.setRow37 V)
 clear S6 hone
 refine list_name fun w7 hw7=>?_
 rw [←hw7] at S7
 rw [←hV] at Hms
 have HV:=Lib.hid hV
 clear hw7 hV
 go_wp2_with fail
 ((have hC:=HC.out);clear HC;subst hC)
 refine wp_hold fun C HC=>?_
 refine wp_seq ?_
 refine wp_region_lit ?_
 ((refine list_hold 2 fun LL HL=>?_);simp only [List.take_succ_cons,List.take_zero,List.cons_append,List.nil_append];(go_wp2_with fail))
 ((have hL:=HL.out);clear HL;subst hL;simp only [List.drop_succ_cons,List.drop_zero])
 refine wpList_load_row rfl 49 _ rfl B rfl _ _ _ _ S7.out.head Tryz.underlying49 rfl (by rw [hsz];kernel_rfl) ?_
 go_wp2_with fail
 refine (Hms.out f w7).mono ?_
 rintro e w8 ⟨xo,xc,rfl,hb8,hx⟩
 have S8:=Lib.hid (((S7.out.grow hb8).nilRow 79 18).pull (A:=[_,_]))
 have Hx:=Lib.hid hx
 clear hb8 hx S7 Hms
 have hwl:=wdB_length Hmm.out (mv_light a)
 have hel:(encW (mvW a)).length=(wdB (mvW a)).length+12:=F.frameB_length _
 have hde:wdDec (encW (mvW a))=(mvW a,0):=wdDec_enc Hmm.out (mv_light a) (by omega)
 have hhe:=hear_g (A:=[]) (ao:=none) (cap:=0) S8.out Hok1.out f 32 xo xc (encW (mvW a)) Hx.out (by omega) (fun q hq=>by
  unfold encW at hq
  rw [one_frameW _ (by omega)] at hq
  rw [←(Prod.mk.inj hq).1]
  exact small_enc Hmm.out (mv_light a) (by decide:(0:Nat)≤2000)) (by simp)
 rw [hde] at hhe
 have Hhe:=Lib.hid hhe
 clear hwl hel hde hhe
 go_wp2_with fail
 refine Hhe.out.mono ?_
 intro e w9 hH
 obtain ⟨co,cc,hS,hM⟩:=hH
 have hA0:hearA g1 f 32 (mvW a,0)=[]:=by unfold hearA;exact if_neg (fun hx=>absurd hx.2 (by decide:¬(15:Int)=0))
 obtain ⟨ff,hff⟩:∃ ff,ff=isHostB h f:=⟨_,rfl⟩
 obtain ⟨fa,hfa⟩:∃ fa,fa=isHostB h a:=⟨_,rfl⟩
 have hM0:hearM g1 f 32 (mvW a,0)=(ff&&fa):=by
  obtain ⟨e1,e2,e3,e4⟩:=Hg1.out
  have e5:isHostB h (mvW a,(0:Int)).1.host=fa:=hfa.symm
  unfold hearM heardB forB matchB movesB
  rw [e1,e2,e3,e4,←hff,e5]
  simp [mvW,lookQ]
 rw [hA0,List.append_nil] at hS
 rw [hM0] at hM
 have Haf:=Lib.hid (fun w=>among_any f h Hh.out w)
 have Haa:=Lib.hid (fun w=>among_any a h Hh.out w)
 simp only [←hff] at Haf
 simp only [←hfa] at Haa
 have S9:=Lib.hid hS
 clear hS hA0 hM0 hff hfa Hhe S8 Hx
 cases fa with
 | false =>
  rw [Bool.and_false,if_neg (by simp)] at hM
  subst hM
  go_wp2_with fail
  ((have hC:=HC.out);clear HC;subst hC)
  go_wp2_with fail
  refine (Haa.out w9).mono ?_
  rintro e wa ⟨rfl,rfl⟩
  go_wp2_with fail
  refine (known_g _).mono ?_
  rintro e wb ⟨rfl,hb⟩
  have hfin:=(S9.out.grow hb).b
  clear hb
  go_wp2_with fail
  go_ret
  exact ⟨rfl,hfin⟩
 | true =>
 cases ff with
 | false =>
  rw [Bool.false_and,if_neg (by simp)] at hM
  subst hM
  go_wp2_with fail
  ((have hC:=HC.out);clear HC;subst hC)
  go_wp2_with fail
  refine (Haa.out w9).mono ?_
  rintro e wa ⟨rfl,rfl⟩
  go_wp2_with fail
  refine (Haf.out wa).mono ?_
  rintro e wb ⟨rfl,rfl⟩
  go_wp2_with fail
  refine (known_g _).mono ?_
  rintro e wc ⟨rfl,hb⟩
  have hfin:=(S9.out.grow hb).b
  clear hb
  go_wp2_with fail
  go_ret
  exact ⟨rfl,hfin⟩
 | true =>
  rw [Bool.true_and,if_pos rfl] at hM
  obtain ⟨b2,rfl,-,yo,yc,h1,-⟩:=hM
  have m1:w9.cell? ⟨b2,1,none⟩=some (.int .i64 a):=(cells_of_obj h1).1 1
  have mb:=lt_of_block h1
  have haa:(a==a)=true:=beq_self_eq_true a
  have Han:=Lib.hid (answers_g (A:=[]) S9.out (by simp))
  clear h1
  go_wp2_with fail
  ((have hC:=HC.out);clear HC;subst hC)
  go_wp2_with fail
  refine (Haa.out w9).mono ?_
  rintro e wa ⟨rfl,rfl⟩
  go_wp2_with fail
  refine (Haf.out wa).mono ?_
  rintro e wb ⟨rfl,rfl⟩
  go_wp2_with fail
  refine Han.out.mono ?_
  rintro e wc ⟨c3,c4,rfl,hS⟩
  have S10:=Lib.hid hS
  clear hS S9 m1 mb
  go_wp2_with fail
  refine (known_g _).mono ?_
  rintro e wd ⟨rfl,hb⟩
  have hfin:=(S10.out.grow hb).b
  clear hb
  go_wp2_with fail
  go_ret
  exact ⟨rfl,hfin⟩
end G
namespace GateMovedLift
open Go.ChangeShapes Go.WideShapes Go.ChangeAt Go.RowKit Go.Joins Go.Deep
open Go.ChangeMaps (open_string shut_string)
theorem own:ownKnob Tryz.prog.godebug=none:=by kernel_rfl
theorem laidOut:laidOutB Tryz.prog=true:=by kernel_rfl
set_option maxHeartbeats 1000000 in
set_option maxRecDepth 100000 in
theorem lifted (os:Os) (started:os.Started) (H:Type) (enc:TypeId × Value→H) :
 ReturnsInHanded {} Tryz.checked os 3 .any (Rows.gateMovedSpec.pre6 enc Tryz.prog Tryz.f3 Rows.gateMovedRow.domain false) (Rows.gateMovedSpec.post enc Tryz.prog Tryz.f3 false true false false):=by
 refine returnsInHanded_of_change (C:=Tryz.checked) own started (by kernel_rfl) Tryz.func3
  (ChangeSpec.witness6 (enc:=enc) (C:=Tryz.checked) false ⟨#[],#[.int .i64 0,.int .i64 0,.int .i64 0],[]⟩ 8 (by kernel_rfl) (by kernel_rfl) (by kernel_rfl) (by kernel_rfl)) ?_
 intro W base args ds gs before hval0 hW hcnd _
 have hval:∀ (j:Nat) t v,Tryz.f3.params[j]?=some t→args[j]?=some v→Value.okWide Tryz.prog W .any base t v:=hval0
 have hW':=hW
 obtain ⟨p,q,hA0,hV,rfl,hfz,hnd⟩:=hW
 have hA:DataW.TrodAll enc Tryz.prog W 0 (fun _=>true) true Tryz.f3.params.toList args.toList ds p:=hA0
 rw [Tryz.params3] at hA hval
 obtain ⟨v0,vs0,d0,ds0,p0,q0,hargs,rfl,rfl,h0,r0⟩:=trodAll_cons hA
 obtain ⟨v1,vs1,d1,ds1,p1,q1,rfl,rfl,rfl,h1,r1⟩:=trodAll_cons r0
 obtain ⟨v2,vs2,d2,ds2,p2,q2,rfl,rfl,rfl,h2,r2⟩:=trodAll_cons r1
 obtain ⟨rfl,rfl,rfl⟩:=trodAll_nil r2
 obtain rfl:args=#[v0,v1,v2]:=by cases args;simp_all
 obtain ⟨rfl,rfl⟩:=trodVars_none hV
 have k0:=h0
 have lt0:∀ x∈p0,x.block<W.heap.size:=by obtain ⟨m,hm⟩:=k0;exact DataW.trod_lt m _ _ _ hm
 have k1:=h1
 have lt1:∀ x∈p1,x.block<W.heap.size:=by obtain ⟨m,hm⟩:=k1;exact DataW.trod_lt m _ _ _ hm
 have k2:=h2
 have lt2:∀ x∈p2,x.block<W.heap.size:=by obtain ⟨m,hm⟩:=k2;exact DataW.trod_lt m _ _ _ hm
 have post:∀ e W',e=Ending.returned (.bool true)→Below W.heap.size W W'→∃ v,e=.returned v∧Rows.gateMovedSpec.post enc Tryz.prog Tryz.f3 false true false false W #[v0,v1,v2] v W':=by
  intro e W' he bel
  subst he
  exact ⟨_,rfl,_,_,_,[],_,[],hW',trodAll_mk1 (shut_bool Tryz.underlying4 _),(trodAll_cons_mk (Below.trod laidOut (by kernel_rfl) (of_decide_eq_true (by kernel_rfl)) k0 bel lt0) (trodAll_cons_mk (Below.trod laidOut (by kernel_rfl) (of_decide_eq_true (by kernel_rfl)) k1 bel lt1) (trodAll_cons_mk (Below.trod laidOut (by kernel_rfl) (of_decide_eq_true (by kernel_rfl)) k2 bel lt2) trodAll_mk0))),rfl,bel.frame _,fun h=>by cases h⟩
 clear hW' hcnd hfz hnd hA0 hA hval0
 obtain ⟨n0,rfl⟩:=okWide_int Tryz.underlying3 (hval 0 3 v0 rfl rfl)
 obtain ⟨n1,rfl⟩:=okWide_int Tryz.underlying3 (hval 1 3 v1 rfl rfl)
 obtain ⟨n2,rfl⟩:=okWide_int Tryz.underlying3 (hval 2 3 v2 rfl rfl)
 exact (G.moved_walk n0 n1 n2 W).mono fun e W' ⟨he,bel⟩=>post e W' he bel
theorem over:Rows.gateMovedRow.holds Tryz.pinned (OpenSpec.ofChange Rows.gateMovedSpec) :=
 OpenClaim.holds_of_wide 3 Tryz.f3 rfl rfl rfl rfl rfl rfl rfl ⟨rfl,rfl,rfl,rfl,rfl⟩ rfl rfl rfl rfl rfl (by kernel_rfl) Tryz.func3 (by kernel_rfl)
  (of_decide_eq_true (by kernel_rfl)) (by unfold Func.isWrapper;first | (rw [if_pos (by decide +kernel)];kernel_rfl) | (rw [if_neg (by decide +kernel)];exact ⟨rfl,rfl⟩))
  (fun os started H enc _=>lifted os started H enc)
end GateMovedLift
theorem gateMoved_holds:Rows.GateMovedSaid:=GateMovedLift.over
#print axioms gateMoved_holds
end Go.Proofs.YtogamdaomdoapaaGreat