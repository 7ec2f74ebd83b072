/- GateRounds: a request that nobody answers is asked of each host in turn, again and again. It holds of all arguments, without a condition. -/
import Derived.Test.YtogamdaomdoapaaZbEx
import Derived.Test.YtogamdaomdoapaaRows
namespace Go.Proofs.Ytogamdaomdoapaa
set_option maxRecDepth 20000
open Go.RowKit
namespace G
theorem at_0 (hosts:Nat):gtL hosts=gtAt hosts lookQ 0:=by
 unfold gtL gtAt asked waitAt
 simp
theorem at_ok {hosts:Nat} (h:1≤hosts∧hosts≤6) (i:Nat):Ok (gtAt hosts lookQ i):=by
 induction i with
 | zero=>rw [←at_0];exact ok_L (by omega)
 | succ i ih=>rw [←tick_at h];exact tick_ok ih
set_option maxHeartbeats 8000000 in
theorem rounds_walk (hosts rounds:Int) (w:World):Calls Try.prog 3 #[.int .i64 hosts,.int .i64 rounds] w fun e w'=>e=.returned (.bool true)∧Below w.heap.size w w':=by
 rcases Bool.eq_false_or_eq_true (decide (hosts<1)) with t1 | t1
 ·(go_enter Try.func3,Try.ntmps3;(go_wp2_with fail);(refine (known_g _).mono ?_);(rintro e w1 ⟨rfl,hb⟩);(go_wp2_with fail);go_ret;exact ⟨rfl,hb⟩)
 rcases Bool.eq_false_or_eq_true (decide (6<hosts)) with t2 | t2
 ·(go_enter Try.func3,Try.ntmps3;(go_wp2_with fail);(refine (known_g _).mono ?_);(rintro e w1 ⟨rfl,hb⟩);(go_wp2_with fail);go_ret;exact ⟨rfl,hb⟩)
 rcases Bool.eq_false_or_eq_true (decide (rounds<1)) with t3 | t3
 ·(go_enter Try.func3,Try.ntmps3;(go_wp2_with fail);(refine (known_g _).mono ?_);(rintro e w1 ⟨rfl,hb⟩);(go_wp2_with fail);go_ret;exact ⟨rfl,hb⟩)
 rcases Bool.eq_false_or_eq_true (decide (30<rounds)) with t4 | t4
 ·(go_enter Try.func3,Try.ntmps3;(go_wp2_with fail);(refine (known_g _).mono ?_);(rintro e w1 ⟨rfl,hb⟩);(go_wp2_with fail);go_ret;exact ⟨rfl,hb⟩)
 have hh:1≤hosts∧hosts≤6:=by rw [decide_eq_false_iff_not] at t1 t2;omega
 have hr:1≤rounds∧rounds≤30:=by rw [decide_eq_false_iff_not] at t3 t4;omega
 obtain ⟨H,rfl⟩:∃ H:Nat,hosts=H:=⟨hosts.toNat,by omega⟩
 obtain ⟨R,rfl⟩:∃ R:Nat,rounds=R:=⟨rounds.toNat,by omega⟩
 have hH:1≤H∧H≤6:=by omega
 have hR:1≤R∧R≤30:=by omega
 obtain ⟨N,hN⟩:∃ N:Nat,N=R * 5:=⟨_,rfl⟩
 have hN2:N≤150:=by omega
 have hw5:IntKind.i64.wrap ((R:Int) * 5)=N:=by rw [IntKind.wrap_i64,hN];omega
 have HN:=Lib.hid hN
 have hv:(.agg #[.int .i64 lookO.kind,.int .i64 lookO.client,.int .i64 lookO.seq,.string lookO.key,.string lookO.who,.string lookO.tkey,.string lookO.twho,.int .i64 lookO.item,.int .i64 lookO.count,.int .i64 lookO.price,.bool lookO.buy,.int .i64 lookO.id]:Value)=.agg #[.int .i64 5,.int .i64 0,.int .i64 0,.string ⟨#[97]⟩,.string ⟨#[98]⟩,.string ⟨#[]⟩,.string ⟨#[]⟩,.int .i64 0,.int .i64 0,.int .i64 0,.bool false,.int .i64 0]:=rfl
 have Hlk:=Lib.hid (fun w=>look_any w)
 have Hsu:=Lib.hid (fun (w1:World) (p:Nat) (S:St w w1 [thG p (newG 32 H) nilA])=>sub_look hh S)
 rw [hv] at Hlk Hsu
 clear hv hN hr
 go_enter Try.func3,Try.ntmps3
 go_wp2_with fail
 refine (new_32 hh w).mono ?_
 rintro e w1 ⟨p,rfl,hS⟩
 have S:=Lib.hid hS
 clear hS
 go_wp2_with fail
 refine (Hlk.out w1).mono ?_
 rintro e w2 ⟨rfl,hb⟩
 have S:=Lib.hid (S.out.grow hb)
 clear hb
 go_wp2_with fail
 refine (Hsu.out w2 p S.out).mono ?_
 rintro e w3 ⟨rfl,hS⟩
 rw [at_0] at hS
 have S:=Lib.hid hS
 clear hS Hsu Hlk hh
 go_wp2_with fail
 go_loopw [7,8,9] (fun s7 s8 _ wr=>∃ (i n:Nat),s8=.int .i64 i∧s7=.int .i64 n∧i≤N∧Hid (n=asked i)∧Hid (St w wr [thG p (gtAt H lookQ i) nilA])) (fun _ s8 _ _=>N - (intOf s8).toNat)
 case atStart=>exact ⟨0,0,rfl,rfl,by omega,Lib.hid rfl,S⟩
 case round =>
  clear S
  obtain ⟨i,n,rfl,rfl,hi,Hn,S⟩:=hrel
  have htk:=tick_g S.out (at_ok hH i)
  unfold TickPost at htk
  simp only [tick_at hH,says_at] at htk
  have Htk:=Lib.hid htk
  have hi1:IntKind.i64.wrap ((i:Int)+1)=(i:Int)+1:=by rw [IntKind.wrap_i64];omega
  have hnN:n≤40:=by rw [Hn.out];unfold asked;omega
  have hn1:IntKind.i64.wrap ((n:Int)+1)=(n:Int)+1:=by rw [IntKind.wrap_i64];omega
  have hm1:((i:Int) % 5)=((i % 5:Nat):Int):=by omega
  have hm2:((i:Int).tmod 5)=((i % 5:Nat):Int):=by rw [Int.tmod_eq_emod_of_nonneg (by omega)];exact hm1
  clear htk
  by_cases hlt:i<N
  ·have hltI:(i:Int)<N:=by omega
   by_cases h5:i % 5=0
   ·rw [h5] at hm1 hm2
    obtain ⟨q,hq⟩:∃ q:Nat,q=n % H:=⟨_,rfl⟩
    have hq1:((n:Int) % (H:Int))=q:=by rw [hq];rfl
    have hq2:((n:Int).tmod (H:Int))=q:=by rw [Int.tmod_eq_emod_of_nonneg (by omega)];exact hq1
    have hqH:q<H:=by rw [hq];exact Nat.mod_lt _ (by omega)
    have hHz:¬(H:Int)=0:=by omega
    have hw8:IntKind.i64.wrap (8+(q:Int))=8+(q:Int):=by rw [IntKind.wrap_i64];omega
    have Hq:=Lib.hid hq
    clear hq
    go_wp2_with fail
    refine Htk.out.mono ?_
    intro e w5 h
    obtain ⟨hS,h⟩:=h
    rw [if_pos (decide_eq_true h5)] at h
    obtain ⟨b,rfl,-,ao,cap,h1,-⟩:=h
    have m1:w5.cell? ⟨b,1,none⟩=some (.int .i64 (8+(q:Int))):=by
     rw [Hq.out,Hn.out]
     exact (cells_of_obj h1).1 1
    have mb:=lt_of_block h1
    have S5:=Lib.hid hS
    have H5:=Lib.hid h5
    clear S hS h1 Htk h5
    go_wp2_with fail
    go_region
    go_wp2_with fail
    go_roundw
    ·refine ⟨i+1,n+1,by go_num,by go_num,by omega,?_,S5.out.grow (Below.refl _ _).drew⟩
     rw [asked_step,if_pos H5.out,←Hn.out]
     exact Lib.hid rfl
    ·simp [intOf];omega
   ·obtain ⟨z,hz⟩:∃ z:Nat,z=i % 5:=⟨_,rfl⟩
    rw [←hz] at hm1 hm2
    have hz0:(z:Int)≠0:=by omega
    have hz1:((z:Int)==0)=false:=by rw [beq_eq_false_iff_ne];exact hz0
    go_wp2_with fail
    refine Htk.out.mono ?_
    intro e w5 h
    obtain ⟨hS,h⟩:=h
    rw [if_neg (by rw [decide_eq_false h5];simp)] at h
    subst h
    have S5:=Lib.hid hS
    have H5:=Lib.hid h5
    clear S hS Htk h5 hz
    go_wp2_with fail
    go_roundw
    ·refine ⟨i+1,n,by go_num,rfl,by omega,?_,S5⟩
     rw [asked_step,if_neg H5.out,←Hn.out]
     exact Lib.hid rfl
    ·simp [intOf];omega
  ·have hiN:i=N:=by omega
   have hnR:n=R:=by rw [Hn.out,hiN,HN.out];exact asked_end R
   have hnR2:((n:Int)==R)=true:=by rw [hnR];exact beq_self_eq_true _
   have S5:=S
   clear S Htk hm1 hm2 hiN hnR
   go_wp2_with fail
   refine (known_g _).mono ?_
   rintro e w6 ⟨rfl,hb⟩
   have hfin:=(S5.out.grow hb).b
   go_wp2_with fail
   go_ret
   exact ⟨rfl,hfin⟩
end G
namespace GateRoundsLift
open Go.ChangeShapes Go.WideShapes Go.ChangeAt Go.RowKit Go.Joins Go.Deep
open Go.ChangeMaps (open_string shut_string)
theorem own:ownKnob Try.prog.godebug=none:=by kernel_rfl
theorem laidOut:laidOutB Try.prog=true:=by kernel_rfl
set_option maxHeartbeats 1000000 in
set_option maxRecDepth 100000 in
theorem lifted (os:Os) (started:os.Started) (H:Type) (enc:TypeId × Value→H) :
 ReturnsInHanded {} Try.checked os 3 .any (Rows.gateRoundsSpec.pre6 enc Try.prog Try.f3 Rows.gateRoundsRow.domain false) (Rows.gateRoundsSpec.post enc Try.prog Try.f3 false true false false):=by
 refine returnsInHanded_of_change (C:=Try.checked) own started (by kernel_rfl) Try.func3
  (ChangeSpec.witness6 (enc:=enc) (C:=Try.checked) false ⟨#[],#[.int .i64 0,.int .i64 0],[]⟩ 8 (by kernel_rfl) (by kernel_rfl) (by kernel_rfl) (by kernel_rfl)) ?_
 intro W base args ds gs before hval0 hW hcnd _
 have hval:∀ (j:Nat) t v,Try.f3.params[j]?=some t→args[j]?=some v→Value.okWide Try.prog W .any base t v:=hval0
 have hW':=hW
 obtain ⟨p,q,hA0,hV,rfl,hfz,hnd⟩:=hW
 have hA:DataW.TrodAll enc Try.prog W 0 (fun _=>true) true Try.f3.params.toList args.toList ds p:=hA0
 rw [Try.params3] at hA hval
 obtain ⟨v0,vs0,d0,ds0,p0,q0,hargs,rfl,rfl,h0,r0⟩:=trodAll_cons hA
 obtain ⟨v1,vs1,d1,ds1,p1,q1,rfl,rfl,rfl,h1,r1⟩:=trodAll_cons r0
 obtain ⟨rfl,rfl,rfl⟩:=trodAll_nil r1
 obtain rfl:args=#[v0,v1]:=by cases args;simp_all
 obtain ⟨rfl,rfl⟩:=trodVars_none hV
 have k0:=h0
 have lt0:∀ x∈p0,x.block<W.heap.size:=by obtain ⟨m,hm⟩:=k0;exact DataW.trod_lt m _ _ _ hm
 have k1:=h1
 have lt1:∀ x∈p1,x.block<W.heap.size:=by obtain ⟨m,hm⟩:=k1;exact DataW.trod_lt m _ _ _ hm
 have post:∀ e W',e=Ending.returned (.bool true)→Below W.heap.size W W'→∃ v,e=.returned v∧Rows.gateRoundsSpec.post enc Try.prog Try.f3 false true false false W #[v0,v1] v W':=by
  intro e W' he bel
  subst he
  exact ⟨_,rfl,_,_,_,[],_,[],hW',trodAll_mk1 (shut_bool Try.underlying4 _),(trodAll_cons_mk (Below.trod laidOut (by kernel_rfl) (of_decide_eq_true (by kernel_rfl)) k0 bel lt0) (trodAll_cons_mk (Below.trod laidOut (by kernel_rfl) (of_decide_eq_true (by kernel_rfl)) k1 bel lt1) trodAll_mk0)),rfl,bel.frame _,fun h=>by cases h⟩
 clear hW' hcnd hfz hnd hA0 hA hval0
 obtain ⟨n0,rfl⟩:=okWide_int Try.underlying3 (hval 0 3 v0 rfl rfl)
 obtain ⟨n1,rfl⟩:=okWide_int Try.underlying3 (hval 1 3 v1 rfl rfl)
 exact (G.rounds_walk n0 n1 W).mono fun e W' ⟨he,bel⟩=>post e W' he bel
theorem over:Rows.gateRoundsRow.holds Try.pinned (OpenSpec.ofChange Rows.gateRoundsSpec) :=
 OpenClaim.holds_of_wide 3 Try.f3 rfl rfl rfl rfl rfl rfl rfl ⟨rfl,rfl,rfl,rfl,rfl⟩ rfl rfl rfl rfl rfl (by kernel_rfl) Try.func3 (by kernel_rfl)
  (of_decide_eq_true (by kernel_rfl)) (by unfold Func.isWrapper;first | (rw [if_pos (by decide +kernel)];kernel_rfl) | (rw [if_neg (by decide +kernel)];exact ⟨rfl,rfl⟩))
  (fun os started H enc _=>lifted os started H enc)
end GateRoundsLift
theorem gateRounds_holds:Rows.GateRoundsSaid:=GateRoundsLift.over
#print axioms gateRounds_holds
end Go.Proofs.Ytogamdaomdoapaa
