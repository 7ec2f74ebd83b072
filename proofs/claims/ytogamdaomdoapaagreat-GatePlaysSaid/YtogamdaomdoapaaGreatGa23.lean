/- Texts put together: May, WK6, WMy. -/
import Derived.Test.YtogamdaomdoapaaGreatGa03
import Derived.Test.YtogamdaomdoapaaGreatGa19
import Derived.Test.YtogamdaomdoapaaGreatGa20
import Derived.Test.YtogamdaomdoapaaGreatGa21
import Derived.Test.YtogamdaomdoapaaGreatGa22
import Derived.Laws.EntriesVeiled
namespace Go.Proofs.YtogamdaomdoapaaGreat
open Go.Value renaming int→aI,string→aS,bool→aB
open Go.IntKind renaming i64→aK
open Go renaming undef→J
open List renaming setIfInBounds_toArray→lA,set_cons_zero→lZ,set_cons_succ→lS
open Bool renaming eq_false_or_eq_true→bE
open Go.Lib renaming hid→uH
open Go.RowKit
theorem kind_out (o:Rq) (h:o.kind<1∨7<o.kind):mayO o=false:=by
 have:c0d o=false:=by
  unfold c0d
  rw [if_neg (by omega),if_neg (by omega),if_neg (by omega),if_neg (by omega),if_neg (by omega)]
 unfold mayO
 rw [this,Bool.and_false]
theorem f0x (f:FuncId) (w:World):(binOp .eql 98 (.func (.func f) #[] #[]) .nilFunc).run Tryz.prog w=.ok (aB false) w:=by kernel_rfl
theorem nil_nil (w:World):(binOp .eql 98 .nilFunc .nilFunc).run Tryz.prog w=.ok (aB true) w:=by kernel_rfl
set_option maxRecDepth 20000 in
set_option maxHeartbeats 4000000 in
theorem may_1 (o:Rq) (w:World) (r:Bool) (hr:mayO { o with kind:=1 }=r) :
 Calls Tryz.prog 24 #[.agg #[aI aK 1,aI aK o.client,aI aK o.seq,aS o.key,aS o.who,aS o.tkey,aS o.twho,aI aK o.item,aI aK o.count,aI aK o.price,aB o.buy,aI aK o.id]] w fun e w'=>e=.returned (aB r)∧Below w.heap.size w w':=by
 have hfn:=f0x
 have hkind:c0d { o with kind:=1 }=cntO { o with kind:=1 }:=by simp [c0d]
 unfold mayO at hr
 rw [hkind] at hr
 simp only at hr
 clear hkind
 by_cases c1:1≤o.client
 rotate_left
 have hrf:r=false:=by rw [←hr];simp [c1]
 have d:decide (1≤o.client)=false:=by rw [decide_eq_false_iff_not];exact c1
 clear hr
 subst hrf
 rotate_right
 by_cases c2:o.client≤1048576
 rotate_left
 have hrf:r=false:=by rw [←hr];simp [c2]
 have d:decide (o.client≤1048576)=false:=by rw [decide_eq_false_iff_not];exact c2
 clear hr
 subst hrf
 rotate_right
 by_cases c3:1≤o.seq
 rotate_left
 have hrf:r=false:=by rw [←hr];simp [c3]
 have d:decide (1≤o.seq)=false:=by rw [decide_eq_false_iff_not];exact c3
 clear hr
 subst hrf
 rotate_right
 by_cases c4:o.seq≤1099511627776
 rotate_left
 have hrf:r=false:=by rw [←hr];simp [c4]
 have d:decide (o.seq≤1099511627776)=false:=by rw [decide_eq_false_iff_not];exact c4
 clear hr
 subst hrf
 rotate_right
 rcases bE (b0v o.key o.who) with hp | hp
 rotate_left
 have hrf:r=false:=by rw [←hr,hp];simp
 have Hp:=uH hp
 clear hp hr
 subst hrf
 rotate_right
 have hk:=fun w=>h0c { o with kind:=1 } w r (by rw [←hr,hp];simp [c1,c2,c3,c4])
 simp only at hk
 have Hk:=uH hk
 have Hp:=uH hp
 clear hk hp hr
 have hr:true=true:=rfl
 clear hr
 all_goals
  go_enter Tryz.func24,Tryz.ntmps24
  go_wp2_with fail
  (refine a0d fun wa hwa=>?_;have wa_s0:=sg w.heap.size hwa;have wa_s1:=sg (w.heap.size+1) hwa;obtain ⟨wa_c0,wa_c1,wa_c2,wa_c3,wa_c4,wa_c5,wa_c6,wa_c7,wa_c8,wa_c9,wa_c10,wa_c11⟩:=kz12 hwa w.heap.size (aI aK 1) (aI aK o.client) (aI aK o.seq) (aS o.key) (aS o.who) (aS o.tkey) (aS o.twho) (aI aK o.item) (aI aK o.count) (aI aK o.price) (aB o.buy) (aI aK o.id);obtain wa_c12:=kk1 hwa (w.heap.size+1) 1 (.func (.func 40) #[] #[]);have wa_b:Below w.heap.size w wa:=(by rw [hwa];exact bg);clear hwa)
  (refine grA ?_;(repeat (go_big_quiet_step (first | (go_at_call 45;exact a0i (c0o o.key o.who _ _ Hp.out)) | (go_at_call 40;exact a0i (Hk.out _)) | fail)));refine grN fun g=>?_)
  go_wp2_with fail
  go_ret
  exact ⟨rfl,wa_b.trans ((a0f wa g).mono (by omega))⟩
set_option maxRecDepth 20000 in
set_option maxHeartbeats 4000000 in
theorem may_2 (o:Rq) (w:World) (r:Bool) (hr:mayO { o with kind:=2 }=r) :
 Calls Tryz.prog 24 #[.agg #[aI aK 2,aI aK o.client,aI aK o.seq,aS o.key,aS o.who,aS o.tkey,aS o.twho,aI aK o.item,aI aK o.count,aI aK o.price,aB o.buy,aI aK o.id]] w fun e w'=>e=.returned (aB r)∧Below w.heap.size w w':=by
 have hfn:=f0x
 have hkind:c0d { o with kind:=2 }=o0h { o with kind:=2 }:=by simp [c0d]
 unfold mayO at hr
 rw [hkind] at hr
 simp only at hr
 clear hkind
 by_cases c1:1≤o.client
 rotate_left
 have hrf:r=false:=by rw [←hr];simp [c1]
 have d:decide (1≤o.client)=false:=by rw [decide_eq_false_iff_not];exact c1
 clear hr
 subst hrf
 rotate_right
 by_cases c2:o.client≤1048576
 rotate_left
 have hrf:r=false:=by rw [←hr];simp [c2]
 have d:decide (o.client≤1048576)=false:=by rw [decide_eq_false_iff_not];exact c2
 clear hr
 subst hrf
 rotate_right
 by_cases c3:1≤o.seq
 rotate_left
 have hrf:r=false:=by rw [←hr];simp [c3]
 have d:decide (1≤o.seq)=false:=by rw [decide_eq_false_iff_not];exact c3
 clear hr
 subst hrf
 rotate_right
 by_cases c4:o.seq≤1099511627776
 rotate_left
 have hrf:r=false:=by rw [←hr];simp [c4]
 have d:decide (o.seq≤1099511627776)=false:=by rw [decide_eq_false_iff_not];exact c4
 clear hr
 subst hrf
 rotate_right
 rcases bE (b0v o.key o.who) with hp | hp
 rotate_left
 have hrf:r=false:=by rw [←hr,hp];simp
 have Hp:=uH hp
 clear hp hr
 subst hrf
 rotate_right
 have hk:=fun w=>v0o { o with kind:=2 } w r (by rw [←hr,hp];simp [c1,c2,c3,c4])
 simp only at hk
 have Hk:=uH hk
 have Hp:=uH hp
 clear hk hp hr
 have hr:true=true:=rfl
 clear hr
 all_goals
  go_enter Tryz.func24,Tryz.ntmps24
  go_wp2_with fail
  (refine a0d fun wa hwa=>?_;have wa_s0:=sg w.heap.size hwa;have wa_s1:=sg (w.heap.size+1) hwa;obtain ⟨wa_c0,wa_c1,wa_c2,wa_c3,wa_c4,wa_c5,wa_c6,wa_c7,wa_c8,wa_c9,wa_c10,wa_c11⟩:=kz12 hwa w.heap.size (aI aK 2) (aI aK o.client) (aI aK o.seq) (aS o.key) (aS o.who) (aS o.tkey) (aS o.twho) (aI aK o.item) (aI aK o.count) (aI aK o.price) (aB o.buy) (aI aK o.id);obtain wa_c12:=kk1 hwa (w.heap.size+1) 2 (.func (.func 41) #[] #[]);have wa_b:Below w.heap.size w wa:=(by rw [hwa];exact bg);clear hwa)
  (refine grA ?_;(repeat (go_big_quiet_step (first | (go_at_call 45;exact a0i (c0o o.key o.who _ _ Hp.out)) | (go_at_call 41;exact a0i (Hk.out _)) | fail)));refine grN fun g=>?_)
  go_wp2_with fail
  go_ret
  exact ⟨rfl,wa_b.trans ((a0f wa g).mono (by omega))⟩
set_option maxRecDepth 20000 in
set_option maxHeartbeats 4000000 in
theorem may_3 (o:Rq) (w:World) (r:Bool) (hr:mayO { o with kind:=3 }=r) :
 Calls Tryz.prog 24 #[.agg #[aI aK 3,aI aK o.client,aI aK o.seq,aS o.key,aS o.who,aS o.tkey,aS o.twho,aI aK o.item,aI aK o.count,aI aK o.price,aB o.buy,aI aK o.id]] w fun e w'=>e=.returned (aB r)∧Below w.heap.size w w':=by
 have hfn:=f0x
 have hkind:c0d { o with kind:=3 }=ordO { o with kind:=3 }:=by simp [c0d]
 unfold mayO at hr
 rw [hkind] at hr
 simp only at hr
 clear hkind
 by_cases c1:1≤o.client
 rotate_left
 have hrf:r=false:=by rw [←hr];simp [c1]
 have d:decide (1≤o.client)=false:=by rw [decide_eq_false_iff_not];exact c1
 clear hr
 subst hrf
 rotate_right
 by_cases c2:o.client≤1048576
 rotate_left
 have hrf:r=false:=by rw [←hr];simp [c2]
 have d:decide (o.client≤1048576)=false:=by rw [decide_eq_false_iff_not];exact c2
 clear hr
 subst hrf
 rotate_right
 by_cases c3:1≤o.seq
 rotate_left
 have hrf:r=false:=by rw [←hr];simp [c3]
 have d:decide (1≤o.seq)=false:=by rw [decide_eq_false_iff_not];exact c3
 clear hr
 subst hrf
 rotate_right
 by_cases c4:o.seq≤1099511627776
 rotate_left
 have hrf:r=false:=by rw [←hr];simp [c4]
 have d:decide (o.seq≤1099511627776)=false:=by rw [decide_eq_false_iff_not];exact c4
 clear hr
 subst hrf
 rotate_right
 rcases bE (b0v o.key o.who) with hp | hp
 rotate_left
 have hrf:r=false:=by rw [←hr,hp];simp
 have Hp:=uH hp
 clear hp hr
 subst hrf
 rotate_right
 have hk:=fun w=>t0x { o with kind:=3 } w r (by rw [←hr,hp];simp [c1,c2,c3,c4])
 simp only at hk
 have Hk:=uH hk
 have Hp:=uH hp
 clear hk hp hr
 have hr:true=true:=rfl
 clear hr
 all_goals
  go_enter Tryz.func24,Tryz.ntmps24
  go_wp2_with fail
  (refine a0d fun wa hwa=>?_;have wa_s0:=sg w.heap.size hwa;have wa_s1:=sg (w.heap.size+1) hwa;obtain ⟨wa_c0,wa_c1,wa_c2,wa_c3,wa_c4,wa_c5,wa_c6,wa_c7,wa_c8,wa_c9,wa_c10,wa_c11⟩:=kz12 hwa w.heap.size (aI aK 3) (aI aK o.client) (aI aK o.seq) (aS o.key) (aS o.who) (aS o.tkey) (aS o.twho) (aI aK o.item) (aI aK o.count) (aI aK o.price) (aB o.buy) (aI aK o.id);obtain wa_c12:=kk1 hwa (w.heap.size+1) 3 (.func (.func 42) #[] #[]);have wa_b:Below w.heap.size w wa:=(by rw [hwa];exact bg);clear hwa)
  (refine grA ?_;(repeat (go_big_quiet_step (first | (go_at_call 45;exact a0i (c0o o.key o.who _ _ Hp.out)) | (go_at_call 42;exact a0i (Hk.out _)) | fail)));refine grN fun g=>?_)
  go_wp2_with fail
  go_ret
  exact ⟨rfl,wa_b.trans ((a0f wa g).mono (by omega))⟩
set_option maxRecDepth 20000 in
set_option maxHeartbeats 4000000 in
theorem may_4 (o:Rq) (w:World) (r:Bool) (hr:mayO { o with kind:=4 }=r) :
 Calls Tryz.prog 24 #[.agg #[aI aK 4,aI aK o.client,aI aK o.seq,aS o.key,aS o.who,aS o.tkey,aS o.twho,aI aK o.item,aI aK o.count,aI aK o.price,aB o.buy,aI aK o.id]] w fun e w'=>e=.returned (aB r)∧Below w.heap.size w w':=by
 have hfn:=f0x
 have hkind:c0d { o with kind:=4 }=canO { o with kind:=4 }:=by simp [c0d]
 unfold mayO at hr
 rw [hkind] at hr
 simp only at hr
 clear hkind
 by_cases c1:1≤o.client
 rotate_left
 have hrf:r=false:=by rw [←hr];simp [c1]
 have d:decide (1≤o.client)=false:=by rw [decide_eq_false_iff_not];exact c1
 clear hr
 subst hrf
 rotate_right
 by_cases c2:o.client≤1048576
 rotate_left
 have hrf:r=false:=by rw [←hr];simp [c2]
 have d:decide (o.client≤1048576)=false:=by rw [decide_eq_false_iff_not];exact c2
 clear hr
 subst hrf
 rotate_right
 by_cases c3:1≤o.seq
 rotate_left
 have hrf:r=false:=by rw [←hr];simp [c3]
 have d:decide (1≤o.seq)=false:=by rw [decide_eq_false_iff_not];exact c3
 clear hr
 subst hrf
 rotate_right
 by_cases c4:o.seq≤1099511627776
 rotate_left
 have hrf:r=false:=by rw [←hr];simp [c4]
 have d:decide (o.seq≤1099511627776)=false:=by rw [decide_eq_false_iff_not];exact c4
 clear hr
 subst hrf
 rotate_right
 rcases bE (b0v o.key o.who) with hp | hp
 rotate_left
 have hrf:r=false:=by rw [←hr,hp];simp
 have Hp:=uH hp
 clear hp hr
 subst hrf
 rotate_right
 have hk:=fun w=>r0f { o with kind:=4 } w r (by rw [←hr,hp];simp [c1,c2,c3,c4])
 simp only at hk
 have Hk:=uH hk
 have Hp:=uH hp
 clear hk hp hr
 have hr:true=true:=rfl
 clear hr
 all_goals
  go_enter Tryz.func24,Tryz.ntmps24
  go_wp2_with fail
  (refine a0d fun wa hwa=>?_;have wa_s0:=sg w.heap.size hwa;have wa_s1:=sg (w.heap.size+1) hwa;obtain ⟨wa_c0,wa_c1,wa_c2,wa_c3,wa_c4,wa_c5,wa_c6,wa_c7,wa_c8,wa_c9,wa_c10,wa_c11⟩:=kz12 hwa w.heap.size (aI aK 4) (aI aK o.client) (aI aK o.seq) (aS o.key) (aS o.who) (aS o.tkey) (aS o.twho) (aI aK o.item) (aI aK o.count) (aI aK o.price) (aB o.buy) (aI aK o.id);obtain wa_c12:=kk1 hwa (w.heap.size+1) 4 (.func (.func 43) #[] #[]);have wa_b:Below w.heap.size w wa:=(by rw [hwa];exact bg);clear hwa)
  (refine grA ?_;(repeat (go_big_quiet_step (first | (go_at_call 45;exact a0i (c0o o.key o.who _ _ Hp.out)) | (go_at_call 43;exact a0i (Hk.out _)) | fail)));refine grN fun g=>?_)
  go_wp2_with fail
  go_ret
  exact ⟨rfl,wa_b.trans ((a0f wa g).mono (by omega))⟩
set_option maxRecDepth 20000 in
set_option maxHeartbeats 4000000 in
theorem may_5 (o:Rq) (w:World) (r:Bool) (hr:mayO { o with kind:=5 }=r) :
 Calls Tryz.prog 24 #[.agg #[aI aK 5,aI aK o.client,aI aK o.seq,aS o.key,aS o.who,aS o.tkey,aS o.twho,aI aK o.item,aI aK o.count,aI aK o.price,aB o.buy,aI aK o.id]] w fun e w'=>e=.returned (aB r)∧Below w.heap.size w w':=by
 have hfn:=f0x
 have hkind:c0d { o with kind:=5 }=barO { o with kind:=5 }:=by simp [c0d]
 unfold mayO at hr
 rw [hkind] at hr
 simp only at hr
 clear hkind
 by_cases c1:1≤o.client
 rotate_left
 have hrf:r=false:=by rw [←hr];simp [c1]
 have d:decide (1≤o.client)=false:=by rw [decide_eq_false_iff_not];exact c1
 clear hr
 subst hrf
 rotate_right
 by_cases c2:o.client≤1048576
 rotate_left
 have hrf:r=false:=by rw [←hr];simp [c2]
 have d:decide (o.client≤1048576)=false:=by rw [decide_eq_false_iff_not];exact c2
 clear hr
 subst hrf
 rotate_right
 by_cases c3:1≤o.seq
 rotate_left
 have hrf:r=false:=by rw [←hr];simp [c3]
 have d:decide (1≤o.seq)=false:=by rw [decide_eq_false_iff_not];exact c3
 clear hr
 subst hrf
 rotate_right
 by_cases c4:o.seq≤1099511627776
 rotate_left
 have hrf:r=false:=by rw [←hr];simp [c4]
 have d:decide (o.seq≤1099511627776)=false:=by rw [decide_eq_false_iff_not];exact c4
 clear hr
 subst hrf
 rotate_right
 rcases bE (b0v o.key o.who) with hp | hp
 rotate_left
 have hrf:r=false:=by rw [←hr,hp];simp
 have Hp:=uH hp
 clear hp hr
 subst hrf
 rotate_right
 have hk:=fun w=>t0g { o with kind:=5 } w r (by rw [←hr,hp];simp [c1,c2,c3,c4])
 simp only at hk
 have Hk:=uH hk
 have Hp:=uH hp
 clear hk hp hr
 have hr:true=true:=rfl
 clear hr
 all_goals
  go_enter Tryz.func24,Tryz.ntmps24
  go_wp2_with fail
  (refine a0d fun wa hwa=>?_;have wa_s0:=sg w.heap.size hwa;have wa_s1:=sg (w.heap.size+1) hwa;obtain ⟨wa_c0,wa_c1,wa_c2,wa_c3,wa_c4,wa_c5,wa_c6,wa_c7,wa_c8,wa_c9,wa_c10,wa_c11⟩:=kz12 hwa w.heap.size (aI aK 5) (aI aK o.client) (aI aK o.seq) (aS o.key) (aS o.who) (aS o.tkey) (aS o.twho) (aI aK o.item) (aI aK o.count) (aI aK o.price) (aB o.buy) (aI aK o.id);obtain wa_c12:=kk1 hwa (w.heap.size+1) 5 (.func (.func 44) #[] #[]);have wa_b:Below w.heap.size w wa:=(by rw [hwa];exact bg);clear hwa)
  (refine grA ?_;(repeat (go_big_quiet_step (first | (go_at_call 45;exact a0i (c0o o.key o.who _ _ Hp.out)) | (go_at_call 44;exact a0i (Hk.out _)) | fail)));refine grN fun g=>?_)
  go_wp2_with fail
  go_ret
  exact ⟨rfl,wa_b.trans ((a0f wa g).mono (by omega))⟩
set_option maxRecDepth 20000 in
set_option maxHeartbeats 4000000 in
theorem may_6 (o:Rq) (w:World) (r:Bool) (hr:mayO { o with kind:=6 }=r) :
 Calls Tryz.prog 24 #[.agg #[aI aK 6,aI aK o.client,aI aK o.seq,aS o.key,aS o.who,aS o.tkey,aS o.twho,aI aK o.item,aI aK o.count,aI aK o.price,aB o.buy,aI aK o.id]] w fun e w'=>e=.returned (aB r)∧Below w.heap.size w w':=by
 have hfn:=f0x
 have hkind:c0d { o with kind:=6 }=cntO { o with kind:=6 }:=by simp [c0d]
 unfold mayO at hr
 rw [hkind] at hr
 simp only at hr
 clear hkind
 by_cases c1:1≤o.client
 rotate_left
 have hrf:r=false:=by rw [←hr];simp [c1]
 have d:decide (1≤o.client)=false:=by rw [decide_eq_false_iff_not];exact c1
 clear hr
 subst hrf
 rotate_right
 by_cases c2:o.client≤1048576
 rotate_left
 have hrf:r=false:=by rw [←hr];simp [c2]
 have d:decide (o.client≤1048576)=false:=by rw [decide_eq_false_iff_not];exact c2
 clear hr
 subst hrf
 rotate_right
 by_cases c3:1≤o.seq
 rotate_left
 have hrf:r=false:=by rw [←hr];simp [c3]
 have d:decide (1≤o.seq)=false:=by rw [decide_eq_false_iff_not];exact c3
 clear hr
 subst hrf
 rotate_right
 by_cases c4:o.seq≤1099511627776
 rotate_left
 have hrf:r=false:=by rw [←hr];simp [c4]
 have d:decide (o.seq≤1099511627776)=false:=by rw [decide_eq_false_iff_not];exact c4
 clear hr
 subst hrf
 rotate_right
 rcases bE (b0v o.key o.who) with hp | hp
 rotate_left
 have hrf:r=false:=by rw [←hr,hp];simp
 have Hp:=uH hp
 clear hp hr
 subst hrf
 rotate_right
 have hk:=fun w=>h0c { o with kind:=6 } w r (by rw [←hr,hp];simp [c1,c2,c3,c4])
 simp only at hk
 have Hk:=uH hk
 have Hp:=uH hp
 clear hk hp hr
 have hr:true=true:=rfl
 clear hr
 all_goals
  go_enter Tryz.func24,Tryz.ntmps24
  go_wp2_with fail
  (refine a0d fun wa hwa=>?_;have wa_s0:=sg w.heap.size hwa;have wa_s1:=sg (w.heap.size+1) hwa;obtain ⟨wa_c0,wa_c1,wa_c2,wa_c3,wa_c4,wa_c5,wa_c6,wa_c7,wa_c8,wa_c9,wa_c10,wa_c11⟩:=kz12 hwa w.heap.size (aI aK 6) (aI aK o.client) (aI aK o.seq) (aS o.key) (aS o.who) (aS o.tkey) (aS o.twho) (aI aK o.item) (aI aK o.count) (aI aK o.price) (aB o.buy) (aI aK o.id);obtain wa_c12:=kk1 hwa (w.heap.size+1) 6 (.func (.func 40) #[] #[]);have wa_b:Below w.heap.size w wa:=(by rw [hwa];exact bg);clear hwa)
  (refine grA ?_;(repeat (go_big_quiet_step (first | (go_at_call 45;exact a0i (c0o o.key o.who _ _ Hp.out)) | (go_at_call 40;exact a0i (Hk.out _)) | fail)));refine grN fun g=>?_)
  go_wp2_with fail
  go_ret
  exact ⟨rfl,wa_b.trans ((a0f wa g).mono (by omega))⟩
set_option maxRecDepth 20000 in
set_option maxHeartbeats 4000000 in
theorem may_7 (o:Rq) (w:World) (r:Bool) (hr:mayO { o with kind:=7 }=r) :
 Calls Tryz.prog 24 #[.agg #[aI aK 7,aI aK o.client,aI aK o.seq,aS o.key,aS o.who,aS o.tkey,aS o.twho,aI aK o.item,aI aK o.count,aI aK o.price,aB o.buy,aI aK o.id]] w fun e w'=>e=.returned (aB r)∧Below w.heap.size w w':=by
 have hfn:=f0x
 have hkind:c0d { o with kind:=7 }=barO { o with kind:=7 }:=by simp [c0d]
 unfold mayO at hr
 rw [hkind] at hr
 simp only at hr
 clear hkind
 by_cases c1:1≤o.client
 rotate_left
 have hrf:r=false:=by rw [←hr];simp [c1]
 have d:decide (1≤o.client)=false:=by rw [decide_eq_false_iff_not];exact c1
 clear hr
 subst hrf
 rotate_right
 by_cases c2:o.client≤1048576
 rotate_left
 have hrf:r=false:=by rw [←hr];simp [c2]
 have d:decide (o.client≤1048576)=false:=by rw [decide_eq_false_iff_not];exact c2
 clear hr
 subst hrf
 rotate_right
 by_cases c3:1≤o.seq
 rotate_left
 have hrf:r=false:=by rw [←hr];simp [c3]
 have d:decide (1≤o.seq)=false:=by rw [decide_eq_false_iff_not];exact c3
 clear hr
 subst hrf
 rotate_right
 by_cases c4:o.seq≤1099511627776
 rotate_left
 have hrf:r=false:=by rw [←hr];simp [c4]
 have d:decide (o.seq≤1099511627776)=false:=by rw [decide_eq_false_iff_not];exact c4
 clear hr
 subst hrf
 rotate_right
 rcases bE (b0v o.key o.who) with hp | hp
 rotate_left
 have hrf:r=false:=by rw [←hr,hp];simp
 have Hp:=uH hp
 clear hp hr
 subst hrf
 rotate_right
 have hk:=fun w=>t0g { o with kind:=7 } w r (by rw [←hr,hp];simp [c1,c2,c3,c4])
 simp only at hk
 have Hk:=uH hk
 have Hp:=uH hp
 clear hk hp hr
 have hr:true=true:=rfl
 clear hr
 all_goals
  go_enter Tryz.func24,Tryz.ntmps24
  go_wp2_with fail
  (refine a0d fun wa hwa=>?_;have wa_s0:=sg w.heap.size hwa;have wa_s1:=sg (w.heap.size+1) hwa;obtain ⟨wa_c0,wa_c1,wa_c2,wa_c3,wa_c4,wa_c5,wa_c6,wa_c7,wa_c8,wa_c9,wa_c10,wa_c11⟩:=kz12 hwa w.heap.size (aI aK 7) (aI aK o.client) (aI aK o.seq) (aS o.key) (aS o.who) (aS o.tkey) (aS o.twho) (aI aK o.item) (aI aK o.count) (aI aK o.price) (aB o.buy) (aI aK o.id);obtain wa_c12:=kk1 hwa (w.heap.size+1) 7 (.func (.func 44) #[] #[]);have wa_b:Below w.heap.size w wa:=(by rw [hwa];exact bg);clear hwa)
  (refine grA ?_;(repeat (go_big_quiet_step (first | (go_at_call 45;exact a0i (c0o o.key o.who _ _ Hp.out)) | (go_at_call 44;exact a0i (Hk.out _)) | fail)));refine grN fun g=>?_)
  go_wp2_with fail
  go_ret
  exact ⟨rfl,wa_b.trans ((a0f wa g).mono (by omega))⟩
set_option maxRecDepth 20000 in
set_option maxHeartbeats 1000000 in
theorem h0t (o:Rq) (w:World) (r:Bool) (hr:mayO o=r) :
 Calls Tryz.prog 24 #[.agg #[aI aK o.kind,aI aK o.client,aI aK o.seq,aS o.key,aS o.who,aS o.tkey,aS o.twho,aI aK o.item,aI aK o.count,aI aK o.price,aB o.buy,aI aK o.id]] w fun e w'=>e=.returned (aB r)∧Below w.heap.size w w':=by
 obtain ⟨kind,client,seq,key,who,tkey,twho,item,count,price,buy,id⟩:=o
 by_cases h1:kind<1∨7<kind
 ·obtain rfl:r=false:=by rw [←hr];exact kind_out _ h1
  clear hr
  by_cases h2:kind<0
  ·have d:decide (kind<0)=true:=by rw [decide_eq_true_eq];exact h2
   clear h1
   go_enter Tryz.func24,Tryz.ntmps24
   go_wp2_with fail
   go_ret
   exact ⟨rfl,bg⟩
  by_cases h3:8≤kind
  ·have d:decide (kind<0)=false:=by rw [decide_eq_false_iff_not];exact h2
   have d2:decide (8≤kind)=true:=by rw [decide_eq_true_eq];exact h3
   clear h1
   go_enter Tryz.func24,Tryz.ntmps24
   go_wp2_with fail
   go_ret
   exact ⟨rfl,bg⟩
  ·obtain rfl:kind=0:=by omega
   have hfn:=nil_nil
   clear h1 h2 h3
   go_enter Tryz.func24,Tryz.ntmps24
   go_wp2_with fail
   go_ret
   exact ⟨rfl,bg⟩
 ·have h2:kind=1∨kind=2∨kind=3∨kind=4∨kind=5∨kind=6∨kind=7:=by omega
  rcases h2 with rfl | rfl | rfl | rfl | rfl | rfl | rfl
  ·exact may_1 ⟨1,client,seq,key,who,tkey,twho,item,count,price,buy,id⟩ w r hr
  ·exact may_2 ⟨2,client,seq,key,who,tkey,twho,item,count,price,buy,id⟩ w r hr
  ·exact may_3 ⟨3,client,seq,key,who,tkey,twho,item,count,price,buy,id⟩ w r hr
  ·exact may_4 ⟨4,client,seq,key,who,tkey,twho,item,count,price,buy,id⟩ w r hr
  ·exact may_5 ⟨5,client,seq,key,who,tkey,twho,item,count,price,buy,id⟩ w r hr
  ·exact may_6 ⟨6,client,seq,key,who,tkey,twho,item,count,price,buy,id⟩ w r hr
  ·exact may_7 ⟨7,client,seq,key,who,tkey,twho,item,count,price,buy,id⟩ w r hr
set_option maxRecDepth 20000
open Go.RowKit
set_option maxHeartbeats 4000000 in
theorem may_k5 {c:Code} (hb:(Tryz.f69).body=some c) {d:Wd} {ms ds:Value} {V:Array Value} (hV:V=wdV d ms ds) (w wa:World) (B P n:Nat) (dB mB:Bool) (hk:d.kind=5)
 (H:Hid (KdSt w wa B P V)) (r:Bool) (hr:r=(okW d&&eqPl d.pl (a0v d)&&(dB==hasD d.kind)&&(mB==hasM d.kind)&&decide (n≤131072)))
 {K2:Act→World→Prop} {Q:Exit→Act→World→Prop} (hT:g0d K2 w V B P dB mB r d n):KdGo c K2 Q V B P dB mB wa:=by
 unfold KdSt at H
 unfold KdGo
 intros
 have hs:V.size=37:=by rw [hV];rfl
 have HV:=uH hV
 clear hV
 have e1:okW d=(mayO d.op):=by simp [okW,hk]
 have e2:a0v d={ pl0 with op:=d.op }:=by simp [a0v,hk]
 have e3:hasD d.kind=false:=by simp [hasD,hk]
 have e4:hasM d.kind=false:=by simp [hasM,hk]
 rw [e1,e2,e3,e4] at hr
 clear e1 e2 e3 e4
 cases hb
 simp only [sndC,fstC]
 have S:=H
 clear H
 obtain ⟨c0,c1,c2,c3,c4,c5,c6,c7,c8,c9,c10,c11,c12,c13,c14,c15,c16,c17,c18,c19,c20,c21,c22,c23,c24,c25,c26,c27,c28,c29,c30,c31,c32,c33,c34,c35,c36⟩:=wbox (show wa.heap[B]?=some (.cells (wdV d ms ds) 85 (0,0)) from (by rw [←HV.out];exact (S.out.pull (A:=[_])).head))
 rw [hk] at c0
 clear c1 c2 c3 c4 c5 c6 c7 c8 c9 c10 c11 c12 c13 c14 c15 c16 c17 c18 c19 c20 c21 c22 c23 c24 c25 c26 c27 c28 c29 c30 c31 c32 c33 c34 c35 c36
 refine a0a fun C HC=>?_
 go_wp2_with fail
 (have hC:=HC.out);clear HC;subst hC
 clear c0
 refine wp_block ?_
 iterate 4 ((refine a0a fun C HC=>?_);(go_wp2_with fail);(have hC:=HC.out);clear HC;subst hC;(refine wp_cond_false rfl ?_))
 ((refine a0a fun C HC=>?_);(go_wp2_with fail);(have hC:=HC.out);clear HC;subst hC;(refine wp_cond_true rfl ?_))
 ((obtain ⟨wd,hwd⟩:∃ wd,wd=wa.drew:=⟨_,rfl⟩);(have S:=uH (S.out.grow (w':=wd) (by rw [hwd];exact (Below.refl _ _).drew)));(have HC:Hid (wd.heap[B]?=some (.cells V 85 (0,0))):=uH (S.out.pull (A:=[_])).head);(refine wp_region_noPanic ?_);(refine wp_region_held (S:=(fun W:World=>W.heap[B]?=some (.cells V 85 (0,0)))) (by kernel_rfl) ?_);change wpAnyH _ _ _ _ _ _ _ _ (World.drew _);(rw [←hwd]);clear hwd)
 (refine tkD (i:=0) (v:=.pointer (some ⟨B,10,none⟩)) 57 rfl (fun w hSw=>(by obtain ⟨c0,c1,c2,c3,c4,c5,c6,c7,c8,c9,c10,c11,c12,c13,c14,c15,c16,c17,c18,c19,c20,c21,c22,c23,c24,c25,c26,c27,c28,c29,c30,c31,c32,c33,c34,c35,c36⟩:=wbox (show w.heap[B]?=some (.cells (wdV d ms ds) 85 (0,0)) from (by rw [←HV.out];exact hSw));go_simp)) HC.out ?_;(try simp only [Act.put,lA,lZ,lS]))
 (refine tkD (i:=1) (v:=.agg #[aI aK d.op.kind,aI aK d.op.client,aI aK d.op.seq,aS d.op.key,aS d.op.who,aS d.op.tkey,aS d.op.twho,aI aK d.op.item,aI aK d.op.count,aI aK d.op.price,aB d.op.buy,aI aK d.op.id]) 58 rfl (fun w hSw=>(by obtain ⟨c0,c1,c2,c3,c4,c5,c6,c7,c8,c9,c10,c11,c12,c13,c14,c15,c16,c17,c18,c19,c20,c21,c22,c23,c24,c25,c26,c27,c28,c29,c30,c31,c32,c33,c34,c35,c36⟩:=wbox (show w.heap[B]?=some (.cells (wdV d ms ds) 85 (0,0)) from (by rw [←HV.out];exact hSw));go_simp)) HC.out ?_;(try simp only [Act.put,lA,lZ,lS]))
 (refine tkD (i:=3) (v:=.pointer (some ⟨B,10,none⟩)) 60 rfl (fun w hSw=>(by obtain ⟨c0,c1,c2,c3,c4,c5,c6,c7,c8,c9,c10,c11,c12,c13,c14,c15,c16,c17,c18,c19,c20,c21,c22,c23,c24,c25,c26,c27,c28,c29,c30,c31,c32,c33,c34,c35,c36⟩:=wbox (show w.heap[B]?=some (.cells (wdV d ms ds) 85 (0,0)) from (by rw [←HV.out];exact hSw));go_simp)) HC.out ?_;(try simp only [Act.put,lA,lZ,lS]))
 (refine tkD (i:=4) (v:=.agg #[aI aK d.op.kind,aI aK d.op.client,aI aK d.op.seq,aS d.op.key,aS d.op.who,aS d.op.tkey,aS d.op.twho,aI aK d.op.item,aI aK d.op.count,aI aK d.op.price,aB d.op.buy,aI aK d.op.id]) 61 rfl (fun w hSw=>(by obtain ⟨c0,c1,c2,c3,c4,c5,c6,c7,c8,c9,c10,c11,c12,c13,c14,c15,c16,c17,c18,c19,c20,c21,c22,c23,c24,c25,c26,c27,c28,c29,c30,c31,c32,c33,c34,c35,c36⟩:=wbox (show w.heap[B]?=some (.cells (wdV d ms ds) 85 (0,0)) from (by rw [←HV.out];exact hSw));go_simp)) HC.out ?_;(try simp only [Act.put,lA,lZ,lS]))
 ((refine oneD 2 rfl (fun K' hK'=>?_));go_simp;(refine (h0t d.op wd _ rfl).mono ?_);(rintro e w5 ⟨rfl,hb5⟩);(have S:=uH (S.out.grow hb5));(have HC:Hid (w5.heap[B]?=some (.cells V 85 (0,0))):=uH (S.out.pull (A:=[_])).head);(refine hK' _ _ ⟨HC.out,?_⟩);clear hK' K' hb5;(try simp only [Act.put,lA,lZ,lS]))
 (refine tkD (i:=5) (v:=aB (mayO d.op)) 6 rfl (fun w hSw=>(by obtain ⟨c0,c1,c2,c3,c4,c5,c6,c7,c8,c9,c10,c11,c12,c13,c14,c15,c16,c17,c18,c19,c20,c21,c22,c23,c24,c25,c26,c27,c28,c29,c30,c31,c32,c33,c34,c35,c36⟩:=wbox (show w.heap[B]?=some (.cells (wdV d ms ds) 85 (0,0)) from (by rw [←HV.out];exact hSw));go_simp)) HC.out ?_;(try simp only [Act.put,lA,lZ,lS]))
 (refine tkD (i:=6) (v:=.pointer (some ⟨P,9,none⟩)) 62 rfl (fun w hSw=>(by obtain ⟨c0,c1,c2,c3,c4,c5,c6,c7,c8,c9,c10,c11,c12,c13,c14,c15,c16,c17,c18,c19,c20,c21,c22,c23,c24,c25,c26,c27,c28,c29,c30,c31,c32,c33,c34,c35,c36⟩:=wbox (show w.heap[B]?=some (.cells (wdV d ms ds) 85 (0,0)) from (by rw [←HV.out];exact hSw));go_simp)) HC.out ?_;(try simp only [Act.put,lA,lZ,lS]))
 (refine oneD 7 rfl (fun K' hK'=>?_))
 ((obtain ⟨p1,p2,p3⟩:=S.out.a0b 0 rfl);go_simp;(refine hK' _ _ ⟨?_,a0k fun w5 hw5=>?_⟩);(exact (((((((((((((S.out.setObj 9 (aI aK d.op.kind)).setObj 10 (aI aK d.op.client)).setObj 11 (aI aK d.op.seq)).setObj 12 (aS d.op.key)).setObj 13 (aS d.op.who)).setObj 14 (aS d.op.tkey)).setObj 15 (aS d.op.twho)).setObj 16 (aI aK d.op.item)).setObj 17 (aI aK d.op.count)).setObj 18 (aI aK d.op.price)).setObj 19 (aB d.op.buy)).setObj 20 (aI aK d.op.id)).pull (A:=[_])).head);(have S:=uH (((((((((((((S.out.setObj 9 (aI aK d.op.kind)).setObj 10 (aI aK d.op.client)).setObj 11 (aI aK d.op.seq)).setObj 12 (aS d.op.key)).setObj 13 (aS d.op.who)).setObj 14 (aS d.op.tkey)).setObj 15 (aS d.op.twho)).setObj 16 (aI aK d.op.item)).setObj 17 (aI aK d.op.count)).setObj 18 (aI aK d.op.price)).setObj 19 (aB d.op.buy)).setObj 20 (aI aK d.op.id))));(rw [←hw5] at S);(simp only [lA,lZ,lS] at S);(have HC:Hid (w5.heap[B]?=some (.cells V 85 (0,0))):=uH (S.out.pull (A:=[_])).head);clear hw5 p1 p2 p3 hK' K';(try simp only [Act.put,lA,lZ,lS]))
 ((refine wpAnyH_done (by kernel_rfl) ?_ _);(refine NoPanic.normal ?_);(go_wp2_with fail))
 exact hT _ ({ pl0 with op:=d.op }) (mayO d.op) false false _ _ _ _ _ _ _ _ _ _ _ _ _ _ _ _ _ _ _ _ _ _ _ _ _ _ _ _ _ _ _ _ _ _ _ _ _ _ _ _ _ _ _ _ _ _ _ _ _ _ _ _ _ _ _ _ _ _ _ _ _ _ _ _ _ _ _ _ _ _ _ _ _ _ _ _ _ _ _ _ _ _ _ _ _ _ _ _ _ _ _ _ _ _ _ _ _ _ _ _ _ _ _ _ _ _ _ _ _ _ _ _ _ _ _ _ _ _ _ _ _ _ _ _ _ _ _ _ _ _ _ _ _ _ _ _ _ _ _ S.out hr
set_option maxRecDepth 20000
open Go.RowKit
theorem mayW_is {d:Wd} {dB mB:Bool} {n:Nat} (hd:dB=decide (d.data≠[])) (hm:mB=j0x d.mp) (hn:n=d.data.length):mayW d=(okW d&&eqPl d.pl (a0v d)&&(dB==hasD d.kind)&&(mB==hasM d.kind)&&decide (n≤131072)):=by
 rw [hd,hm,hn];rfl
set_option maxHeartbeats 4000000 in
theorem wmay_any {d:Wd} {ms ds:Value} {V:Array Value} (hV:V=wdV d ms ds) (ao dl:Option Addr) (zc dc:Nat) (hms:ms=.slice ao d.mp.zs.length zc) (hds:ds=.slice dl d.data.length dc) (w:World) (hz:O.ZsAt w ao d.mp.zs) (hl:O.MzB d.mp) (hd:d.data.length≤9223372036854775807):Calls Tryz.prog 69 #[.agg V] w fun e w'=>e=.returned (aB (mayW d))∧Below w.heap.size w w':=by
 have HV:=uH hV
 have HZ:=uH hz
 have HL:=uH hl
 obtain ⟨r,hr⟩:∃ r,r=mayW d:=⟨_,rfl⟩
 rw [←hr]
 have Hr:=uH hr
 obtain ⟨n,hn⟩:∃ n,n=d.data.length:=⟨_,rfl⟩
 have Hds:=uH hds
 have Hms:=uH hms
 have Hn:=uH hn
 have hn2:n≤9223372036854775807:=by rw [hn];exact hd
 clear hV hz hl hr hn
 go_enter Tryz.func69,Tryz.ntmps69
 refine a0a fun C HC=>?_
 go_wp2_with fail
 refine a0d fun wa hwa=>?_
 obtain ⟨B,hB⟩:∃ B,B=w.heap.size:=⟨_,rfl⟩
 have S:Hid (St w wa [a0c B (.cells V 85 (0,0))]):=by rw [hwa];exact uH ((St.start w).objN _ B hB)
 rw [←hB]
 clear hwa hB
 (have hC:=HC.out);clear HC;subst hC
 refine wp_seq_k fun K1 hK1=>?_
 have mid:∀ (w1:World) (j9 j10 j11 j12 j13 j14 j15 j16 j17 j18 j19 j20 j21 j22 j23 j24 j25 j26 j27 j28 j29:Value) (dB mB:Bool),Hid (St w w1 [a0c B (.cells V 85 (0,0))])→dB=decide (d.data≠[])→mB=j0x d.mp→K1 { tmps:=#[.agg V,.pointer (some ⟨B,0,none⟩),aB false,aB dB,aB mB,J,J,J,J,j9,j10,j11,j12,j13,j14,j15,j16,j17,j18,j19,j20,j21,j22,j23,j24,j25,j26,j27,j28,j29,J,J,J,J,J,J,J,J,J,J,J,J,J,J,J,J,J,J,J,J,J,J,J,J,J,J,J,J,J,J,J,J,J,J,J,J,J,J,J,J,J,J,J,J,J,J,J,J,J,J,J,J,J,J,J,J,J,J,J,J,J,J,J,J,J,J,J,J,J,J,J,J,J,J,J,J,J,J,J,J,J,J,J,J,J,J,J,J,J,J,J,J,J,J,J,J,J,J,J,J,J,J,J,J,J,J,J,J,J,J,J,J,J,J,J,J,J,J,J,J,J,J,J,J,J,J,J,J,J,J,J,J,J,J,J,J,J,J,J,J,J],defers:=[] } w1:=by
  intro w1 j9 j10 j11 j12 j13 j14 j15 j16 j17 j18 j19 j20 j21 j22 j23 j24 j25 j26 j27 j28 j29 dB mB S hdB hmB
  have hr:=Hr.out.trans (mayW_is hdB hmB Hn.out)
  clear hdB hmB
  refine hK1 _ _ ?_
  clear hK1
  refine a0a fun C HC=>?_
  go_wp2_with fail
  refine a0d fun w2 hw2=>?_
  obtain ⟨P,hP⟩:∃ P,P=w1.heap.size:=⟨_,rfl⟩
  have S2:Hid (St w w2 [a0c P (.cells #[aI aK 0,aI aK 0,aI aK 0,aI aK 0,aI aK 0,aI aK 0,aI aK 0,aS ⟨#[]⟩,aS ⟨#[]⟩,aI aK 0,aI aK 0,aI aK 0,aS ⟨#[]⟩,aS ⟨#[]⟩,aS ⟨#[]⟩,aS ⟨#[]⟩,aI aK 0,aI aK 0,aI aK 0,aB false,aI aK 0,aI aK 0,aI aK 0,aI aK 0,aI aK 0,aI aK 0,aI aK 0,aI aK 0,aI aK 0,aI aK 0,aI aK 0,aS ⟨#[]⟩] 173 (0,0)),a0c B (.cells V 85 (0,0))]):=by rw [hw2];exact uH (S.out.objN _ P hP)
  rw [←hP]
  clear hw2 hP S
  (have hC:=HC.out);clear HC;subst hC
  refine a0a fun C HC=>?_
  go_wp2_with fail
  (have hC:=HC.out);clear HC;subst hC
  refine wp_seq_k fun K2 hK2=>?_
  have hT:g0d K2 w V B P dB mB r d n:=by
   intro w3 X ok hdB hmB j9 j10 j11 j12 j13 j14 j15 j16 j17 j18 j19 j20 j21 j22 j23 j24 j25 j26 j27 j28 j29 j30 j31 j32 j33 j34 j35 j36 j37 j38 j39 j40 j41 j42 j43 j44 j45 j46 j47 j48 j49 j50 j51 j52 j53 j54 j55 j56 j57 j58 j59 j60 j61 j62 j63 j64 j65 j66 j67 j68 j69 j70 j71 j72 j73 j74 j75 j76 j77 j78 j79 j80 j81 j82 j83 j84 j85 j86 j87 j88 j89 j90 j91 j92 j93 j94 j95 j96 j97 j98 j99 j100 j101 j102 j103 j104 j105 j106 j107 j108 j109 j110 j111 j112 j113 j114 j115 j116 j117 j118 j119 j120 j121 j122 j123 j124 j125 j126 j127 j128 j129 j130 j131 j132 j133 j134 j135 j136 j137 j138 j139 j140 j141 j142 j143 j144 j145 j146 j147 S3 hr3
   exact hK2 _ _ (may_tail rfl HV.out dl dc n (by rw [Hds.out,Hn.out]) hn2 w w3 B P X ok dB mB hdB hmB (uH S3) r hr3)
  clear hK2
  by_cases k1:d.kind=1
  ·exact (may_k1 rfl HV.out w w2 B P n dB mB k1 S2 r hr hT) _ _ _ _ _ _ _ _ _ _ _ _ _ _ _ _ _ _ _ _ _
  by_cases k2:d.kind=2
  ·exact (may_k2 rfl HV.out w w2 B P n dB mB k2 S2 r hr hT) _ _ _ _ _ _ _ _ _ _ _ _ _ _ _ _ _ _ _ _ _
  by_cases k3:d.kind=3
  ·exact (may_k3 rfl HV.out ao zc Hms.out HL.out w w2 HZ.out B P n dB mB k3 S2 r hr hT) _ _ _ _ _ _ _ _ _ _ _ _ _ _ _ _ _ _ _ _ _
  by_cases k4:d.kind=4
  ·exact (may_k4 rfl HV.out w w2 B P n dB mB k4 S2 r hr hT) _ _ _ _ _ _ _ _ _ _ _ _ _ _ _ _ _ _ _ _ _
  by_cases k5:d.kind=5
  ·exact (may_k5 rfl HV.out w w2 B P n dB mB k5 S2 r hr hT) _ _ _ _ _ _ _ _ _ _ _ _ _ _ _ _ _ _ _ _ _
  by_cases k6:d.kind=6
  ·exact (may_k6 rfl HV.out w w2 B P n dB mB k6 S2 r hr hT) _ _ _ _ _ _ _ _ _ _ _ _ _ _ _ _ _ _ _ _ _
  by_cases k7:d.kind=7
  ·exact (may_k7 rfl HV.out dl dc Hds.out hd w w2 B P n dB mB k7 S2 r hr hT) _ _ _ _ _ _ _ _ _ _ _ _ _ _ _ _ _ _ _ _ _
  by_cases k8:d.kind=8
  ·exact (may_k8 rfl HV.out w w2 B P n dB mB k8 S2 r hr hT) _ _ _ _ _ _ _ _ _ _ _ _ _ _ _ _ _ _ _ _ _
  by_cases k9:d.kind=9
  ·exact (may_k9 rfl HV.out w w2 B P n dB mB k9 S2 r hr hT) _ _ _ _ _ _ _ _ _ _ _ _ _ _ _ _ _ _ _ _ _
  by_cases k10:d.kind=10
  ·exact (may_k10 rfl HV.out w w2 B P n dB mB k10 S2 r hr hT) _ _ _ _ _ _ _ _ _ _ _ _ _ _ _ _ _ _ _ _ _
  exact (may_k0 rfl HV.out w w2 B P n dB mB ⟨k1,k2,k3,k4,k5,k6,k7,k8,k9,k10⟩ S2 r hr hT) _ _ _ _ _ _ _ _ _ _ _ _ _ _ _ _ _ _ _ _ _
 obtain ⟨c0,c1,c2,c3,c4,c5,c6,c7,c8,c9,c10,c11,c12,c13,c14,c15,c16,c17,c18,c19,c20,c21,c22,c23,c24,c25,c26,c27,c28,c29,c30,c31,c32,c33,c34,c35,c36⟩:=wbox (show wa.heap[B]?=some (.cells (wdV d ms ds) 85 (0,0)) from (by rw [←HV.out];exact S.out.head))
 have sB:=(S.out.a0b 0 rfl).1
 subst hms hds
 rw [←Hn.out] at c36
 have hdB:decide ((0:Nat)<d.data.length)=decide (d.data≠[]):=by
  congr 1
  simp only [eq_iff_iff,ne_eq,←List.length_eq_zero_iff]
  omega
 clear hK1 c0 c1 c2 c3 c4 c5 c6 c7 c8 c9 c10 c11 c12 c13 c14 c15 c16 c17 c18 c19 c20 c21 c22 c23 c24 c25 c26 c27 c31 c32 c33 c34 c35
 by_cases q1:d.mp.ver=0
 case neg =>
  have t1:(d.mp.ver != 0)=true:=by rw [bne_iff_ne];exact q1
  ((refine grA ?_;(repeat (go_big_quiet_step (fail)));refine grN fun g=>?_);(go_wp2_with fail);exact mid _ _ _ _ _ _ _ _ _ _ _ _ _ _ _ _ _ _ _ _ _ _ _ _ (uH (S.out.grow (a0f wa g))) (by rw [Hn.out];exact hdB) (by unfold j0x;rw [decide_eq_true (.inl q1)]))
 have t1:(d.mp.ver != 0)=false:=by rw [q1];rfl
 by_cases q2:d.mp.next=0
 case neg =>
  have t2:(d.mp.next != 0)=true:=by rw [bne_iff_ne];exact q2
  ((refine grA ?_;(repeat (go_big_quiet_step (fail)));refine grN fun g=>?_);(go_wp2_with fail);exact mid _ _ _ _ _ _ _ _ _ _ _ _ _ _ _ _ _ _ _ _ _ _ _ _ (uH (S.out.grow (a0f wa g))) (by rw [Hn.out];exact hdB) (by unfold j0x;rw [decide_eq_true (.inr (.inl q2))]))
 have t2:(d.mp.next != 0)=false:=by rw [q2];rfl
 ((refine grA ?_;(repeat (go_big_quiet_step (fail)));refine grN fun g=>?_);(go_wp2_with fail);exact mid _ _ _ _ _ _ _ _ _ _ _ _ _ _ _ _ _ _ _ _ _ _ _ _ (uH (S.out.grow (a0f wa g))) (by rw [Hn.out];exact hdB) (by unfold j0x;congr 1;simp only [eq_iff_iff,ne_eq,←List.length_eq_zero_iff];omega))
end Go.Proofs.YtogamdaomdoapaaGreat