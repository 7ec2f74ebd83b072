/- Texts put together: May. -/
import Derived.Test.YtogamdaomdoapaaGreatSa03
import Derived.Laws.EntriesVeiled
namespace Go.Proofs.YtogamdaomdoapaaGreat
open Go.RowKit
theorem kind_out (o:Rq) (h:o.kind<1∨7<o.kind):mayO o=false:=by
 have:kindO o=false:=by
  unfold kindO
  rw [if_neg (by omega),if_neg (by omega),if_neg (by omega),if_neg (by omega),if_neg (by omega)]
 unfold mayO
 rw [this,Bool.and_false]
theorem func_nil (f:FuncId) (w:World):(binOp .eql 98 (.func (.func f) #[] #[]) .nilFunc).run Tryz.prog w=.ok (.bool false) w:=by kernel_rfl
theorem nil_nil (w:World):(binOp .eql 98 .nilFunc .nilFunc).run Tryz.prog w=.ok (.bool true) w:=by kernel_rfl
set_option maxRecDepth 20000 in
set_option maxHeartbeats 4000000 in
theorem may_1 (o:Rq) (w:World) (r:Bool) (hr:mayO { o with kind:=1 }=r) :
 Calls Tryz.prog 24 #[.agg #[.int .i64 1,.int .i64 o.client,.int .i64 o.seq,.string o.key,.string o.who,.string o.tkey,.string o.twho,.int .i64 o.item,.int .i64 o.count,.int .i64 o.price,.bool o.buy,.int .i64 o.id]] w fun e w'=>e=.returned (.bool r)∧Below w.heap.size w w':=by
 have hfn:=func_nil
 have hkind:kindO { o with kind:=1 }=cntO { o with kind:=1 }:=by simp [kindO]
 unfold mayO at hr
 rw [hkind] at hr
 simp only at hr
 clear hkind
 by_cases c1:1≤o.client
 ·by_cases c2:o.client≤1048576
  ·by_cases c3:1≤o.seq
   ·by_cases c4:o.seq≤1099511627776
    ·cases hp:placeB o.key o.who with
     | true =>
      have hk:=fun w=>counts_any { o with kind:=1 } w r (by rw [←hr,hp];simp [c1,c2,c3,c4])
      simp only at hk
      have Hk:=Lib.hid hk
      have Hp:=Lib.hid hp
      clear hk hp hr
      have hr:true=true:=rfl
      clear hr
      go_enter Tryz.func24,Tryz.ntmps24
      go_wp2_with fail
      (refine wp_name fun wa hwa=>?_;have wa_s0:=sg w.heap.size hwa;have wa_s1:=sg (w.heap.size+1) hwa;obtain ⟨wa_c0,wa_c1,wa_c2,wa_c3,wa_c4,wa_c5,wa_c6,wa_c7,wa_c8,wa_c9,wa_c10,wa_c11⟩:=kz12 hwa w.heap.size (.int .i64 1) (.int .i64 o.client) (.int .i64 o.seq) (.string o.key) (.string o.who) (.string o.tkey) (.string o.twho) (.int .i64 o.item) (.int .i64 o.count) (.int .i64 o.price) (.bool o.buy) (.int .i64 o.id);obtain wa_c12:=kk1 hwa (w.heap.size+1) 1 (.func (.func 40) #[] #[]);have wa_b:Below w.heap.size w wa:=(by rw [hwa];exact bg);clear hwa)
      (refine wp_region_gr (by kernel_rfl) (by kernel_rfl) ?_;(repeat (go_big_quiet_step (first | (go_at_call 45;exact calls_gr (isPlace_any o.key o.who _ true Hp.out)) | (go_at_call 40;exact calls_gr (Hk.out _)) | fail)));refine wpQuiet_nil ?_;intro _ hw';obtain ⟨g,hw''⟩:=hw';subst hw'')
      go_wp2_with fail
      go_ret
      exact ⟨rfl,wa_b.trans ((gr_below wa g).mono (by omega))⟩
     | false =>
      have hrf:r=false:=by rw [←hr,hp];simp
      have Hp:=Lib.hid hp
      clear hp hr
      subst hrf
      go_enter Tryz.func24,Tryz.ntmps24
      go_wp2_with fail
      (refine wp_name fun wa hwa=>?_;have wa_s0:=sg w.heap.size hwa;have wa_s1:=sg (w.heap.size+1) hwa;obtain ⟨wa_c0,wa_c1,wa_c2,wa_c3,wa_c4,wa_c5,wa_c6,wa_c7,wa_c8,wa_c9,wa_c10,wa_c11⟩:=kz12 hwa w.heap.size (.int .i64 1) (.int .i64 o.client) (.int .i64 o.seq) (.string o.key) (.string o.who) (.string o.tkey) (.string o.twho) (.int .i64 o.item) (.int .i64 o.count) (.int .i64 o.price) (.bool o.buy) (.int .i64 o.id);obtain wa_c12:=kk1 hwa (w.heap.size+1) 1 (.func (.func 40) #[] #[]);have wa_b:Below w.heap.size w wa:=(by rw [hwa];exact bg);clear hwa)
      (refine wp_region_gr (by kernel_rfl) (by kernel_rfl) ?_;(repeat (go_big_quiet_step (first | (go_at_call 45;exact calls_gr (isPlace_any o.key o.who _ false Hp.out)) | fail)));refine wpQuiet_nil ?_;intro _ hw';obtain ⟨g,hw''⟩:=hw';subst hw'')
      go_wp2_with fail
      go_ret
      exact ⟨rfl,wa_b.trans ((gr_below wa g).mono (by omega))⟩
    ·have hrf:r=false:=by rw [←hr];simp [c4]
     have d:decide (o.seq≤1099511627776)=false:=by rw [decide_eq_false_iff_not];exact c4
     clear hr
     subst hrf
     go_enter Tryz.func24,Tryz.ntmps24
     go_wp2_with fail
     (refine wp_name fun wa hwa=>?_;have wa_s0:=sg w.heap.size hwa;have wa_s1:=sg (w.heap.size+1) hwa;obtain ⟨wa_c0,wa_c1,wa_c2,wa_c3,wa_c4,wa_c5,wa_c6,wa_c7,wa_c8,wa_c9,wa_c10,wa_c11⟩:=kz12 hwa w.heap.size (.int .i64 1) (.int .i64 o.client) (.int .i64 o.seq) (.string o.key) (.string o.who) (.string o.tkey) (.string o.twho) (.int .i64 o.item) (.int .i64 o.count) (.int .i64 o.price) (.bool o.buy) (.int .i64 o.id);obtain wa_c12:=kk1 hwa (w.heap.size+1) 1 (.func (.func 40) #[] #[]);have wa_b:Below w.heap.size w wa:=(by rw [hwa];exact bg);clear hwa)
     (refine wp_region_gr (by kernel_rfl) (by kernel_rfl) ?_;(repeat (go_big_quiet_step (fail)));refine wpQuiet_nil ?_;intro _ hw';obtain ⟨g,hw''⟩:=hw';subst hw'')
     go_wp2_with fail
     go_ret
     exact ⟨rfl,wa_b.trans ((gr_below wa g).mono (by omega))⟩
   ·have hrf:r=false:=by rw [←hr];simp [c3]
    have d:decide (1≤o.seq)=false:=by rw [decide_eq_false_iff_not];exact c3
    clear hr
    subst hrf
    go_enter Tryz.func24,Tryz.ntmps24
    go_wp2_with fail
    (refine wp_name fun wa hwa=>?_;have wa_s0:=sg w.heap.size hwa;have wa_s1:=sg (w.heap.size+1) hwa;obtain ⟨wa_c0,wa_c1,wa_c2,wa_c3,wa_c4,wa_c5,wa_c6,wa_c7,wa_c8,wa_c9,wa_c10,wa_c11⟩:=kz12 hwa w.heap.size (.int .i64 1) (.int .i64 o.client) (.int .i64 o.seq) (.string o.key) (.string o.who) (.string o.tkey) (.string o.twho) (.int .i64 o.item) (.int .i64 o.count) (.int .i64 o.price) (.bool o.buy) (.int .i64 o.id);obtain wa_c12:=kk1 hwa (w.heap.size+1) 1 (.func (.func 40) #[] #[]);have wa_b:Below w.heap.size w wa:=(by rw [hwa];exact bg);clear hwa)
    (refine wp_region_gr (by kernel_rfl) (by kernel_rfl) ?_;(repeat (go_big_quiet_step (fail)));refine wpQuiet_nil ?_;intro _ hw';obtain ⟨g,hw''⟩:=hw';subst hw'')
    go_wp2_with fail
    go_ret
    exact ⟨rfl,wa_b.trans ((gr_below wa g).mono (by omega))⟩
  ·have hrf:r=false:=by rw [←hr];simp [c2]
   have d:decide (o.client≤1048576)=false:=by rw [decide_eq_false_iff_not];exact c2
   clear hr
   subst hrf
   go_enter Tryz.func24,Tryz.ntmps24
   go_wp2_with fail
   (refine wp_name fun wa hwa=>?_;have wa_s0:=sg w.heap.size hwa;have wa_s1:=sg (w.heap.size+1) hwa;obtain ⟨wa_c0,wa_c1,wa_c2,wa_c3,wa_c4,wa_c5,wa_c6,wa_c7,wa_c8,wa_c9,wa_c10,wa_c11⟩:=kz12 hwa w.heap.size (.int .i64 1) (.int .i64 o.client) (.int .i64 o.seq) (.string o.key) (.string o.who) (.string o.tkey) (.string o.twho) (.int .i64 o.item) (.int .i64 o.count) (.int .i64 o.price) (.bool o.buy) (.int .i64 o.id);obtain wa_c12:=kk1 hwa (w.heap.size+1) 1 (.func (.func 40) #[] #[]);have wa_b:Below w.heap.size w wa:=(by rw [hwa];exact bg);clear hwa)
   (refine wp_region_gr (by kernel_rfl) (by kernel_rfl) ?_;(repeat (go_big_quiet_step (fail)));refine wpQuiet_nil ?_;intro _ hw';obtain ⟨g,hw''⟩:=hw';subst hw'')
   go_wp2_with fail
   go_ret
   exact ⟨rfl,wa_b.trans ((gr_below wa g).mono (by omega))⟩
 ·have hrf:r=false:=by rw [←hr];simp [c1]
  have d:decide (1≤o.client)=false:=by rw [decide_eq_false_iff_not];exact c1
  clear hr
  subst hrf
  go_enter Tryz.func24,Tryz.ntmps24
  go_wp2_with fail
  (refine wp_name fun wa hwa=>?_;have wa_s0:=sg w.heap.size hwa;have wa_s1:=sg (w.heap.size+1) hwa;obtain ⟨wa_c0,wa_c1,wa_c2,wa_c3,wa_c4,wa_c5,wa_c6,wa_c7,wa_c8,wa_c9,wa_c10,wa_c11⟩:=kz12 hwa w.heap.size (.int .i64 1) (.int .i64 o.client) (.int .i64 o.seq) (.string o.key) (.string o.who) (.string o.tkey) (.string o.twho) (.int .i64 o.item) (.int .i64 o.count) (.int .i64 o.price) (.bool o.buy) (.int .i64 o.id);obtain wa_c12:=kk1 hwa (w.heap.size+1) 1 (.func (.func 40) #[] #[]);have wa_b:Below w.heap.size w wa:=(by rw [hwa];exact bg);clear hwa)
  (refine wp_region_gr (by kernel_rfl) (by kernel_rfl) ?_;(repeat (go_big_quiet_step (fail)));refine wpQuiet_nil ?_;intro _ hw';obtain ⟨g,hw''⟩:=hw';subst hw'')
  go_wp2_with fail
  go_ret
  exact ⟨rfl,wa_b.trans ((gr_below wa g).mono (by omega))⟩
set_option maxRecDepth 20000 in
set_option maxHeartbeats 4000000 in
theorem may_2 (o:Rq) (w:World) (r:Bool) (hr:mayO { o with kind:=2 }=r) :
 Calls Tryz.prog 24 #[.agg #[.int .i64 2,.int .i64 o.client,.int .i64 o.seq,.string o.key,.string o.who,.string o.tkey,.string o.twho,.int .i64 o.item,.int .i64 o.count,.int .i64 o.price,.bool o.buy,.int .i64 o.id]] w fun e w'=>e=.returned (.bool r)∧Below w.heap.size w w':=by
 have hfn:=func_nil
 have hkind:kindO { o with kind:=2 }=sendO { o with kind:=2 }:=by simp [kindO]
 unfold mayO at hr
 rw [hkind] at hr
 simp only at hr
 clear hkind
 by_cases c1:1≤o.client
 ·by_cases c2:o.client≤1048576
  ·by_cases c3:1≤o.seq
   ·by_cases c4:o.seq≤1099511627776
    ·cases hp:placeB o.key o.who with
     | true =>
      have hk:=fun w=>sends_any { o with kind:=2 } w r (by rw [←hr,hp];simp [c1,c2,c3,c4])
      simp only at hk
      have Hk:=Lib.hid hk
      have Hp:=Lib.hid hp
      clear hk hp hr
      have hr:true=true:=rfl
      clear hr
      go_enter Tryz.func24,Tryz.ntmps24
      go_wp2_with fail
      (refine wp_name fun wa hwa=>?_;have wa_s0:=sg w.heap.size hwa;have wa_s1:=sg (w.heap.size+1) hwa;obtain ⟨wa_c0,wa_c1,wa_c2,wa_c3,wa_c4,wa_c5,wa_c6,wa_c7,wa_c8,wa_c9,wa_c10,wa_c11⟩:=kz12 hwa w.heap.size (.int .i64 2) (.int .i64 o.client) (.int .i64 o.seq) (.string o.key) (.string o.who) (.string o.tkey) (.string o.twho) (.int .i64 o.item) (.int .i64 o.count) (.int .i64 o.price) (.bool o.buy) (.int .i64 o.id);obtain wa_c12:=kk1 hwa (w.heap.size+1) 2 (.func (.func 41) #[] #[]);have wa_b:Below w.heap.size w wa:=(by rw [hwa];exact bg);clear hwa)
      (refine wp_region_gr (by kernel_rfl) (by kernel_rfl) ?_;(repeat (go_big_quiet_step (first | (go_at_call 45;exact calls_gr (isPlace_any o.key o.who _ true Hp.out)) | (go_at_call 41;exact calls_gr (Hk.out _)) | fail)));refine wpQuiet_nil ?_;intro _ hw';obtain ⟨g,hw''⟩:=hw';subst hw'')
      go_wp2_with fail
      go_ret
      exact ⟨rfl,wa_b.trans ((gr_below wa g).mono (by omega))⟩
     | false =>
      have hrf:r=false:=by rw [←hr,hp];simp
      have Hp:=Lib.hid hp
      clear hp hr
      subst hrf
      go_enter Tryz.func24,Tryz.ntmps24
      go_wp2_with fail
      (refine wp_name fun wa hwa=>?_;have wa_s0:=sg w.heap.size hwa;have wa_s1:=sg (w.heap.size+1) hwa;obtain ⟨wa_c0,wa_c1,wa_c2,wa_c3,wa_c4,wa_c5,wa_c6,wa_c7,wa_c8,wa_c9,wa_c10,wa_c11⟩:=kz12 hwa w.heap.size (.int .i64 2) (.int .i64 o.client) (.int .i64 o.seq) (.string o.key) (.string o.who) (.string o.tkey) (.string o.twho) (.int .i64 o.item) (.int .i64 o.count) (.int .i64 o.price) (.bool o.buy) (.int .i64 o.id);obtain wa_c12:=kk1 hwa (w.heap.size+1) 2 (.func (.func 41) #[] #[]);have wa_b:Below w.heap.size w wa:=(by rw [hwa];exact bg);clear hwa)
      (refine wp_region_gr (by kernel_rfl) (by kernel_rfl) ?_;(repeat (go_big_quiet_step (first | (go_at_call 45;exact calls_gr (isPlace_any o.key o.who _ false Hp.out)) | fail)));refine wpQuiet_nil ?_;intro _ hw';obtain ⟨g,hw''⟩:=hw';subst hw'')
      go_wp2_with fail
      go_ret
      exact ⟨rfl,wa_b.trans ((gr_below wa g).mono (by omega))⟩
    ·have hrf:r=false:=by rw [←hr];simp [c4]
     have d:decide (o.seq≤1099511627776)=false:=by rw [decide_eq_false_iff_not];exact c4
     clear hr
     subst hrf
     go_enter Tryz.func24,Tryz.ntmps24
     go_wp2_with fail
     (refine wp_name fun wa hwa=>?_;have wa_s0:=sg w.heap.size hwa;have wa_s1:=sg (w.heap.size+1) hwa;obtain ⟨wa_c0,wa_c1,wa_c2,wa_c3,wa_c4,wa_c5,wa_c6,wa_c7,wa_c8,wa_c9,wa_c10,wa_c11⟩:=kz12 hwa w.heap.size (.int .i64 2) (.int .i64 o.client) (.int .i64 o.seq) (.string o.key) (.string o.who) (.string o.tkey) (.string o.twho) (.int .i64 o.item) (.int .i64 o.count) (.int .i64 o.price) (.bool o.buy) (.int .i64 o.id);obtain wa_c12:=kk1 hwa (w.heap.size+1) 2 (.func (.func 41) #[] #[]);have wa_b:Below w.heap.size w wa:=(by rw [hwa];exact bg);clear hwa)
     (refine wp_region_gr (by kernel_rfl) (by kernel_rfl) ?_;(repeat (go_big_quiet_step (fail)));refine wpQuiet_nil ?_;intro _ hw';obtain ⟨g,hw''⟩:=hw';subst hw'')
     go_wp2_with fail
     go_ret
     exact ⟨rfl,wa_b.trans ((gr_below wa g).mono (by omega))⟩
   ·have hrf:r=false:=by rw [←hr];simp [c3]
    have d:decide (1≤o.seq)=false:=by rw [decide_eq_false_iff_not];exact c3
    clear hr
    subst hrf
    go_enter Tryz.func24,Tryz.ntmps24
    go_wp2_with fail
    (refine wp_name fun wa hwa=>?_;have wa_s0:=sg w.heap.size hwa;have wa_s1:=sg (w.heap.size+1) hwa;obtain ⟨wa_c0,wa_c1,wa_c2,wa_c3,wa_c4,wa_c5,wa_c6,wa_c7,wa_c8,wa_c9,wa_c10,wa_c11⟩:=kz12 hwa w.heap.size (.int .i64 2) (.int .i64 o.client) (.int .i64 o.seq) (.string o.key) (.string o.who) (.string o.tkey) (.string o.twho) (.int .i64 o.item) (.int .i64 o.count) (.int .i64 o.price) (.bool o.buy) (.int .i64 o.id);obtain wa_c12:=kk1 hwa (w.heap.size+1) 2 (.func (.func 41) #[] #[]);have wa_b:Below w.heap.size w wa:=(by rw [hwa];exact bg);clear hwa)
    (refine wp_region_gr (by kernel_rfl) (by kernel_rfl) ?_;(repeat (go_big_quiet_step (fail)));refine wpQuiet_nil ?_;intro _ hw';obtain ⟨g,hw''⟩:=hw';subst hw'')
    go_wp2_with fail
    go_ret
    exact ⟨rfl,wa_b.trans ((gr_below wa g).mono (by omega))⟩
  ·have hrf:r=false:=by rw [←hr];simp [c2]
   have d:decide (o.client≤1048576)=false:=by rw [decide_eq_false_iff_not];exact c2
   clear hr
   subst hrf
   go_enter Tryz.func24,Tryz.ntmps24
   go_wp2_with fail
   (refine wp_name fun wa hwa=>?_;have wa_s0:=sg w.heap.size hwa;have wa_s1:=sg (w.heap.size+1) hwa;obtain ⟨wa_c0,wa_c1,wa_c2,wa_c3,wa_c4,wa_c5,wa_c6,wa_c7,wa_c8,wa_c9,wa_c10,wa_c11⟩:=kz12 hwa w.heap.size (.int .i64 2) (.int .i64 o.client) (.int .i64 o.seq) (.string o.key) (.string o.who) (.string o.tkey) (.string o.twho) (.int .i64 o.item) (.int .i64 o.count) (.int .i64 o.price) (.bool o.buy) (.int .i64 o.id);obtain wa_c12:=kk1 hwa (w.heap.size+1) 2 (.func (.func 41) #[] #[]);have wa_b:Below w.heap.size w wa:=(by rw [hwa];exact bg);clear hwa)
   (refine wp_region_gr (by kernel_rfl) (by kernel_rfl) ?_;(repeat (go_big_quiet_step (fail)));refine wpQuiet_nil ?_;intro _ hw';obtain ⟨g,hw''⟩:=hw';subst hw'')
   go_wp2_with fail
   go_ret
   exact ⟨rfl,wa_b.trans ((gr_below wa g).mono (by omega))⟩
 ·have hrf:r=false:=by rw [←hr];simp [c1]
  have d:decide (1≤o.client)=false:=by rw [decide_eq_false_iff_not];exact c1
  clear hr
  subst hrf
  go_enter Tryz.func24,Tryz.ntmps24
  go_wp2_with fail
  (refine wp_name fun wa hwa=>?_;have wa_s0:=sg w.heap.size hwa;have wa_s1:=sg (w.heap.size+1) hwa;obtain ⟨wa_c0,wa_c1,wa_c2,wa_c3,wa_c4,wa_c5,wa_c6,wa_c7,wa_c8,wa_c9,wa_c10,wa_c11⟩:=kz12 hwa w.heap.size (.int .i64 2) (.int .i64 o.client) (.int .i64 o.seq) (.string o.key) (.string o.who) (.string o.tkey) (.string o.twho) (.int .i64 o.item) (.int .i64 o.count) (.int .i64 o.price) (.bool o.buy) (.int .i64 o.id);obtain wa_c12:=kk1 hwa (w.heap.size+1) 2 (.func (.func 41) #[] #[]);have wa_b:Below w.heap.size w wa:=(by rw [hwa];exact bg);clear hwa)
  (refine wp_region_gr (by kernel_rfl) (by kernel_rfl) ?_;(repeat (go_big_quiet_step (fail)));refine wpQuiet_nil ?_;intro _ hw';obtain ⟨g,hw''⟩:=hw';subst hw'')
  go_wp2_with fail
  go_ret
  exact ⟨rfl,wa_b.trans ((gr_below wa g).mono (by omega))⟩
set_option maxRecDepth 20000 in
set_option maxHeartbeats 4000000 in
theorem may_3 (o:Rq) (w:World) (r:Bool) (hr:mayO { o with kind:=3 }=r) :
 Calls Tryz.prog 24 #[.agg #[.int .i64 3,.int .i64 o.client,.int .i64 o.seq,.string o.key,.string o.who,.string o.tkey,.string o.twho,.int .i64 o.item,.int .i64 o.count,.int .i64 o.price,.bool o.buy,.int .i64 o.id]] w fun e w'=>e=.returned (.bool r)∧Below w.heap.size w w':=by
 have hfn:=func_nil
 have hkind:kindO { o with kind:=3 }=ordO { o with kind:=3 }:=by simp [kindO]
 unfold mayO at hr
 rw [hkind] at hr
 simp only at hr
 clear hkind
 by_cases c1:1≤o.client
 ·by_cases c2:o.client≤1048576
  ·by_cases c3:1≤o.seq
   ·by_cases c4:o.seq≤1099511627776
    ·cases hp:placeB o.key o.who with
     | true =>
      have hk:=fun w=>orders_any { o with kind:=3 } w r (by rw [←hr,hp];simp [c1,c2,c3,c4])
      simp only at hk
      have Hk:=Lib.hid hk
      have Hp:=Lib.hid hp
      clear hk hp hr
      have hr:true=true:=rfl
      clear hr
      go_enter Tryz.func24,Tryz.ntmps24
      go_wp2_with fail
      (refine wp_name fun wa hwa=>?_;have wa_s0:=sg w.heap.size hwa;have wa_s1:=sg (w.heap.size+1) hwa;obtain ⟨wa_c0,wa_c1,wa_c2,wa_c3,wa_c4,wa_c5,wa_c6,wa_c7,wa_c8,wa_c9,wa_c10,wa_c11⟩:=kz12 hwa w.heap.size (.int .i64 3) (.int .i64 o.client) (.int .i64 o.seq) (.string o.key) (.string o.who) (.string o.tkey) (.string o.twho) (.int .i64 o.item) (.int .i64 o.count) (.int .i64 o.price) (.bool o.buy) (.int .i64 o.id);obtain wa_c12:=kk1 hwa (w.heap.size+1) 3 (.func (.func 42) #[] #[]);have wa_b:Below w.heap.size w wa:=(by rw [hwa];exact bg);clear hwa)
      (refine wp_region_gr (by kernel_rfl) (by kernel_rfl) ?_;(repeat (go_big_quiet_step (first | (go_at_call 45;exact calls_gr (isPlace_any o.key o.who _ true Hp.out)) | (go_at_call 42;exact calls_gr (Hk.out _)) | fail)));refine wpQuiet_nil ?_;intro _ hw';obtain ⟨g,hw''⟩:=hw';subst hw'')
      go_wp2_with fail
      go_ret
      exact ⟨rfl,wa_b.trans ((gr_below wa g).mono (by omega))⟩
     | false =>
      have hrf:r=false:=by rw [←hr,hp];simp
      have Hp:=Lib.hid hp
      clear hp hr
      subst hrf
      go_enter Tryz.func24,Tryz.ntmps24
      go_wp2_with fail
      (refine wp_name fun wa hwa=>?_;have wa_s0:=sg w.heap.size hwa;have wa_s1:=sg (w.heap.size+1) hwa;obtain ⟨wa_c0,wa_c1,wa_c2,wa_c3,wa_c4,wa_c5,wa_c6,wa_c7,wa_c8,wa_c9,wa_c10,wa_c11⟩:=kz12 hwa w.heap.size (.int .i64 3) (.int .i64 o.client) (.int .i64 o.seq) (.string o.key) (.string o.who) (.string o.tkey) (.string o.twho) (.int .i64 o.item) (.int .i64 o.count) (.int .i64 o.price) (.bool o.buy) (.int .i64 o.id);obtain wa_c12:=kk1 hwa (w.heap.size+1) 3 (.func (.func 42) #[] #[]);have wa_b:Below w.heap.size w wa:=(by rw [hwa];exact bg);clear hwa)
      (refine wp_region_gr (by kernel_rfl) (by kernel_rfl) ?_;(repeat (go_big_quiet_step (first | (go_at_call 45;exact calls_gr (isPlace_any o.key o.who _ false Hp.out)) | fail)));refine wpQuiet_nil ?_;intro _ hw';obtain ⟨g,hw''⟩:=hw';subst hw'')
      go_wp2_with fail
      go_ret
      exact ⟨rfl,wa_b.trans ((gr_below wa g).mono (by omega))⟩
    ·have hrf:r=false:=by rw [←hr];simp [c4]
     have d:decide (o.seq≤1099511627776)=false:=by rw [decide_eq_false_iff_not];exact c4
     clear hr
     subst hrf
     go_enter Tryz.func24,Tryz.ntmps24
     go_wp2_with fail
     (refine wp_name fun wa hwa=>?_;have wa_s0:=sg w.heap.size hwa;have wa_s1:=sg (w.heap.size+1) hwa;obtain ⟨wa_c0,wa_c1,wa_c2,wa_c3,wa_c4,wa_c5,wa_c6,wa_c7,wa_c8,wa_c9,wa_c10,wa_c11⟩:=kz12 hwa w.heap.size (.int .i64 3) (.int .i64 o.client) (.int .i64 o.seq) (.string o.key) (.string o.who) (.string o.tkey) (.string o.twho) (.int .i64 o.item) (.int .i64 o.count) (.int .i64 o.price) (.bool o.buy) (.int .i64 o.id);obtain wa_c12:=kk1 hwa (w.heap.size+1) 3 (.func (.func 42) #[] #[]);have wa_b:Below w.heap.size w wa:=(by rw [hwa];exact bg);clear hwa)
     (refine wp_region_gr (by kernel_rfl) (by kernel_rfl) ?_;(repeat (go_big_quiet_step (fail)));refine wpQuiet_nil ?_;intro _ hw';obtain ⟨g,hw''⟩:=hw';subst hw'')
     go_wp2_with fail
     go_ret
     exact ⟨rfl,wa_b.trans ((gr_below wa g).mono (by omega))⟩
   ·have hrf:r=false:=by rw [←hr];simp [c3]
    have d:decide (1≤o.seq)=false:=by rw [decide_eq_false_iff_not];exact c3
    clear hr
    subst hrf
    go_enter Tryz.func24,Tryz.ntmps24
    go_wp2_with fail
    (refine wp_name fun wa hwa=>?_;have wa_s0:=sg w.heap.size hwa;have wa_s1:=sg (w.heap.size+1) hwa;obtain ⟨wa_c0,wa_c1,wa_c2,wa_c3,wa_c4,wa_c5,wa_c6,wa_c7,wa_c8,wa_c9,wa_c10,wa_c11⟩:=kz12 hwa w.heap.size (.int .i64 3) (.int .i64 o.client) (.int .i64 o.seq) (.string o.key) (.string o.who) (.string o.tkey) (.string o.twho) (.int .i64 o.item) (.int .i64 o.count) (.int .i64 o.price) (.bool o.buy) (.int .i64 o.id);obtain wa_c12:=kk1 hwa (w.heap.size+1) 3 (.func (.func 42) #[] #[]);have wa_b:Below w.heap.size w wa:=(by rw [hwa];exact bg);clear hwa)
    (refine wp_region_gr (by kernel_rfl) (by kernel_rfl) ?_;(repeat (go_big_quiet_step (fail)));refine wpQuiet_nil ?_;intro _ hw';obtain ⟨g,hw''⟩:=hw';subst hw'')
    go_wp2_with fail
    go_ret
    exact ⟨rfl,wa_b.trans ((gr_below wa g).mono (by omega))⟩
  ·have hrf:r=false:=by rw [←hr];simp [c2]
   have d:decide (o.client≤1048576)=false:=by rw [decide_eq_false_iff_not];exact c2
   clear hr
   subst hrf
   go_enter Tryz.func24,Tryz.ntmps24
   go_wp2_with fail
   (refine wp_name fun wa hwa=>?_;have wa_s0:=sg w.heap.size hwa;have wa_s1:=sg (w.heap.size+1) hwa;obtain ⟨wa_c0,wa_c1,wa_c2,wa_c3,wa_c4,wa_c5,wa_c6,wa_c7,wa_c8,wa_c9,wa_c10,wa_c11⟩:=kz12 hwa w.heap.size (.int .i64 3) (.int .i64 o.client) (.int .i64 o.seq) (.string o.key) (.string o.who) (.string o.tkey) (.string o.twho) (.int .i64 o.item) (.int .i64 o.count) (.int .i64 o.price) (.bool o.buy) (.int .i64 o.id);obtain wa_c12:=kk1 hwa (w.heap.size+1) 3 (.func (.func 42) #[] #[]);have wa_b:Below w.heap.size w wa:=(by rw [hwa];exact bg);clear hwa)
   (refine wp_region_gr (by kernel_rfl) (by kernel_rfl) ?_;(repeat (go_big_quiet_step (fail)));refine wpQuiet_nil ?_;intro _ hw';obtain ⟨g,hw''⟩:=hw';subst hw'')
   go_wp2_with fail
   go_ret
   exact ⟨rfl,wa_b.trans ((gr_below wa g).mono (by omega))⟩
 ·have hrf:r=false:=by rw [←hr];simp [c1]
  have d:decide (1≤o.client)=false:=by rw [decide_eq_false_iff_not];exact c1
  clear hr
  subst hrf
  go_enter Tryz.func24,Tryz.ntmps24
  go_wp2_with fail
  (refine wp_name fun wa hwa=>?_;have wa_s0:=sg w.heap.size hwa;have wa_s1:=sg (w.heap.size+1) hwa;obtain ⟨wa_c0,wa_c1,wa_c2,wa_c3,wa_c4,wa_c5,wa_c6,wa_c7,wa_c8,wa_c9,wa_c10,wa_c11⟩:=kz12 hwa w.heap.size (.int .i64 3) (.int .i64 o.client) (.int .i64 o.seq) (.string o.key) (.string o.who) (.string o.tkey) (.string o.twho) (.int .i64 o.item) (.int .i64 o.count) (.int .i64 o.price) (.bool o.buy) (.int .i64 o.id);obtain wa_c12:=kk1 hwa (w.heap.size+1) 3 (.func (.func 42) #[] #[]);have wa_b:Below w.heap.size w wa:=(by rw [hwa];exact bg);clear hwa)
  (refine wp_region_gr (by kernel_rfl) (by kernel_rfl) ?_;(repeat (go_big_quiet_step (fail)));refine wpQuiet_nil ?_;intro _ hw';obtain ⟨g,hw''⟩:=hw';subst hw'')
  go_wp2_with fail
  go_ret
  exact ⟨rfl,wa_b.trans ((gr_below wa g).mono (by omega))⟩
set_option maxRecDepth 20000 in
set_option maxHeartbeats 4000000 in
theorem may_4 (o:Rq) (w:World) (r:Bool) (hr:mayO { o with kind:=4 }=r) :
 Calls Tryz.prog 24 #[.agg #[.int .i64 4,.int .i64 o.client,.int .i64 o.seq,.string o.key,.string o.who,.string o.tkey,.string o.twho,.int .i64 o.item,.int .i64 o.count,.int .i64 o.price,.bool o.buy,.int .i64 o.id]] w fun e w'=>e=.returned (.bool r)∧Below w.heap.size w w':=by
 have hfn:=func_nil
 have hkind:kindO { o with kind:=4 }=canO { o with kind:=4 }:=by simp [kindO]
 unfold mayO at hr
 rw [hkind] at hr
 simp only at hr
 clear hkind
 by_cases c1:1≤o.client
 ·by_cases c2:o.client≤1048576
  ·by_cases c3:1≤o.seq
   ·by_cases c4:o.seq≤1099511627776
    ·cases hp:placeB o.key o.who with
     | true =>
      have hk:=fun w=>cancels_any { o with kind:=4 } w r (by rw [←hr,hp];simp [c1,c2,c3,c4])
      simp only at hk
      have Hk:=Lib.hid hk
      have Hp:=Lib.hid hp
      clear hk hp hr
      have hr:true=true:=rfl
      clear hr
      go_enter Tryz.func24,Tryz.ntmps24
      go_wp2_with fail
      (refine wp_name fun wa hwa=>?_;have wa_s0:=sg w.heap.size hwa;have wa_s1:=sg (w.heap.size+1) hwa;obtain ⟨wa_c0,wa_c1,wa_c2,wa_c3,wa_c4,wa_c5,wa_c6,wa_c7,wa_c8,wa_c9,wa_c10,wa_c11⟩:=kz12 hwa w.heap.size (.int .i64 4) (.int .i64 o.client) (.int .i64 o.seq) (.string o.key) (.string o.who) (.string o.tkey) (.string o.twho) (.int .i64 o.item) (.int .i64 o.count) (.int .i64 o.price) (.bool o.buy) (.int .i64 o.id);obtain wa_c12:=kk1 hwa (w.heap.size+1) 4 (.func (.func 43) #[] #[]);have wa_b:Below w.heap.size w wa:=(by rw [hwa];exact bg);clear hwa)
      (refine wp_region_gr (by kernel_rfl) (by kernel_rfl) ?_;(repeat (go_big_quiet_step (first | (go_at_call 45;exact calls_gr (isPlace_any o.key o.who _ true Hp.out)) | (go_at_call 43;exact calls_gr (Hk.out _)) | fail)));refine wpQuiet_nil ?_;intro _ hw';obtain ⟨g,hw''⟩:=hw';subst hw'')
      go_wp2_with fail
      go_ret
      exact ⟨rfl,wa_b.trans ((gr_below wa g).mono (by omega))⟩
     | false =>
      have hrf:r=false:=by rw [←hr,hp];simp
      have Hp:=Lib.hid hp
      clear hp hr
      subst hrf
      go_enter Tryz.func24,Tryz.ntmps24
      go_wp2_with fail
      (refine wp_name fun wa hwa=>?_;have wa_s0:=sg w.heap.size hwa;have wa_s1:=sg (w.heap.size+1) hwa;obtain ⟨wa_c0,wa_c1,wa_c2,wa_c3,wa_c4,wa_c5,wa_c6,wa_c7,wa_c8,wa_c9,wa_c10,wa_c11⟩:=kz12 hwa w.heap.size (.int .i64 4) (.int .i64 o.client) (.int .i64 o.seq) (.string o.key) (.string o.who) (.string o.tkey) (.string o.twho) (.int .i64 o.item) (.int .i64 o.count) (.int .i64 o.price) (.bool o.buy) (.int .i64 o.id);obtain wa_c12:=kk1 hwa (w.heap.size+1) 4 (.func (.func 43) #[] #[]);have wa_b:Below w.heap.size w wa:=(by rw [hwa];exact bg);clear hwa)
      (refine wp_region_gr (by kernel_rfl) (by kernel_rfl) ?_;(repeat (go_big_quiet_step (first | (go_at_call 45;exact calls_gr (isPlace_any o.key o.who _ false Hp.out)) | fail)));refine wpQuiet_nil ?_;intro _ hw';obtain ⟨g,hw''⟩:=hw';subst hw'')
      go_wp2_with fail
      go_ret
      exact ⟨rfl,wa_b.trans ((gr_below wa g).mono (by omega))⟩
    ·have hrf:r=false:=by rw [←hr];simp [c4]
     have d:decide (o.seq≤1099511627776)=false:=by rw [decide_eq_false_iff_not];exact c4
     clear hr
     subst hrf
     go_enter Tryz.func24,Tryz.ntmps24
     go_wp2_with fail
     (refine wp_name fun wa hwa=>?_;have wa_s0:=sg w.heap.size hwa;have wa_s1:=sg (w.heap.size+1) hwa;obtain ⟨wa_c0,wa_c1,wa_c2,wa_c3,wa_c4,wa_c5,wa_c6,wa_c7,wa_c8,wa_c9,wa_c10,wa_c11⟩:=kz12 hwa w.heap.size (.int .i64 4) (.int .i64 o.client) (.int .i64 o.seq) (.string o.key) (.string o.who) (.string o.tkey) (.string o.twho) (.int .i64 o.item) (.int .i64 o.count) (.int .i64 o.price) (.bool o.buy) (.int .i64 o.id);obtain wa_c12:=kk1 hwa (w.heap.size+1) 4 (.func (.func 43) #[] #[]);have wa_b:Below w.heap.size w wa:=(by rw [hwa];exact bg);clear hwa)
     (refine wp_region_gr (by kernel_rfl) (by kernel_rfl) ?_;(repeat (go_big_quiet_step (fail)));refine wpQuiet_nil ?_;intro _ hw';obtain ⟨g,hw''⟩:=hw';subst hw'')
     go_wp2_with fail
     go_ret
     exact ⟨rfl,wa_b.trans ((gr_below wa g).mono (by omega))⟩
   ·have hrf:r=false:=by rw [←hr];simp [c3]
    have d:decide (1≤o.seq)=false:=by rw [decide_eq_false_iff_not];exact c3
    clear hr
    subst hrf
    go_enter Tryz.func24,Tryz.ntmps24
    go_wp2_with fail
    (refine wp_name fun wa hwa=>?_;have wa_s0:=sg w.heap.size hwa;have wa_s1:=sg (w.heap.size+1) hwa;obtain ⟨wa_c0,wa_c1,wa_c2,wa_c3,wa_c4,wa_c5,wa_c6,wa_c7,wa_c8,wa_c9,wa_c10,wa_c11⟩:=kz12 hwa w.heap.size (.int .i64 4) (.int .i64 o.client) (.int .i64 o.seq) (.string o.key) (.string o.who) (.string o.tkey) (.string o.twho) (.int .i64 o.item) (.int .i64 o.count) (.int .i64 o.price) (.bool o.buy) (.int .i64 o.id);obtain wa_c12:=kk1 hwa (w.heap.size+1) 4 (.func (.func 43) #[] #[]);have wa_b:Below w.heap.size w wa:=(by rw [hwa];exact bg);clear hwa)
    (refine wp_region_gr (by kernel_rfl) (by kernel_rfl) ?_;(repeat (go_big_quiet_step (fail)));refine wpQuiet_nil ?_;intro _ hw';obtain ⟨g,hw''⟩:=hw';subst hw'')
    go_wp2_with fail
    go_ret
    exact ⟨rfl,wa_b.trans ((gr_below wa g).mono (by omega))⟩
  ·have hrf:r=false:=by rw [←hr];simp [c2]
   have d:decide (o.client≤1048576)=false:=by rw [decide_eq_false_iff_not];exact c2
   clear hr
   subst hrf
   go_enter Tryz.func24,Tryz.ntmps24
   go_wp2_with fail
   (refine wp_name fun wa hwa=>?_;have wa_s0:=sg w.heap.size hwa;have wa_s1:=sg (w.heap.size+1) hwa;obtain ⟨wa_c0,wa_c1,wa_c2,wa_c3,wa_c4,wa_c5,wa_c6,wa_c7,wa_c8,wa_c9,wa_c10,wa_c11⟩:=kz12 hwa w.heap.size (.int .i64 4) (.int .i64 o.client) (.int .i64 o.seq) (.string o.key) (.string o.who) (.string o.tkey) (.string o.twho) (.int .i64 o.item) (.int .i64 o.count) (.int .i64 o.price) (.bool o.buy) (.int .i64 o.id);obtain wa_c12:=kk1 hwa (w.heap.size+1) 4 (.func (.func 43) #[] #[]);have wa_b:Below w.heap.size w wa:=(by rw [hwa];exact bg);clear hwa)
   (refine wp_region_gr (by kernel_rfl) (by kernel_rfl) ?_;(repeat (go_big_quiet_step (fail)));refine wpQuiet_nil ?_;intro _ hw';obtain ⟨g,hw''⟩:=hw';subst hw'')
   go_wp2_with fail
   go_ret
   exact ⟨rfl,wa_b.trans ((gr_below wa g).mono (by omega))⟩
 ·have hrf:r=false:=by rw [←hr];simp [c1]
  have d:decide (1≤o.client)=false:=by rw [decide_eq_false_iff_not];exact c1
  clear hr
  subst hrf
  go_enter Tryz.func24,Tryz.ntmps24
  go_wp2_with fail
  (refine wp_name fun wa hwa=>?_;have wa_s0:=sg w.heap.size hwa;have wa_s1:=sg (w.heap.size+1) hwa;obtain ⟨wa_c0,wa_c1,wa_c2,wa_c3,wa_c4,wa_c5,wa_c6,wa_c7,wa_c8,wa_c9,wa_c10,wa_c11⟩:=kz12 hwa w.heap.size (.int .i64 4) (.int .i64 o.client) (.int .i64 o.seq) (.string o.key) (.string o.who) (.string o.tkey) (.string o.twho) (.int .i64 o.item) (.int .i64 o.count) (.int .i64 o.price) (.bool o.buy) (.int .i64 o.id);obtain wa_c12:=kk1 hwa (w.heap.size+1) 4 (.func (.func 43) #[] #[]);have wa_b:Below w.heap.size w wa:=(by rw [hwa];exact bg);clear hwa)
  (refine wp_region_gr (by kernel_rfl) (by kernel_rfl) ?_;(repeat (go_big_quiet_step (fail)));refine wpQuiet_nil ?_;intro _ hw';obtain ⟨g,hw''⟩:=hw';subst hw'')
  go_wp2_with fail
  go_ret
  exact ⟨rfl,wa_b.trans ((gr_below wa g).mono (by omega))⟩
set_option maxRecDepth 20000 in
set_option maxHeartbeats 4000000 in
theorem may_5 (o:Rq) (w:World) (r:Bool) (hr:mayO { o with kind:=5 }=r) :
 Calls Tryz.prog 24 #[.agg #[.int .i64 5,.int .i64 o.client,.int .i64 o.seq,.string o.key,.string o.who,.string o.tkey,.string o.twho,.int .i64 o.item,.int .i64 o.count,.int .i64 o.price,.bool o.buy,.int .i64 o.id]] w fun e w'=>e=.returned (.bool r)∧Below w.heap.size w w':=by
 have hfn:=func_nil
 have hkind:kindO { o with kind:=5 }=barO { o with kind:=5 }:=by simp [kindO]
 unfold mayO at hr
 rw [hkind] at hr
 simp only at hr
 clear hkind
 by_cases c1:1≤o.client
 ·by_cases c2:o.client≤1048576
  ·by_cases c3:1≤o.seq
   ·by_cases c4:o.seq≤1099511627776
    ·cases hp:placeB o.key o.who with
     | true =>
      have hk:=fun w=>bare_any { o with kind:=5 } w r (by rw [←hr,hp];simp [c1,c2,c3,c4])
      simp only at hk
      have Hk:=Lib.hid hk
      have Hp:=Lib.hid hp
      clear hk hp hr
      have hr:true=true:=rfl
      clear hr
      go_enter Tryz.func24,Tryz.ntmps24
      go_wp2_with fail
      (refine wp_name fun wa hwa=>?_;have wa_s0:=sg w.heap.size hwa;have wa_s1:=sg (w.heap.size+1) hwa;obtain ⟨wa_c0,wa_c1,wa_c2,wa_c3,wa_c4,wa_c5,wa_c6,wa_c7,wa_c8,wa_c9,wa_c10,wa_c11⟩:=kz12 hwa w.heap.size (.int .i64 5) (.int .i64 o.client) (.int .i64 o.seq) (.string o.key) (.string o.who) (.string o.tkey) (.string o.twho) (.int .i64 o.item) (.int .i64 o.count) (.int .i64 o.price) (.bool o.buy) (.int .i64 o.id);obtain wa_c12:=kk1 hwa (w.heap.size+1) 5 (.func (.func 44) #[] #[]);have wa_b:Below w.heap.size w wa:=(by rw [hwa];exact bg);clear hwa)
      (refine wp_region_gr (by kernel_rfl) (by kernel_rfl) ?_;(repeat (go_big_quiet_step (first | (go_at_call 45;exact calls_gr (isPlace_any o.key o.who _ true Hp.out)) | (go_at_call 44;exact calls_gr (Hk.out _)) | fail)));refine wpQuiet_nil ?_;intro _ hw';obtain ⟨g,hw''⟩:=hw';subst hw'')
      go_wp2_with fail
      go_ret
      exact ⟨rfl,wa_b.trans ((gr_below wa g).mono (by omega))⟩
     | false =>
      have hrf:r=false:=by rw [←hr,hp];simp
      have Hp:=Lib.hid hp
      clear hp hr
      subst hrf
      go_enter Tryz.func24,Tryz.ntmps24
      go_wp2_with fail
      (refine wp_name fun wa hwa=>?_;have wa_s0:=sg w.heap.size hwa;have wa_s1:=sg (w.heap.size+1) hwa;obtain ⟨wa_c0,wa_c1,wa_c2,wa_c3,wa_c4,wa_c5,wa_c6,wa_c7,wa_c8,wa_c9,wa_c10,wa_c11⟩:=kz12 hwa w.heap.size (.int .i64 5) (.int .i64 o.client) (.int .i64 o.seq) (.string o.key) (.string o.who) (.string o.tkey) (.string o.twho) (.int .i64 o.item) (.int .i64 o.count) (.int .i64 o.price) (.bool o.buy) (.int .i64 o.id);obtain wa_c12:=kk1 hwa (w.heap.size+1) 5 (.func (.func 44) #[] #[]);have wa_b:Below w.heap.size w wa:=(by rw [hwa];exact bg);clear hwa)
      (refine wp_region_gr (by kernel_rfl) (by kernel_rfl) ?_;(repeat (go_big_quiet_step (first | (go_at_call 45;exact calls_gr (isPlace_any o.key o.who _ false Hp.out)) | fail)));refine wpQuiet_nil ?_;intro _ hw';obtain ⟨g,hw''⟩:=hw';subst hw'')
      go_wp2_with fail
      go_ret
      exact ⟨rfl,wa_b.trans ((gr_below wa g).mono (by omega))⟩
    ·have hrf:r=false:=by rw [←hr];simp [c4]
     have d:decide (o.seq≤1099511627776)=false:=by rw [decide_eq_false_iff_not];exact c4
     clear hr
     subst hrf
     go_enter Tryz.func24,Tryz.ntmps24
     go_wp2_with fail
     (refine wp_name fun wa hwa=>?_;have wa_s0:=sg w.heap.size hwa;have wa_s1:=sg (w.heap.size+1) hwa;obtain ⟨wa_c0,wa_c1,wa_c2,wa_c3,wa_c4,wa_c5,wa_c6,wa_c7,wa_c8,wa_c9,wa_c10,wa_c11⟩:=kz12 hwa w.heap.size (.int .i64 5) (.int .i64 o.client) (.int .i64 o.seq) (.string o.key) (.string o.who) (.string o.tkey) (.string o.twho) (.int .i64 o.item) (.int .i64 o.count) (.int .i64 o.price) (.bool o.buy) (.int .i64 o.id);obtain wa_c12:=kk1 hwa (w.heap.size+1) 5 (.func (.func 44) #[] #[]);have wa_b:Below w.heap.size w wa:=(by rw [hwa];exact bg);clear hwa)
     (refine wp_region_gr (by kernel_rfl) (by kernel_rfl) ?_;(repeat (go_big_quiet_step (fail)));refine wpQuiet_nil ?_;intro _ hw';obtain ⟨g,hw''⟩:=hw';subst hw'')
     go_wp2_with fail
     go_ret
     exact ⟨rfl,wa_b.trans ((gr_below wa g).mono (by omega))⟩
   ·have hrf:r=false:=by rw [←hr];simp [c3]
    have d:decide (1≤o.seq)=false:=by rw [decide_eq_false_iff_not];exact c3
    clear hr
    subst hrf
    go_enter Tryz.func24,Tryz.ntmps24
    go_wp2_with fail
    (refine wp_name fun wa hwa=>?_;have wa_s0:=sg w.heap.size hwa;have wa_s1:=sg (w.heap.size+1) hwa;obtain ⟨wa_c0,wa_c1,wa_c2,wa_c3,wa_c4,wa_c5,wa_c6,wa_c7,wa_c8,wa_c9,wa_c10,wa_c11⟩:=kz12 hwa w.heap.size (.int .i64 5) (.int .i64 o.client) (.int .i64 o.seq) (.string o.key) (.string o.who) (.string o.tkey) (.string o.twho) (.int .i64 o.item) (.int .i64 o.count) (.int .i64 o.price) (.bool o.buy) (.int .i64 o.id);obtain wa_c12:=kk1 hwa (w.heap.size+1) 5 (.func (.func 44) #[] #[]);have wa_b:Below w.heap.size w wa:=(by rw [hwa];exact bg);clear hwa)
    (refine wp_region_gr (by kernel_rfl) (by kernel_rfl) ?_;(repeat (go_big_quiet_step (fail)));refine wpQuiet_nil ?_;intro _ hw';obtain ⟨g,hw''⟩:=hw';subst hw'')
    go_wp2_with fail
    go_ret
    exact ⟨rfl,wa_b.trans ((gr_below wa g).mono (by omega))⟩
  ·have hrf:r=false:=by rw [←hr];simp [c2]
   have d:decide (o.client≤1048576)=false:=by rw [decide_eq_false_iff_not];exact c2
   clear hr
   subst hrf
   go_enter Tryz.func24,Tryz.ntmps24
   go_wp2_with fail
   (refine wp_name fun wa hwa=>?_;have wa_s0:=sg w.heap.size hwa;have wa_s1:=sg (w.heap.size+1) hwa;obtain ⟨wa_c0,wa_c1,wa_c2,wa_c3,wa_c4,wa_c5,wa_c6,wa_c7,wa_c8,wa_c9,wa_c10,wa_c11⟩:=kz12 hwa w.heap.size (.int .i64 5) (.int .i64 o.client) (.int .i64 o.seq) (.string o.key) (.string o.who) (.string o.tkey) (.string o.twho) (.int .i64 o.item) (.int .i64 o.count) (.int .i64 o.price) (.bool o.buy) (.int .i64 o.id);obtain wa_c12:=kk1 hwa (w.heap.size+1) 5 (.func (.func 44) #[] #[]);have wa_b:Below w.heap.size w wa:=(by rw [hwa];exact bg);clear hwa)
   (refine wp_region_gr (by kernel_rfl) (by kernel_rfl) ?_;(repeat (go_big_quiet_step (fail)));refine wpQuiet_nil ?_;intro _ hw';obtain ⟨g,hw''⟩:=hw';subst hw'')
   go_wp2_with fail
   go_ret
   exact ⟨rfl,wa_b.trans ((gr_below wa g).mono (by omega))⟩
 ·have hrf:r=false:=by rw [←hr];simp [c1]
  have d:decide (1≤o.client)=false:=by rw [decide_eq_false_iff_not];exact c1
  clear hr
  subst hrf
  go_enter Tryz.func24,Tryz.ntmps24
  go_wp2_with fail
  (refine wp_name fun wa hwa=>?_;have wa_s0:=sg w.heap.size hwa;have wa_s1:=sg (w.heap.size+1) hwa;obtain ⟨wa_c0,wa_c1,wa_c2,wa_c3,wa_c4,wa_c5,wa_c6,wa_c7,wa_c8,wa_c9,wa_c10,wa_c11⟩:=kz12 hwa w.heap.size (.int .i64 5) (.int .i64 o.client) (.int .i64 o.seq) (.string o.key) (.string o.who) (.string o.tkey) (.string o.twho) (.int .i64 o.item) (.int .i64 o.count) (.int .i64 o.price) (.bool o.buy) (.int .i64 o.id);obtain wa_c12:=kk1 hwa (w.heap.size+1) 5 (.func (.func 44) #[] #[]);have wa_b:Below w.heap.size w wa:=(by rw [hwa];exact bg);clear hwa)
  (refine wp_region_gr (by kernel_rfl) (by kernel_rfl) ?_;(repeat (go_big_quiet_step (fail)));refine wpQuiet_nil ?_;intro _ hw';obtain ⟨g,hw''⟩:=hw';subst hw'')
  go_wp2_with fail
  go_ret
  exact ⟨rfl,wa_b.trans ((gr_below wa g).mono (by omega))⟩
set_option maxRecDepth 20000 in
set_option maxHeartbeats 4000000 in
theorem may_6 (o:Rq) (w:World) (r:Bool) (hr:mayO { o with kind:=6 }=r) :
 Calls Tryz.prog 24 #[.agg #[.int .i64 6,.int .i64 o.client,.int .i64 o.seq,.string o.key,.string o.who,.string o.tkey,.string o.twho,.int .i64 o.item,.int .i64 o.count,.int .i64 o.price,.bool o.buy,.int .i64 o.id]] w fun e w'=>e=.returned (.bool r)∧Below w.heap.size w w':=by
 have hfn:=func_nil
 have hkind:kindO { o with kind:=6 }=cntO { o with kind:=6 }:=by simp [kindO]
 unfold mayO at hr
 rw [hkind] at hr
 simp only at hr
 clear hkind
 by_cases c1:1≤o.client
 ·by_cases c2:o.client≤1048576
  ·by_cases c3:1≤o.seq
   ·by_cases c4:o.seq≤1099511627776
    ·cases hp:placeB o.key o.who with
     | true =>
      have hk:=fun w=>counts_any { o with kind:=6 } w r (by rw [←hr,hp];simp [c1,c2,c3,c4])
      simp only at hk
      have Hk:=Lib.hid hk
      have Hp:=Lib.hid hp
      clear hk hp hr
      have hr:true=true:=rfl
      clear hr
      go_enter Tryz.func24,Tryz.ntmps24
      go_wp2_with fail
      (refine wp_name fun wa hwa=>?_;have wa_s0:=sg w.heap.size hwa;have wa_s1:=sg (w.heap.size+1) hwa;obtain ⟨wa_c0,wa_c1,wa_c2,wa_c3,wa_c4,wa_c5,wa_c6,wa_c7,wa_c8,wa_c9,wa_c10,wa_c11⟩:=kz12 hwa w.heap.size (.int .i64 6) (.int .i64 o.client) (.int .i64 o.seq) (.string o.key) (.string o.who) (.string o.tkey) (.string o.twho) (.int .i64 o.item) (.int .i64 o.count) (.int .i64 o.price) (.bool o.buy) (.int .i64 o.id);obtain wa_c12:=kk1 hwa (w.heap.size+1) 6 (.func (.func 40) #[] #[]);have wa_b:Below w.heap.size w wa:=(by rw [hwa];exact bg);clear hwa)
      (refine wp_region_gr (by kernel_rfl) (by kernel_rfl) ?_;(repeat (go_big_quiet_step (first | (go_at_call 45;exact calls_gr (isPlace_any o.key o.who _ true Hp.out)) | (go_at_call 40;exact calls_gr (Hk.out _)) | fail)));refine wpQuiet_nil ?_;intro _ hw';obtain ⟨g,hw''⟩:=hw';subst hw'')
      go_wp2_with fail
      go_ret
      exact ⟨rfl,wa_b.trans ((gr_below wa g).mono (by omega))⟩
     | false =>
      have hrf:r=false:=by rw [←hr,hp];simp
      have Hp:=Lib.hid hp
      clear hp hr
      subst hrf
      go_enter Tryz.func24,Tryz.ntmps24
      go_wp2_with fail
      (refine wp_name fun wa hwa=>?_;have wa_s0:=sg w.heap.size hwa;have wa_s1:=sg (w.heap.size+1) hwa;obtain ⟨wa_c0,wa_c1,wa_c2,wa_c3,wa_c4,wa_c5,wa_c6,wa_c7,wa_c8,wa_c9,wa_c10,wa_c11⟩:=kz12 hwa w.heap.size (.int .i64 6) (.int .i64 o.client) (.int .i64 o.seq) (.string o.key) (.string o.who) (.string o.tkey) (.string o.twho) (.int .i64 o.item) (.int .i64 o.count) (.int .i64 o.price) (.bool o.buy) (.int .i64 o.id);obtain wa_c12:=kk1 hwa (w.heap.size+1) 6 (.func (.func 40) #[] #[]);have wa_b:Below w.heap.size w wa:=(by rw [hwa];exact bg);clear hwa)
      (refine wp_region_gr (by kernel_rfl) (by kernel_rfl) ?_;(repeat (go_big_quiet_step (first | (go_at_call 45;exact calls_gr (isPlace_any o.key o.who _ false Hp.out)) | fail)));refine wpQuiet_nil ?_;intro _ hw';obtain ⟨g,hw''⟩:=hw';subst hw'')
      go_wp2_with fail
      go_ret
      exact ⟨rfl,wa_b.trans ((gr_below wa g).mono (by omega))⟩
    ·have hrf:r=false:=by rw [←hr];simp [c4]
     have d:decide (o.seq≤1099511627776)=false:=by rw [decide_eq_false_iff_not];exact c4
     clear hr
     subst hrf
     go_enter Tryz.func24,Tryz.ntmps24
     go_wp2_with fail
     (refine wp_name fun wa hwa=>?_;have wa_s0:=sg w.heap.size hwa;have wa_s1:=sg (w.heap.size+1) hwa;obtain ⟨wa_c0,wa_c1,wa_c2,wa_c3,wa_c4,wa_c5,wa_c6,wa_c7,wa_c8,wa_c9,wa_c10,wa_c11⟩:=kz12 hwa w.heap.size (.int .i64 6) (.int .i64 o.client) (.int .i64 o.seq) (.string o.key) (.string o.who) (.string o.tkey) (.string o.twho) (.int .i64 o.item) (.int .i64 o.count) (.int .i64 o.price) (.bool o.buy) (.int .i64 o.id);obtain wa_c12:=kk1 hwa (w.heap.size+1) 6 (.func (.func 40) #[] #[]);have wa_b:Below w.heap.size w wa:=(by rw [hwa];exact bg);clear hwa)
     (refine wp_region_gr (by kernel_rfl) (by kernel_rfl) ?_;(repeat (go_big_quiet_step (fail)));refine wpQuiet_nil ?_;intro _ hw';obtain ⟨g,hw''⟩:=hw';subst hw'')
     go_wp2_with fail
     go_ret
     exact ⟨rfl,wa_b.trans ((gr_below wa g).mono (by omega))⟩
   ·have hrf:r=false:=by rw [←hr];simp [c3]
    have d:decide (1≤o.seq)=false:=by rw [decide_eq_false_iff_not];exact c3
    clear hr
    subst hrf
    go_enter Tryz.func24,Tryz.ntmps24
    go_wp2_with fail
    (refine wp_name fun wa hwa=>?_;have wa_s0:=sg w.heap.size hwa;have wa_s1:=sg (w.heap.size+1) hwa;obtain ⟨wa_c0,wa_c1,wa_c2,wa_c3,wa_c4,wa_c5,wa_c6,wa_c7,wa_c8,wa_c9,wa_c10,wa_c11⟩:=kz12 hwa w.heap.size (.int .i64 6) (.int .i64 o.client) (.int .i64 o.seq) (.string o.key) (.string o.who) (.string o.tkey) (.string o.twho) (.int .i64 o.item) (.int .i64 o.count) (.int .i64 o.price) (.bool o.buy) (.int .i64 o.id);obtain wa_c12:=kk1 hwa (w.heap.size+1) 6 (.func (.func 40) #[] #[]);have wa_b:Below w.heap.size w wa:=(by rw [hwa];exact bg);clear hwa)
    (refine wp_region_gr (by kernel_rfl) (by kernel_rfl) ?_;(repeat (go_big_quiet_step (fail)));refine wpQuiet_nil ?_;intro _ hw';obtain ⟨g,hw''⟩:=hw';subst hw'')
    go_wp2_with fail
    go_ret
    exact ⟨rfl,wa_b.trans ((gr_below wa g).mono (by omega))⟩
  ·have hrf:r=false:=by rw [←hr];simp [c2]
   have d:decide (o.client≤1048576)=false:=by rw [decide_eq_false_iff_not];exact c2
   clear hr
   subst hrf
   go_enter Tryz.func24,Tryz.ntmps24
   go_wp2_with fail
   (refine wp_name fun wa hwa=>?_;have wa_s0:=sg w.heap.size hwa;have wa_s1:=sg (w.heap.size+1) hwa;obtain ⟨wa_c0,wa_c1,wa_c2,wa_c3,wa_c4,wa_c5,wa_c6,wa_c7,wa_c8,wa_c9,wa_c10,wa_c11⟩:=kz12 hwa w.heap.size (.int .i64 6) (.int .i64 o.client) (.int .i64 o.seq) (.string o.key) (.string o.who) (.string o.tkey) (.string o.twho) (.int .i64 o.item) (.int .i64 o.count) (.int .i64 o.price) (.bool o.buy) (.int .i64 o.id);obtain wa_c12:=kk1 hwa (w.heap.size+1) 6 (.func (.func 40) #[] #[]);have wa_b:Below w.heap.size w wa:=(by rw [hwa];exact bg);clear hwa)
   (refine wp_region_gr (by kernel_rfl) (by kernel_rfl) ?_;(repeat (go_big_quiet_step (fail)));refine wpQuiet_nil ?_;intro _ hw';obtain ⟨g,hw''⟩:=hw';subst hw'')
   go_wp2_with fail
   go_ret
   exact ⟨rfl,wa_b.trans ((gr_below wa g).mono (by omega))⟩
 ·have hrf:r=false:=by rw [←hr];simp [c1]
  have d:decide (1≤o.client)=false:=by rw [decide_eq_false_iff_not];exact c1
  clear hr
  subst hrf
  go_enter Tryz.func24,Tryz.ntmps24
  go_wp2_with fail
  (refine wp_name fun wa hwa=>?_;have wa_s0:=sg w.heap.size hwa;have wa_s1:=sg (w.heap.size+1) hwa;obtain ⟨wa_c0,wa_c1,wa_c2,wa_c3,wa_c4,wa_c5,wa_c6,wa_c7,wa_c8,wa_c9,wa_c10,wa_c11⟩:=kz12 hwa w.heap.size (.int .i64 6) (.int .i64 o.client) (.int .i64 o.seq) (.string o.key) (.string o.who) (.string o.tkey) (.string o.twho) (.int .i64 o.item) (.int .i64 o.count) (.int .i64 o.price) (.bool o.buy) (.int .i64 o.id);obtain wa_c12:=kk1 hwa (w.heap.size+1) 6 (.func (.func 40) #[] #[]);have wa_b:Below w.heap.size w wa:=(by rw [hwa];exact bg);clear hwa)
  (refine wp_region_gr (by kernel_rfl) (by kernel_rfl) ?_;(repeat (go_big_quiet_step (fail)));refine wpQuiet_nil ?_;intro _ hw';obtain ⟨g,hw''⟩:=hw';subst hw'')
  go_wp2_with fail
  go_ret
  exact ⟨rfl,wa_b.trans ((gr_below wa g).mono (by omega))⟩
set_option maxRecDepth 20000 in
set_option maxHeartbeats 4000000 in
theorem may_7 (o:Rq) (w:World) (r:Bool) (hr:mayO { o with kind:=7 }=r) :
 Calls Tryz.prog 24 #[.agg #[.int .i64 7,.int .i64 o.client,.int .i64 o.seq,.string o.key,.string o.who,.string o.tkey,.string o.twho,.int .i64 o.item,.int .i64 o.count,.int .i64 o.price,.bool o.buy,.int .i64 o.id]] w fun e w'=>e=.returned (.bool r)∧Below w.heap.size w w':=by
 have hfn:=func_nil
 have hkind:kindO { o with kind:=7 }=barO { o with kind:=7 }:=by simp [kindO]
 unfold mayO at hr
 rw [hkind] at hr
 simp only at hr
 clear hkind
 by_cases c1:1≤o.client
 ·by_cases c2:o.client≤1048576
  ·by_cases c3:1≤o.seq
   ·by_cases c4:o.seq≤1099511627776
    ·cases hp:placeB o.key o.who with
     | true =>
      have hk:=fun w=>bare_any { o with kind:=7 } w r (by rw [←hr,hp];simp [c1,c2,c3,c4])
      simp only at hk
      have Hk:=Lib.hid hk
      have Hp:=Lib.hid hp
      clear hk hp hr
      have hr:true=true:=rfl
      clear hr
      go_enter Tryz.func24,Tryz.ntmps24
      go_wp2_with fail
      (refine wp_name fun wa hwa=>?_;have wa_s0:=sg w.heap.size hwa;have wa_s1:=sg (w.heap.size+1) hwa;obtain ⟨wa_c0,wa_c1,wa_c2,wa_c3,wa_c4,wa_c5,wa_c6,wa_c7,wa_c8,wa_c9,wa_c10,wa_c11⟩:=kz12 hwa w.heap.size (.int .i64 7) (.int .i64 o.client) (.int .i64 o.seq) (.string o.key) (.string o.who) (.string o.tkey) (.string o.twho) (.int .i64 o.item) (.int .i64 o.count) (.int .i64 o.price) (.bool o.buy) (.int .i64 o.id);obtain wa_c12:=kk1 hwa (w.heap.size+1) 7 (.func (.func 44) #[] #[]);have wa_b:Below w.heap.size w wa:=(by rw [hwa];exact bg);clear hwa)
      (refine wp_region_gr (by kernel_rfl) (by kernel_rfl) ?_;(repeat (go_big_quiet_step (first | (go_at_call 45;exact calls_gr (isPlace_any o.key o.who _ true Hp.out)) | (go_at_call 44;exact calls_gr (Hk.out _)) | fail)));refine wpQuiet_nil ?_;intro _ hw';obtain ⟨g,hw''⟩:=hw';subst hw'')
      go_wp2_with fail
      go_ret
      exact ⟨rfl,wa_b.trans ((gr_below wa g).mono (by omega))⟩
     | false =>
      have hrf:r=false:=by rw [←hr,hp];simp
      have Hp:=Lib.hid hp
      clear hp hr
      subst hrf
      go_enter Tryz.func24,Tryz.ntmps24
      go_wp2_with fail
      (refine wp_name fun wa hwa=>?_;have wa_s0:=sg w.heap.size hwa;have wa_s1:=sg (w.heap.size+1) hwa;obtain ⟨wa_c0,wa_c1,wa_c2,wa_c3,wa_c4,wa_c5,wa_c6,wa_c7,wa_c8,wa_c9,wa_c10,wa_c11⟩:=kz12 hwa w.heap.size (.int .i64 7) (.int .i64 o.client) (.int .i64 o.seq) (.string o.key) (.string o.who) (.string o.tkey) (.string o.twho) (.int .i64 o.item) (.int .i64 o.count) (.int .i64 o.price) (.bool o.buy) (.int .i64 o.id);obtain wa_c12:=kk1 hwa (w.heap.size+1) 7 (.func (.func 44) #[] #[]);have wa_b:Below w.heap.size w wa:=(by rw [hwa];exact bg);clear hwa)
      (refine wp_region_gr (by kernel_rfl) (by kernel_rfl) ?_;(repeat (go_big_quiet_step (first | (go_at_call 45;exact calls_gr (isPlace_any o.key o.who _ false Hp.out)) | fail)));refine wpQuiet_nil ?_;intro _ hw';obtain ⟨g,hw''⟩:=hw';subst hw'')
      go_wp2_with fail
      go_ret
      exact ⟨rfl,wa_b.trans ((gr_below wa g).mono (by omega))⟩
    ·have hrf:r=false:=by rw [←hr];simp [c4]
     have d:decide (o.seq≤1099511627776)=false:=by rw [decide_eq_false_iff_not];exact c4
     clear hr
     subst hrf
     go_enter Tryz.func24,Tryz.ntmps24
     go_wp2_with fail
     (refine wp_name fun wa hwa=>?_;have wa_s0:=sg w.heap.size hwa;have wa_s1:=sg (w.heap.size+1) hwa;obtain ⟨wa_c0,wa_c1,wa_c2,wa_c3,wa_c4,wa_c5,wa_c6,wa_c7,wa_c8,wa_c9,wa_c10,wa_c11⟩:=kz12 hwa w.heap.size (.int .i64 7) (.int .i64 o.client) (.int .i64 o.seq) (.string o.key) (.string o.who) (.string o.tkey) (.string o.twho) (.int .i64 o.item) (.int .i64 o.count) (.int .i64 o.price) (.bool o.buy) (.int .i64 o.id);obtain wa_c12:=kk1 hwa (w.heap.size+1) 7 (.func (.func 44) #[] #[]);have wa_b:Below w.heap.size w wa:=(by rw [hwa];exact bg);clear hwa)
     (refine wp_region_gr (by kernel_rfl) (by kernel_rfl) ?_;(repeat (go_big_quiet_step (fail)));refine wpQuiet_nil ?_;intro _ hw';obtain ⟨g,hw''⟩:=hw';subst hw'')
     go_wp2_with fail
     go_ret
     exact ⟨rfl,wa_b.trans ((gr_below wa g).mono (by omega))⟩
   ·have hrf:r=false:=by rw [←hr];simp [c3]
    have d:decide (1≤o.seq)=false:=by rw [decide_eq_false_iff_not];exact c3
    clear hr
    subst hrf
    go_enter Tryz.func24,Tryz.ntmps24
    go_wp2_with fail
    (refine wp_name fun wa hwa=>?_;have wa_s0:=sg w.heap.size hwa;have wa_s1:=sg (w.heap.size+1) hwa;obtain ⟨wa_c0,wa_c1,wa_c2,wa_c3,wa_c4,wa_c5,wa_c6,wa_c7,wa_c8,wa_c9,wa_c10,wa_c11⟩:=kz12 hwa w.heap.size (.int .i64 7) (.int .i64 o.client) (.int .i64 o.seq) (.string o.key) (.string o.who) (.string o.tkey) (.string o.twho) (.int .i64 o.item) (.int .i64 o.count) (.int .i64 o.price) (.bool o.buy) (.int .i64 o.id);obtain wa_c12:=kk1 hwa (w.heap.size+1) 7 (.func (.func 44) #[] #[]);have wa_b:Below w.heap.size w wa:=(by rw [hwa];exact bg);clear hwa)
    (refine wp_region_gr (by kernel_rfl) (by kernel_rfl) ?_;(repeat (go_big_quiet_step (fail)));refine wpQuiet_nil ?_;intro _ hw';obtain ⟨g,hw''⟩:=hw';subst hw'')
    go_wp2_with fail
    go_ret
    exact ⟨rfl,wa_b.trans ((gr_below wa g).mono (by omega))⟩
  ·have hrf:r=false:=by rw [←hr];simp [c2]
   have d:decide (o.client≤1048576)=false:=by rw [decide_eq_false_iff_not];exact c2
   clear hr
   subst hrf
   go_enter Tryz.func24,Tryz.ntmps24
   go_wp2_with fail
   (refine wp_name fun wa hwa=>?_;have wa_s0:=sg w.heap.size hwa;have wa_s1:=sg (w.heap.size+1) hwa;obtain ⟨wa_c0,wa_c1,wa_c2,wa_c3,wa_c4,wa_c5,wa_c6,wa_c7,wa_c8,wa_c9,wa_c10,wa_c11⟩:=kz12 hwa w.heap.size (.int .i64 7) (.int .i64 o.client) (.int .i64 o.seq) (.string o.key) (.string o.who) (.string o.tkey) (.string o.twho) (.int .i64 o.item) (.int .i64 o.count) (.int .i64 o.price) (.bool o.buy) (.int .i64 o.id);obtain wa_c12:=kk1 hwa (w.heap.size+1) 7 (.func (.func 44) #[] #[]);have wa_b:Below w.heap.size w wa:=(by rw [hwa];exact bg);clear hwa)
   (refine wp_region_gr (by kernel_rfl) (by kernel_rfl) ?_;(repeat (go_big_quiet_step (fail)));refine wpQuiet_nil ?_;intro _ hw';obtain ⟨g,hw''⟩:=hw';subst hw'')
   go_wp2_with fail
   go_ret
   exact ⟨rfl,wa_b.trans ((gr_below wa g).mono (by omega))⟩
 ·have hrf:r=false:=by rw [←hr];simp [c1]
  have d:decide (1≤o.client)=false:=by rw [decide_eq_false_iff_not];exact c1
  clear hr
  subst hrf
  go_enter Tryz.func24,Tryz.ntmps24
  go_wp2_with fail
  (refine wp_name fun wa hwa=>?_;have wa_s0:=sg w.heap.size hwa;have wa_s1:=sg (w.heap.size+1) hwa;obtain ⟨wa_c0,wa_c1,wa_c2,wa_c3,wa_c4,wa_c5,wa_c6,wa_c7,wa_c8,wa_c9,wa_c10,wa_c11⟩:=kz12 hwa w.heap.size (.int .i64 7) (.int .i64 o.client) (.int .i64 o.seq) (.string o.key) (.string o.who) (.string o.tkey) (.string o.twho) (.int .i64 o.item) (.int .i64 o.count) (.int .i64 o.price) (.bool o.buy) (.int .i64 o.id);obtain wa_c12:=kk1 hwa (w.heap.size+1) 7 (.func (.func 44) #[] #[]);have wa_b:Below w.heap.size w wa:=(by rw [hwa];exact bg);clear hwa)
  (refine wp_region_gr (by kernel_rfl) (by kernel_rfl) ?_;(repeat (go_big_quiet_step (fail)));refine wpQuiet_nil ?_;intro _ hw';obtain ⟨g,hw''⟩:=hw';subst hw'')
  go_wp2_with fail
  go_ret
  exact ⟨rfl,wa_b.trans ((gr_below wa g).mono (by omega))⟩
set_option maxRecDepth 20000 in
set_option maxHeartbeats 1000000 in
theorem may_any (o:Rq) (w:World) (r:Bool) (hr:mayO o=r) :
 Calls Tryz.prog 24 #[.agg #[.int .i64 o.kind,.int .i64 o.client,.int .i64 o.seq,.string o.key,.string o.who,.string o.tkey,.string o.twho,.int .i64 o.item,.int .i64 o.count,.int .i64 o.price,.bool o.buy,.int .i64 o.id]] w fun e w'=>e=.returned (.bool r)∧Below w.heap.size w w':=by
 obtain ⟨kind,client,seq,key,who,tkey,twho,item,count,price,buy,id⟩:=o
 by_cases h1:kind<1∨7<kind
 ·obtain rfl:r=false:=by rw [←hr];exact kind_out _ h1
  clear hr
  by_cases h2:kind<0
  ·have d:decide (kind<0)=true:=by rw [decide_eq_true_eq];exact h2
   clear h1
   go_enter Tryz.func24,Tryz.ntmps24
   go_wp2_with fail
   go_ret
   exact ⟨rfl,bg⟩
  by_cases h3:8≤kind
  ·have d:decide (kind<0)=false:=by rw [decide_eq_false_iff_not];exact h2
   have d2:decide (8≤kind)=true:=by rw [decide_eq_true_eq];exact h3
   clear h1
   go_enter Tryz.func24,Tryz.ntmps24
   go_wp2_with fail
   go_ret
   exact ⟨rfl,bg⟩
  ·obtain rfl:kind=0:=by omega
   have hfn:=nil_nil
   clear h1 h2 h3
   go_enter Tryz.func24,Tryz.ntmps24
   go_wp2_with fail
   go_ret
   exact ⟨rfl,bg⟩
 ·have h2:kind=1∨kind=2∨kind=3∨kind=4∨kind=5∨kind=6∨kind=7:=by omega
  rcases h2 with rfl | rfl | rfl | rfl | rfl | rfl | rfl
  ·exact may_1 ⟨1,client,seq,key,who,tkey,twho,item,count,price,buy,id⟩ w r hr
  ·exact may_2 ⟨2,client,seq,key,who,tkey,twho,item,count,price,buy,id⟩ w r hr
  ·exact may_3 ⟨3,client,seq,key,who,tkey,twho,item,count,price,buy,id⟩ w r hr
  ·exact may_4 ⟨4,client,seq,key,who,tkey,twho,item,count,price,buy,id⟩ w r hr
  ·exact may_5 ⟨5,client,seq,key,who,tkey,twho,item,count,price,buy,id⟩ w r hr
  ·exact may_6 ⟨6,client,seq,key,who,tkey,twho,item,count,price,buy,id⟩ w r hr
  ·exact may_7 ⟨7,client,seq,key,who,tkey,twho,item,count,price,buy,id⟩ w r hr
end Go.Proofs.YtogamdaomdoapaaGreat