/- Texts put together: Op. -/
import Derived.Test.YtogamdaomdoapaaZa04
namespace Go.Proofs.Ytogamdaomdoapaa
open Go.RowKit
structure Rq where
 kind:Int
 client:Int
 seq:Int
 key:ByteArray
 who:ByteArray
 tkey:ByteArray
 twho:ByteArray
 item:Int
 count:Int
 price:Int
 buy:Bool
 id:Int
def e0:ByteArray:=⟨#[]⟩
def eqR (a b:Rq):Bool:=decide (a.kind=b.kind∧a.client=b.client∧a.seq=b.seq∧a.key.toList=b.key.toList∧a.who.toList=b.who.toList∧a.tkey.toList=b.tkey.toList∧a.twho.toList=b.twho.toList∧a.item=b.item∧a.count=b.count∧a.price=b.price∧a.buy=b.buy∧a.id=b.id)
set_option maxHeartbeats 1000000 in
theorem eql_op.request (a b:Rq) (w:World) (r:Bool) (hr:eqR a b=r):(Op.equalIn 10000 71 (.agg #[.int .i64 a.kind,.int .i64 a.client,.int .i64 a.seq,.string a.key,.string a.who,.string a.tkey,.string a.twho,.int .i64 a.item,.int .i64 a.count,.int .i64 a.price,.bool a.buy,.int .i64 a.id]) (.agg #[.int .i64 b.kind,.int .i64 b.client,.int .i64 b.seq,.string b.key,.string b.who,.string b.tkey,.string b.twho,.int .i64 b.item,.int .i64 b.count,.int .i64 b.price,.bool b.buy,.int .i64 b.id])).run Try.prog w=.ok r w:=by
 subst hr
 unfold eqR
 go_simp
 by_cases h1:a.kind=b.kind
 ·by_cases h2:a.client=b.client
  ·by_cases h3:a.seq=b.seq
   ·by_cases h4:a.key.toList=b.key.toList
    ·by_cases h5:a.who.toList=b.who.toList
     ·by_cases h6:a.tkey.toList=b.tkey.toList
      ·by_cases h7:a.twho.toList=b.twho.toList
       ·by_cases h8:a.item=b.item
        ·by_cases h9:a.count=b.count
         ·by_cases h10:a.price=b.price
          ·by_cases h11:a.buy=b.buy
           ·by_cases h12:a.id=b.id
            ·simp [h1,h2,h3,h4,h5,h6,h7,h8,h9,h10,h11,h12]
            ·simp [h1,h2,h3,h4,h5,h6,h7,h8,h9,h10,h11,h12]
           ·simp [h1,h2,h3,h4,h5,h6,h7,h8,h9,h10,h11]
          ·simp [h1,h2,h3,h4,h5,h6,h7,h8,h9,h10]
         ·simp [h1,h2,h3,h4,h5,h6,h7,h8,h9]
        ·simp [h1,h2,h3,h4,h5,h6,h7,h8]
       ·simp [h1,h2,h3,h4,h5,h6,h7]
      ·simp [h1,h2,h3,h4,h5,h6]
     ·simp [h1,h2,h3,h4,h5]
    ·simp [h1,h2,h3,h4]
   ·simp [h1,h2,h3]
  ·simp [h1,h2]
 ·simp [h1]
theorem eql_api.Op (a b:Rq) (w:World) (r:Bool) (hr:eqR a b=r):(Op.equalIn 10000 30 (.agg #[.int .i64 a.kind,.int .i64 a.client,.int .i64 a.seq,.string a.key,.string a.who,.string a.tkey,.string a.twho,.int .i64 a.item,.int .i64 a.count,.int .i64 a.price,.bool a.buy,.int .i64 a.id]) (.agg #[.int .i64 b.kind,.int .i64 b.client,.int .i64 b.seq,.string b.key,.string b.who,.string b.tkey,.string b.twho,.int .i64 b.item,.int .i64 b.count,.int .i64 b.price,.bool b.buy,.int .i64 b.id])).run Try.prog w=.ok r w:=by
 subst hr
 unfold eqR
 go_simp
 by_cases h1:a.kind=b.kind
 ·by_cases h2:a.client=b.client
  ·by_cases h3:a.seq=b.seq
   ·by_cases h4:a.key.toList=b.key.toList
    ·by_cases h5:a.who.toList=b.who.toList
     ·by_cases h6:a.tkey.toList=b.tkey.toList
      ·by_cases h7:a.twho.toList=b.twho.toList
       ·by_cases h8:a.item=b.item
        ·by_cases h9:a.count=b.count
         ·by_cases h10:a.price=b.price
          ·by_cases h11:a.buy=b.buy
           ·by_cases h12:a.id=b.id
            ·simp [h1,h2,h3,h4,h5,h6,h7,h8,h9,h10,h11,h12]
            ·simp [h1,h2,h3,h4,h5,h6,h7,h8,h9,h10,h11,h12]
           ·simp [h1,h2,h3,h4,h5,h6,h7,h8,h9,h10,h11]
          ·simp [h1,h2,h3,h4,h5,h6,h7,h8,h9,h10]
         ·simp [h1,h2,h3,h4,h5,h6,h7,h8,h9]
        ·simp [h1,h2,h3,h4,h5,h6,h7,h8]
       ·simp [h1,h2,h3,h4,h5,h6,h7]
      ·simp [h1,h2,h3,h4,h5,h6]
     ·simp [h1,h2,h3,h4,h5]
    ·simp [h1,h2,h3,h4]
   ·simp [h1,h2,h3]
  ·simp [h1,h2]
 ·simp [h1]
set_option maxRecDepth 20000 in
theorem rest_any (o:Rq) (w:World) :
 Calls Try.prog 33 #[.agg #[.int .i64 o.kind,.int .i64 o.client,.int .i64 o.seq,.string o.key,.string o.who,.string o.tkey,.string o.twho,.int .i64 o.item,.int .i64 o.count,.int .i64 o.price,.bool o.buy,.int .i64 o.id]] w fun e w'=>e=.returned (.agg #[.int .i64 0,.int .i64 0,.int .i64 0,.string ⟨#[]⟩,.string ⟨#[]⟩,.string o.tkey,.string o.twho,.int .i64 o.item,.int .i64 o.count,.int .i64 o.price,.bool o.buy,.int .i64 o.id])∧Below w.heap.size w w':=by
 go_enter Try.func33,Try.ntmps33
 go_wp2_with fail
 refine bodyPost_ret (v:=.agg #[.int .i64 0,.int .i64 0,.int .i64 0,.string ⟨#[]⟩,.string ⟨#[]⟩,.string o.tkey,.string o.twho,.int .i64 o.item,.int .i64 o.count,.int .i64 o.price,.bool o.buy,.int .i64 o.id]) (by simp only [results,Try.results33];go_simp) rfl ?_
 exact ⟨rfl,bg⟩
def placeB (k v:ByteArray):Bool:=decide (1≤k.size∧k.size≤16∧1≤v.size∧v.size≤16)
theorem isPlace_any (k v:ByteArray) (w:World) (r:Bool) (hr:placeB k v=r) :
 Calls Try.prog 24 #[.agg #[.string k,.string v]] w fun e w'=>e=.returned (.bool r)∧Below w.heap.size w w':=by
 unfold placeB at hr
 by_cases h1:1≤k.size
 ·by_cases h2:k.size≤16
  ·by_cases h3:1≤v.size
   ·by_cases h4:v.size≤16
    ·obtain rfl:r=true:=by rw [←hr];simp [h1,h2,h3,h4]
     have d4:decide ((v.size:Int)≤16)=true:=by rw [decide_eq_true_eq];omega
     clear hr
     go_enter Try.func24,Try.ntmps24
     go_wp2_with fail
     go_ret
     exact ⟨rfl,bg⟩
    ·obtain rfl:r=false:=by rw [←hr];simp [h4]
     have d4:decide ((v.size:Int)≤16)=false:=by rw [decide_eq_false_iff_not];omega
     clear hr
     go_enter Try.func24,Try.ntmps24
     go_wp2_with fail
     go_ret
     exact ⟨rfl,bg⟩
   ·obtain rfl:r=false:=by rw [←hr];simp [h3]
    clear hr
    go_enter Try.func24,Try.ntmps24
    go_wp2_with fail
    go_ret
    exact ⟨rfl,bg⟩
  ·obtain rfl:r=false:=by rw [←hr];simp [h2]
   clear hr
   go_enter Try.func24,Try.ntmps24
   go_wp2_with fail
   go_ret
   exact ⟨rfl,bg⟩
 ·obtain rfl:r=false:=by rw [←hr];simp [h1]
  clear hr
  go_enter Try.func24,Try.ntmps24
  go_wp2_with fail
  go_ret
  exact ⟨rfl,bg⟩
def barO (o:Rq):Bool:=decide (o.tkey.toList=[]∧o.twho.toList=[]∧o.item=0∧o.count=0∧o.price=0∧o.buy=false∧o.id=0)
theorem bare_any (o:Rq) (w:World) (r:Bool) (hr:barO o=r) :
 Calls Try.prog 23 #[.agg #[.int .i64 o.kind,.int .i64 o.client,.int .i64 o.seq,.string o.key,.string o.who,.string o.tkey,.string o.twho,.int .i64 o.item,.int .i64 o.count,.int .i64 o.price,.bool o.buy,.int .i64 o.id]] w fun e w'=>e=.returned (.bool r)∧Below w.heap.size w w':=by
 have heq:=fun w=>eql_op.request ⟨0,0,0,⟨#[]⟩,⟨#[]⟩,o.tkey,o.twho,o.item,o.count,o.price,o.buy,o.id⟩ ⟨0,0,0,⟨#[]⟩,⟨#[]⟩,⟨#[]⟩,⟨#[]⟩,0,0,0,false,0⟩ w r (by rw [←hr];simp [eqR,barO])
 simp only at heq
 clear hr
 go_enter Try.func23,Try.ntmps23
 go_wp2_with fail
 refine (rest_any o _).mono ?_
 rintro e w1 ⟨rfl,hb⟩
 have hb1:=(Below.refl w.heap.size w).alloc (Nat.le_refl _) (.cells #[.int .i64 o.kind,.int .i64 o.client,.int .i64 o.seq,.string o.key,.string o.who,.string o.tkey,.string o.twho,.int .i64 o.item,.int .i64 o.count,.int .i64 o.price,.bool o.buy,.int .i64 o.id] 71) |>.trans (hb.mono (by simp))
 clear hb
 go_wp2_with fail
 go_ret
 exact ⟨rfl,hb1⟩
def cntO (o:Rq):Bool:=decide (0≤o.item∧o.item<4∧1≤o.count∧o.count≤1048576∧o.tkey.toList=[]∧o.twho.toList=[]∧o.price=0∧o.buy=false∧o.id=0)
set_option maxRecDepth 20000 in
set_option maxHeartbeats 1000000 in
theorem counts_any (o:Rq) (w:World) (r:Bool) (hr:cntO o=r) :
 Calls Try.prog 19 #[.agg #[.int .i64 o.kind,.int .i64 o.client,.int .i64 o.seq,.string o.key,.string o.who,.string o.tkey,.string o.twho,.int .i64 o.item,.int .i64 o.count,.int .i64 o.price,.bool o.buy,.int .i64 o.id]] w fun e w'=>e=.returned (.bool r)∧Below w.heap.size w w':=by
 unfold cntO at hr
 by_cases h1:0≤o.item
 ·by_cases h2:o.item<4
  ·by_cases h3:1≤o.count
   ·by_cases h4:o.count≤1048576
    ·have heq:=fun w=>eql_op.request ⟨0,0,0,⟨#[]⟩,⟨#[]⟩,o.tkey,o.twho,o.item,o.count,o.price,o.buy,o.id⟩ ⟨0,0,0,⟨#[]⟩,⟨#[]⟩,⟨#[]⟩,⟨#[]⟩,o.item,o.count,0,false,0⟩ w r (by rw [←hr];simp [eqR,h1,h2,h3,h4])
     simp only at heq
     clear hr
     go_enter Try.func19,Try.ntmps19
     go_wp2_with fail
     (refine wp_name fun wa hwa=>?_;have wa_s0:=sg w.heap.size hwa;obtain ⟨wa_c0,wa_c1,wa_c2,wa_c3,wa_c4,wa_c5,wa_c6,wa_c7,wa_c8,wa_c9,wa_c10,wa_c11⟩:=kz12 hwa w.heap.size (.int .i64 o.kind) (.int .i64 o.client) (.int .i64 o.seq) (.string o.key) (.string o.who) (.string o.tkey) (.string o.twho) (.int .i64 o.item) (.int .i64 o.count) (.int .i64 o.price) (.bool o.buy) (.int .i64 o.id);have wa_b:Below w.heap.size w wa:=(by rw [hwa];exact bg);clear hwa)
     (refine wp_region_gr (by kernel_rfl) (by kernel_rfl) ?_;(repeat (go_big_quiet_step (first | (go_at_call 33;exact calls_gr (rest_any o _)) | fail)));refine wpQuiet_nil ?_;intro _ hw';obtain ⟨g,hw''⟩:=hw';subst hw'')
     go_wp2_with fail
     go_ret
     exact ⟨rfl,wa_b.trans ((gr_below wa g).mono (by omega))⟩
    ·have d:decide (o.count≤1048576)=false:=by rw [decide_eq_false_iff_not];omega
     ((have hrf:r=false:=(by rw [←hr];simp [h4]));(subst hrf);(clear hr);go_enter Try.func19,Try.ntmps19;(go_wp2_with fail);(refine wp_name fun wa hwa=>?_;have wa_s0:=sg w.heap.size hwa;obtain ⟨wa_c0,wa_c1,wa_c2,wa_c3,wa_c4,wa_c5,wa_c6,wa_c7,wa_c8,wa_c9,wa_c10,wa_c11⟩:=kz12 hwa w.heap.size (.int .i64 o.kind) (.int .i64 o.client) (.int .i64 o.seq) (.string o.key) (.string o.who) (.string o.tkey) (.string o.twho) (.int .i64 o.item) (.int .i64 o.count) (.int .i64 o.price) (.bool o.buy) (.int .i64 o.id);have wa_b:Below w.heap.size w wa:=(by rw [hwa];exact bg);clear hwa);(refine wp_region_gr (by kernel_rfl) (by kernel_rfl) ?_;(repeat (go_big_quiet_step (fail)));refine wpQuiet_nil ?_;intro _ hw';obtain ⟨g,hw''⟩:=hw';subst hw'');(go_wp2_with fail);go_ret;exact ⟨rfl,wa_b.trans ((gr_below wa g).mono (by omega))⟩)
   ·have d:decide (1≤o.count)=false:=by rw [decide_eq_false_iff_not];omega
    ((have hrf:r=false:=(by rw [←hr];simp [h3]));(subst hrf);(clear hr);go_enter Try.func19,Try.ntmps19;(go_wp2_with fail);(refine wp_name fun wa hwa=>?_;have wa_s0:=sg w.heap.size hwa;obtain ⟨wa_c0,wa_c1,wa_c2,wa_c3,wa_c4,wa_c5,wa_c6,wa_c7,wa_c8,wa_c9,wa_c10,wa_c11⟩:=kz12 hwa w.heap.size (.int .i64 o.kind) (.int .i64 o.client) (.int .i64 o.seq) (.string o.key) (.string o.who) (.string o.tkey) (.string o.twho) (.int .i64 o.item) (.int .i64 o.count) (.int .i64 o.price) (.bool o.buy) (.int .i64 o.id);have wa_b:Below w.heap.size w wa:=(by rw [hwa];exact bg);clear hwa);(refine wp_region_gr (by kernel_rfl) (by kernel_rfl) ?_;(repeat (go_big_quiet_step (fail)));refine wpQuiet_nil ?_;intro _ hw';obtain ⟨g,hw''⟩:=hw';subst hw'');(go_wp2_with fail);go_ret;exact ⟨rfl,wa_b.trans ((gr_below wa g).mono (by omega))⟩)
  ·have d:decide (o.item<4)=false:=by rw [decide_eq_false_iff_not];omega
   ((have hrf:r=false:=(by rw [←hr];simp [h2]));(subst hrf);(clear hr);go_enter Try.func19,Try.ntmps19;(go_wp2_with fail);(refine wp_name fun wa hwa=>?_;have wa_s0:=sg w.heap.size hwa;obtain ⟨wa_c0,wa_c1,wa_c2,wa_c3,wa_c4,wa_c5,wa_c6,wa_c7,wa_c8,wa_c9,wa_c10,wa_c11⟩:=kz12 hwa w.heap.size (.int .i64 o.kind) (.int .i64 o.client) (.int .i64 o.seq) (.string o.key) (.string o.who) (.string o.tkey) (.string o.twho) (.int .i64 o.item) (.int .i64 o.count) (.int .i64 o.price) (.bool o.buy) (.int .i64 o.id);have wa_b:Below w.heap.size w wa:=(by rw [hwa];exact bg);clear hwa);(refine wp_region_gr (by kernel_rfl) (by kernel_rfl) ?_;(repeat (go_big_quiet_step (fail)));refine wpQuiet_nil ?_;intro _ hw';obtain ⟨g,hw''⟩:=hw';subst hw'');(go_wp2_with fail);go_ret;exact ⟨rfl,wa_b.trans ((gr_below wa g).mono (by omega))⟩)
 ·have d:decide (0≤o.item)=false:=by rw [decide_eq_false_iff_not];omega
  ((have hrf:r=false:=(by rw [←hr];simp [h1]));(subst hrf);(clear hr);go_enter Try.func19,Try.ntmps19;(go_wp2_with fail);(refine wp_name fun wa hwa=>?_;have wa_s0:=sg w.heap.size hwa;obtain ⟨wa_c0,wa_c1,wa_c2,wa_c3,wa_c4,wa_c5,wa_c6,wa_c7,wa_c8,wa_c9,wa_c10,wa_c11⟩:=kz12 hwa w.heap.size (.int .i64 o.kind) (.int .i64 o.client) (.int .i64 o.seq) (.string o.key) (.string o.who) (.string o.tkey) (.string o.twho) (.int .i64 o.item) (.int .i64 o.count) (.int .i64 o.price) (.bool o.buy) (.int .i64 o.id);have wa_b:Below w.heap.size w wa:=(by rw [hwa];exact bg);clear hwa);(refine wp_region_gr (by kernel_rfl) (by kernel_rfl) ?_;(repeat (go_big_quiet_step (fail)));refine wpQuiet_nil ?_;intro _ hw';obtain ⟨g,hw''⟩:=hw';subst hw'');(go_wp2_with fail);go_ret;exact ⟨rfl,wa_b.trans ((gr_below wa g).mono (by omega))⟩)
def canO (o:Rq):Bool:=decide (1≤o.id∧o.id≤1099511627776∧o.tkey.toList=[]∧o.twho.toList=[]∧o.item=0∧o.count=0∧o.price=0∧o.buy=false)
set_option maxRecDepth 20000 in
set_option maxHeartbeats 1000000 in
theorem cancels_any (o:Rq) (w:World) (r:Bool) (hr:canO o=r) :
 Calls Try.prog 22 #[.agg #[.int .i64 o.kind,.int .i64 o.client,.int .i64 o.seq,.string o.key,.string o.who,.string o.tkey,.string o.twho,.int .i64 o.item,.int .i64 o.count,.int .i64 o.price,.bool o.buy,.int .i64 o.id]] w fun e w'=>e=.returned (.bool r)∧Below w.heap.size w w':=by
 unfold canO at hr
 by_cases h1:1≤o.id
 ·by_cases h2:o.id≤1099511627776
  ·have heq:=fun w=>eql_op.request ⟨0,0,0,⟨#[]⟩,⟨#[]⟩,o.tkey,o.twho,o.item,o.count,o.price,o.buy,o.id⟩ ⟨0,0,0,⟨#[]⟩,⟨#[]⟩,⟨#[]⟩,⟨#[]⟩,0,0,0,false,o.id⟩ w r (by rw [←hr];simp [eqR,h1,h2])
   simp only at heq
   clear hr
   go_enter Try.func22,Try.ntmps22
   go_wp2_with fail
   (refine wp_name fun wa hwa=>?_;have wa_s0:=sg w.heap.size hwa;obtain ⟨wa_c0,wa_c1,wa_c2,wa_c3,wa_c4,wa_c5,wa_c6,wa_c7,wa_c8,wa_c9,wa_c10,wa_c11⟩:=kz12 hwa w.heap.size (.int .i64 o.kind) (.int .i64 o.client) (.int .i64 o.seq) (.string o.key) (.string o.who) (.string o.tkey) (.string o.twho) (.int .i64 o.item) (.int .i64 o.count) (.int .i64 o.price) (.bool o.buy) (.int .i64 o.id);have wa_b:Below w.heap.size w wa:=(by rw [hwa];exact bg);clear hwa)
   (refine wp_region_gr (by kernel_rfl) (by kernel_rfl) ?_;(repeat (go_big_quiet_step (first | (go_at_call 33;exact calls_gr (rest_any o _)) | fail)));refine wpQuiet_nil ?_;intro _ hw';obtain ⟨g,hw''⟩:=hw';subst hw'')
   go_wp2_with fail
   go_ret
   exact ⟨rfl,wa_b.trans ((gr_below wa g).mono (by omega))⟩
  ·have d:decide (o.id≤1099511627776)=false:=by rw [decide_eq_false_iff_not];omega
   ((have hrf:r=false:=(by rw [←hr];simp [h2]));(subst hrf);(clear hr);go_enter Try.func22,Try.ntmps22;(go_wp2_with fail);(refine wp_name fun wa hwa=>?_;have wa_s0:=sg w.heap.size hwa;obtain ⟨wa_c0,wa_c1,wa_c2,wa_c3,wa_c4,wa_c5,wa_c6,wa_c7,wa_c8,wa_c9,wa_c10,wa_c11⟩:=kz12 hwa w.heap.size (.int .i64 o.kind) (.int .i64 o.client) (.int .i64 o.seq) (.string o.key) (.string o.who) (.string o.tkey) (.string o.twho) (.int .i64 o.item) (.int .i64 o.count) (.int .i64 o.price) (.bool o.buy) (.int .i64 o.id);have wa_b:Below w.heap.size w wa:=(by rw [hwa];exact bg);clear hwa);(refine wp_region_gr (by kernel_rfl) (by kernel_rfl) ?_;(repeat (go_big_quiet_step (fail)));refine wpQuiet_nil ?_;intro _ hw';obtain ⟨g,hw''⟩:=hw';subst hw'');(go_wp2_with fail);go_ret;exact ⟨rfl,wa_b.trans ((gr_below wa g).mono (by omega))⟩)
 ·have d:decide (1≤o.id)=false:=by rw [decide_eq_false_iff_not];omega
  ((have hrf:r=false:=(by rw [←hr];simp [h1]));(subst hrf);(clear hr);go_enter Try.func22,Try.ntmps22;(go_wp2_with fail);(refine wp_name fun wa hwa=>?_;have wa_s0:=sg w.heap.size hwa;obtain ⟨wa_c0,wa_c1,wa_c2,wa_c3,wa_c4,wa_c5,wa_c6,wa_c7,wa_c8,wa_c9,wa_c10,wa_c11⟩:=kz12 hwa w.heap.size (.int .i64 o.kind) (.int .i64 o.client) (.int .i64 o.seq) (.string o.key) (.string o.who) (.string o.tkey) (.string o.twho) (.int .i64 o.item) (.int .i64 o.count) (.int .i64 o.price) (.bool o.buy) (.int .i64 o.id);have wa_b:Below w.heap.size w wa:=(by rw [hwa];exact bg);clear hwa);(refine wp_region_gr (by kernel_rfl) (by kernel_rfl) ?_;(repeat (go_big_quiet_step (fail)));refine wpQuiet_nil ?_;intro _ hw';obtain ⟨g,hw''⟩:=hw';subst hw'');(go_wp2_with fail);go_ret;exact ⟨rfl,wa_b.trans ((gr_below wa g).mono (by omega))⟩)
def ordO (o:Rq):Bool:=decide (1≤o.item∧1≤o.price∧o.price≤1024)&&cntO { o with price:=0,buy:=false }
set_option maxRecDepth 20000 in
set_option maxHeartbeats 1000000 in
theorem orders_any (o:Rq) (w:World) (r:Bool) (hr:ordO o=r) :
 Calls Try.prog 21 #[.agg #[.int .i64 o.kind,.int .i64 o.client,.int .i64 o.seq,.string o.key,.string o.who,.string o.tkey,.string o.twho,.int .i64 o.item,.int .i64 o.count,.int .i64 o.price,.bool o.buy,.int .i64 o.id]] w fun e w'=>e=.returned (.bool r)∧Below w.heap.size w w':=by
 unfold ordO at hr
 by_cases h1:1≤o.item
 ·by_cases h2:1≤o.price
  ·by_cases h3:o.price≤1024
   ·have hcn:=counts_any { o with price:=0,buy:=false }
    have hcr:cntO { o with price:=0,buy:=false }=r:=by rw [←hr];simp [h1,h2,h3]
    simp only at hcn
    have Hcn:=Lib.hid hcn
    have Hcr:=Lib.hid hcr
    clear hr hcn hcr
    go_enter Try.func21,Try.ntmps21
    go_wp2_with fail
    refine (Hcn.out _ r Hcr.out).mono ?_
    rintro e w1 ⟨rfl,hb⟩
    have hb1:Below w.heap.size w w1:=(by refine Below.trans ?_ (hb.mono ?_);exact bg;simp)
    clear hb
    go_wp2_with fail
    go_ret
    exact ⟨rfl,hb1⟩
   ·have d:decide (o.price≤1024)=false:=by rw [decide_eq_false_iff_not];omega
    ((have hrf:r=false:=(by rw [←hr];simp [h3]));(subst hrf);(clear hr);go_enter Try.func21,Try.ntmps21;(go_wp2_with fail);go_ret;exact ⟨rfl,bg⟩)
  ·have d:decide (1≤o.price)=false:=by rw [decide_eq_false_iff_not];omega
   ((have hrf:r=false:=(by rw [←hr];simp [h2]));(subst hrf);(clear hr);go_enter Try.func21,Try.ntmps21;(go_wp2_with fail);go_ret;exact ⟨rfl,bg⟩)
 ·have d:decide (1≤o.item)=false:=by rw [decide_eq_false_iff_not];omega
  ((have hrf:r=false:=(by rw [←hr];simp [h1]));(subst hrf);(clear hr);go_enter Try.func21,Try.ntmps21;(go_wp2_with fail);go_ret;exact ⟨rfl,bg⟩)
def sendO (o:Rq):Bool:=placeB o.tkey o.twho&&cntO { o with tkey:=e0,twho:=e0 }
set_option maxRecDepth 20000 in
set_option maxHeartbeats 1000000 in
theorem sends_any (o:Rq) (w:World) (r:Bool) (hr:sendO o=r) :
 Calls Try.prog 20 #[.agg #[.int .i64 o.kind,.int .i64 o.client,.int .i64 o.seq,.string o.key,.string o.who,.string o.tkey,.string o.twho,.int .i64 o.item,.int .i64 o.count,.int .i64 o.price,.bool o.buy,.int .i64 o.id]] w fun e w'=>e=.returned (.bool r)∧Below w.heap.size w w':=by
 unfold sendO at hr
 cases h1:placeB o.tkey o.twho with
 | true =>
  have hcn:=counts_any { o with tkey:=e0,twho:=e0 }
  have hcr:cntO { o with tkey:=e0,twho:=e0 }=r:=by rw [←hr,h1];rfl
  simp only [e0] at hcn
  have Hcn:=Lib.hid hcn
  have Hcr:=Lib.hid hcr
  have H1:=Lib.hid h1
  clear hr hcn hcr h1
  go_enter Try.func20,Try.ntmps20
  go_wp2_with fail
  (refine calls_name fun wa hwa=>?_;have wa_s0:=sg w.heap.size hwa;obtain ⟨wa_c0,wa_c1,wa_c2,wa_c3,wa_c4,wa_c5,wa_c6,wa_c7,wa_c8,wa_c9,wa_c10,wa_c11⟩:=kz12 hwa w.heap.size (.int .i64 o.kind) (.int .i64 o.client) (.int .i64 o.seq) (.string o.key) (.string o.who) (.string ⟨#[]⟩) (.string ⟨#[]⟩) (.int .i64 o.item) (.int .i64 o.count) (.int .i64 o.price) (.bool o.buy) (.int .i64 o.id);have wa_b:Below w.heap.size w wa:=(by rw [hwa];exact bg);clear hwa)
  refine (isPlace_any o.tkey o.twho _ true H1.out).mono ?_
  (rintro e w1 ⟨rfl,w1_h⟩;obtain ⟨w1_hc,w1_hf⟩:=bcell w1_h;have w1_z:=w1_h.size;have w1_b:=wa_b.trans (w1_h.mono (by have:=wa_b.size;omega));have w1_le:=w1_b.size;have w1_s0:w.heap.size<w1.heap.size:=(by omega);clear w1_h)
  go_wp2_with fail
  (refine calls_name fun wb hwb=>?_;have wb_b:Below w.heap.size w wb:=(by rw [hwb];exact bg);clear hwb)
  refine (Hcn.out _ r Hcr.out).mono ?_
  (rintro e w2 ⟨rfl,w2_h⟩;obtain ⟨w2_hc,w2_hf⟩:=bcell w2_h;have w2_z:=w2_h.size;have w2_b:=wb_b.trans (w2_h.mono (by have:=wb_b.size;omega));have w2_le:=w2_b.size;clear w2_h)
  go_wp2_with fail
  go_ret
  exact ⟨rfl,bg⟩
 | false =>
  obtain rfl:r=false:=by rw [←hr,h1];rfl
  have H1:=Lib.hid h1
  clear hr h1
  go_enter Try.func20,Try.ntmps20
  go_wp2_with fail
  (refine calls_name fun wa hwa=>?_;have wa_b:Below w.heap.size w wa:=(by rw [hwa];exact bg);clear hwa)
  refine (isPlace_any o.tkey o.twho _ false H1.out).mono ?_
  (rintro e w1 ⟨rfl,w1_h⟩;obtain ⟨w1_hc,w1_hf⟩:=bcell w1_h;have w1_z:=w1_h.size;have w1_b:=wa_b.trans (w1_h.mono (by have:=wa_b.size;omega));have w1_le:=w1_b.size;clear w1_h)
  go_wp2_with fail
  go_ret
  exact ⟨rfl,bg⟩
def kindO (o:Rq):Bool:=if o.kind=1∨o.kind=6 then cntO o else if o.kind=2 then sendO o else if o.kind=3 then ordO o else if o.kind=4 then canO o else if o.kind=5∨o.kind=7 then barO o else false
def mayO (o:Rq):Bool:=decide (1≤o.client∧o.client≤1048576∧1≤o.seq∧o.seq≤1099511627776)&&placeB o.key o.who&&kindO o
end Go.Proofs.Ytogamdaomdoapaa