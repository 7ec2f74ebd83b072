/- Texts put together: Op, Ths, Rd, RdRaw, Take. -/
import Derived.Test.YtogamdaomdoapaaGreatGa01
import Derived.Test.YtogamdaomdoapaaGreatGa02
import Derived.Laws.Bits64b
import Derived.Laws.Entries
namespace Go.Proofs.YtogamdaomdoapaaGreat
open Go.Value renaming int→aI,string→aS,bool→aB
open Go.IntKind renaming i64→aK
open Go.Lib renaming hid→uH
open Go.RowKit
structure Rq where
 kind:Int
 client:Int
 seq:Int
 key:ByteArray
 who:ByteArray
 tkey:ByteArray
 twho:ByteArray
 item:Int
 count:Int
 price:Int
 buy:Bool
 id:Int
def e0:ByteArray:=⟨#[]⟩
def eqR (a b:Rq):Bool:=decide (a.kind=b.kind∧a.client=b.client∧a.seq=b.seq∧a.key.toList=b.key.toList∧a.who.toList=b.who.toList∧a.tkey.toList=b.tkey.toList∧a.twho.toList=b.twho.toList∧a.item=b.item∧a.count=b.count∧a.price=b.price∧a.buy=b.buy∧a.id=b.id)
set_option maxHeartbeats 1000000 in
theorem p0k.request (a b:Rq) (w:World) (r:Bool) (hr:eqR a b=r):(Op.equalIn 10000 99 (.agg #[aI aK a.kind,aI aK a.client,aI aK a.seq,aS a.key,aS a.who,aS a.tkey,aS a.twho,aI aK a.item,aI aK a.count,aI aK a.price,aB a.buy,aI aK a.id]) (.agg #[aI aK b.kind,aI aK b.client,aI aK b.seq,aS b.key,aS b.who,aS b.tkey,aS b.twho,aI aK b.item,aI aK b.count,aI aK b.price,aB b.buy,aI aK b.id])).run Tryz.prog w=.ok r w:=by
 subst hr
 unfold eqR
 go_simp
 by_cases h1:a.kind=b.kind
 ·by_cases h2:a.client=b.client
  ·by_cases h3:a.seq=b.seq
   ·by_cases h4:a.key.toList=b.key.toList
    ·by_cases h5:a.who.toList=b.who.toList
     ·by_cases h6:a.tkey.toList=b.tkey.toList
      ·by_cases h7:a.twho.toList=b.twho.toList
       ·by_cases h8:a.item=b.item
        ·by_cases h9:a.count=b.count
         ·by_cases h10:a.price=b.price
          ·by_cases h11:a.buy=b.buy
           ·by_cases h12:a.id=b.id
            ·simp [h1,h2,h3,h4,h5,h6,h7,h8,h9,h10,h11,h12]
            ·simp [h1,h2,h3,h4,h5,h6,h7,h8,h9,h10,h11,h12]
           ·simp [h1,h2,h3,h4,h5,h6,h7,h8,h9,h10,h11]
          ·simp [h1,h2,h3,h4,h5,h6,h7,h8,h9,h10]
         ·simp [h1,h2,h3,h4,h5,h6,h7,h8,h9]
        ·simp [h1,h2,h3,h4,h5,h6,h7,h8]
       ·simp [h1,h2,h3,h4,h5,h6,h7]
      ·simp [h1,h2,h3,h4,h5,h6]
     ·simp [h1,h2,h3,h4,h5]
    ·simp [h1,h2,h3,h4]
   ·simp [h1,h2,h3]
  ·simp [h1,h2]
 ·simp [h1]
theorem eql_api.Op (a b:Rq) (w:World) (r:Bool) (hr:eqR a b=r):(Op.equalIn 10000 30 (.agg #[aI aK a.kind,aI aK a.client,aI aK a.seq,aS a.key,aS a.who,aS a.tkey,aS a.twho,aI aK a.item,aI aK a.count,aI aK a.price,aB a.buy,aI aK a.id]) (.agg #[aI aK b.kind,aI aK b.client,aI aK b.seq,aS b.key,aS b.who,aS b.tkey,aS b.twho,aI aK b.item,aI aK b.count,aI aK b.price,aB b.buy,aI aK b.id])).run Tryz.prog w=.ok r w:=by
 subst hr
 unfold eqR
 go_simp
 by_cases h1:a.kind=b.kind
 ·by_cases h2:a.client=b.client
  ·by_cases h3:a.seq=b.seq
   ·by_cases h4:a.key.toList=b.key.toList
    ·by_cases h5:a.who.toList=b.who.toList
     ·by_cases h6:a.tkey.toList=b.tkey.toList
      ·by_cases h7:a.twho.toList=b.twho.toList
       ·by_cases h8:a.item=b.item
        ·by_cases h9:a.count=b.count
         ·by_cases h10:a.price=b.price
          ·by_cases h11:a.buy=b.buy
           ·by_cases h12:a.id=b.id
            ·simp [h1,h2,h3,h4,h5,h6,h7,h8,h9,h10,h11,h12]
            ·simp [h1,h2,h3,h4,h5,h6,h7,h8,h9,h10,h11,h12]
           ·simp [h1,h2,h3,h4,h5,h6,h7,h8,h9,h10,h11]
          ·simp [h1,h2,h3,h4,h5,h6,h7,h8,h9,h10]
         ·simp [h1,h2,h3,h4,h5,h6,h7,h8,h9]
        ·simp [h1,h2,h3,h4,h5,h6,h7,h8]
       ·simp [h1,h2,h3,h4,h5,h6,h7]
      ·simp [h1,h2,h3,h4,h5,h6]
     ·simp [h1,h2,h3,h4,h5]
    ·simp [h1,h2,h3,h4]
   ·simp [h1,h2,h3]
  ·simp [h1,h2]
 ·simp [h1]
set_option maxRecDepth 20000 in
theorem m0z (o:Rq) (w:World) :
 Calls Tryz.prog 68 #[.agg #[aI aK o.kind,aI aK o.client,aI aK o.seq,aS o.key,aS o.who,aS o.tkey,aS o.twho,aI aK o.item,aI aK o.count,aI aK o.price,aB o.buy,aI aK o.id]] w fun e w'=>e=.returned (.agg #[aI aK 0,aI aK 0,aI aK 0,aS ⟨#[]⟩,aS ⟨#[]⟩,aS o.tkey,aS o.twho,aI aK o.item,aI aK o.count,aI aK o.price,aB o.buy,aI aK o.id])∧Below w.heap.size w w':=by
 go_enter Tryz.func68,Tryz.ntmps68
 go_wp2_with fail
 refine bodyPost_ret (v:=.agg #[aI aK 0,aI aK 0,aI aK 0,aS ⟨#[]⟩,aS ⟨#[]⟩,aS o.tkey,aS o.twho,aI aK o.item,aI aK o.count,aI aK o.price,aB o.buy,aI aK o.id]) (by simp only [results,Tryz.results68];go_simp) rfl ?_
 exact ⟨rfl,bg⟩
def b0v (k v:ByteArray):Bool:=decide (1≤k.size∧k.size≤16∧1≤v.size∧v.size≤16)
theorem c0o (k v:ByteArray) (w:World) (r:Bool) (hr:b0v k v=r) :
 Calls Tryz.prog 45 #[.agg #[aS k,aS v]] w fun e w'=>e=.returned (aB r)∧Below w.heap.size w w':=by
 unfold b0v at hr
 by_cases h1:1≤k.size
 ·by_cases h2:k.size≤16
  ·by_cases h3:1≤v.size
   ·by_cases h4:v.size≤16
    ·obtain rfl:r=true:=by rw [←hr];simp [h1,h2,h3,h4]
     have d4:decide ((v.size:Int)≤16)=true:=by rw [decide_eq_true_eq];omega
     clear hr
     go_enter Tryz.func45,Tryz.ntmps45
     go_wp2_with fail
     go_ret
     exact ⟨rfl,bg⟩
    ·obtain rfl:r=false:=by rw [←hr];simp [h4]
     have d4:decide ((v.size:Int)≤16)=false:=by rw [decide_eq_false_iff_not];omega
     clear hr
     go_enter Tryz.func45,Tryz.ntmps45
     go_wp2_with fail
     go_ret
     exact ⟨rfl,bg⟩
   ·obtain rfl:r=false:=by rw [←hr];simp [h3]
    clear hr
    go_enter Tryz.func45,Tryz.ntmps45
    go_wp2_with fail
    go_ret
    exact ⟨rfl,bg⟩
  ·obtain rfl:r=false:=by rw [←hr];simp [h2]
   clear hr
   go_enter Tryz.func45,Tryz.ntmps45
   go_wp2_with fail
   go_ret
   exact ⟨rfl,bg⟩
 ·obtain rfl:r=false:=by rw [←hr];simp [h1]
  clear hr
  go_enter Tryz.func45,Tryz.ntmps45
  go_wp2_with fail
  go_ret
  exact ⟨rfl,bg⟩
def barO (o:Rq):Bool:=decide (o.tkey.toList=[]∧o.twho.toList=[]∧o.item=0∧o.count=0∧o.price=0∧o.buy=false∧o.id=0)
theorem t0g (o:Rq) (w:World) (r:Bool) (hr:barO o=r) :
 Calls Tryz.prog 44 #[.agg #[aI aK o.kind,aI aK o.client,aI aK o.seq,aS o.key,aS o.who,aS o.tkey,aS o.twho,aI aK o.item,aI aK o.count,aI aK o.price,aB o.buy,aI aK o.id]] w fun e w'=>e=.returned (aB r)∧Below w.heap.size w w':=by
 have heq:=fun w=>p0k.request ⟨0,0,0,⟨#[]⟩,⟨#[]⟩,o.tkey,o.twho,o.item,o.count,o.price,o.buy,o.id⟩ ⟨0,0,0,⟨#[]⟩,⟨#[]⟩,⟨#[]⟩,⟨#[]⟩,0,0,0,false,0⟩ w r (by rw [←hr];simp [eqR,barO])
 simp only at heq
 clear hr
 go_enter Tryz.func44,Tryz.ntmps44
 go_wp2_with fail
 refine (m0z o _).mono ?_
 rintro e w1 ⟨rfl,hb⟩
 have hb1:=(Below.refl w.heap.size w).alloc (Nat.le_refl _) (.cells #[aI aK o.kind,aI aK o.client,aI aK o.seq,aS o.key,aS o.who,aS o.tkey,aS o.twho,aI aK o.item,aI aK o.count,aI aK o.price,aB o.buy,aI aK o.id] 99) |>.trans (hb.mono (by simp))
 clear hb
 go_wp2_with fail
 go_ret
 exact ⟨rfl,hb1⟩
def cntO (o:Rq):Bool:=decide (0≤o.item∧o.item<4∧1≤o.count∧o.count≤1048576∧o.tkey.toList=[]∧o.twho.toList=[]∧o.price=0∧o.buy=false∧o.id=0)
set_option maxRecDepth 20000 in
set_option maxHeartbeats 1000000 in
theorem h0c (o:Rq) (w:World) (r:Bool) (hr:cntO o=r) :
 Calls Tryz.prog 40 #[.agg #[aI aK o.kind,aI aK o.client,aI aK o.seq,aS o.key,aS o.who,aS o.tkey,aS o.twho,aI aK o.item,aI aK o.count,aI aK o.price,aB o.buy,aI aK o.id]] w fun e w'=>e=.returned (aB r)∧Below w.heap.size w w':=by
 unfold cntO at hr
 by_cases h1:0≤o.item
 ·by_cases h2:o.item<4
  ·by_cases h3:1≤o.count
   ·by_cases h4:o.count≤1048576
    ·have heq:=fun w=>p0k.request ⟨0,0,0,⟨#[]⟩,⟨#[]⟩,o.tkey,o.twho,o.item,o.count,o.price,o.buy,o.id⟩ ⟨0,0,0,⟨#[]⟩,⟨#[]⟩,⟨#[]⟩,⟨#[]⟩,o.item,o.count,0,false,0⟩ w r (by rw [←hr];simp [eqR,h1,h2,h3,h4])
     simp only at heq
     clear hr
     go_enter Tryz.func40,Tryz.ntmps40
     go_wp2_with fail
     (refine a0d fun wa hwa=>?_;have wa_s0:=sg w.heap.size hwa;obtain ⟨wa_c0,wa_c1,wa_c2,wa_c3,wa_c4,wa_c5,wa_c6,wa_c7,wa_c8,wa_c9,wa_c10,wa_c11⟩:=kz12 hwa w.heap.size (aI aK o.kind) (aI aK o.client) (aI aK o.seq) (aS o.key) (aS o.who) (aS o.tkey) (aS o.twho) (aI aK o.item) (aI aK o.count) (aI aK o.price) (aB o.buy) (aI aK o.id);have wa_b:Below w.heap.size w wa:=(by rw [hwa];exact bg);clear hwa)
     (refine grA ?_;(repeat (go_big_quiet_step (first | (go_at_call 68;exact a0i (m0z o _)) | fail)));refine grN fun g=>?_)
     go_wp2_with fail
     go_ret
     exact ⟨rfl,wa_b.trans ((a0f wa g).mono (by omega))⟩
    ·have d:decide (o.count≤1048576)=false:=by rw [decide_eq_false_iff_not];omega
     ((have hrf:r=false:=(by rw [←hr];simp [h4]));(subst hrf);(clear hr);go_enter Tryz.func40,Tryz.ntmps40;(go_wp2_with fail);(refine a0d fun wa hwa=>?_;have wa_s0:=sg w.heap.size hwa;obtain ⟨wa_c0,wa_c1,wa_c2,wa_c3,wa_c4,wa_c5,wa_c6,wa_c7,wa_c8,wa_c9,wa_c10,wa_c11⟩:=kz12 hwa w.heap.size (aI aK o.kind) (aI aK o.client) (aI aK o.seq) (aS o.key) (aS o.who) (aS o.tkey) (aS o.twho) (aI aK o.item) (aI aK o.count) (aI aK o.price) (aB o.buy) (aI aK o.id);have wa_b:Below w.heap.size w wa:=(by rw [hwa];exact bg);clear hwa);(refine grA ?_;(repeat (go_big_quiet_step (fail)));refine grN fun g=>?_);(go_wp2_with fail);go_ret;exact ⟨rfl,wa_b.trans ((a0f wa g).mono (by omega))⟩)
   ·have d:decide (1≤o.count)=false:=by rw [decide_eq_false_iff_not];omega
    ((have hrf:r=false:=(by rw [←hr];simp [h3]));(subst hrf);(clear hr);go_enter Tryz.func40,Tryz.ntmps40;(go_wp2_with fail);(refine a0d fun wa hwa=>?_;have wa_s0:=sg w.heap.size hwa;obtain ⟨wa_c0,wa_c1,wa_c2,wa_c3,wa_c4,wa_c5,wa_c6,wa_c7,wa_c8,wa_c9,wa_c10,wa_c11⟩:=kz12 hwa w.heap.size (aI aK o.kind) (aI aK o.client) (aI aK o.seq) (aS o.key) (aS o.who) (aS o.tkey) (aS o.twho) (aI aK o.item) (aI aK o.count) (aI aK o.price) (aB o.buy) (aI aK o.id);have wa_b:Below w.heap.size w wa:=(by rw [hwa];exact bg);clear hwa);(refine grA ?_;(repeat (go_big_quiet_step (fail)));refine grN fun g=>?_);(go_wp2_with fail);go_ret;exact ⟨rfl,wa_b.trans ((a0f wa g).mono (by omega))⟩)
  ·have d:decide (o.item<4)=false:=by rw [decide_eq_false_iff_not];omega
   ((have hrf:r=false:=(by rw [←hr];simp [h2]));(subst hrf);(clear hr);go_enter Tryz.func40,Tryz.ntmps40;(go_wp2_with fail);(refine a0d fun wa hwa=>?_;have wa_s0:=sg w.heap.size hwa;obtain ⟨wa_c0,wa_c1,wa_c2,wa_c3,wa_c4,wa_c5,wa_c6,wa_c7,wa_c8,wa_c9,wa_c10,wa_c11⟩:=kz12 hwa w.heap.size (aI aK o.kind) (aI aK o.client) (aI aK o.seq) (aS o.key) (aS o.who) (aS o.tkey) (aS o.twho) (aI aK o.item) (aI aK o.count) (aI aK o.price) (aB o.buy) (aI aK o.id);have wa_b:Below w.heap.size w wa:=(by rw [hwa];exact bg);clear hwa);(refine grA ?_;(repeat (go_big_quiet_step (fail)));refine grN fun g=>?_);(go_wp2_with fail);go_ret;exact ⟨rfl,wa_b.trans ((a0f wa g).mono (by omega))⟩)
 ·have d:decide (0≤o.item)=false:=by rw [decide_eq_false_iff_not];omega
  ((have hrf:r=false:=(by rw [←hr];simp [h1]));(subst hrf);(clear hr);go_enter Tryz.func40,Tryz.ntmps40;(go_wp2_with fail);(refine a0d fun wa hwa=>?_;have wa_s0:=sg w.heap.size hwa;obtain ⟨wa_c0,wa_c1,wa_c2,wa_c3,wa_c4,wa_c5,wa_c6,wa_c7,wa_c8,wa_c9,wa_c10,wa_c11⟩:=kz12 hwa w.heap.size (aI aK o.kind) (aI aK o.client) (aI aK o.seq) (aS o.key) (aS o.who) (aS o.tkey) (aS o.twho) (aI aK o.item) (aI aK o.count) (aI aK o.price) (aB o.buy) (aI aK o.id);have wa_b:Below w.heap.size w wa:=(by rw [hwa];exact bg);clear hwa);(refine grA ?_;(repeat (go_big_quiet_step (fail)));refine grN fun g=>?_);(go_wp2_with fail);go_ret;exact ⟨rfl,wa_b.trans ((a0f wa g).mono (by omega))⟩)
def canO (o:Rq):Bool:=decide (1≤o.id∧o.id≤1099511627776∧o.tkey.toList=[]∧o.twho.toList=[]∧o.item=0∧o.count=0∧o.price=0∧o.buy=false)
set_option maxRecDepth 20000 in
set_option maxHeartbeats 1000000 in
theorem r0f (o:Rq) (w:World) (r:Bool) (hr:canO o=r) :
 Calls Tryz.prog 43 #[.agg #[aI aK o.kind,aI aK o.client,aI aK o.seq,aS o.key,aS o.who,aS o.tkey,aS o.twho,aI aK o.item,aI aK o.count,aI aK o.price,aB o.buy,aI aK o.id]] w fun e w'=>e=.returned (aB r)∧Below w.heap.size w w':=by
 unfold canO at hr
 by_cases h1:1≤o.id
 ·by_cases h2:o.id≤1099511627776
  ·have heq:=fun w=>p0k.request ⟨0,0,0,⟨#[]⟩,⟨#[]⟩,o.tkey,o.twho,o.item,o.count,o.price,o.buy,o.id⟩ ⟨0,0,0,⟨#[]⟩,⟨#[]⟩,⟨#[]⟩,⟨#[]⟩,0,0,0,false,o.id⟩ w r (by rw [←hr];simp [eqR,h1,h2])
   simp only at heq
   clear hr
   go_enter Tryz.func43,Tryz.ntmps43
   go_wp2_with fail
   (refine a0d fun wa hwa=>?_;have wa_s0:=sg w.heap.size hwa;obtain ⟨wa_c0,wa_c1,wa_c2,wa_c3,wa_c4,wa_c5,wa_c6,wa_c7,wa_c8,wa_c9,wa_c10,wa_c11⟩:=kz12 hwa w.heap.size (aI aK o.kind) (aI aK o.client) (aI aK o.seq) (aS o.key) (aS o.who) (aS o.tkey) (aS o.twho) (aI aK o.item) (aI aK o.count) (aI aK o.price) (aB o.buy) (aI aK o.id);have wa_b:Below w.heap.size w wa:=(by rw [hwa];exact bg);clear hwa)
   (refine grA ?_;(repeat (go_big_quiet_step (first | (go_at_call 68;exact a0i (m0z o _)) | fail)));refine grN fun g=>?_)
   go_wp2_with fail
   go_ret
   exact ⟨rfl,wa_b.trans ((a0f wa g).mono (by omega))⟩
  ·have d:decide (o.id≤1099511627776)=false:=by rw [decide_eq_false_iff_not];omega
   ((have hrf:r=false:=(by rw [←hr];simp [h2]));(subst hrf);(clear hr);go_enter Tryz.func43,Tryz.ntmps43;(go_wp2_with fail);(refine a0d fun wa hwa=>?_;have wa_s0:=sg w.heap.size hwa;obtain ⟨wa_c0,wa_c1,wa_c2,wa_c3,wa_c4,wa_c5,wa_c6,wa_c7,wa_c8,wa_c9,wa_c10,wa_c11⟩:=kz12 hwa w.heap.size (aI aK o.kind) (aI aK o.client) (aI aK o.seq) (aS o.key) (aS o.who) (aS o.tkey) (aS o.twho) (aI aK o.item) (aI aK o.count) (aI aK o.price) (aB o.buy) (aI aK o.id);have wa_b:Below w.heap.size w wa:=(by rw [hwa];exact bg);clear hwa);(refine grA ?_;(repeat (go_big_quiet_step (fail)));refine grN fun g=>?_);(go_wp2_with fail);go_ret;exact ⟨rfl,wa_b.trans ((a0f wa g).mono (by omega))⟩)
 ·have d:decide (1≤o.id)=false:=by rw [decide_eq_false_iff_not];omega
  ((have hrf:r=false:=(by rw [←hr];simp [h1]));(subst hrf);(clear hr);go_enter Tryz.func43,Tryz.ntmps43;(go_wp2_with fail);(refine a0d fun wa hwa=>?_;have wa_s0:=sg w.heap.size hwa;obtain ⟨wa_c0,wa_c1,wa_c2,wa_c3,wa_c4,wa_c5,wa_c6,wa_c7,wa_c8,wa_c9,wa_c10,wa_c11⟩:=kz12 hwa w.heap.size (aI aK o.kind) (aI aK o.client) (aI aK o.seq) (aS o.key) (aS o.who) (aS o.tkey) (aS o.twho) (aI aK o.item) (aI aK o.count) (aI aK o.price) (aB o.buy) (aI aK o.id);have wa_b:Below w.heap.size w wa:=(by rw [hwa];exact bg);clear hwa);(refine grA ?_;(repeat (go_big_quiet_step (fail)));refine grN fun g=>?_);(go_wp2_with fail);go_ret;exact ⟨rfl,wa_b.trans ((a0f wa g).mono (by omega))⟩)
def ordO (o:Rq):Bool:=decide (1≤o.item∧1≤o.price∧o.price≤1024)&&cntO { o with price:=0,buy:=false }
set_option maxRecDepth 20000 in
set_option maxHeartbeats 1000000 in
theorem t0x (o:Rq) (w:World) (r:Bool) (hr:ordO o=r) :
 Calls Tryz.prog 42 #[.agg #[aI aK o.kind,aI aK o.client,aI aK o.seq,aS o.key,aS o.who,aS o.tkey,aS o.twho,aI aK o.item,aI aK o.count,aI aK o.price,aB o.buy,aI aK o.id]] w fun e w'=>e=.returned (aB r)∧Below w.heap.size w w':=by
 unfold ordO at hr
 by_cases h1:1≤o.item
 ·by_cases h2:1≤o.price
  ·by_cases h3:o.price≤1024
   ·have hcn:=h0c { o with price:=0,buy:=false }
    have hcr:cntO { o with price:=0,buy:=false }=r:=by rw [←hr];simp [h1,h2,h3]
    simp only at hcn
    have Hcn:=uH hcn
    have Hcr:=uH hcr
    clear hr hcn hcr
    go_enter Tryz.func42,Tryz.ntmps42
    go_wp2_with fail
    refine (Hcn.out _ r Hcr.out).mono ?_
    rintro e w1 ⟨rfl,hb⟩
    have hb1:Below w.heap.size w w1:=(by refine Below.trans ?_ (hb.mono ?_);exact bg;simp)
    clear hb
    go_wp2_with fail
    go_ret
    exact ⟨rfl,hb1⟩
   ·have d:decide (o.price≤1024)=false:=by rw [decide_eq_false_iff_not];omega
    ((have hrf:r=false:=(by rw [←hr];simp [h3]));(subst hrf);(clear hr);go_enter Tryz.func42,Tryz.ntmps42;(go_wp2_with fail);go_ret;exact ⟨rfl,bg⟩)
  ·have d:decide (1≤o.price)=false:=by rw [decide_eq_false_iff_not];omega
   ((have hrf:r=false:=(by rw [←hr];simp [h2]));(subst hrf);(clear hr);go_enter Tryz.func42,Tryz.ntmps42;(go_wp2_with fail);go_ret;exact ⟨rfl,bg⟩)
 ·have d:decide (1≤o.item)=false:=by rw [decide_eq_false_iff_not];omega
  ((have hrf:r=false:=(by rw [←hr];simp [h1]));(subst hrf);(clear hr);go_enter Tryz.func42,Tryz.ntmps42;(go_wp2_with fail);go_ret;exact ⟨rfl,bg⟩)
def o0h (o:Rq):Bool:=b0v o.tkey o.twho&&cntO { o with tkey:=e0,twho:=e0 }
set_option maxRecDepth 20000 in
set_option maxHeartbeats 1000000 in
theorem v0o (o:Rq) (w:World) (r:Bool) (hr:o0h o=r) :
 Calls Tryz.prog 41 #[.agg #[aI aK o.kind,aI aK o.client,aI aK o.seq,aS o.key,aS o.who,aS o.tkey,aS o.twho,aI aK o.item,aI aK o.count,aI aK o.price,aB o.buy,aI aK o.id]] w fun e w'=>e=.returned (aB r)∧Below w.heap.size w w':=by
 unfold o0h at hr
 cases h1:b0v o.tkey o.twho with
 | true =>
  have hcn:=h0c { o with tkey:=e0,twho:=e0 }
  have hcr:cntO { o with tkey:=e0,twho:=e0 }=r:=by rw [←hr,h1];rfl
  simp only [e0] at hcn
  have Hcn:=uH hcn
  have Hcr:=uH hcr
  have H1:=uH h1
  clear hr hcn hcr h1
  go_enter Tryz.func41,Tryz.ntmps41
  go_wp2_with fail
  (refine a0e fun wa hwa=>?_;have wa_s0:=sg w.heap.size hwa;obtain ⟨wa_c0,wa_c1,wa_c2,wa_c3,wa_c4,wa_c5,wa_c6,wa_c7,wa_c8,wa_c9,wa_c10,wa_c11⟩:=kz12 hwa w.heap.size (aI aK o.kind) (aI aK o.client) (aI aK o.seq) (aS o.key) (aS o.who) (aS ⟨#[]⟩) (aS ⟨#[]⟩) (aI aK o.item) (aI aK o.count) (aI aK o.price) (aB o.buy) (aI aK o.id);have wa_b:Below w.heap.size w wa:=(by rw [hwa];exact bg);clear hwa)
  refine (c0o o.tkey o.twho _ true H1.out).mono ?_
  (rintro e w1 ⟨rfl,w1_h⟩;obtain ⟨w1_hc,w1_hf⟩:=a0w w1_h;have w1_z:=w1_h.size;have w1_b:=wa_b.trans (w1_h.mono (by have:=wa_b.size;omega));have w1_le:=w1_b.size;have w1_s0:w.heap.size<w1.heap.size:=(by omega);clear w1_h)
  go_wp2_with fail
  (refine a0e fun wb hwb=>?_;have wb_b:Below w.heap.size w wb:=(by rw [hwb];exact bg);clear hwb)
  refine (Hcn.out _ r Hcr.out).mono ?_
  (rintro e w2 ⟨rfl,w2_h⟩;obtain ⟨w2_hc,w2_hf⟩:=a0w w2_h;have w2_z:=w2_h.size;have w2_b:=wb_b.trans (w2_h.mono (by have:=wb_b.size;omega));have w2_le:=w2_b.size;clear w2_h)
  go_wp2_with fail
  go_ret
  exact ⟨rfl,bg⟩
 | false =>
  obtain rfl:r=false:=by rw [←hr,h1];rfl
  have H1:=uH h1
  clear hr h1
  go_enter Tryz.func41,Tryz.ntmps41
  go_wp2_with fail
  (refine a0e fun wa hwa=>?_;have wa_b:Below w.heap.size w wa:=(by rw [hwa];exact bg);clear hwa)
  refine (c0o o.tkey o.twho _ false H1.out).mono ?_
  (rintro e w1 ⟨rfl,w1_h⟩;obtain ⟨w1_hc,w1_hf⟩:=a0w w1_h;have w1_z:=w1_h.size;have w1_b:=wa_b.trans (w1_h.mono (by have:=wa_b.size;omega));have w1_le:=w1_b.size;clear w1_h)
  go_wp2_with fail
  go_ret
  exact ⟨rfl,bg⟩
def c0d (o:Rq):Bool:=if o.kind=1∨o.kind=6 then cntO o else if o.kind=2 then o0h o else if o.kind=3 then ordO o else if o.kind=4 then canO o else if o.kind=5∨o.kind=7 then barO o else false
def mayO (o:Rq):Bool:=decide (1≤o.client∧o.client≤1048576∧1≤o.seq∧o.seq≤1099511627776)&&b0v o.key o.who&&c0d o
open Go.RowKit
structure Th where
 T:World→Prop
 F:Nat→Prop
 stay:∀ {w w':World} {S:Nat→Prop},T w→Keeps w w' S→(∀ x,F x→¬S x)→T w'
 lt:∀ {w:World} {x:Nat},T w→F x→x<w.heap.size
def Ths (B:Nat) (w:World):List Th→Prop
 | []=>True
 | t::r=>t.T w∧(∀ x,t.F x→B≤x)∧(∀ u∈r,∀ x,t.F x→¬u.F x)∧Ths B w r
theorem Ths.keep {B:Nat} {w w':World} {S:Nat→Prop}:∀ {L:List Th},Ths B w L→Keeps w w' S→(∀ t∈L,∀ x,t.F x→¬S x)→Ths B w' L
 | [],_,_,_=>trivial
 | t::r,h,k,hS=>⟨t.stay h.1 k (hS t (by simp)),h.2.1,h.2.2.1,Ths.keep h.2.2.2 k fun u hu=>hS u (by simp [hu])⟩
theorem Ths.lts {B:Nat} {w:World}:∀ {L:List Th},Ths B w L→∀ t∈L,∀ x,t.F x→x<w.heap.size∧B≤x
 | [],_,t,ht,_,_=>by simp at ht
 | u::r,h,t,ht,x,hx=>by
  rcases List.mem_cons.1 ht with e | e
  ·subst e;exact ⟨t.lt h.1 hx,h.2.1 x hx⟩
  ·exact Ths.lts h.2.2.2 t e x hx
theorem Ths.pull {B:Nat} {w:World} {t:Th} {R:List Th}:∀ {A:List Th},Ths B w (A++t::R)→Ths B w (t::(A++R))
 | [],h=>h
 | a::A,h=>by
  have ih:=Ths.pull h.2.2.2
  refine ⟨ih.1,ih.2.1,fun u hu x hx=>?_,h.1,h.2.1,fun u hu=>h.2.2.1 u (by simp at hu ⊢;rcases hu with e | e;exact .inl e;exact .inr (.inr e)),ih.2.2.2⟩
  rcases List.mem_cons.1 hu with e | e
  ·subst e;exact fun ha=>h.2.2.1 t (by simp) x ha hx
  ·exact ih.2.2.1 u e x hx
structure St (W w:World) (L:List Th):Prop where
 b:Below W.heap.size W w
 t:Ths W.heap.size w L
theorem f0v {w w':World} (h:Below w.heap.size w w') (S:Nat→Prop):Keeps w w' S:=Keeps.f0d h (Nat.le_refl _) S
theorem St.start (W:World):St W W []:=⟨Below.refl _ _,trivial⟩
theorem St.grow {W w w':World} {L:List Th} (h:St W w L) (b:Below w.heap.size w w'):St W w' L:=⟨h.b.trans (b.mono h.b.size),h.t.keep (f0v b (fun _=>False)) (fun _ _ _ _ h=>h)⟩
theorem St.new {W w w':World} {L:List Th} (h:St W w L) (b:Below w.heap.size w w') (t:Th) (ht:t.T w') (hF:∀ x,t.F x→w.heap.size≤x):St W w' (t::L) :=
 ⟨(h.grow b).b,ht,fun x hx=>Nat.le_trans h.b.size (hF x hx),fun u hu x hx hux=>by have:=(h.t.lts u hu x hux).1;have:=hF x hx;omega,(h.grow b).t⟩
theorem St.step {W w w':World} {t:Th} {L:List Th} (h:St W w (t::L)) (k:Keeps w w' t.F) (t':Th) (ht:t'.T w') (hF:∀ x,t'.F x→t.F x∨w.heap.size≤x):St W w' (t'::L) :=
 ⟨h.b.trans (k.below (fun x hx=>h.t.2.1 x hx) h.b.size),ht,fun x hx=>(hF x hx).elim (h.t.2.1 x) (fun h1=>Nat.le_trans h.b.size h1),fun u hu x hx hux=>(hF x hx).elim (fun h1=>h.t.2.2.1 u hu x h1 hux) (fun h1=>by have:=(h.t.2.2.2.lts u hu x hux).1;omega),h.t.2.2.2.keep k (fun u hu x hx hs=>h.t.2.2.1 u hu x hs hx)⟩
theorem St.pull {W w:World} {A R:List Th} {t:Th} (h:St W w (A++t::R)):St W w (t::(A++R)):=⟨h.b,h.t.pull⟩
theorem St.drop {W w:World} {t:Th} {L:List Th} (h:St W w (t::L)):St W w L:=⟨h.b,h.t.2.2.2⟩
theorem St.head {W w:World} {t:Th} {L:List Th} (h:St W w (t::L)):t.T w:=h.t.1
theorem k0v {w w':World} {base:Nat} {ao:Option Addr} {cap:Nat} {l:List UInt8} {S:Nat→Prop} (h:OwnB w base ao cap l) (k:Keeps w w' S) (hn:∀ g,(Value.slice ao l.length cap).ownBlock=some g→¬S g):OwnB w' base ao cap l:=by
 refine ⟨h.1,?_⟩
 rcases h.2 with h2 | ⟨g,c,cur,hv,hg,hh,r⟩
 ·exact .inl h2
 ·exact .inr ⟨g,c,cur,hv,hg,(k.block g (Array.getElem?_eq_some_iff.1 hh).1 (hn g (by rw [hv];rfl))).trans hh,r⟩
theorem s0r {w w':World} {base:Nat} {ao:Option Addr} {cap:Nat} {l:List UInt8} (h:OwnB w base ao cap l) (b:Below w.heap.size w w'):OwnB w' base ao cap l:=k0v h (f0v b (fun _=>False)) (fun _ _ h=>h)
theorem d0a {w:World} {base:Nat} {ao:Option Addr} {cap:Nat} {l:List UInt8} (h:OwnB w base ao cap l):∀ g,(Value.slice ao l.length cap).ownBlock=some g→g<w.heap.size∧base≤g:=by
 intro g hg
 rcases h.2 with ⟨hv,-⟩ | ⟨g',c,cur,hv,hb,hh,-⟩
 ·rw [hv] at hg;simp [Value.ownBlock] at hg
 ·rw [hv] at hg
  simp only [Value.ownBlock,Option.some.injEq] at hg
  subst hg
  exact ⟨lt_of_block hh,hb⟩
theorem d0k {ao:Option Addr} {n c g:Nat} (h:(Value.slice ao n c).ownBlock=some g):∃ a,ao=some a∧a.block=g:=by
 cases ao with
 | none=>simp [Value.ownBlock] at h
 | some a=>exact ⟨a,rfl,by simpa [Value.ownBlock] using h⟩
def f0g (base:Nat) (ao:Option Addr) (cap:Nat) (l:List UInt8):Th where
 T w:=OwnB w base ao cap l
 F x:=∃ a,ao=some a∧a.block=x
 stay h k hS:=k0v h k (fun g hg=>hS g (d0k hg))
 lt h hx:=by
  obtain ⟨a,rfl,rfl⟩:=hx
  exact (d0a h a.block rfl).1
theorem St.own {W w w':World} {L:List Th} {ao:Option Addr} {cap:Nat} {l:List UInt8} (h:St W w L) (b:Below w.heap.size w w') (ho:OwnB w' w.heap.size ao cap l):St W w' (f0g w.heap.size ao cap l::L) :=
 h.new b _ ho (fun x hx=>by
  obtain ⟨a,rfl,rfl⟩:=hx
  exact (d0a ho a.block rfl).2)
def c0f (base:Nat) (e:TypeId) (size:Nat) (ao:Option Addr) (n cap:Nat) (xs:List Value):Th where
 T w:=w.ownsRow base e size (.slice ao n cap) n xs
 F x:=∃ a,ao=some a∧a.block=x
 stay h k hS:=by
  refine ⟨h.1,?_⟩
  rcases h.2 with h2 | ⟨g,c,cur,hv,hg,hh,r⟩
  ·exact .inl h2
  ·exact .inr ⟨g,c,cur,hv,hg,(k.block g (Array.getElem?_eq_some_iff.1 hh).1 (hS g (by simp only [Value.slice.injEq] at hv;exact ⟨_,hv.1,rfl⟩))).trans hh,r⟩
 lt h hx:=by
  obtain ⟨a,rfl,rfl⟩:=hx
  exact (h.lt a.block rfl).2
theorem St.m0h {W w:World} {L:List Th} (h:St W w L) (e:TypeId) (size:Nat):St W w (c0f W.heap.size e size none 0 0 []::L) :=
 ⟨h.b,World.ownsRow_nil _ _ _ _,fun x hx=>(by obtain ⟨a,e,-⟩:=hx;cases e),fun u _ x hx=>(by obtain ⟨a,e,-⟩:=hx;cases e),h.t⟩
theorem St.g0a {W w w':World} {L:List Th} {ao co:Option Addr} {e:TypeId} {size n m cap c':Nat} {xs news:List Value} (h:St W w (c0f W.heap.size e size ao n cap xs::L)) (hown:w'.ownsRow W.heap.size e size (.slice co (n+m) c') (n+m) (xs++news)) (hg:w.grownBy w' (Value.slice ao n cap).ownBlock) (hco:∀ g,co=some g→ao=some g∨w.heap.size≤g.block):St W w' (c0f W.heap.size e size co (n+m) c' (xs++news)::L):=by
 refine h.step ((Keeps.grown hg).weak (fun i _ e=>d0k e.symm)) _ hown (fun x hx=>?_)
 obtain ⟨a,rfl,rfl⟩:=hx
 rcases hco a rfl with h1 | h1
 ·exact .inl ⟨a,h1,rfl⟩
 ·exact .inr h1
theorem St.appended {W w w':World} {L:List Th} {ao co:Option Addr} {cap c':Nat} {l news:List UInt8} (h:St W w (f0g W.heap.size ao cap l::L)) (hown:w'.ownsRow W.heap.size 5 1 (.slice co (l.length+news.length) c') (l.length+news.length) (bytV l++bytV news)) (hg:w.grownBy w' (Value.slice ao l.length cap).ownBlock) (hco:∀ g,co=some g→ao=some g∨w.heap.size≤g.block):St W w' (f0g W.heap.size co c' (l++news)::L):=by
 refine h.step ((Keeps.grown hg).weak (fun i _ e=>d0k e.symm)) _ (show OwnB w' W.heap.size co c' (l++news) by unfold OwnB;rw [←a0y,List.length_append];exact hown) (fun x hx=>?_)
 obtain ⟨a,rfl,rfl⟩:=hx
 rcases hco a rfl with h1 | h1
 ·exact .inl ⟨a,h1,rfl⟩
 ·exact .inr h1
theorem St.nil {W w:World} {L:List Th} (h:St W w L):St W w (f0g W.heap.size none 0 []::L) :=
 ⟨h.b,⟨rfl,.inl ⟨rfl,rfl⟩⟩,fun x hx=>(by obtain ⟨a,e,-⟩:=hx;cases e),fun u _ x hx=>(by obtain ⟨a,e,-⟩:=hx;cases e),h.t⟩
open Go.RowKit
set_option maxRecDepth 20000
def RdAt (w:World) (p g:Nat) (rest:List UInt8) (bad:Bool):Prop:=∃ ao cap,w.heap[p]?=some (.cells #[.slice ao rest.length cap,aB bad] 141 (0,0))∧rest.length≤cap∧cap≤9223372036854775807∧(ao=none→rest.length=0∧cap=0)∧g≠p∧(0<rest.length→∃ off,ao=some ⟨g,off,none⟩∧g<w.heap.size∧BRow w g off rest)
theorem b0m {w:World} {b:Nat} {u v:Value} {t:TypeId} (h:w.heap[b]?=some (.cells #[u,v] t (0,0))):w.cell? ⟨b,0,none⟩=some u∧w.cell? ⟨b,1,none⟩=some v∧w.frozen? ⟨b,0,none⟩=false∧w.frozen? ⟨b,1,none⟩=false:=by
 simp [World.cell?,World.frozen?,h]
theorem f0s {w:World} {b:Nat} {u v x:Value} {t:TypeId} (h:w.heap[b]?=some (.cells #[u,v] t (0,0))):(w.setCell ⟨b,0,none⟩ x).heap[b]?=some (.cells #[x,v] t (0,0)):=by
 simp [World.setCell,Array.getElem?_modify,h]
theorem k0n {w:World} {b:Nat} {u v x:Value} {t:TypeId} (h:w.heap[b]?=some (.cells #[u,v] t (0,0))):(w.setCell ⟨b,1,none⟩ x).heap[b]?=some (.cells #[u,x] t (0,0)):=by
 simp [World.setCell,Array.getElem?_modify,h]
theorem RdAt.keeps {w w':World} {p g:Nat} {rest:List UInt8} {bad:Bool} {S:Nat→Prop} (h:RdAt w p g rest bad) (k:Keeps w w' S) (hp:¬S p) (hg:¬S g):RdAt w' p g rest bad:=by
 obtain ⟨ao,cap,h1,h2,h3,h4,h5,h6⟩:=h
 refine ⟨ao,cap,(k.block p (lt_of_block h1) hp).trans h1,h2,h3,h4,h5,fun hl=>?_⟩
 obtain ⟨off,e,hlt,hr⟩:=h6 hl
 exact ⟨off,e,Nat.lt_of_lt_of_le hlt k.size,hr.keeps hlt k hg⟩
theorem y0v (p g:Nat) (rest:List UInt8) (bad:Bool) (w:World) (h:RdAt w p g rest bad) :
 Calls Tryz.prog 124 #[.pointer (some ⟨p,0,none⟩)] w fun e w'=>e=.returned (.tuple #[])∧RdAt w' p g [] true∧Keeps w w' (fun x=>x=p):=by
 obtain ⟨ao,cap,hh,-,-,-,hgp,-⟩:=h
 obtain ⟨c0,c1,f0,f1⟩:=b0m hh
 have Hh:=uH hh
 clear hh
 go_enter Tryz.func124,Tryz.ntmps124
 go_wp2_with fail
 go_end0
 exact ⟨rfl,⟨none,0,k0n (f0s Hh.out),Nat.le_refl _,by omega,fun _=>⟨rfl,rfl⟩,hgp,fun h=>by simp at h⟩,(Keeps.set w _ _).trans (Keeps.set _ _ _) (fun _ h=>h) (fun _ _ h=>h)⟩
theorem n0r (p g:Nat) (rest:List UInt8) (bad:Bool) (w:World) (h:RdAt w p g rest bad) :
 Calls Tryz.prog 83 #[.pointer (some ⟨p,0,none⟩)] w fun e w'=>e=.returned (.bool !bad)∧w=w':=by
 obtain ⟨ao,cap,hh,-⟩:=h
 obtain ⟨c0,c1,f0,f1⟩:=b0m hh
 clear hh
 go_enter Tryz.func83,Tryz.ntmps83
 go_wp2_with fail
 go_ret
 exact ⟨rfl,rfl⟩
theorem f0m (p g:Nat) (rest:List UInt8) (bad:Bool) (w:World) (h:RdAt w p g rest bad) (hm:rest.length≤140737488351232) :
 Calls Tryz.prog 51 #[.pointer (some ⟨p,0,none⟩)] w fun e w'=>e=.returned (aB (!bad&&rest.isEmpty))∧w=w':=by
 have hgood:=n0r p g rest bad w h
 have Hgood:=uH hgood
 obtain ⟨ao,cap,hh,-⟩:=h
 obtain ⟨c0,c1,f0,f1⟩:=b0m hh
 clear hh hgood
 cases bad
 ·go_enter Tryz.func51,Tryz.ntmps51
  go_wp2_with fail
  refine Hgood.out.mono ?_
  rintro e w1 ⟨rfl,rfl⟩
  go_wp2_with fail
  go_ret
  refine ⟨?_,rfl⟩
  cases rest with
  | nil=>simp
  | cons x r=>simp;omega
 ·go_enter Tryz.func51,Tryz.ntmps51
  go_wp2_with fail
  refine Hgood.out.mono ?_
  rintro e w1 ⟨rfl,rfl⟩
  go_wp2_with fail
  go_ret
  exact ⟨rfl,rfl⟩
open Go.RowKit
set_option maxRecDepth 20000
theorem d0u (ao:Option Addr) (cap:Nat) (bs:List UInt8) (w:World) (h0:ao=none→bs.length=0∧cap=0) (ha:BAt w ao bs) (hm:bs.length≤140737488351232) :
 Calls Tryz.prog 48 #[.slice ao bs.length cap] w fun e w'=>∃ p g,e=.returned (.pointer (some ⟨p,0,none⟩))∧RdAt w' p g bs false∧Below w.heap.size w w'∧w.heap.size≤p∧w.heap.size≤g:=by
 go_enter Tryz.func48,Tryz.ntmps48
 go_wp2_with fail
 refine (i0q ao cap bs _ h0 ha hm).mono ?_
 rintro e w1 ⟨bo,c,rfl,ho,hb⟩
 go_wp2_with fail
 go_ret
 have hs:=hb.size
 have hrd:∃ g,RdAt (w1.alloc (.cells #[.slice bo bs.length c,aB false] 141)) w1.heap.size g bs false∧w.heap.size≤g:=by
  by_cases hp:0<bs.length
  ·obtain ⟨g,e,hbg,hlt,hr⟩:=ho.row hp
   exact ⟨g,⟨bo,c,b0r _ _,ho.le.1,ho.le.2,ho.none,by omega,fun _=>⟨0,e,by simp;omega,hr.below hlt ((Below.refl _ _).alloc (Nat.le_refl _) _)⟩⟩,hbg⟩
  ·exact ⟨w1.heap.size+1,⟨bo,c,b0r _ _,ho.le.1,ho.le.2,ho.none,by omega,fun h=>absurd h hp⟩,by omega⟩
 obtain ⟨g,hg1,hg2⟩:=hrd
 exact ⟨w1.heap.size,g,rfl,hg1,hb.alloc hs _,hs,hg2⟩
set_option maxHeartbeats 1000000 in
theorem rdraw_no (p g:Nat) (rest:List UInt8) (bad:Bool) (n:Int) (w:World) (h:RdAt w p g rest bad) (hn:n<0∨(rest.length:Int)<n) :
 Calls Tryz.prog 82 #[.pointer (some ⟨p,0,none⟩),aI aK n] w fun e w'=>e=.returned (.slice none 0 0)∧RdAt w' p g [] true∧Keeps w w' (fun x=>x=p):=by
 have hbad:=y0v p g rest bad w h
 have Hbad:=uH hbad
 obtain ⟨ao,cap,hh,-⟩:=h
 obtain ⟨c0,c1,f0,f1⟩:=b0m hh
 clear hh hbad
 by_cases h1:n<0
 all_goals
  go_enter Tryz.func82,Tryz.ntmps82
  go_wp2_with fail
  all_goals first | (exfalso;omega) | skip
  refine Hbad.out.mono ?_
  rintro e w1 ⟨rfl,hr,hk⟩
  go_wp2_with fail
  go_ret
  exact ⟨rfl,hr,hk⟩
theorem n0e {w:World} {base:Nat} {ao:Option Addr} {cap:Nat} {l:List UInt8} (h:OwnB w base ao cap l) (a:Addr) (v:Value) (ha:a.block<base):OwnB (w.setCell a v) base ao cap l :=
 ownsRow_setCell_other h (fun e=>by
  rcases h.2 with ⟨hv,-⟩ | ⟨g,c,cur,hv,hb,-⟩
  ·simp only [Value.slice.injEq] at hv
   rw [hv.1] at e
   simp [Value.ownBlock] at e
  ·simp only [Value.slice.injEq] at hv
   rw [hv.1] at e
   simp only [Value.ownBlock,Option.some.injEq] at e
   omega) v
theorem s0k {w w1:World} {p g n cap:Nat} {rest:List UInt8} {bad:Bool} {ao ao':Option Addr} {cap':Nat} (hw:w1.heap[p]?=some (.cells #[.slice ao rest.length cap,aB bad] 141 (0,0))) (hn:n≤rest.length) (hlc:rest.length≤cap) (hcm:cap≤9223372036854775807) (hgp:g≠p)
 (hrow:0<rest.length→∃ off,ao=some ⟨g,off,none⟩∧g<w.heap.size∧BRow w g off rest) (hb:Below w.heap.size w w1) (hc:cap'=cap - n) (h0:ao'=none→rest.length - n=0∧cap'=0) (hao:n<rest.length→ao'=ao.map fun x=>x.add n) :
 RdAt (w1.setCell ⟨p,0,none⟩ (.slice ao' (rest.length - n) cap')) p g (rest.drop n) bad:=by
 have hln:rest.length - n=(rest.drop n).length:=by rw [List.length_drop]
 rw [hln]
 refine ⟨ao',cap',f0s hw,by rw [List.length_drop];omega,by omega,fun h=>by rw [List.length_drop];exact h0 h,hgp,fun hp=>?_⟩
 rw [List.length_drop] at hp
 obtain ⟨off,e,hlt,hr⟩:=hrow (by omega)
 refine ⟨off+n,by rw [hao (by omega),e];simp only [Option.map_some,c0q],by simp only [World.setCell,Array.size_modify];exact Nat.lt_of_lt_of_le hlt hb.size,fun i hi=>?_⟩
 rw [World.cell?_of_block (w:=w1) (Below.heap_setCell _ _ _ _ hgp)]
 rw [List.length_drop] at hi
 have:=(hr.below hlt hb) (n+i) (by omega)
 rw [List.getElem_drop,Nat.add_assoc]
 exact this
set_option maxHeartbeats 1000000 in
theorem o0n (p g:Nat) (rest:List UInt8) (bad:Bool) (n:Nat) (w:World) (h:RdAt w p g rest bad) (hn:n≤rest.length) (hm:rest.length≤140737488351232) :
 Calls Tryz.prog 82 #[.pointer (some ⟨p,0,none⟩),aI aK n] w fun e w'=>∃ ao cap,e=.returned (.slice ao n cap)∧OwnB w' w.heap.size ao cap (rest.take n)∧RdAt w' p g (rest.drop n) bad∧Keeps w w' (fun x=>x=p):=by
 obtain ⟨ao,cap,hh,hlc,hcm,hnone,hgp,hrow⟩:=h
 obtain ⟨c0,c1,f0,f1⟩:=b0m hh
 have Hh:=uH hh
 have Hnone:=uH hnone
 have Hrow:=uH hrow
 clear hh hnone hrow
 have h1:¬(n:Int)<0:=by omega
 have h2:¬(rest.length:Int)<n:=by omega
 go_enter Tryz.func82,Tryz.ntmps82
 go_wp2_with fail
 have hcl:Calls Tryz.prog 80 #[.slice ao n cap] w fun e w'=>∃ bo c,e=.returned (.slice bo n c)∧OwnB w' w.heap.size bo c (rest.take n)∧Below w.heap.size w w':=by
  have hl:(rest.take n).length=n:=by rw [List.length_take,Nat.min_eq_left hn]
  have:=i0q ao cap (rest.take n) w (fun h=>by have:=Hnone.out h;omega) (fun hp=>by
   obtain ⟨off,e,hlt,hr⟩:=Hrow.out (by omega)
   exact ⟨g,off,e,hlt,fun i hi=>by rw [List.getElem_take];exact hr i (by omega)⟩) (by omega)
  unfold d0b at this
  rw [hl] at this
  exact this
 refine hcl.mono ?_
 rintro e w1 ⟨bo,c,rfl,ho,hb⟩
 have hh1:w1.heap[p]?=some (.cells #[.slice ao rest.length cap,aB bad] 141 (0,0)):=(hb.block p (lt_of_block Hh.out)).trans Hh.out
 obtain ⟨d0,d1,e0,e1⟩:=b0m hh1
 have Ho:=uH ho
 have Hh1:=uH hh1
 have Hb:=uH hb
 clear ho hh1 hb hcl c0 c1 f0 f1
 go_wp2_with fail
 ·go_ret
  have hrn:rest.length=n:=by omega
  refine ⟨bo,c,rfl,n0e Ho.out _ _ (lt_of_block Hh.out),?_,(Keeps.f0d Hb.out (Nat.le_refl _) (fun _=>False)).trans (Keeps.set _ _ _) (fun _ h=>h.elim) (fun _ _ h=>h)⟩
  exact s0k Hh1.out hn hlc hcm hgp Hrow.out Hb.out (by omega) (fun _=>⟨by omega,rfl⟩) (fun h=>by omega)
 ·go_ret
  refine ⟨bo,c,rfl,n0e Ho.out _ _ (lt_of_block Hh.out),?_,(Keeps.f0d Hb.out (Nat.le_refl _) (fun _=>False)).trans (Keeps.set _ _ _) (fun _ h=>h.elim) (fun _ _ h=>h)⟩
  exact s0k Hh1.out hn hlc hcm hgp Hrow.out Hb.out rfl (fun h=>by
   rw [Option.map_eq_none_iff] at h
   have:=Hnone.out h
   omega) (fun _=>rfl)
def numR (i u:Nat):List UInt8→Option (Nat × List UInt8)
 | []=>none
 | c::r=>if 9≤i∨(0<i∧c=0) then none else
  if c.toNat<128 then (if 4611686018427387904<u+c.toNat * 128 ^ i then none else some (u+c.toNat * 128 ^ i,r))
  else numR (i+1) (u+(c.toNat % 128) * 128 ^ i) r
def numOf (l:List UInt8):Option (Nat × List UInt8):=numR 0 0 l
theorem l0t:∀ m:Fin 256,bits BinOp.and IntKind.u8 ((m.val:Nat):Int) 127=((m.val % 128:Nat):Int):=by decide +kernel
theorem m0q (c:UInt8):bits BinOp.and IntKind.u8 (c.toNat:Int) 127=((c.toNat % 128:Nat):Int):=l0t ⟨c.toNat,c.toNat_lt⟩
theorem o0t (i:Nat):(2:Nat) ^ (7 * i)=128 ^ i:=by rw [Nat.pow_mul]
theorem m0r (i u:Nat) (c:UInt8) (hi:i<9) (hu:u<128 ^ i):bits BinOp.or IntKind.u64 (u:Int) (IntKind.u64.wrap ((c.toNat:Int) % 128 * 2 ^ (7 * i)))=((u+c.toNat % 128 * 128 ^ i:Nat):Int):=by
 have h9:(128:Nat) ^ i≤128 ^ 8:=Nat.pow_le_pow_right (by omega) (by omega)
 have h8:(128:Nat) ^ 8=72057594037927936:=by decide
 obtain ⟨d,hde⟩:∃ d,d=c.toNat % 128:=⟨_,rfl⟩
 have hd:d<128:=by omega
 have hdm:d * 128 ^ i≤127 * 72057594037927936:=Nat.mul_le_mul (by omega) (by omega)
 have e2:(2:Int) ^ (7 * i)=((128 ^ i:Nat):Int):=by rw [←o0t];push_cast;rfl
 rw [←hde,show (c.toNat:Int) % 128=(d:Int) from by omega,e2,←Int.natCast_mul,IntKind.wrap_u64,Int.emod_eq_of_lt (by omega) (by omega),bits_or_u64_nat _ _ (by omega) (by omega)]
 congr 1
 rw [Nat.mul_comm d,←o0t] at *
 rw [Nat.or_comm,←Nat.two_pow_add_eq_or_of_lt hu,Nat.add_comm]
theorem n0u (i u d:Nat) (hu:u<128 ^ i) (hd:d<128):u+d * 128 ^ i<128 ^ (i+1):=by
 have:d * 128 ^ i≤127 * 128 ^ i:=Nat.mul_le_mul_right _ (by omega)
 rw [Nat.pow_succ];omega
theorem i0i:∀ (l:List UInt8) (i u:Nat) (n:Nat) (r:List UInt8),numR i u l=some (n,r)→n≤4611686018427387904∧∃ k,0<k∧k≤l.length∧r=l.drop k
 | [],_,_,_,_,h=>by simp [numR] at h
 | c::t,i,u,n,r,h=>by
  simp only [numR] at h
  split at h
  ·simp at h
  ·split at h
   ·split at h
    ·simp at h
    ·simp only [Option.some.injEq,Prod.mk.injEq] at h
     obtain ⟨rfl,rfl⟩:=h
     exact ⟨by omega,1,by omega,by simp,rfl⟩
   ·obtain ⟨h1,k,hk,hl,e⟩:=i0i t _ _ _ _ h
    exact ⟨h1,k+1,by omega,by simp;omega,by rw [e];rfl⟩
end Go.Proofs.YtogamdaomdoapaaGreat