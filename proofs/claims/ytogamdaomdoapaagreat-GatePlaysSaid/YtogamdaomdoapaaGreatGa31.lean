/- Texts put together: RMay, RMa1, RMa2, RMa3, RMa4, RMa5, RMa6, RMa7, RMayA. -/
import Derived.Test.YtogamdaomdoapaaGreatGa03
import Derived.Deep.RegionLaw
namespace Go.Proofs.YtogamdaomdoapaaGreat
open Go.Value renaming int→aI,string→aS,bool→aB
open Go.IntKind renaming i64→aK
open Go.Lib renaming hid→uH
open Go.RowKit
theorem j0e (k:ByteArray) (w:World) (r:Bool) (hr:decide (1≤k.size∧k.size≤16)=r) :
 Calls Tryz.prog 65 #[aS k] w fun e w'=>e=.returned (aB r)∧Below w.heap.size w w':=by
 by_cases h1:1≤k.size
 ·by_cases h2:k.size≤16
  ·obtain rfl:r=true:=by rw [←hr];simp [h1,h2]
   have d4:decide ((k.size:Int)≤16)=true:=by rw [decide_eq_true_eq];omega
   clear hr
   go_enter Tryz.func65,Tryz.ntmps65
   go_wp2_with fail
   go_ret
   exact ⟨rfl,bg⟩
  ·obtain rfl:r=false:=by rw [←hr];simp [h2]
   have d4:decide ((k.size:Int)≤16)=false:=by rw [decide_eq_false_iff_not];omega
   clear hr
   go_enter Tryz.func65,Tryz.ntmps65
   go_wp2_with fail
   go_ret
   exact ⟨rfl,bg⟩
 ·obtain rfl:r=false:=by rw [←hr];simp [h1]
  clear hr
  go_enter Tryz.func65,Tryz.ntmps65
  go_wp2_with fail
  go_ret
  exact ⟨rfl,bg⟩
theorem b0t (k v:ByteArray) (w:World) (r:Bool) (hr:b0v k v=r) :
 Calls Tryz.prog 58 #[.agg #[aS k,aS v]] w fun e w'=>e=.returned (aB r)∧Below w.heap.size w w':=by
 have hpl:b0v k v=(decide (1≤k.size∧k.size≤16)&&decide (1≤v.size∧v.size≤16)):=by
  unfold b0v;rw [←Bool.decide_and];congr 1;simp only [and_assoc]
 rw [hpl] at hr
 cases h1:decide (1≤k.size∧k.size≤16) with
 | true =>
  rw [h1,Bool.true_and] at hr
  have H1:=uH h1
  have H2:=uH hr
  clear h1 hr hpl
  go_enter Tryz.func58,Tryz.ntmps58
  go_wp2_with fail
  (refine a0e fun wa hwa=>?_;have wa_s0:=sg w.heap.size hwa;obtain ⟨wa_c0,wa_c1⟩:=kk2 hwa w.heap.size 0 (aS k) w.heap.size 1 (aS v);have wa_b:Below w.heap.size w wa:=(by rw [hwa];exact bg);clear hwa)
  refine (j0e k _ true H1.out).mono ?_
  (rintro e w1 ⟨rfl,w1_h⟩;obtain ⟨w1_hc,w1_hf⟩:=a0w w1_h;have w1_z:=w1_h.size;have w1_b:=wa_b.trans (w1_h.mono (by have:=wa_b.size;omega));have w1_le:=w1_b.size;have w1_s0:w.heap.size<w1.heap.size:=(by omega);clear w1_h)
  go_wp2_with fail
  (refine a0e fun wb hwb=>?_;have wb_b:Below w.heap.size w wb:=(by rw [hwb];exact bg);clear hwb)
  refine (j0e v _ r H2.out).mono ?_
  (rintro e w2 ⟨rfl,w2_h⟩;obtain ⟨w2_hc,w2_hf⟩:=a0w w2_h;have w2_z:=w2_h.size;have w2_b:=wb_b.trans (w2_h.mono (by have:=wb_b.size;omega));have w2_le:=w2_b.size;clear w2_h)
  go_wp2_with fail
  go_ret
  exact ⟨rfl,bg⟩
 | false =>
  rw [h1,Bool.false_and] at hr
  subst hr
  have H1:=uH h1
  clear h1 hpl
  go_enter Tryz.func58,Tryz.ntmps58
  go_wp2_with fail
  (refine a0e fun wa hwa=>?_;have wa_b:Below w.heap.size w wa:=(by rw [hwa];exact bg);clear hwa)
  refine (j0e k _ false H1.out).mono ?_
  (rintro e w1 ⟨rfl,w1_h⟩;obtain ⟨w1_hc,w1_hf⟩:=a0w w1_h;have w1_z:=w1_h.size;have w1_b:=wa_b.trans (w1_h.mono (by have:=wa_b.size;omega));have w1_le:=w1_b.size;clear w1_h)
  go_wp2_with fail
  go_ret
  exact ⟨rfl,bg⟩
theorem f0z (a b:Rq):eqR a b=eqR b a:=by
 unfold eqR
 congr 1
 simp only [eq_iff_iff]
 constructor<;>(rintro ⟨h1,h2,h3,h4,h5,h6,h7,h8,h9,h10,h11,h12⟩;exact ⟨h1.symm,h2.symm,h3.symm,h4.symm,h5.symm,h6.symm,h7.symm,h8.symm,h9.symm,h10.symm,h11.symm,h12.symm⟩)
theorem e0_nil:e0.toList=[]:=by simp [e0]
set_option maxRecDepth 100000 in
set_option maxHeartbeats 4000000 in
theorem rmay_no (o:Rq) (w:World) (hr:(decide (1≤o.client∧o.client≤1048576∧1≤o.seq∧o.seq≤1099511627776)&&b0v o.key o.who)=false) :
 Calls Tryz.prog 30 #[.agg #[aI aK o.kind,aI aK o.client,aI aK o.seq,aS o.key,aS o.who,aS o.tkey,aS o.twho,aI aK o.item,aI aK o.count,aI aK o.price,aB o.buy,aI aK o.id]] w fun e w'=>e=.returned (aB false)∧Below w.heap.size w w':=by
 by_cases q0:o.client<1
 ·have b0:decide (o.client<1)=true:=by rw [decide_eq_true_eq];exact q0
  clear hr
  go_enter Tryz.func30,Tryz.ntmps30
  go_wp2_with fail
  go_ret
  exact ⟨rfl,bg⟩
 have b0:decide (o.client<1)=false:=by rw [decide_eq_false_iff_not];exact q0
 by_cases q1:1048576<o.client
 ·have b1:decide (1048576<o.client)=true:=by rw [decide_eq_true_eq];exact q1
  clear hr
  go_enter Tryz.func30,Tryz.ntmps30
  go_wp2_with fail
  go_ret
  exact ⟨rfl,bg⟩
 have b1:decide (1048576<o.client)=false:=by rw [decide_eq_false_iff_not];exact q1
 by_cases q2:o.seq<1
 ·have b2:decide (o.seq<1)=true:=by rw [decide_eq_true_eq];exact q2
  clear hr
  go_enter Tryz.func30,Tryz.ntmps30
  go_wp2_with fail
  go_ret
  exact ⟨rfl,bg⟩
 have b2:decide (o.seq<1)=false:=by rw [decide_eq_false_iff_not];exact q2
 by_cases q3:1099511627776<o.seq
 ·have b3:decide (1099511627776<o.seq)=true:=by rw [decide_eq_true_eq];exact q3
  clear hr
  go_enter Tryz.func30,Tryz.ntmps30
  go_wp2_with fail
  go_ret
  exact ⟨rfl,bg⟩
 have b3:decide (1099511627776<o.seq)=false:=by rw [decide_eq_false_iff_not];exact q3
 have hp:b0v o.key o.who=false:=by
  rw [Bool.and_eq_false_iff] at hr
  rcases hr with h | h
  ·rw [decide_eq_false_iff_not] at h;omega
  ·exact h
 have Hp:=uH hp
 clear hr hp
 go_enter Tryz.func30,Tryz.ntmps30
 go_wp2_with fail
 (refine a0e fun wa hwa=>?_;have wa_b:Below w.heap.size w wa:=(by rw [hwa];exact bg);clear hwa)
 refine (b0t o.key o.who _ false Hp.out).mono ?_
 (rintro e w1 ⟨rfl,w1_h⟩;obtain ⟨w1_hc,w1_hf⟩:=a0w w1_h;have w1_z:=w1_h.size;have w1_b:=wa_b.trans (w1_h.mono (by have:=wa_b.size;omega));have w1_le:=w1_b.size;clear w1_h)
 go_wp2_with fail
 go_ret
 exact ⟨rfl,bg⟩
set_option maxRecDepth 100000 in
set_option maxHeartbeats 4000000 in
theorem rmay_out (o:Rq) (w:World) (c1:1≤o.client) (c2:o.client≤1048576) (c3:1≤o.seq) (c4:o.seq≤1099511627776) (hp:b0v o.key o.who=true) (hk:o.kind<1∨7<o.kind) :
 Calls Tryz.prog 30 #[.agg #[aI aK o.kind,aI aK o.client,aI aK o.seq,aS o.key,aS o.who,aS o.tkey,aS o.twho,aI aK o.item,aI aK o.count,aI aK o.price,aB o.buy,aI aK o.id]] w fun e w'=>e=.returned (aB false)∧Below w.heap.size w w':=by
 have Hp:=uH hp
 clear hp
 have k1:(o.kind==1)=false:=by rw [beq_eq_false_iff_ne];omega
 have k2:(o.kind==2)=false:=by rw [beq_eq_false_iff_ne];omega
 have k3:(o.kind==3)=false:=by rw [beq_eq_false_iff_ne];omega
 have k4:(o.kind==4)=false:=by rw [beq_eq_false_iff_ne];omega
 have k5:(o.kind==5)=false:=by rw [beq_eq_false_iff_ne];omega
 have k6:(o.kind==6)=false:=by rw [beq_eq_false_iff_ne];omega
 have k7:(o.kind==7)=false:=by rw [beq_eq_false_iff_ne];omega
 have d2:decide (1048576<o.client)=false:=by rw [decide_eq_false_iff_not];omega
 have d1:decide (o.client<1)=false:=by rw [decide_eq_false_iff_not];omega
 have d3:decide (o.seq<1)=false:=by rw [decide_eq_false_iff_not];omega
 have d4:decide (1099511627776<o.seq)=false:=by rw [decide_eq_false_iff_not];omega
 clear hk
 go_enter Tryz.func30,Tryz.ntmps30
 go_wp2_with fail
 (refine a0e fun wa hwa=>?_;have wa_s0:=sg w.heap.size hwa;obtain ⟨wa_c0,wa_c1,wa_c2,wa_c3,wa_c4,wa_c5,wa_c6,wa_c7,wa_c8,wa_c9,wa_c10,wa_c11⟩:=kz12 hwa w.heap.size (aI aK o.kind) (aI aK o.client) (aI aK o.seq) (aS o.key) (aS o.who) (aS o.tkey) (aS o.twho) (aI aK o.item) (aI aK o.count) (aI aK o.price) (aB o.buy) (aI aK o.id);have wa_b:Below w.heap.size w wa:=(by rw [hwa];exact bg);clear hwa)
 refine (b0t o.key o.who _ true Hp.out).mono ?_
 (rintro e w1 ⟨rfl,w1_h⟩;obtain ⟨w1_hc,w1_hf⟩:=a0w w1_h;have w1_z:=w1_h.size;have w1_b:=wa_b.trans (w1_h.mono (by have:=wa_b.size;omega));have w1_le:=w1_b.size;have w1_s0:w.heap.size<w1.heap.size:=(by omega);clear w1_h)
 go_wp2_with fail
 go_ret
 exact ⟨rfl,bg⟩
open Go.RowKit
set_option maxRecDepth 100000 in
set_option maxHeartbeats 8000000 in
theorem rmay_1 (o:Rq) (w:World) (r:Bool) (c1:1≤o.client) (c2:o.client≤1048576) (c3:1≤o.seq) (c4:o.seq≤1099511627776) (hp:b0v o.key o.who=true) (hr:mayO { o with kind:=1 }=r) :
 Calls Tryz.prog 30 #[.agg #[aI aK 1,aI aK o.client,aI aK o.seq,aS o.key,aS o.who,aS o.tkey,aS o.twho,aI aK o.item,aI aK o.count,aI aK o.price,aB o.buy,aI aK o.id]] w fun e w'=>e=.returned (aB r)∧Below w.heap.size w w':=by
 have Hp:=uH hp
 have hkind:c0d { o with kind:=1 }=cntO { o with kind:=1 }:=by simp [c0d]
 have hr2:c0d { o with kind:=1 }=r:=by rw [←hr];simp [mayO,hp,c1,c2,c3,c4]
 rw [hkind] at hr2
 clear hp hr hkind
 have hr:=hr2
 simp only [cntO] at hr
 clear hr2
 have d2:decide (1048576<o.client)=false:=by rw [decide_eq_false_iff_not];omega
 have d1:decide (o.client<1)=false:=by rw [decide_eq_false_iff_not];omega
 have d3:decide (o.seq<1)=false:=by rw [decide_eq_false_iff_not];omega
 have d4:decide (1099511627776<o.seq)=false:=by rw [decide_eq_false_iff_not];omega
 by_cases q0:0≤o.item
 rotate_left
 have b0:decide (0≤o.item)=false:=by rw [decide_eq_false_iff_not];exact q0
 rotate_right
 have b0:decide (0≤o.item)=true:=by rw [decide_eq_true_eq];exact q0
 by_cases q1:o.item≤3
 rotate_left
 have b1:decide (o.item≤3)=false:=by rw [decide_eq_false_iff_not];exact q1
 rotate_right
 have b1:decide (o.item≤3)=true:=by rw [decide_eq_true_eq];exact q1
 by_cases q2:1≤o.count
 rotate_left
 have b2:decide (1≤o.count)=false:=by rw [decide_eq_false_iff_not];exact q2
 rotate_right
 have b2:decide (1≤o.count)=true:=by rw [decide_eq_true_eq];exact q2
 by_cases q3:o.count≤1048576
 rotate_left
 have b3:decide (o.count≤1048576)=false:=by rw [decide_eq_false_iff_not];exact q3
 rotate_right
 have b3:decide (o.count≤1048576)=true:=by rw [decide_eq_true_eq];exact q3
 have p1:o.item<4:=by omega
 have heq:=fun w=>eql_api.Op ⟨1,o.client,o.seq,o.key,o.who,⟨#[]⟩,⟨#[]⟩,o.item,o.count,0,false,0⟩ { o with kind:=1 } w r (by rw [f0z,←hr];simp [eqR,q0,p1,q2,q3])
 simp only at heq
 clear hr
 all_goals
  (try (have hrf:r=false:=(by rw [←hr];simp;omega);clear hr;subst hrf))
  ((go_enter Tryz.func30,Tryz.ntmps30;(go_wp2_with fail);(refine a0e fun wa hwa=>?_;have wa_s0:=sg w.heap.size hwa;obtain ⟨wa_c0,wa_c1,wa_c2,wa_c3,wa_c4,wa_c5,wa_c6,wa_c7,wa_c8,wa_c9,wa_c10,wa_c11⟩:=kz12 hwa w.heap.size (aI aK 1) (aI aK o.client) (aI aK o.seq) (aS o.key) (aS o.who) (aS o.tkey) (aS o.twho) (aI aK o.item) (aI aK o.count) (aI aK o.price) (aB o.buy) (aI aK o.id);have wa_b:Below w.heap.size w wa:=(by rw [hwa];exact bg);clear hwa);(refine (b0t o.key o.who _ true Hp.out).mono ?_);(rintro e w1 ⟨rfl,w1_h⟩;obtain ⟨w1_hc,w1_hf⟩:=a0w w1_h;have w1_z:=w1_h.size;have w1_b:=wa_b.trans (w1_h.mono (by have:=wa_b.size;omega));have w1_le:=w1_b.size;have w1_s0:w.heap.size<w1.heap.size:=(by omega);clear w1_h);(go_wp2_with fail));(refine a0d fun wb hwb=>?_;have wb_s0:=sg w.heap.size hwb;have wb_s1:=sg w1.heap.size hwb;obtain ⟨wb_c0,wb_c1,wb_c2,wb_c3,wb_c4,wb_c5,wb_c6,wb_c7,wb_c8,wb_c9,wb_c10,wb_c11⟩:=kz12 hwb w.heap.size (aI aK 1) (aI aK o.client) (aI aK o.seq) (aS o.key) (aS o.who) (aS o.tkey) (aS o.twho) (aI aK o.item) (aI aK o.count) (aI aK o.price) (aB o.buy) (aI aK o.id);obtain ⟨wb_c12,wb_c13,wb_c14,wb_c15,wb_c16,wb_c17,wb_c18,wb_c19,wb_c20,wb_c21,wb_c22,wb_c23⟩:=kz12 hwb w1.heap.size (aI aK 1) (aI aK o.client) (aI aK o.seq) (aS o.key) (aS o.who) (aS ⟨#[]⟩) (aS ⟨#[]⟩) (aI aK 0) (aI aK 0) (aI aK 0) (aB false) (aI aK 0);obtain ⟨wb_f17,wb_f18,wb_f19,wb_f20,wb_f21,wb_f22,wb_f23⟩:=ff7 hwb w1.heap.size 5 w1.heap.size 6 w1.heap.size 7 w1.heap.size 8 w1.heap.size 9 w1.heap.size 10 w1.heap.size 11;have wb_b:Below w.heap.size w wb:=(by rw [hwb];exact bg);clear hwb);(have hne:¬w.heap.size=w1.heap.size:=(by omega));go_region;(go_wp2_with fail))
  go_ret
  exact ⟨rfl,bg⟩
open Go.RowKit
set_option maxRecDepth 100000 in
set_option maxHeartbeats 8000000 in
theorem rmay_2 (o:Rq) (w:World) (r:Bool) (c1:1≤o.client) (c2:o.client≤1048576) (c3:1≤o.seq) (c4:o.seq≤1099511627776) (hp:b0v o.key o.who=true) (hr:mayO { o with kind:=2 }=r) :
 Calls Tryz.prog 30 #[.agg #[aI aK 2,aI aK o.client,aI aK o.seq,aS o.key,aS o.who,aS o.tkey,aS o.twho,aI aK o.item,aI aK o.count,aI aK o.price,aB o.buy,aI aK o.id]] w fun e w'=>e=.returned (aB r)∧Below w.heap.size w w':=by
 have Hp:=uH hp
 have hkind:c0d { o with kind:=2 }=o0h { o with kind:=2 }:=by simp [c0d]
 have hr2:c0d { o with kind:=2 }=r:=by rw [←hr];simp [mayO,hp,c1,c2,c3,c4]
 rw [hkind] at hr2
 clear hp hr hkind
 have hr:=hr2
 simp only [o0h,cntO] at hr
 clear hr2
 have d2:decide (1048576<o.client)=false:=by rw [decide_eq_false_iff_not];omega
 have d1:decide (o.client<1)=false:=by rw [decide_eq_false_iff_not];omega
 have d3:decide (o.seq<1)=false:=by rw [decide_eq_false_iff_not];omega
 have d4:decide (1099511627776<o.seq)=false:=by rw [decide_eq_false_iff_not];omega
 by_cases q0:0≤o.item
 rotate_left
 have b0:decide (0≤o.item)=false:=by rw [decide_eq_false_iff_not];exact q0
 rotate_right
 have b0:decide (0≤o.item)=true:=by rw [decide_eq_true_eq];exact q0
 by_cases q1:o.item≤3
 rotate_left
 have b1:decide (o.item≤3)=false:=by rw [decide_eq_false_iff_not];exact q1
 rotate_right
 have b1:decide (o.item≤3)=true:=by rw [decide_eq_true_eq];exact q1
 by_cases q2:1≤o.count
 rotate_left
 have b2:decide (1≤o.count)=false:=by rw [decide_eq_false_iff_not];exact q2
 rotate_right
 have b2:decide (1≤o.count)=true:=by rw [decide_eq_true_eq];exact q2
 by_cases q3:o.count≤1048576
 rotate_left
 have b3:decide (o.count≤1048576)=false:=by rw [decide_eq_false_iff_not];exact q3
 rotate_right
 have b3:decide (o.count≤1048576)=true:=by rw [decide_eq_true_eq];exact q3
 ·cases ht:b0v o.tkey o.twho with
  | true =>
   have Ht:=uH ht
   have p1:o.item<4:=by omega
   have heq:=fun w=>eql_api.Op ⟨2,o.client,o.seq,o.key,o.who,o.tkey,o.twho,o.item,o.count,0,false,0⟩ { o with kind:=2 } w r (by rw [f0z,←hr];simp [eqR,e0_nil,q0,p1,q2,q3,ht])
   simp only at heq
   clear hr
   clear ht
   ((go_enter Tryz.func30,Tryz.ntmps30;(go_wp2_with fail);(refine a0e fun wa hwa=>?_;have wa_s0:=sg w.heap.size hwa;obtain ⟨wa_c0,wa_c1,wa_c2,wa_c3,wa_c4,wa_c5,wa_c6,wa_c7,wa_c8,wa_c9,wa_c10,wa_c11⟩:=kz12 hwa w.heap.size (aI aK 2) (aI aK o.client) (aI aK o.seq) (aS o.key) (aS o.who) (aS o.tkey) (aS o.twho) (aI aK o.item) (aI aK o.count) (aI aK o.price) (aB o.buy) (aI aK o.id);have wa_b:Below w.heap.size w wa:=(by rw [hwa];exact bg);clear hwa);(refine (b0t o.key o.who _ true Hp.out).mono ?_);(rintro e w1 ⟨rfl,w1_h⟩;obtain ⟨w1_hc,w1_hf⟩:=a0w w1_h;have w1_z:=w1_h.size;have w1_b:=wa_b.trans (w1_h.mono (by have:=wa_b.size;omega));have w1_le:=w1_b.size;have w1_s0:w.heap.size<w1.heap.size:=(by omega);clear w1_h);(go_wp2_with fail));(refine a0d fun wb hwb=>?_;have wb_s0:=sg w.heap.size hwb;have wb_s1:=sg w1.heap.size hwb;obtain ⟨wb_c0,wb_c1,wb_c2,wb_c3,wb_c4,wb_c5,wb_c6,wb_c7,wb_c8,wb_c9,wb_c10,wb_c11⟩:=kz12 hwb w.heap.size (aI aK 2) (aI aK o.client) (aI aK o.seq) (aS o.key) (aS o.who) (aS o.tkey) (aS o.twho) (aI aK o.item) (aI aK o.count) (aI aK o.price) (aB o.buy) (aI aK o.id);obtain ⟨wb_c12,wb_c13,wb_c14,wb_c15,wb_c16,wb_c17,wb_c18,wb_c19,wb_c20,wb_c21,wb_c22,wb_c23⟩:=kz12 hwb w1.heap.size (aI aK 2) (aI aK o.client) (aI aK o.seq) (aS o.key) (aS o.who) (aS ⟨#[]⟩) (aS ⟨#[]⟩) (aI aK 0) (aI aK 0) (aI aK 0) (aB false) (aI aK 0);obtain ⟨wb_f17,wb_f18,wb_f19,wb_f20,wb_f21,wb_f22,wb_f23⟩:=ff7 hwb w1.heap.size 5 w1.heap.size 6 w1.heap.size 7 w1.heap.size 8 w1.heap.size 9 w1.heap.size 10 w1.heap.size 11;have wb_b:Below w.heap.size w wb:=(by rw [hwb];exact bg);clear hwb);(have hne:¬w.heap.size=w1.heap.size:=(by omega));go_region;(go_wp2_with fail))
   ((refine a0e fun wc hwc=>?_;have wc_s0:=sg w.heap.size hwc;have wc_s1:=sg w1.heap.size hwc;obtain ⟨wc_c0,wc_c1,wc_c2,wc_c3,wc_c4,wc_c5,wc_c6,wc_c7,wc_c8,wc_c9,wc_c10,wc_c11⟩:=kz12 hwc w.heap.size (aI aK 2) (aI aK o.client) (aI aK o.seq) (aS o.key) (aS o.who) (aS o.tkey) (aS o.twho) (aI aK o.item) (aI aK o.count) (aI aK o.price) (aB o.buy) (aI aK o.id);obtain ⟨wc_c12,wc_c13,wc_c14,wc_c15,wc_c16,wc_c17,wc_c18,wc_c19,wc_c20,wc_c21,wc_c22,wc_c23⟩:=kz12 hwc w1.heap.size (aI aK 2) (aI aK o.client) (aI aK o.seq) (aS o.key) (aS o.who) (aS o.tkey) (aS o.twho) (aI aK o.item) (aI aK o.count) (aI aK 0) (aB false) (aI aK 0);have wc_b:Below w.heap.size w wc:=(by rw [hwc];exact bg);clear hwc);(refine (b0t o.tkey o.twho _ true Ht.out).mono ?_);(rintro e w2 ⟨rfl,w2_h⟩;obtain ⟨w2_hc,w2_hf⟩:=a0w w2_h;have w2_z:=w2_h.size;have w2_b:=wc_b.trans (w2_h.mono (by have:=wc_b.size;omega));have w2_le:=w2_b.size;have w2_s0:w.heap.size<w2.heap.size:=(by omega);have w2_s1:w1.heap.size<w2.heap.size:=(by omega);clear w2_h);(go_wp2_with fail))
   go_ret
   exact ⟨rfl,bg⟩
  | false =>
   have Ht:=uH ht
   have hrf:r=false:=by rw [←hr,ht];rfl
   clear hr ht
   subst hrf
   ((go_enter Tryz.func30,Tryz.ntmps30;(go_wp2_with fail);(refine a0e fun wa hwa=>?_;have wa_s0:=sg w.heap.size hwa;obtain ⟨wa_c0,wa_c1,wa_c2,wa_c3,wa_c4,wa_c5,wa_c6,wa_c7,wa_c8,wa_c9,wa_c10,wa_c11⟩:=kz12 hwa w.heap.size (aI aK 2) (aI aK o.client) (aI aK o.seq) (aS o.key) (aS o.who) (aS o.tkey) (aS o.twho) (aI aK o.item) (aI aK o.count) (aI aK o.price) (aB o.buy) (aI aK o.id);have wa_b:Below w.heap.size w wa:=(by rw [hwa];exact bg);clear hwa);(refine (b0t o.key o.who _ true Hp.out).mono ?_);(rintro e w1 ⟨rfl,w1_h⟩;obtain ⟨w1_hc,w1_hf⟩:=a0w w1_h;have w1_z:=w1_h.size;have w1_b:=wa_b.trans (w1_h.mono (by have:=wa_b.size;omega));have w1_le:=w1_b.size;have w1_s0:w.heap.size<w1.heap.size:=(by omega);clear w1_h);(go_wp2_with fail));(refine a0d fun wb hwb=>?_;have wb_s0:=sg w.heap.size hwb;have wb_s1:=sg w1.heap.size hwb;obtain ⟨wb_c0,wb_c1,wb_c2,wb_c3,wb_c4,wb_c5,wb_c6,wb_c7,wb_c8,wb_c9,wb_c10,wb_c11⟩:=kz12 hwb w.heap.size (aI aK 2) (aI aK o.client) (aI aK o.seq) (aS o.key) (aS o.who) (aS o.tkey) (aS o.twho) (aI aK o.item) (aI aK o.count) (aI aK o.price) (aB o.buy) (aI aK o.id);obtain ⟨wb_c12,wb_c13,wb_c14,wb_c15,wb_c16,wb_c17,wb_c18,wb_c19,wb_c20,wb_c21,wb_c22,wb_c23⟩:=kz12 hwb w1.heap.size (aI aK 2) (aI aK o.client) (aI aK o.seq) (aS o.key) (aS o.who) (aS ⟨#[]⟩) (aS ⟨#[]⟩) (aI aK 0) (aI aK 0) (aI aK 0) (aB false) (aI aK 0);obtain ⟨wb_f17,wb_f18,wb_f19,wb_f20,wb_f21,wb_f22,wb_f23⟩:=ff7 hwb w1.heap.size 5 w1.heap.size 6 w1.heap.size 7 w1.heap.size 8 w1.heap.size 9 w1.heap.size 10 w1.heap.size 11;have wb_b:Below w.heap.size w wb:=(by rw [hwb];exact bg);clear hwb);(have hne:¬w.heap.size=w1.heap.size:=(by omega));go_region;(go_wp2_with fail))
   ((refine a0e fun wc hwc=>?_;have wc_s0:=sg w.heap.size hwc;have wc_s1:=sg w1.heap.size hwc;obtain ⟨wc_c0,wc_c1,wc_c2,wc_c3,wc_c4,wc_c5,wc_c6,wc_c7,wc_c8,wc_c9,wc_c10,wc_c11⟩:=kz12 hwc w.heap.size (aI aK 2) (aI aK o.client) (aI aK o.seq) (aS o.key) (aS o.who) (aS o.tkey) (aS o.twho) (aI aK o.item) (aI aK o.count) (aI aK o.price) (aB o.buy) (aI aK o.id);obtain ⟨wc_c12,wc_c13,wc_c14,wc_c15,wc_c16,wc_c17,wc_c18,wc_c19,wc_c20,wc_c21,wc_c22,wc_c23⟩:=kz12 hwc w1.heap.size (aI aK 2) (aI aK o.client) (aI aK o.seq) (aS o.key) (aS o.who) (aS o.tkey) (aS o.twho) (aI aK o.item) (aI aK o.count) (aI aK 0) (aB false) (aI aK 0);have wc_b:Below w.heap.size w wc:=(by rw [hwc];exact bg);clear hwc);(refine (b0t o.tkey o.twho _ false Ht.out).mono ?_);(rintro e w2 ⟨rfl,w2_h⟩;obtain ⟨w2_hc,w2_hf⟩:=a0w w2_h;have w2_z:=w2_h.size;have w2_b:=wc_b.trans (w2_h.mono (by have:=wc_b.size;omega));have w2_le:=w2_b.size;have w2_s0:w.heap.size<w2.heap.size:=(by omega);have w2_s1:w1.heap.size<w2.heap.size:=(by omega);clear w2_h);(go_wp2_with fail))
   go_ret
   exact ⟨rfl,bg⟩
 all_goals
  have hrf:r=false:=by rw [←hr];simp;omega
  clear hr
  subst hrf
  ((go_enter Tryz.func30,Tryz.ntmps30;(go_wp2_with fail);(refine a0e fun wa hwa=>?_;have wa_s0:=sg w.heap.size hwa;obtain ⟨wa_c0,wa_c1,wa_c2,wa_c3,wa_c4,wa_c5,wa_c6,wa_c7,wa_c8,wa_c9,wa_c10,wa_c11⟩:=kz12 hwa w.heap.size (aI aK 2) (aI aK o.client) (aI aK o.seq) (aS o.key) (aS o.who) (aS o.tkey) (aS o.twho) (aI aK o.item) (aI aK o.count) (aI aK o.price) (aB o.buy) (aI aK o.id);have wa_b:Below w.heap.size w wa:=(by rw [hwa];exact bg);clear hwa);(refine (b0t o.key o.who _ true Hp.out).mono ?_);(rintro e w1 ⟨rfl,w1_h⟩;obtain ⟨w1_hc,w1_hf⟩:=a0w w1_h;have w1_z:=w1_h.size;have w1_b:=wa_b.trans (w1_h.mono (by have:=wa_b.size;omega));have w1_le:=w1_b.size;have w1_s0:w.heap.size<w1.heap.size:=(by omega);clear w1_h);(go_wp2_with fail));(refine a0d fun wb hwb=>?_;have wb_s0:=sg w.heap.size hwb;have wb_s1:=sg w1.heap.size hwb;obtain ⟨wb_c0,wb_c1,wb_c2,wb_c3,wb_c4,wb_c5,wb_c6,wb_c7,wb_c8,wb_c9,wb_c10,wb_c11⟩:=kz12 hwb w.heap.size (aI aK 2) (aI aK o.client) (aI aK o.seq) (aS o.key) (aS o.who) (aS o.tkey) (aS o.twho) (aI aK o.item) (aI aK o.count) (aI aK o.price) (aB o.buy) (aI aK o.id);obtain ⟨wb_c12,wb_c13,wb_c14,wb_c15,wb_c16,wb_c17,wb_c18,wb_c19,wb_c20,wb_c21,wb_c22,wb_c23⟩:=kz12 hwb w1.heap.size (aI aK 2) (aI aK o.client) (aI aK o.seq) (aS o.key) (aS o.who) (aS ⟨#[]⟩) (aS ⟨#[]⟩) (aI aK 0) (aI aK 0) (aI aK 0) (aB false) (aI aK 0);obtain ⟨wb_f17,wb_f18,wb_f19,wb_f20,wb_f21,wb_f22,wb_f23⟩:=ff7 hwb w1.heap.size 5 w1.heap.size 6 w1.heap.size 7 w1.heap.size 8 w1.heap.size 9 w1.heap.size 10 w1.heap.size 11;have wb_b:Below w.heap.size w wb:=(by rw [hwb];exact bg);clear hwb);(have hne:¬w.heap.size=w1.heap.size:=(by omega));go_region;(go_wp2_with fail))
  go_ret
  exact ⟨rfl,bg⟩
open Go.RowKit
set_option maxRecDepth 100000 in
set_option maxHeartbeats 8000000 in
theorem rmay_3 (o:Rq) (w:World) (r:Bool) (c1:1≤o.client) (c2:o.client≤1048576) (c3:1≤o.seq) (c4:o.seq≤1099511627776) (hp:b0v o.key o.who=true) (hr:mayO { o with kind:=3 }=r) :
 Calls Tryz.prog 30 #[.agg #[aI aK 3,aI aK o.client,aI aK o.seq,aS o.key,aS o.who,aS o.tkey,aS o.twho,aI aK o.item,aI aK o.count,aI aK o.price,aB o.buy,aI aK o.id]] w fun e w'=>e=.returned (aB r)∧Below w.heap.size w w':=by
 have Hp:=uH hp
 have hkind:c0d { o with kind:=3 }=ordO { o with kind:=3 }:=by simp [c0d]
 have hr2:c0d { o with kind:=3 }=r:=by rw [←hr];simp [mayO,hp,c1,c2,c3,c4]
 rw [hkind] at hr2
 clear hp hr hkind
 have hr:=hr2
 simp only [ordO,cntO] at hr
 clear hr2
 have d2:decide (1048576<o.client)=false:=by rw [decide_eq_false_iff_not];omega
 have d1:decide (o.client<1)=false:=by rw [decide_eq_false_iff_not];omega
 have d3:decide (o.seq<1)=false:=by rw [decide_eq_false_iff_not];omega
 have d4:decide (1099511627776<o.seq)=false:=by rw [decide_eq_false_iff_not];omega
 by_cases q0:1≤o.item
 rotate_left
 have b0:decide (1≤o.item)=false:=by rw [decide_eq_false_iff_not];exact q0
 rotate_right
 have b0:decide (1≤o.item)=true:=by rw [decide_eq_true_eq];exact q0
 by_cases q1:o.item≤3
 rotate_left
 have b1:decide (o.item≤3)=false:=by rw [decide_eq_false_iff_not];exact q1
 rotate_right
 have b1:decide (o.item≤3)=true:=by rw [decide_eq_true_eq];exact q1
 by_cases q2:1≤o.count
 rotate_left
 have b2:decide (1≤o.count)=false:=by rw [decide_eq_false_iff_not];exact q2
 rotate_right
 have b2:decide (1≤o.count)=true:=by rw [decide_eq_true_eq];exact q2
 by_cases q3:o.count≤1048576
 rotate_left
 have b3:decide (o.count≤1048576)=false:=by rw [decide_eq_false_iff_not];exact q3
 rotate_right
 have b3:decide (o.count≤1048576)=true:=by rw [decide_eq_true_eq];exact q3
 by_cases q4:1≤o.price
 rotate_left
 have b4:decide (1≤o.price)=false:=by rw [decide_eq_false_iff_not];exact q4
 rotate_right
 have b4:decide (1≤o.price)=true:=by rw [decide_eq_true_eq];exact q4
 by_cases q5:o.price≤1024
 rotate_left
 have b5:decide (o.price≤1024)=false:=by rw [decide_eq_false_iff_not];exact q5
 rotate_right
 have b5:decide (o.price≤1024)=true:=by rw [decide_eq_true_eq];exact q5
 have p1:o.item<4:=by omega
 have p0:0≤o.item:=by omega
 have heq:=fun w=>eql_api.Op ⟨3,o.client,o.seq,o.key,o.who,⟨#[]⟩,⟨#[]⟩,o.item,o.count,o.price,o.buy,0⟩ { o with kind:=3 } w r (by rw [f0z,←hr];simp [eqR,q0,p0,p1,q2,q3,q4,q5])
 simp only at heq
 clear hr
 all_goals
  (try (have hrf:r=false:=(by rw [←hr];simp;omega);clear hr;subst hrf))
  ((go_enter Tryz.func30,Tryz.ntmps30;(go_wp2_with fail);(refine a0e fun wa hwa=>?_;have wa_s0:=sg w.heap.size hwa;obtain ⟨wa_c0,wa_c1,wa_c2,wa_c3,wa_c4,wa_c5,wa_c6,wa_c7,wa_c8,wa_c9,wa_c10,wa_c11⟩:=kz12 hwa w.heap.size (aI aK 3) (aI aK o.client) (aI aK o.seq) (aS o.key) (aS o.who) (aS o.tkey) (aS o.twho) (aI aK o.item) (aI aK o.count) (aI aK o.price) (aB o.buy) (aI aK o.id);have wa_b:Below w.heap.size w wa:=(by rw [hwa];exact bg);clear hwa);(refine (b0t o.key o.who _ true Hp.out).mono ?_);(rintro e w1 ⟨rfl,w1_h⟩;obtain ⟨w1_hc,w1_hf⟩:=a0w w1_h;have w1_z:=w1_h.size;have w1_b:=wa_b.trans (w1_h.mono (by have:=wa_b.size;omega));have w1_le:=w1_b.size;have w1_s0:w.heap.size<w1.heap.size:=(by omega);clear w1_h);(go_wp2_with fail));(refine a0d fun wb hwb=>?_;have wb_s0:=sg w.heap.size hwb;have wb_s1:=sg w1.heap.size hwb;obtain ⟨wb_c0,wb_c1,wb_c2,wb_c3,wb_c4,wb_c5,wb_c6,wb_c7,wb_c8,wb_c9,wb_c10,wb_c11⟩:=kz12 hwb w.heap.size (aI aK 3) (aI aK o.client) (aI aK o.seq) (aS o.key) (aS o.who) (aS o.tkey) (aS o.twho) (aI aK o.item) (aI aK o.count) (aI aK o.price) (aB o.buy) (aI aK o.id);obtain ⟨wb_c12,wb_c13,wb_c14,wb_c15,wb_c16,wb_c17,wb_c18,wb_c19,wb_c20,wb_c21,wb_c22,wb_c23⟩:=kz12 hwb w1.heap.size (aI aK 3) (aI aK o.client) (aI aK o.seq) (aS o.key) (aS o.who) (aS ⟨#[]⟩) (aS ⟨#[]⟩) (aI aK 0) (aI aK 0) (aI aK 0) (aB false) (aI aK 0);obtain ⟨wb_f17,wb_f18,wb_f19,wb_f20,wb_f21,wb_f22,wb_f23⟩:=ff7 hwb w1.heap.size 5 w1.heap.size 6 w1.heap.size 7 w1.heap.size 8 w1.heap.size 9 w1.heap.size 10 w1.heap.size 11;have wb_b:Below w.heap.size w wb:=(by rw [hwb];exact bg);clear hwb);(have hne:¬w.heap.size=w1.heap.size:=(by omega));go_region;(go_wp2_with fail))
  go_ret
  exact ⟨rfl,bg⟩
open Go.RowKit
set_option maxRecDepth 100000 in
set_option maxHeartbeats 8000000 in
theorem rmay_4 (o:Rq) (w:World) (r:Bool) (c1:1≤o.client) (c2:o.client≤1048576) (c3:1≤o.seq) (c4:o.seq≤1099511627776) (hp:b0v o.key o.who=true) (hr:mayO { o with kind:=4 }=r) :
 Calls Tryz.prog 30 #[.agg #[aI aK 4,aI aK o.client,aI aK o.seq,aS o.key,aS o.who,aS o.tkey,aS o.twho,aI aK o.item,aI aK o.count,aI aK o.price,aB o.buy,aI aK o.id]] w fun e w'=>e=.returned (aB r)∧Below w.heap.size w w':=by
 have Hp:=uH hp
 have hkind:c0d { o with kind:=4 }=canO { o with kind:=4 }:=by simp [c0d]
 have hr2:c0d { o with kind:=4 }=r:=by rw [←hr];simp [mayO,hp,c1,c2,c3,c4]
 rw [hkind] at hr2
 clear hp hr hkind
 have hr:=hr2
 simp only [canO] at hr
 clear hr2
 have d2:decide (1048576<o.client)=false:=by rw [decide_eq_false_iff_not];omega
 have d1:decide (o.client<1)=false:=by rw [decide_eq_false_iff_not];omega
 have d3:decide (o.seq<1)=false:=by rw [decide_eq_false_iff_not];omega
 have d4:decide (1099511627776<o.seq)=false:=by rw [decide_eq_false_iff_not];omega
 by_cases q0:1≤o.id
 rotate_left
 have b0:decide (1≤o.id)=false:=by rw [decide_eq_false_iff_not];exact q0
 rotate_right
 have b0:decide (1≤o.id)=true:=by rw [decide_eq_true_eq];exact q0
 by_cases q1:o.id≤1099511627776
 rotate_left
 have b1:decide (o.id≤1099511627776)=false:=by rw [decide_eq_false_iff_not];exact q1
 rotate_right
 have b1:decide (o.id≤1099511627776)=true:=by rw [decide_eq_true_eq];exact q1
 have heq:=fun w=>eql_api.Op ⟨4,o.client,o.seq,o.key,o.who,⟨#[]⟩,⟨#[]⟩,0,0,0,false,o.id⟩ { o with kind:=4 } w r (by rw [f0z,←hr];simp [eqR,q0,q1])
 simp only at heq
 clear hr
 all_goals
  (try (have hrf:r=false:=(by rw [←hr];simp;omega);clear hr;subst hrf))
  (go_enter Tryz.func30,Tryz.ntmps30;(go_wp2_with fail);(refine a0e fun wa hwa=>?_;have wa_s0:=sg w.heap.size hwa;obtain ⟨wa_c0,wa_c1,wa_c2,wa_c3,wa_c4,wa_c5,wa_c6,wa_c7,wa_c8,wa_c9,wa_c10,wa_c11⟩:=kz12 hwa w.heap.size (aI aK 4) (aI aK o.client) (aI aK o.seq) (aS o.key) (aS o.who) (aS o.tkey) (aS o.twho) (aI aK o.item) (aI aK o.count) (aI aK o.price) (aB o.buy) (aI aK o.id);have wa_b:Below w.heap.size w wa:=(by rw [hwa];exact bg);clear hwa);(refine (b0t o.key o.who _ true Hp.out).mono ?_);(rintro e w1 ⟨rfl,w1_h⟩;obtain ⟨w1_hc,w1_hf⟩:=a0w w1_h;have w1_z:=w1_h.size;have w1_b:=wa_b.trans (w1_h.mono (by have:=wa_b.size;omega));have w1_le:=w1_b.size;have w1_s0:w.heap.size<w1.heap.size:=(by omega);clear w1_h);(go_wp2_with fail))
  go_ret
  exact ⟨rfl,bg⟩
open Go.RowKit
set_option maxRecDepth 100000 in
set_option maxHeartbeats 8000000 in
theorem rmay_5 (o:Rq) (w:World) (r:Bool) (c1:1≤o.client) (c2:o.client≤1048576) (c3:1≤o.seq) (c4:o.seq≤1099511627776) (hp:b0v o.key o.who=true) (hr:mayO { o with kind:=5 }=r) :
 Calls Tryz.prog 30 #[.agg #[aI aK 5,aI aK o.client,aI aK o.seq,aS o.key,aS o.who,aS o.tkey,aS o.twho,aI aK o.item,aI aK o.count,aI aK o.price,aB o.buy,aI aK o.id]] w fun e w'=>e=.returned (aB r)∧Below w.heap.size w w':=by
 have Hp:=uH hp
 have hkind:c0d { o with kind:=5 }=barO { o with kind:=5 }:=by simp [c0d]
 have hr2:c0d { o with kind:=5 }=r:=by rw [←hr];simp [mayO,hp,c1,c2,c3,c4]
 rw [hkind] at hr2
 clear hp hr hkind
 have hr:=hr2
 simp only [barO] at hr
 clear hr2
 have d2:decide (1048576<o.client)=false:=by rw [decide_eq_false_iff_not];omega
 have d1:decide (o.client<1)=false:=by rw [decide_eq_false_iff_not];omega
 have d3:decide (o.seq<1)=false:=by rw [decide_eq_false_iff_not];omega
 have d4:decide (1099511627776<o.seq)=false:=by rw [decide_eq_false_iff_not];omega
 have heq:=fun w=>eql_api.Op ⟨5,o.client,o.seq,o.key,o.who,⟨#[]⟩,⟨#[]⟩,0,0,0,false,0⟩ { o with kind:=5 } w r (by rw [f0z,←hr];simp [eqR])
 simp only at heq
 clear hr
 (go_enter Tryz.func30,Tryz.ntmps30;(go_wp2_with fail);(refine a0e fun wa hwa=>?_;have wa_s0:=sg w.heap.size hwa;obtain ⟨wa_c0,wa_c1,wa_c2,wa_c3,wa_c4,wa_c5,wa_c6,wa_c7,wa_c8,wa_c9,wa_c10,wa_c11⟩:=kz12 hwa w.heap.size (aI aK 5) (aI aK o.client) (aI aK o.seq) (aS o.key) (aS o.who) (aS o.tkey) (aS o.twho) (aI aK o.item) (aI aK o.count) (aI aK o.price) (aB o.buy) (aI aK o.id);have wa_b:Below w.heap.size w wa:=(by rw [hwa];exact bg);clear hwa);(refine (b0t o.key o.who _ true Hp.out).mono ?_);(rintro e w1 ⟨rfl,w1_h⟩;obtain ⟨w1_hc,w1_hf⟩:=a0w w1_h;have w1_z:=w1_h.size;have w1_b:=wa_b.trans (w1_h.mono (by have:=wa_b.size;omega));have w1_le:=w1_b.size;have w1_s0:w.heap.size<w1.heap.size:=(by omega);clear w1_h);(go_wp2_with fail))
 go_ret
 exact ⟨rfl,bg⟩
open Go.RowKit
set_option maxRecDepth 100000 in
set_option maxHeartbeats 8000000 in
theorem rmay_6 (o:Rq) (w:World) (r:Bool) (c1:1≤o.client) (c2:o.client≤1048576) (c3:1≤o.seq) (c4:o.seq≤1099511627776) (hp:b0v o.key o.who=true) (hr:mayO { o with kind:=6 }=r) :
 Calls Tryz.prog 30 #[.agg #[aI aK 6,aI aK o.client,aI aK o.seq,aS o.key,aS o.who,aS o.tkey,aS o.twho,aI aK o.item,aI aK o.count,aI aK o.price,aB o.buy,aI aK o.id]] w fun e w'=>e=.returned (aB r)∧Below w.heap.size w w':=by
 have Hp:=uH hp
 have hkind:c0d { o with kind:=6 }=cntO { o with kind:=6 }:=by simp [c0d]
 have hr2:c0d { o with kind:=6 }=r:=by rw [←hr];simp [mayO,hp,c1,c2,c3,c4]
 rw [hkind] at hr2
 clear hp hr hkind
 have hr:=hr2
 simp only [cntO] at hr
 clear hr2
 have d2:decide (1048576<o.client)=false:=by rw [decide_eq_false_iff_not];omega
 have d1:decide (o.client<1)=false:=by rw [decide_eq_false_iff_not];omega
 have d3:decide (o.seq<1)=false:=by rw [decide_eq_false_iff_not];omega
 have d4:decide (1099511627776<o.seq)=false:=by rw [decide_eq_false_iff_not];omega
 by_cases q0:0≤o.item
 rotate_left
 have b0:decide (0≤o.item)=false:=by rw [decide_eq_false_iff_not];exact q0
 rotate_right
 have b0:decide (0≤o.item)=true:=by rw [decide_eq_true_eq];exact q0
 by_cases q1:o.item≤3
 rotate_left
 have b1:decide (o.item≤3)=false:=by rw [decide_eq_false_iff_not];exact q1
 rotate_right
 have b1:decide (o.item≤3)=true:=by rw [decide_eq_true_eq];exact q1
 by_cases q2:1≤o.count
 rotate_left
 have b2:decide (1≤o.count)=false:=by rw [decide_eq_false_iff_not];exact q2
 rotate_right
 have b2:decide (1≤o.count)=true:=by rw [decide_eq_true_eq];exact q2
 by_cases q3:o.count≤1048576
 rotate_left
 have b3:decide (o.count≤1048576)=false:=by rw [decide_eq_false_iff_not];exact q3
 rotate_right
 have b3:decide (o.count≤1048576)=true:=by rw [decide_eq_true_eq];exact q3
 have p1:o.item<4:=by omega
 have heq:=fun w=>eql_api.Op ⟨6,o.client,o.seq,o.key,o.who,⟨#[]⟩,⟨#[]⟩,o.item,o.count,0,false,0⟩ { o with kind:=6 } w r (by rw [f0z,←hr];simp [eqR,q0,p1,q2,q3])
 simp only at heq
 clear hr
 all_goals
  (try (have hrf:r=false:=(by rw [←hr];simp;omega);clear hr;subst hrf))
  ((go_enter Tryz.func30,Tryz.ntmps30;(go_wp2_with fail);(refine a0e fun wa hwa=>?_;have wa_s0:=sg w.heap.size hwa;obtain ⟨wa_c0,wa_c1,wa_c2,wa_c3,wa_c4,wa_c5,wa_c6,wa_c7,wa_c8,wa_c9,wa_c10,wa_c11⟩:=kz12 hwa w.heap.size (aI aK 6) (aI aK o.client) (aI aK o.seq) (aS o.key) (aS o.who) (aS o.tkey) (aS o.twho) (aI aK o.item) (aI aK o.count) (aI aK o.price) (aB o.buy) (aI aK o.id);have wa_b:Below w.heap.size w wa:=(by rw [hwa];exact bg);clear hwa);(refine (b0t o.key o.who _ true Hp.out).mono ?_);(rintro e w1 ⟨rfl,w1_h⟩;obtain ⟨w1_hc,w1_hf⟩:=a0w w1_h;have w1_z:=w1_h.size;have w1_b:=wa_b.trans (w1_h.mono (by have:=wa_b.size;omega));have w1_le:=w1_b.size;have w1_s0:w.heap.size<w1.heap.size:=(by omega);clear w1_h);(go_wp2_with fail));(refine a0d fun wb hwb=>?_;have wb_s0:=sg w.heap.size hwb;have wb_s1:=sg w1.heap.size hwb;obtain ⟨wb_c0,wb_c1,wb_c2,wb_c3,wb_c4,wb_c5,wb_c6,wb_c7,wb_c8,wb_c9,wb_c10,wb_c11⟩:=kz12 hwb w.heap.size (aI aK 6) (aI aK o.client) (aI aK o.seq) (aS o.key) (aS o.who) (aS o.tkey) (aS o.twho) (aI aK o.item) (aI aK o.count) (aI aK o.price) (aB o.buy) (aI aK o.id);obtain ⟨wb_c12,wb_c13,wb_c14,wb_c15,wb_c16,wb_c17,wb_c18,wb_c19,wb_c20,wb_c21,wb_c22,wb_c23⟩:=kz12 hwb w1.heap.size (aI aK 6) (aI aK o.client) (aI aK o.seq) (aS o.key) (aS o.who) (aS ⟨#[]⟩) (aS ⟨#[]⟩) (aI aK 0) (aI aK 0) (aI aK 0) (aB false) (aI aK 0);obtain ⟨wb_f17,wb_f18,wb_f19,wb_f20,wb_f21,wb_f22,wb_f23⟩:=ff7 hwb w1.heap.size 5 w1.heap.size 6 w1.heap.size 7 w1.heap.size 8 w1.heap.size 9 w1.heap.size 10 w1.heap.size 11;have wb_b:Below w.heap.size w wb:=(by rw [hwb];exact bg);clear hwb);(have hne:¬w.heap.size=w1.heap.size:=(by omega));go_region;(go_wp2_with fail))
  go_ret
  exact ⟨rfl,bg⟩
open Go.RowKit
set_option maxRecDepth 100000 in
set_option maxHeartbeats 8000000 in
theorem rmay_7 (o:Rq) (w:World) (r:Bool) (c1:1≤o.client) (c2:o.client≤1048576) (c3:1≤o.seq) (c4:o.seq≤1099511627776) (hp:b0v o.key o.who=true) (hr:mayO { o with kind:=7 }=r) :
 Calls Tryz.prog 30 #[.agg #[aI aK 7,aI aK o.client,aI aK o.seq,aS o.key,aS o.who,aS o.tkey,aS o.twho,aI aK o.item,aI aK o.count,aI aK o.price,aB o.buy,aI aK o.id]] w fun e w'=>e=.returned (aB r)∧Below w.heap.size w w':=by
 have Hp:=uH hp
 have hkind:c0d { o with kind:=7 }=barO { o with kind:=7 }:=by simp [c0d]
 have hr2:c0d { o with kind:=7 }=r:=by rw [←hr];simp [mayO,hp,c1,c2,c3,c4]
 rw [hkind] at hr2
 clear hp hr hkind
 have hr:=hr2
 simp only [barO] at hr
 clear hr2
 have d2:decide (1048576<o.client)=false:=by rw [decide_eq_false_iff_not];omega
 have d1:decide (o.client<1)=false:=by rw [decide_eq_false_iff_not];omega
 have d3:decide (o.seq<1)=false:=by rw [decide_eq_false_iff_not];omega
 have d4:decide (1099511627776<o.seq)=false:=by rw [decide_eq_false_iff_not];omega
 have heq:=fun w=>eql_api.Op ⟨7,o.client,o.seq,o.key,o.who,⟨#[]⟩,⟨#[]⟩,0,0,0,false,0⟩ { o with kind:=7 } w r (by rw [f0z,←hr];simp [eqR])
 simp only at heq
 clear hr
 (go_enter Tryz.func30,Tryz.ntmps30;(go_wp2_with fail);(refine a0e fun wa hwa=>?_;have wa_s0:=sg w.heap.size hwa;obtain ⟨wa_c0,wa_c1,wa_c2,wa_c3,wa_c4,wa_c5,wa_c6,wa_c7,wa_c8,wa_c9,wa_c10,wa_c11⟩:=kz12 hwa w.heap.size (aI aK 7) (aI aK o.client) (aI aK o.seq) (aS o.key) (aS o.who) (aS o.tkey) (aS o.twho) (aI aK o.item) (aI aK o.count) (aI aK o.price) (aB o.buy) (aI aK o.id);have wa_b:Below w.heap.size w wa:=(by rw [hwa];exact bg);clear hwa);(refine (b0t o.key o.who _ true Hp.out).mono ?_);(rintro e w1 ⟨rfl,w1_h⟩;obtain ⟨w1_hc,w1_hf⟩:=a0w w1_h;have w1_z:=w1_h.size;have w1_b:=wa_b.trans (w1_h.mono (by have:=wa_b.size;omega));have w1_le:=w1_b.size;have w1_s0:w.heap.size<w1.heap.size:=(by omega);clear w1_h);(go_wp2_with fail))
 go_ret
 exact ⟨rfl,bg⟩
open Go.RowKit
theorem k0a (o:Rq) (w:World) (r:Bool) (hr:mayO o=r) :
 Calls Tryz.prog 30 #[.agg #[aI aK o.kind,aI aK o.client,aI aK o.seq,aS o.key,aS o.who,aS o.tkey,aS o.twho,aI aK o.item,aI aK o.count,aI aK o.price,aB o.buy,aI aK o.id]] w fun e w'=>e=.returned (aB r)∧Below w.heap.size w w':=by
 cases hq:(decide (1≤o.client∧o.client≤1048576∧1≤o.seq∧o.seq≤1099511627776)&&b0v o.key o.who) with
 | false =>
  have:r=false:=by rw [←hr];unfold mayO;rw [hq,Bool.false_and]
  subst this
  exact rmay_no o w hq
 | true =>
  have hq2:=hq
  simp only [Bool.and_eq_true,decide_eq_true_eq] at hq2
  obtain ⟨⟨c1,c2,c3,c4⟩,hp⟩:=hq2
  by_cases hk:o.kind<1∨7<o.kind
  ·have:r=false:=by
    rw [←hr];unfold mayO
    have:c0d o=false:=by
     unfold c0d
     rw [if_neg (by omega),if_neg (by omega),if_neg (by omega),if_neg (by omega),if_neg (by omega)]
    rw [this,Bool.and_false]
   subst this
   exact rmay_out o w c1 c2 c3 c4 hp hk
  ·obtain ⟨kind,client,seq,key,who,tkey,twho,item,count,price,buy,id⟩:=o
   simp only at *
   have h2:kind=1∨kind=2∨kind=3∨kind=4∨kind=5∨kind=6∨kind=7:=by omega
   rcases h2 with rfl | rfl | rfl | rfl | rfl | rfl | rfl
   ·exact rmay_1 ⟨1,client,seq,key,who,tkey,twho,item,count,price,buy,id⟩ w r c1 c2 c3 c4 hp hr
   ·exact rmay_2 ⟨2,client,seq,key,who,tkey,twho,item,count,price,buy,id⟩ w r c1 c2 c3 c4 hp hr
   ·exact rmay_3 ⟨3,client,seq,key,who,tkey,twho,item,count,price,buy,id⟩ w r c1 c2 c3 c4 hp hr
   ·exact rmay_4 ⟨4,client,seq,key,who,tkey,twho,item,count,price,buy,id⟩ w r c1 c2 c3 c4 hp hr
   ·exact rmay_5 ⟨5,client,seq,key,who,tkey,twho,item,count,price,buy,id⟩ w r c1 c2 c3 c4 hp hr
   ·exact rmay_6 ⟨6,client,seq,key,who,tkey,twho,item,count,price,buy,id⟩ w r c1 c2 c3 c4 hp hr
   ·exact rmay_7 ⟨7,client,seq,key,who,tkey,twho,item,count,price,buy,id⟩ w r c1 c2 c3 c4 hp hr
end Go.Proofs.YtogamdaomdoapaaGreat