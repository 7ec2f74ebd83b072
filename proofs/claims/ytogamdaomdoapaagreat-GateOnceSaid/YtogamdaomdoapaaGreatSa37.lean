/- Texts put together: RPut, RMay, RMa1. -/
import Derived.Test.YtogamdaomdoapaaGreatSa02
import Derived.Test.YtogamdaomdoapaaGreatSa03
import Derived.Test.YtogamdaomdoapaaGreatSa05
import Derived.Test.YtogamdaomdoapaaGreatSa07
import Derived.Deep.DrawnRows
import Derived.Deep.RegionLaw
namespace Go.Proofs.YtogamdaomdoapaaGreat
open Go.RowKit
attribute [local go_sem ↓] Go.wp_at_zero Go.wp_at_succ
theorem one_any (b:Bool) (w:World):Calls Tryz.prog 129 #[.bool b] w fun e w'=>e=.returned (.int .i64 (b1 b))∧w=w':=by
 cases b with
 | true =>
  go_enter Tryz.func129,Tryz.ntmps129
  go_wp2_with fail
  go_ret
  exact ⟨rfl,rfl⟩
 | false =>
  go_enter Tryz.func129,Tryz.ntmps129
  go_wp2_with fail
  go_ret
  exact ⟨rfl,rfl⟩
theorem rowlen (s:ByteArray) (h:s.size≤16):(encS s).length≤26:=by
 have:=(encN_length s.data.toList.length).1
 simp only [encS,encRow,List.length_append,Array.length_toList,ByteArray.size] at this h ⊢
 omega
set_option maxHeartbeats 2000000 in
set_option maxRecDepth 20000 in
theorem put_any (k v:ByteArray) (hk:k.size≤16) (hv:v.size≤16) (w:World) :
 Calls Tryz.prog 128 #[.agg #[.string k,.string v]] w (FreshB w (encS k++encS v)):=by
 obtain ⟨i0,hi,hz0,hz1,hz2⟩:=info_parts byteInfo
 have hcv:=conv_bytes
 have hek:=rowlen k hk
 have hev:=rowlen v hv
 have hk2:k.data.toList.length≤1000000:=by rw [Array.length_toList];exact Nat.le_trans hk (by decide)
 have hv2:v.data.toList.length≤1000000:=by rw [Array.length_toList];exact Nat.le_trans hv (by decide)
 go_enter Tryz.func128,Tryz.ntmps128
 go_wp2_with fail
 (refine wp_name fun wa hwa=>?_;have wa_s0:=sg w.heap.size hwa;obtain ⟨wa_c0,wa_c1⟩:=kk2 hwa w.heap.size 0 (.string k) w.heap.size 1 (.string v);have wa_b:Below w.heap.size w wa:=(by rw [hwa];exact bg);clear hwa)
 have Hk:=Lib.hid (⟨hk2,hek⟩:_∧_)
 have Hv:=Lib.hid (⟨hv2,hev⟩:_∧_)
 clear hk2 hek hv2 hev hk hv
 have ga:=fun s=>((bytesWorld_below wa.drew s).cell (p:=⟨w.heap.size,0,none⟩) wa_s0).trans wa_c0
 have gb:=fun s=>((bytesWorld_below wa.drew s).cell (p:=⟨w.heap.size,1,none⟩) wa_s0).trans wa_c1
 go_region_law (first
  | (refine at_app _ _ (by rfl) ?_;go_must (refine step_append_any _ (by rfl) (.tmp 6) (.tmp 10) 47 (by rfl) wa.heap.size 5 i0 (.int .u8 0) 1 1 Tryz.underlying47 hi hz0 hz1 hz2 rfl (by decide) (.slice co1 (encS k).length cc1) (encS k).length (bytV (encS k)) (by rfl) ?_ co2 (encS v).length cc2 (bytV (encS v)) (by rfl) ho2.none (by rw [bytV_length,Nat.mul_one]) ho2.at.cells (bytV_one _) (by have h1:=Hk.out.2;have h2:=Hv.out.2;unfold maxLen;omega) (by have h1:=Hk.out.2;have h2:=Hv.out.2;omega) ?_ ?_;(focus (go_must (exact own_weak (own_growO ho1 (by first | exact hb2 | exact (bytesWorld_below _ _).trans (hb2.mono (by (try rw [bytesWorld_sz]);(try rw [bytesWorld_sz]);(try simp only [World.drew]);first | omega | (simp;omega))))) (by (try rw [bytesWorld_sz]);(try rw [bytesWorld_sz]);(try simp only [World.drew]);first | omega | (simp;omega)))));(focus (go_must (exact (by have h1:=hb1.size;have h2:=hb2.size;(try rw [bytesWorld_sz] at h1);(try rw [bytesWorld_sz] at h1);(try rw [bytesWorld_sz] at h2);(try rw [bytesWorld_sz] at h2);(try simp only [World.drew] at h1 h2);omega))));intro vv w3 hown hgrow;have hbw:Below wa.heap.size wa w2:=(by first | exact bstep (bstep (bstep (bstep (Below.refl _ _).drew (bytesWorld_below _ _)) hb1) (bytesWorld_below _ _)) hb2 | exact bstep (bstep (bstep (bstep (Below.refl _ _).drew (bytesWorld_below _ _)) (bytesWorld_below _ _)) hb1) hb2);have hb3:Below w.heap.size w w3:=wa_b.trans ((below_grown hbw hbw.size hgrow (fun j hj=>own_block (own_weak (own_growO ho1 (by first | exact hb2 | exact (bytesWorld_below _ _).trans (hb2.mono (by (try rw [bytesWorld_sz]);(try rw [bytesWorld_sz]);(try simp only [World.drew]);first | omega | (simp;omega))))) (by (try rw [bytesWorld_sz]);(try rw [bytesWorld_sz]);(try simp only [World.drew]);first | omega | (simp;omega))) hj)).mono (by omega));obtain ⟨bo,bc,rfl,ho3⟩:=owned_bytes (l:=encS k++encS v) (by rw [←bytV_append];exact hown) (by rw [List.length_append]);clear hown hgrow hbw))
  | (refine at_go 55 _ _ (by rfl) ?_;go_simp;go_at_call 55;(with_reducible refine (refBytes_str k _ _ _ ?_ Hk.out.1).mono ?_);(focus (first | exact bat_at wa.drew k _ rfl | exact (bat_at wa.drew k _ rfl).below (bytesWorld_below _ _) | exact bat_at (Lib.bytesWorld wa.drew 5 v) k _ (by rw [bytesWorld_sz];rfl) | exact bat_at w1 k _ rfl | exact (bat_at (Lib.bytesWorld wa.drew 5 v) k _ (by rw [bytesWorld_sz];rfl)).below hb1 | exact ((bat_at wa.drew k _ rfl).below (bytesWorld_below _ _)).below hb1));rintro e w1 ⟨co1,cc1,rfl,ho1,hb1⟩;have e1:w1.cell? ⟨w.heap.size,1,none⟩=some (.string v):=(by go_must (first | exact (hb1.cell (p:=⟨w.heap.size,1,none⟩) (by (try rw [bytesWorld_sz]);(try rw [bytesWorld_sz]);(try simp only [World.drew]);first | omega | (simp;omega))).trans (((bytesWorld_below _ _).cell (p:=⟨w.heap.size,1,none⟩) (by (try rw [bytesWorld_sz]);(try rw [bytesWorld_sz]);(try simp only [World.drew]);first | omega | (simp;omega))).trans wa_c1) | exact (hb1.cell (p:=⟨w.heap.size,1,none⟩) (by (try rw [bytesWorld_sz]);(try rw [bytesWorld_sz]);(try simp only [World.drew]);first | omega | (simp;omega))).trans (((bytesWorld_below _ _).cell (p:=⟨w.heap.size,1,none⟩) (by (try rw [bytesWorld_sz]);(try rw [bytesWorld_sz]);(try simp only [World.drew]);first | omega | (simp;omega))).trans (((bytesWorld_below _ _).cell (p:=⟨w.heap.size,1,none⟩) (by (try rw [bytesWorld_sz]);(try rw [bytesWorld_sz]);(try simp only [World.drew]);first | omega | (simp;omega))).trans wa_c1)))))
  | (refine at_go 55 _ _ (by rfl) ?_;go_simp;go_at_call 55;(with_reducible refine (refBytes_str v _ _ _ ?_ Hv.out.1).mono ?_);(focus (go_must (first | exact bat_at wa.drew v _ rfl | exact (bat_at wa.drew v _ rfl).below (bytesWorld_below _ _) | exact bat_at (Lib.bytesWorld wa.drew 5 k) v _ (by rw [bytesWorld_sz];rfl) | exact bat_at w1 v _ rfl | exact (bat_at (Lib.bytesWorld wa.drew 5 k) v _ (by rw [bytesWorld_sz];rfl)).below hb1 | exact ((bat_at wa.drew v _ rfl).below (bytesWorld_below _ _)).below hb1)));rintro e w2 ⟨co2,cc2,rfl,ho2,hb2⟩)
  | fail)
 all_goals
  have Ho:=Lib.hid (own_weak ho3 (Nat.le_of_lt wa_s0))
  have Hb:=Lib.hid hb3
  clear ho1 ho2 hb1 hb2 e1 ga gb ho3 hb3
  go_wp2_with fail
  go_ret
  exact ⟨bo,bc,by rw [List.length_append];rfl,Ho.out,Hb.out⟩
end Go.Proofs.YtogamdaomdoapaaGreat
namespace Go.Proofs.YtogamdaomdoapaaGreat
open Go.RowKit
theorem isKeyO_any (k:ByteArray) (w:World) (r:Bool) (hr:decide (1≤k.size∧k.size≤16)=r) :
 Calls Tryz.prog 65 #[.string k] w fun e w'=>e=.returned (.bool r)∧Below w.heap.size w w':=by
 by_cases h1:1≤k.size
 ·by_cases h2:k.size≤16
  ·obtain rfl:r=true:=by rw [←hr];simp [h1,h2]
   have d4:decide ((k.size:Int)≤16)=true:=by rw [decide_eq_true_eq];omega
   clear hr
   go_enter Tryz.func65,Tryz.ntmps65
   go_wp2_with fail
   go_ret
   exact ⟨rfl,bg⟩
  ·obtain rfl:r=false:=by rw [←hr];simp [h2]
   have d4:decide ((k.size:Int)≤16)=false:=by rw [decide_eq_false_iff_not];omega
   clear hr
   go_enter Tryz.func65,Tryz.ntmps65
   go_wp2_with fail
   go_ret
   exact ⟨rfl,bg⟩
 ·obtain rfl:r=false:=by rw [←hr];simp [h1]
  clear hr
  go_enter Tryz.func65,Tryz.ntmps65
  go_wp2_with fail
  go_ret
  exact ⟨rfl,bg⟩
theorem rplace_any (k v:ByteArray) (w:World) (r:Bool) (hr:placeB k v=r) :
 Calls Tryz.prog 58 #[.agg #[.string k,.string v]] w fun e w'=>e=.returned (.bool r)∧Below w.heap.size w w':=by
 have hpl:placeB k v=(decide (1≤k.size∧k.size≤16)&&decide (1≤v.size∧v.size≤16)):=by
  unfold placeB;rw [←Bool.decide_and];congr 1;simp only [and_assoc]
 rw [hpl] at hr
 cases h1:decide (1≤k.size∧k.size≤16) with
 | true =>
  rw [h1,Bool.true_and] at hr
  have H1:=Lib.hid h1
  have H2:=Lib.hid hr
  clear h1 hr hpl
  go_enter Tryz.func58,Tryz.ntmps58
  go_wp2_with fail
  (refine calls_name fun wa hwa=>?_;have wa_s0:=sg w.heap.size hwa;obtain ⟨wa_c0,wa_c1⟩:=kk2 hwa w.heap.size 0 (.string k) w.heap.size 1 (.string v);have wa_b:Below w.heap.size w wa:=(by rw [hwa];exact bg);clear hwa)
  refine (isKeyO_any k _ true H1.out).mono ?_
  (rintro e w1 ⟨rfl,w1_h⟩;obtain ⟨w1_hc,w1_hf⟩:=bcell w1_h;have w1_z:=w1_h.size;have w1_b:=wa_b.trans (w1_h.mono (by have:=wa_b.size;omega));have w1_le:=w1_b.size;have w1_s0:w.heap.size<w1.heap.size:=(by omega);clear w1_h)
  go_wp2_with fail
  (refine calls_name fun wb hwb=>?_;have wb_b:Below w.heap.size w wb:=(by rw [hwb];exact bg);clear hwb)
  refine (isKeyO_any v _ r H2.out).mono ?_
  (rintro e w2 ⟨rfl,w2_h⟩;obtain ⟨w2_hc,w2_hf⟩:=bcell w2_h;have w2_z:=w2_h.size;have w2_b:=wb_b.trans (w2_h.mono (by have:=wb_b.size;omega));have w2_le:=w2_b.size;clear w2_h)
  go_wp2_with fail
  go_ret
  exact ⟨rfl,bg⟩
 | false =>
  rw [h1,Bool.false_and] at hr
  subst hr
  have H1:=Lib.hid h1
  clear h1 hpl
  go_enter Tryz.func58,Tryz.ntmps58
  go_wp2_with fail
  (refine calls_name fun wa hwa=>?_;have wa_b:Below w.heap.size w wa:=(by rw [hwa];exact bg);clear hwa)
  refine (isKeyO_any k _ false H1.out).mono ?_
  (rintro e w1 ⟨rfl,w1_h⟩;obtain ⟨w1_hc,w1_hf⟩:=bcell w1_h;have w1_z:=w1_h.size;have w1_b:=wa_b.trans (w1_h.mono (by have:=wa_b.size;omega));have w1_le:=w1_b.size;clear w1_h)
  go_wp2_with fail
  go_ret
  exact ⟨rfl,bg⟩
theorem eqR_comm (a b:Rq):eqR a b=eqR b a:=by
 unfold eqR
 congr 1
 simp only [eq_iff_iff]
 constructor<;>(rintro ⟨h1,h2,h3,h4,h5,h6,h7,h8,h9,h10,h11,h12⟩;exact ⟨h1.symm,h2.symm,h3.symm,h4.symm,h5.symm,h6.symm,h7.symm,h8.symm,h9.symm,h10.symm,h11.symm,h12.symm⟩)
theorem e0_nil:e0.toList=[]:=by simp [e0]
set_option maxRecDepth 100000 in
set_option maxHeartbeats 4000000 in
theorem rmay_no (o:Rq) (w:World) (hr:(decide (1≤o.client∧o.client≤1048576∧1≤o.seq∧o.seq≤1099511627776)&&placeB o.key o.who)=false) :
 Calls Tryz.prog 30 #[.agg #[.int .i64 o.kind,.int .i64 o.client,.int .i64 o.seq,.string o.key,.string o.who,.string o.tkey,.string o.twho,.int .i64 o.item,.int .i64 o.count,.int .i64 o.price,.bool o.buy,.int .i64 o.id]] w fun e w'=>e=.returned (.bool false)∧Below w.heap.size w w':=by
 by_cases q0:o.client<1
 ·have b0:decide (o.client<1)=true:=by rw [decide_eq_true_eq];exact q0
  clear hr
  go_enter Tryz.func30,Tryz.ntmps30
  go_wp2_with fail
  go_ret
  exact ⟨rfl,bg⟩
 have b0:decide (o.client<1)=false:=by rw [decide_eq_false_iff_not];exact q0
 by_cases q1:1048576<o.client
 ·have b1:decide (1048576<o.client)=true:=by rw [decide_eq_true_eq];exact q1
  clear hr
  go_enter Tryz.func30,Tryz.ntmps30
  go_wp2_with fail
  go_ret
  exact ⟨rfl,bg⟩
 have b1:decide (1048576<o.client)=false:=by rw [decide_eq_false_iff_not];exact q1
 by_cases q2:o.seq<1
 ·have b2:decide (o.seq<1)=true:=by rw [decide_eq_true_eq];exact q2
  clear hr
  go_enter Tryz.func30,Tryz.ntmps30
  go_wp2_with fail
  go_ret
  exact ⟨rfl,bg⟩
 have b2:decide (o.seq<1)=false:=by rw [decide_eq_false_iff_not];exact q2
 by_cases q3:1099511627776<o.seq
 ·have b3:decide (1099511627776<o.seq)=true:=by rw [decide_eq_true_eq];exact q3
  clear hr
  go_enter Tryz.func30,Tryz.ntmps30
  go_wp2_with fail
  go_ret
  exact ⟨rfl,bg⟩
 have b3:decide (1099511627776<o.seq)=false:=by rw [decide_eq_false_iff_not];exact q3
 have hp:placeB o.key o.who=false:=by
  rw [Bool.and_eq_false_iff] at hr
  rcases hr with h | h
  ·rw [decide_eq_false_iff_not] at h;omega
  ·exact h
 have Hp:=Lib.hid hp
 clear hr hp
 go_enter Tryz.func30,Tryz.ntmps30
 go_wp2_with fail
 (refine calls_name fun wa hwa=>?_;have wa_b:Below w.heap.size w wa:=(by rw [hwa];exact bg);clear hwa)
 refine (rplace_any o.key o.who _ false Hp.out).mono ?_
 (rintro e w1 ⟨rfl,w1_h⟩;obtain ⟨w1_hc,w1_hf⟩:=bcell w1_h;have w1_z:=w1_h.size;have w1_b:=wa_b.trans (w1_h.mono (by have:=wa_b.size;omega));have w1_le:=w1_b.size;clear w1_h)
 go_wp2_with fail
 go_ret
 exact ⟨rfl,bg⟩
set_option maxRecDepth 100000 in
set_option maxHeartbeats 4000000 in
theorem rmay_out (o:Rq) (w:World) (c1:1≤o.client) (c2:o.client≤1048576) (c3:1≤o.seq) (c4:o.seq≤1099511627776) (hp:placeB o.key o.who=true) (hk:o.kind<1∨7<o.kind) :
 Calls Tryz.prog 30 #[.agg #[.int .i64 o.kind,.int .i64 o.client,.int .i64 o.seq,.string o.key,.string o.who,.string o.tkey,.string o.twho,.int .i64 o.item,.int .i64 o.count,.int .i64 o.price,.bool o.buy,.int .i64 o.id]] w fun e w'=>e=.returned (.bool false)∧Below w.heap.size w w':=by
 have Hp:=Lib.hid hp
 clear hp
 have k1:(o.kind==1)=false:=by rw [beq_eq_false_iff_ne];omega
 have k2:(o.kind==2)=false:=by rw [beq_eq_false_iff_ne];omega
 have k3:(o.kind==3)=false:=by rw [beq_eq_false_iff_ne];omega
 have k4:(o.kind==4)=false:=by rw [beq_eq_false_iff_ne];omega
 have k5:(o.kind==5)=false:=by rw [beq_eq_false_iff_ne];omega
 have k6:(o.kind==6)=false:=by rw [beq_eq_false_iff_ne];omega
 have k7:(o.kind==7)=false:=by rw [beq_eq_false_iff_ne];omega
 have d2:decide (1048576<o.client)=false:=by rw [decide_eq_false_iff_not];omega
 have d1:decide (o.client<1)=false:=by rw [decide_eq_false_iff_not];omega
 have d3:decide (o.seq<1)=false:=by rw [decide_eq_false_iff_not];omega
 have d4:decide (1099511627776<o.seq)=false:=by rw [decide_eq_false_iff_not];omega
 clear hk
 go_enter Tryz.func30,Tryz.ntmps30
 go_wp2_with fail
 (refine calls_name fun wa hwa=>?_;have wa_s0:=sg w.heap.size hwa;obtain ⟨wa_c0,wa_c1,wa_c2,wa_c3,wa_c4,wa_c5,wa_c6,wa_c7,wa_c8,wa_c9,wa_c10,wa_c11⟩:=kz12 hwa w.heap.size (.int .i64 o.kind) (.int .i64 o.client) (.int .i64 o.seq) (.string o.key) (.string o.who) (.string o.tkey) (.string o.twho) (.int .i64 o.item) (.int .i64 o.count) (.int .i64 o.price) (.bool o.buy) (.int .i64 o.id);have wa_b:Below w.heap.size w wa:=(by rw [hwa];exact bg);clear hwa)
 refine (rplace_any o.key o.who _ true Hp.out).mono ?_
 (rintro e w1 ⟨rfl,w1_h⟩;obtain ⟨w1_hc,w1_hf⟩:=bcell w1_h;have w1_z:=w1_h.size;have w1_b:=wa_b.trans (w1_h.mono (by have:=wa_b.size;omega));have w1_le:=w1_b.size;have w1_s0:w.heap.size<w1.heap.size:=(by omega);clear w1_h)
 go_wp2_with fail
 go_ret
 exact ⟨rfl,bg⟩
end Go.Proofs.YtogamdaomdoapaaGreat
namespace Go.Proofs.YtogamdaomdoapaaGreat
open Go.RowKit
set_option maxRecDepth 100000 in
set_option maxHeartbeats 8000000 in
theorem rmay_1 (o:Rq) (w:World) (r:Bool) (c1:1≤o.client) (c2:o.client≤1048576) (c3:1≤o.seq) (c4:o.seq≤1099511627776) (hp:placeB o.key o.who=true) (hr:mayO { o with kind:=1 }=r) :
 Calls Tryz.prog 30 #[.agg #[.int .i64 1,.int .i64 o.client,.int .i64 o.seq,.string o.key,.string o.who,.string o.tkey,.string o.twho,.int .i64 o.item,.int .i64 o.count,.int .i64 o.price,.bool o.buy,.int .i64 o.id]] w fun e w'=>e=.returned (.bool r)∧Below w.heap.size w w':=by
 have Hp:=Lib.hid hp
 have hkind:kindO { o with kind:=1 }=cntO { o with kind:=1 }:=by simp [kindO]
 have hr2:kindO { o with kind:=1 }=r:=by rw [←hr];simp [mayO,hp,c1,c2,c3,c4]
 rw [hkind] at hr2
 clear hp hr hkind
 have hr:=hr2
 simp only [cntO] at hr
 clear hr2
 have d2:decide (1048576<o.client)=false:=by rw [decide_eq_false_iff_not];omega
 have d1:decide (o.client<1)=false:=by rw [decide_eq_false_iff_not];omega
 have d3:decide (o.seq<1)=false:=by rw [decide_eq_false_iff_not];omega
 have d4:decide (1099511627776<o.seq)=false:=by rw [decide_eq_false_iff_not];omega
 by_cases q0:0≤o.item
 ·have b0:decide (0≤o.item)=true:=by rw [decide_eq_true_eq];exact q0
  by_cases q1:o.item≤3
  ·have b1:decide (o.item≤3)=true:=by rw [decide_eq_true_eq];exact q1
   by_cases q2:1≤o.count
   ·have b2:decide (1≤o.count)=true:=by rw [decide_eq_true_eq];exact q2
    by_cases q3:o.count≤1048576
    ·have b3:decide (o.count≤1048576)=true:=by rw [decide_eq_true_eq];exact q3
     have p1:o.item<4:=by omega
     have heq:=fun w=>eql_api.Op ⟨1,o.client,o.seq,o.key,o.who,⟨#[]⟩,⟨#[]⟩,o.item,o.count,0,false,0⟩ { o with kind:=1 } w r (by rw [eqR_comm,←hr];simp [eqR,q0,p1,q2,q3])
     simp only at heq
     clear hr
     ((go_enter Tryz.func30,Tryz.ntmps30;(go_wp2_with fail);(refine calls_name fun wa hwa=>?_;have wa_s0:=sg w.heap.size hwa;obtain ⟨wa_c0,wa_c1,wa_c2,wa_c3,wa_c4,wa_c5,wa_c6,wa_c7,wa_c8,wa_c9,wa_c10,wa_c11⟩:=kz12 hwa w.heap.size (.int .i64 1) (.int .i64 o.client) (.int .i64 o.seq) (.string o.key) (.string o.who) (.string o.tkey) (.string o.twho) (.int .i64 o.item) (.int .i64 o.count) (.int .i64 o.price) (.bool o.buy) (.int .i64 o.id);have wa_b:Below w.heap.size w wa:=(by rw [hwa];exact bg);clear hwa);(refine (rplace_any o.key o.who _ true Hp.out).mono ?_);(rintro e w1 ⟨rfl,w1_h⟩;obtain ⟨w1_hc,w1_hf⟩:=bcell w1_h;have w1_z:=w1_h.size;have w1_b:=wa_b.trans (w1_h.mono (by have:=wa_b.size;omega));have w1_le:=w1_b.size;have w1_s0:w.heap.size<w1.heap.size:=(by omega);clear w1_h);(go_wp2_with fail));(refine wp_name fun wb hwb=>?_;have wb_s0:=sg w.heap.size hwb;have wb_s1:=sg w1.heap.size hwb;obtain ⟨wb_c0,wb_c1,wb_c2,wb_c3,wb_c4,wb_c5,wb_c6,wb_c7,wb_c8,wb_c9,wb_c10,wb_c11⟩:=kz12 hwb w.heap.size (.int .i64 1) (.int .i64 o.client) (.int .i64 o.seq) (.string o.key) (.string o.who) (.string o.tkey) (.string o.twho) (.int .i64 o.item) (.int .i64 o.count) (.int .i64 o.price) (.bool o.buy) (.int .i64 o.id);obtain ⟨wb_c12,wb_c13,wb_c14,wb_c15,wb_c16,wb_c17,wb_c18,wb_c19,wb_c20,wb_c21,wb_c22,wb_c23⟩:=kz12 hwb w1.heap.size (.int .i64 1) (.int .i64 o.client) (.int .i64 o.seq) (.string o.key) (.string o.who) (.string ⟨#[]⟩) (.string ⟨#[]⟩) (.int .i64 0) (.int .i64 0) (.int .i64 0) (.bool false) (.int .i64 0);obtain ⟨wb_f17,wb_f18,wb_f19,wb_f20,wb_f21,wb_f22,wb_f23⟩:=ff7 hwb w1.heap.size 5 w1.heap.size 6 w1.heap.size 7 w1.heap.size 8 w1.heap.size 9 w1.heap.size 10 w1.heap.size 11;have wb_b:Below w.heap.size w wb:=(by rw [hwb];exact bg);clear hwb);(have hne:¬w.heap.size=w1.heap.size:=(by omega));go_region;(go_wp2_with fail))
     go_ret
     exact ⟨rfl,bg⟩
    ·have b3:decide (o.count≤1048576)=false:=by rw [decide_eq_false_iff_not];exact q3
     have hrf:r=false:=by rw [←hr];simp;omega
     clear hr
     subst hrf
     ((go_enter Tryz.func30,Tryz.ntmps30;(go_wp2_with fail);(refine calls_name fun wa hwa=>?_;have wa_s0:=sg w.heap.size hwa;obtain ⟨wa_c0,wa_c1,wa_c2,wa_c3,wa_c4,wa_c5,wa_c6,wa_c7,wa_c8,wa_c9,wa_c10,wa_c11⟩:=kz12 hwa w.heap.size (.int .i64 1) (.int .i64 o.client) (.int .i64 o.seq) (.string o.key) (.string o.who) (.string o.tkey) (.string o.twho) (.int .i64 o.item) (.int .i64 o.count) (.int .i64 o.price) (.bool o.buy) (.int .i64 o.id);have wa_b:Below w.heap.size w wa:=(by rw [hwa];exact bg);clear hwa);(refine (rplace_any o.key o.who _ true Hp.out).mono ?_);(rintro e w1 ⟨rfl,w1_h⟩;obtain ⟨w1_hc,w1_hf⟩:=bcell w1_h;have w1_z:=w1_h.size;have w1_b:=wa_b.trans (w1_h.mono (by have:=wa_b.size;omega));have w1_le:=w1_b.size;have w1_s0:w.heap.size<w1.heap.size:=(by omega);clear w1_h);(go_wp2_with fail));(refine wp_name fun wb hwb=>?_;have wb_s0:=sg w.heap.size hwb;have wb_s1:=sg w1.heap.size hwb;obtain ⟨wb_c0,wb_c1,wb_c2,wb_c3,wb_c4,wb_c5,wb_c6,wb_c7,wb_c8,wb_c9,wb_c10,wb_c11⟩:=kz12 hwb w.heap.size (.int .i64 1) (.int .i64 o.client) (.int .i64 o.seq) (.string o.key) (.string o.who) (.string o.tkey) (.string o.twho) (.int .i64 o.item) (.int .i64 o.count) (.int .i64 o.price) (.bool o.buy) (.int .i64 o.id);obtain ⟨wb_c12,wb_c13,wb_c14,wb_c15,wb_c16,wb_c17,wb_c18,wb_c19,wb_c20,wb_c21,wb_c22,wb_c23⟩:=kz12 hwb w1.heap.size (.int .i64 1) (.int .i64 o.client) (.int .i64 o.seq) (.string o.key) (.string o.who) (.string ⟨#[]⟩) (.string ⟨#[]⟩) (.int .i64 0) (.int .i64 0) (.int .i64 0) (.bool false) (.int .i64 0);obtain ⟨wb_f17,wb_f18,wb_f19,wb_f20,wb_f21,wb_f22,wb_f23⟩:=ff7 hwb w1.heap.size 5 w1.heap.size 6 w1.heap.size 7 w1.heap.size 8 w1.heap.size 9 w1.heap.size 10 w1.heap.size 11;have wb_b:Below w.heap.size w wb:=(by rw [hwb];exact bg);clear hwb);(have hne:¬w.heap.size=w1.heap.size:=(by omega));go_region;(go_wp2_with fail))
     go_ret
     exact ⟨rfl,bg⟩
   ·have b2:decide (1≤o.count)=false:=by rw [decide_eq_false_iff_not];exact q2
    have hrf:r=false:=by rw [←hr];simp;omega
    clear hr
    subst hrf
    ((go_enter Tryz.func30,Tryz.ntmps30;(go_wp2_with fail);(refine calls_name fun wa hwa=>?_;have wa_s0:=sg w.heap.size hwa;obtain ⟨wa_c0,wa_c1,wa_c2,wa_c3,wa_c4,wa_c5,wa_c6,wa_c7,wa_c8,wa_c9,wa_c10,wa_c11⟩:=kz12 hwa w.heap.size (.int .i64 1) (.int .i64 o.client) (.int .i64 o.seq) (.string o.key) (.string o.who) (.string o.tkey) (.string o.twho) (.int .i64 o.item) (.int .i64 o.count) (.int .i64 o.price) (.bool o.buy) (.int .i64 o.id);have wa_b:Below w.heap.size w wa:=(by rw [hwa];exact bg);clear hwa);(refine (rplace_any o.key o.who _ true Hp.out).mono ?_);(rintro e w1 ⟨rfl,w1_h⟩;obtain ⟨w1_hc,w1_hf⟩:=bcell w1_h;have w1_z:=w1_h.size;have w1_b:=wa_b.trans (w1_h.mono (by have:=wa_b.size;omega));have w1_le:=w1_b.size;have w1_s0:w.heap.size<w1.heap.size:=(by omega);clear w1_h);(go_wp2_with fail));(refine wp_name fun wb hwb=>?_;have wb_s0:=sg w.heap.size hwb;have wb_s1:=sg w1.heap.size hwb;obtain ⟨wb_c0,wb_c1,wb_c2,wb_c3,wb_c4,wb_c5,wb_c6,wb_c7,wb_c8,wb_c9,wb_c10,wb_c11⟩:=kz12 hwb w.heap.size (.int .i64 1) (.int .i64 o.client) (.int .i64 o.seq) (.string o.key) (.string o.who) (.string o.tkey) (.string o.twho) (.int .i64 o.item) (.int .i64 o.count) (.int .i64 o.price) (.bool o.buy) (.int .i64 o.id);obtain ⟨wb_c12,wb_c13,wb_c14,wb_c15,wb_c16,wb_c17,wb_c18,wb_c19,wb_c20,wb_c21,wb_c22,wb_c23⟩:=kz12 hwb w1.heap.size (.int .i64 1) (.int .i64 o.client) (.int .i64 o.seq) (.string o.key) (.string o.who) (.string ⟨#[]⟩) (.string ⟨#[]⟩) (.int .i64 0) (.int .i64 0) (.int .i64 0) (.bool false) (.int .i64 0);obtain ⟨wb_f17,wb_f18,wb_f19,wb_f20,wb_f21,wb_f22,wb_f23⟩:=ff7 hwb w1.heap.size 5 w1.heap.size 6 w1.heap.size 7 w1.heap.size 8 w1.heap.size 9 w1.heap.size 10 w1.heap.size 11;have wb_b:Below w.heap.size w wb:=(by rw [hwb];exact bg);clear hwb);(have hne:¬w.heap.size=w1.heap.size:=(by omega));go_region;(go_wp2_with fail))
    go_ret
    exact ⟨rfl,bg⟩
  ·have b1:decide (o.item≤3)=false:=by rw [decide_eq_false_iff_not];exact q1
   have hrf:r=false:=by rw [←hr];simp;omega
   clear hr
   subst hrf
   ((go_enter Tryz.func30,Tryz.ntmps30;(go_wp2_with fail);(refine calls_name fun wa hwa=>?_;have wa_s0:=sg w.heap.size hwa;obtain ⟨wa_c0,wa_c1,wa_c2,wa_c3,wa_c4,wa_c5,wa_c6,wa_c7,wa_c8,wa_c9,wa_c10,wa_c11⟩:=kz12 hwa w.heap.size (.int .i64 1) (.int .i64 o.client) (.int .i64 o.seq) (.string o.key) (.string o.who) (.string o.tkey) (.string o.twho) (.int .i64 o.item) (.int .i64 o.count) (.int .i64 o.price) (.bool o.buy) (.int .i64 o.id);have wa_b:Below w.heap.size w wa:=(by rw [hwa];exact bg);clear hwa);(refine (rplace_any o.key o.who _ true Hp.out).mono ?_);(rintro e w1 ⟨rfl,w1_h⟩;obtain ⟨w1_hc,w1_hf⟩:=bcell w1_h;have w1_z:=w1_h.size;have w1_b:=wa_b.trans (w1_h.mono (by have:=wa_b.size;omega));have w1_le:=w1_b.size;have w1_s0:w.heap.size<w1.heap.size:=(by omega);clear w1_h);(go_wp2_with fail));(refine wp_name fun wb hwb=>?_;have wb_s0:=sg w.heap.size hwb;have wb_s1:=sg w1.heap.size hwb;obtain ⟨wb_c0,wb_c1,wb_c2,wb_c3,wb_c4,wb_c5,wb_c6,wb_c7,wb_c8,wb_c9,wb_c10,wb_c11⟩:=kz12 hwb w.heap.size (.int .i64 1) (.int .i64 o.client) (.int .i64 o.seq) (.string o.key) (.string o.who) (.string o.tkey) (.string o.twho) (.int .i64 o.item) (.int .i64 o.count) (.int .i64 o.price) (.bool o.buy) (.int .i64 o.id);obtain ⟨wb_c12,wb_c13,wb_c14,wb_c15,wb_c16,wb_c17,wb_c18,wb_c19,wb_c20,wb_c21,wb_c22,wb_c23⟩:=kz12 hwb w1.heap.size (.int .i64 1) (.int .i64 o.client) (.int .i64 o.seq) (.string o.key) (.string o.who) (.string ⟨#[]⟩) (.string ⟨#[]⟩) (.int .i64 0) (.int .i64 0) (.int .i64 0) (.bool false) (.int .i64 0);obtain ⟨wb_f17,wb_f18,wb_f19,wb_f20,wb_f21,wb_f22,wb_f23⟩:=ff7 hwb w1.heap.size 5 w1.heap.size 6 w1.heap.size 7 w1.heap.size 8 w1.heap.size 9 w1.heap.size 10 w1.heap.size 11;have wb_b:Below w.heap.size w wb:=(by rw [hwb];exact bg);clear hwb);(have hne:¬w.heap.size=w1.heap.size:=(by omega));go_region;(go_wp2_with fail))
   go_ret
   exact ⟨rfl,bg⟩
 ·have b0:decide (0≤o.item)=false:=by rw [decide_eq_false_iff_not];exact q0
  have hrf:r=false:=by rw [←hr];simp;omega
  clear hr
  subst hrf
  ((go_enter Tryz.func30,Tryz.ntmps30;(go_wp2_with fail);(refine calls_name fun wa hwa=>?_;have wa_s0:=sg w.heap.size hwa;obtain ⟨wa_c0,wa_c1,wa_c2,wa_c3,wa_c4,wa_c5,wa_c6,wa_c7,wa_c8,wa_c9,wa_c10,wa_c11⟩:=kz12 hwa w.heap.size (.int .i64 1) (.int .i64 o.client) (.int .i64 o.seq) (.string o.key) (.string o.who) (.string o.tkey) (.string o.twho) (.int .i64 o.item) (.int .i64 o.count) (.int .i64 o.price) (.bool o.buy) (.int .i64 o.id);have wa_b:Below w.heap.size w wa:=(by rw [hwa];exact bg);clear hwa);(refine (rplace_any o.key o.who _ true Hp.out).mono ?_);(rintro e w1 ⟨rfl,w1_h⟩;obtain ⟨w1_hc,w1_hf⟩:=bcell w1_h;have w1_z:=w1_h.size;have w1_b:=wa_b.trans (w1_h.mono (by have:=wa_b.size;omega));have w1_le:=w1_b.size;have w1_s0:w.heap.size<w1.heap.size:=(by omega);clear w1_h);(go_wp2_with fail));(refine wp_name fun wb hwb=>?_;have wb_s0:=sg w.heap.size hwb;have wb_s1:=sg w1.heap.size hwb;obtain ⟨wb_c0,wb_c1,wb_c2,wb_c3,wb_c4,wb_c5,wb_c6,wb_c7,wb_c8,wb_c9,wb_c10,wb_c11⟩:=kz12 hwb w.heap.size (.int .i64 1) (.int .i64 o.client) (.int .i64 o.seq) (.string o.key) (.string o.who) (.string o.tkey) (.string o.twho) (.int .i64 o.item) (.int .i64 o.count) (.int .i64 o.price) (.bool o.buy) (.int .i64 o.id);obtain ⟨wb_c12,wb_c13,wb_c14,wb_c15,wb_c16,wb_c17,wb_c18,wb_c19,wb_c20,wb_c21,wb_c22,wb_c23⟩:=kz12 hwb w1.heap.size (.int .i64 1) (.int .i64 o.client) (.int .i64 o.seq) (.string o.key) (.string o.who) (.string ⟨#[]⟩) (.string ⟨#[]⟩) (.int .i64 0) (.int .i64 0) (.int .i64 0) (.bool false) (.int .i64 0);obtain ⟨wb_f17,wb_f18,wb_f19,wb_f20,wb_f21,wb_f22,wb_f23⟩:=ff7 hwb w1.heap.size 5 w1.heap.size 6 w1.heap.size 7 w1.heap.size 8 w1.heap.size 9 w1.heap.size 10 w1.heap.size 11;have wb_b:Below w.heap.size w wb:=(by rw [hwb];exact bg);clear hwb);(have hne:¬w.heap.size=w1.heap.size:=(by omega));go_region;(go_wp2_with fail))
  go_ret
  exact ⟨rfl,bg⟩
end Go.Proofs.YtogamdaomdoapaaGreat