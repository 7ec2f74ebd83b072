/- Texts put together: Enc, EncA, WRs, WEp, GtP, FrEnc. -/
import Derived.Test.YtogamdaomdoapaaGreatSa05
import Derived.Test.YtogamdaomdoapaaGreatSa06
import Derived.Test.YtogamdaomdoapaaGreatSa07
import Derived.Test.YtogamdaomdoapaaGreatSa27
import Derived.Test.YtogamdaomdoapaaGreatSa28
import Derived.Test.YtogamdaomdoapaaGreatSa29
namespace Go.Proofs.YtogamdaomdoapaaGreat
open Go.RowKit
set_option maxRecDepth 20000 in
theorem encode_no (o:Rq) (w:World) (hm:mayO o=false) :
 Calls Tryz.prog 117 #[.agg #[.int .i64 o.kind,.int .i64 o.client,.int .i64 o.seq,.string o.key,.string o.who,.string o.tkey,.string o.twho,.int .i64 o.item,.int .i64 o.count,.int .i64 o.price,.bool o.buy,.int .i64 o.id]] w fun e w'=>e=.returned (.tuple #[.slice none 0 0,.int .i64 1])∧Below w.heap.size w w':=by
 have Hm:=Lib.hid hm
 clear hm
 go_enter Tryz.func117,Tryz.ntmps117
 go_wp2_with fail
 (refine calls_name fun wa hwa=>?_;have wa_b:Below w.heap.size w wa:=(by rw [hwa];exact bg);clear hwa)
 refine (may_any o _ false Hm.out).mono ?_
 (rintro e w1 ⟨rfl,w1_h⟩;obtain ⟨w1_hc,w1_hf⟩:=bcell w1_h;have w1_z:=w1_h.size;have w1_b:=wa_b.trans (w1_h.mono (by have:=wa_b.size;omega));have w1_le:=w1_b.size;clear w1_h)
 go_wp2_with fail
 go_ret2
 exact ⟨rfl,bg⟩
set_option maxRecDepth 20000 in
set_option maxHeartbeats 4000000 in
theorem enc_true (kind client seq:Int) (key who tkey twho:ByteArray) (item count price id:Int) (w:World) (hm:mayO ⟨kind,client,seq,key,who,tkey,twho,item,count,price,true,id⟩=true) :
 Calls Tryz.prog 117 #[.agg #[.int .i64 kind,.int .i64 client,.int .i64 seq,.string key,.string who,.string tkey,.string twho,.int .i64 item,.int .i64 count,.int .i64 price,.bool true,.int .i64 id]] w fun e w'=>∃ ao cap,e=.returned (.tuple #[.slice ao (encO ⟨kind,client,seq,key,who,tkey,twho,item,count,price,true,id⟩).length cap,.int .i64 0])∧OwnB w' w.heap.size ao cap (encO ⟨kind,client,seq,key,who,tkey,twho,item,count,price,true,id⟩)∧Below w.heap.size w w':=by
 have Hmy:=Lib.hid (fun w=>may_any ⟨kind,client,seq,key,who,tkey,twho,item,count,price,true,id⟩ w true hm)
 have hsz:=may_sizes hm
 simp only at hsz
 have Hsz:=Lib.hid hsz
 have hcv:=conv_bytes
 clear hm hsz
 go_enter Tryz.func117,Tryz.ntmps117
 go_wp2_with fail
 have S0:Hid (St w _ [thObj w.heap.size (.cells #[.int .i64 kind,.int .i64 client,.int .i64 seq,.string key,.string who,.string tkey,.string twho,.int .i64 item,.int .i64 count,.int .i64 price,.bool true,.int .i64 id] 30 (0,0))]):=(St.start w).objN (.cells #[.int .i64 kind,.int .i64 client,.int .i64 seq,.string key,.string who,.string tkey,.string twho,.int .i64 item,.int .i64 count,.int .i64 price,.bool true,.int .i64 id] 30) w.heap.size rfl
 refine (Hmy.out _).mono ?_
 rintro e w1 ⟨rfl,hb1⟩
 have S1:=Lib.hid (S0.out.grow hb1)
 obtain ⟨hlt1,hc1,-⟩:=S1.out.cells (List.mem_cons_self ..)
 clear S0 hb1
 go_wp2_with fail
 have S2:=S1.out.newWr w1.heap.size rfl w.heap.size
 refine (S2.nums [kind,client,seq] (w1.heap.size+1) 3 (by simp) rfl _ rfl (by simp)).mono ?_
 rintro e w2 ⟨rfl,o2,hS⟩
 have S3:=Lib.hid hS
 obtain ⟨hlt2,hc2,-⟩:=S3.out.cells (List.mem_cons_of_mem _ (List.mem_cons_self ..))
 have g1:w.heap.size<w2.heap.size+1:=by omega
 have g2:w.heap.size<w2.heap.size+1+1:=by omega
 have g3:w.heap.size<w2.heap.size+1+1+1:=by omega
 clear S1 S2 hS hlt1 hc1
 go_wp2_with fail
 have b1:=bytesWorld_below w2 key
 have z1:=bytesWorld_sz w2 key
 generalize hk1:Lib.bytesWorld w2 5 key=k1 at *
 have b2:=bytesWorld_below k1 who
 have z2:=bytesWorld_sz k1 who
 generalize hk2:Lib.bytesWorld k1 5 who=k2 at *
 have b3:=bytesWorld_below k2 tkey
 have z3:=bytesWorld_sz k2 tkey
 generalize hk3:Lib.bytesWorld k2 5 tkey=k3 at *
 have b4:=bytesWorld_below k3 twho
 have z4:=bytesWorld_sz k3 twho
 generalize hk4:Lib.bytesWorld k3 5 twho=k4 at *
 have c3:Below k3.heap.size k3 k4:=b4
 have c2:Below k2.heap.size k2 k4:=b3.trans (b4.mono (by omega))
 have c1:Below k1.heap.size k1 k4:=b2.trans (c2.mono (by omega))
 have S4:=S3.out.grow (b1.trans (c1.mono (by omega)))
 have hwr:WrAt w2 w1.heap.size w.heap.size ([]++encs [kind,client,seq]) o2:=S3.out.head
 have hp2:=hwr.lt
 have ho2:∀ x,o2=some x→x<w2.heap.size:=fun x hx=>(hwr.own_lt x hx).1
 refine (S4.rows [⟨some ⟨w2.heap.size,0,none⟩,grownCap w2 key.size 0 5,key.data.toList⟩,⟨some ⟨w2.heap.size+1,0,none⟩,grownCap k1 who.size 0 5,who.data.toList⟩,⟨some ⟨w2.heap.size+1+1,0,none⟩,grownCap k2 tkey.size 0 5,tkey.data.toList⟩,⟨some ⟨w2.heap.size+1+1+1,0,none⟩,grownCap k3 twho.size 0 5,twho.data.toList⟩] (w2.heap.size+1+1+1+1) 4 (by omega) rfl _ rfl (fun r hr=>?_) ?_).mono ?_
 ·simp only [List.mem_cons,List.not_mem_nil,or_false] at hr
  rcases hr with rfl | rfl | rfl | rfl
  ·exact srow_ok key (Nat.le_trans Hsz.out.1 (by decide)) _ _ _ rfl hp2 ho2 (by rw [hk1];exact c1)
  ·exact srow_ok who (Nat.le_trans Hsz.out.2.1 (by decide)) _ _ _ (by omega) (by omega) (fun x hx=>by have:=ho2 x hx;omega) (by rw [hk2];exact c2)
  ·exact srow_ok tkey (Nat.le_trans Hsz.out.2.2.1 (by decide)) _ _ _ (by omega) (by omega) (fun x hx=>by have:=ho2 x hx;omega) (by rw [hk3];exact c3)
  ·exact srow_ok twho (Nat.le_trans Hsz.out.2.2.2 (by decide)) _ _ _ (by omega) (by omega) (fun x hx=>by have:=ho2 x hx;omega) (by rw [hk4];exact Below.refl _ _)
 ·have h0:=Hsz.out
  have h1:=encs_length [kind,client,seq]
  simp only [flatR,List.flatMap_cons,List.flatMap_nil,List.length_append,List.length_cons,List.length_nil,List.append_nil,Array.length_toList] at h1 ⊢
  simp only [ByteArray.size] at h0
  omega
 rintro e w3 ⟨rfl,o3,hS⟩
 have S5:Hid (St w w3 [thWr w1.heap.size w.heap.size (encs [kind,client,seq]++(encS key++encS who++encS tkey++encS twho)) o3,thObj w.heap.size (.cells #[.int .i64 kind,.int .i64 client,.int .i64 seq,.string key,.string who,.string tkey,.string twho,.int .i64 item,.int .i64 count,.int .i64 price,.bool true,.int .i64 id] 30 (0,0))]):=by
  have e:∀ (a b c d:RowR),encRows [a,b,c,d]=encRow a.bs++encRow b.bs++encRow c.bs++encRow d.bs:=fun a b c d=>by
   simp only [encRows,List.flatMap_cons,List.flatMap_nil,List.append_nil,List.append_assoc]
  rw [e] at hS
  exact hS
 obtain ⟨hlt3,hc3,-⟩:=S5.out.cells (List.mem_cons_of_mem _ (List.mem_cons_self ..))
 clear S3 S4 hS hlt2 hc2 g1 g2 g3 b1 b2 b3 b4 z1 z2 z3 z4 hk1 hk2 hk3 hk4 c1 c2 c3 hwr hp2 ho2
 go_wp2_with fail
 have hl1:=encs_length [kind,client,seq]
 have hl2:(encS key++encS who++encS tkey++encS twho).length≤200:=by
  have h0:=Hsz.out
  have e:∀ s:ByteArray,(encS s).length≤10+s.size:=fun s=>by
   have:=(encN_length s.data.toList.length).1
   simp only [encS,encRow,List.length_append,Array.length_toList,ByteArray.size] at this ⊢
   omega
  have e1:=e key;have e2:=e who;have e3:=e tkey;have e4:=e twho
  simp only [List.length_append]
  omega
 refine (S5.out.nums [item,count,price,b1 true,id] w3.heap.size 5 rfl rfl _ rfl (by rw [List.length_append];simp only [List.length_cons,List.length_nil] at hl1 ⊢;omega)).mono ?_
 rintro e w4 ⟨rfl,o4,hS⟩
 have S6:=Lib.hid hS
 have hlen:((encs [kind,client,seq]++(encS key++encS who++encS tkey++encS twho))++encs [item,count,price,b1 true,id]).length≤140737488351232:=by
  have hl3:=encs_length [item,count,price,b1 true,id]
  rw [List.length_append,List.length_append]
  simp only [List.length_cons,List.length_nil] at hl1 hl3
  omega
 have Hlen:=Lib.hid hlen
 clear S5 hS hlt3 hc3 hl1 hl2 hlen
 go_wp2_with fail
 refine (out_any w1.heap.size w.heap.size (encO ⟨kind,client,seq,key,who,tkey,twho,item,count,price,true,id⟩) o4 w4 S6.out.head Hlen.out).mono ?_
 rintro e w5 ⟨ao,cap,rfl,ho,hb⟩
 go_wp2_with fail
 go_ret2
 exact ⟨ao,cap,rfl,own_weak ho S6.out.b.size,(S6.out.grow hb).b⟩
set_option maxRecDepth 20000 in
set_option maxHeartbeats 4000000 in
theorem enc_false (kind client seq:Int) (key who tkey twho:ByteArray) (item count price id:Int) (w:World) (hm:mayO ⟨kind,client,seq,key,who,tkey,twho,item,count,price,false,id⟩=true) :
 Calls Tryz.prog 117 #[.agg #[.int .i64 kind,.int .i64 client,.int .i64 seq,.string key,.string who,.string tkey,.string twho,.int .i64 item,.int .i64 count,.int .i64 price,.bool false,.int .i64 id]] w fun e w'=>∃ ao cap,e=.returned (.tuple #[.slice ao (encO ⟨kind,client,seq,key,who,tkey,twho,item,count,price,false,id⟩).length cap,.int .i64 0])∧OwnB w' w.heap.size ao cap (encO ⟨kind,client,seq,key,who,tkey,twho,item,count,price,false,id⟩)∧Below w.heap.size w w':=by
 have Hmy:=Lib.hid (fun w=>may_any ⟨kind,client,seq,key,who,tkey,twho,item,count,price,false,id⟩ w true hm)
 have hsz:=may_sizes hm
 simp only at hsz
 have Hsz:=Lib.hid hsz
 have hcv:=conv_bytes
 clear hm hsz
 go_enter Tryz.func117,Tryz.ntmps117
 go_wp2_with fail
 have S0:Hid (St w _ [thObj w.heap.size (.cells #[.int .i64 kind,.int .i64 client,.int .i64 seq,.string key,.string who,.string tkey,.string twho,.int .i64 item,.int .i64 count,.int .i64 price,.bool false,.int .i64 id] 30 (0,0))]):=(St.start w).objN (.cells #[.int .i64 kind,.int .i64 client,.int .i64 seq,.string key,.string who,.string tkey,.string twho,.int .i64 item,.int .i64 count,.int .i64 price,.bool false,.int .i64 id] 30) w.heap.size rfl
 refine (Hmy.out _).mono ?_
 rintro e w1 ⟨rfl,hb1⟩
 have S1:=Lib.hid (S0.out.grow hb1)
 obtain ⟨hlt1,hc1,-⟩:=S1.out.cells (List.mem_cons_self ..)
 clear S0 hb1
 go_wp2_with fail
 have S2:=S1.out.newWr w1.heap.size rfl w.heap.size
 refine (S2.nums [kind,client,seq] (w1.heap.size+1) 3 (by simp) rfl _ rfl (by simp)).mono ?_
 rintro e w2 ⟨rfl,o2,hS⟩
 have S3:=Lib.hid hS
 obtain ⟨hlt2,hc2,-⟩:=S3.out.cells (List.mem_cons_of_mem _ (List.mem_cons_self ..))
 have g1:w.heap.size<w2.heap.size+1:=by omega
 have g2:w.heap.size<w2.heap.size+1+1:=by omega
 have g3:w.heap.size<w2.heap.size+1+1+1:=by omega
 clear S1 S2 hS hlt1 hc1
 go_wp2_with fail
 have b1:=bytesWorld_below w2 key
 have z1:=bytesWorld_sz w2 key
 generalize hk1:Lib.bytesWorld w2 5 key=k1 at *
 have b2:=bytesWorld_below k1 who
 have z2:=bytesWorld_sz k1 who
 generalize hk2:Lib.bytesWorld k1 5 who=k2 at *
 have b3:=bytesWorld_below k2 tkey
 have z3:=bytesWorld_sz k2 tkey
 generalize hk3:Lib.bytesWorld k2 5 tkey=k3 at *
 have b4:=bytesWorld_below k3 twho
 have z4:=bytesWorld_sz k3 twho
 generalize hk4:Lib.bytesWorld k3 5 twho=k4 at *
 have c3:Below k3.heap.size k3 k4:=b4
 have c2:Below k2.heap.size k2 k4:=b3.trans (b4.mono (by omega))
 have c1:Below k1.heap.size k1 k4:=b2.trans (c2.mono (by omega))
 have S4:=S3.out.grow (b1.trans (c1.mono (by omega)))
 have hwr:WrAt w2 w1.heap.size w.heap.size ([]++encs [kind,client,seq]) o2:=S3.out.head
 have hp2:=hwr.lt
 have ho2:∀ x,o2=some x→x<w2.heap.size:=fun x hx=>(hwr.own_lt x hx).1
 refine (S4.rows [⟨some ⟨w2.heap.size,0,none⟩,grownCap w2 key.size 0 5,key.data.toList⟩,⟨some ⟨w2.heap.size+1,0,none⟩,grownCap k1 who.size 0 5,who.data.toList⟩,⟨some ⟨w2.heap.size+1+1,0,none⟩,grownCap k2 tkey.size 0 5,tkey.data.toList⟩,⟨some ⟨w2.heap.size+1+1+1,0,none⟩,grownCap k3 twho.size 0 5,twho.data.toList⟩] (w2.heap.size+1+1+1+1) 4 (by omega) rfl _ rfl (fun r hr=>?_) ?_).mono ?_
 ·simp only [List.mem_cons,List.not_mem_nil,or_false] at hr
  rcases hr with rfl | rfl | rfl | rfl
  ·exact srow_ok key (Nat.le_trans Hsz.out.1 (by decide)) _ _ _ rfl hp2 ho2 (by rw [hk1];exact c1)
  ·exact srow_ok who (Nat.le_trans Hsz.out.2.1 (by decide)) _ _ _ (by omega) (by omega) (fun x hx=>by have:=ho2 x hx;omega) (by rw [hk2];exact c2)
  ·exact srow_ok tkey (Nat.le_trans Hsz.out.2.2.1 (by decide)) _ _ _ (by omega) (by omega) (fun x hx=>by have:=ho2 x hx;omega) (by rw [hk3];exact c3)
  ·exact srow_ok twho (Nat.le_trans Hsz.out.2.2.2 (by decide)) _ _ _ (by omega) (by omega) (fun x hx=>by have:=ho2 x hx;omega) (by rw [hk4];exact Below.refl _ _)
 ·have h0:=Hsz.out
  have h1:=encs_length [kind,client,seq]
  simp only [flatR,List.flatMap_cons,List.flatMap_nil,List.length_append,List.length_cons,List.length_nil,List.append_nil,Array.length_toList] at h1 ⊢
  simp only [ByteArray.size] at h0
  omega
 rintro e w3 ⟨rfl,o3,hS⟩
 have S5:Hid (St w w3 [thWr w1.heap.size w.heap.size (encs [kind,client,seq]++(encS key++encS who++encS tkey++encS twho)) o3,thObj w.heap.size (.cells #[.int .i64 kind,.int .i64 client,.int .i64 seq,.string key,.string who,.string tkey,.string twho,.int .i64 item,.int .i64 count,.int .i64 price,.bool false,.int .i64 id] 30 (0,0))]):=by
  have e:∀ (a b c d:RowR),encRows [a,b,c,d]=encRow a.bs++encRow b.bs++encRow c.bs++encRow d.bs:=fun a b c d=>by
   simp only [encRows,List.flatMap_cons,List.flatMap_nil,List.append_nil,List.append_assoc]
  rw [e] at hS
  exact hS
 obtain ⟨hlt3,hc3,-⟩:=S5.out.cells (List.mem_cons_of_mem _ (List.mem_cons_self ..))
 clear S3 S4 hS hlt2 hc2 g1 g2 g3 b1 b2 b3 b4 z1 z2 z3 z4 hk1 hk2 hk3 hk4 c1 c2 c3 hwr hp2 ho2
 go_wp2_with fail
 have hl1:=encs_length [kind,client,seq]
 have hl2:(encS key++encS who++encS tkey++encS twho).length≤200:=by
  have h0:=Hsz.out
  have e:∀ s:ByteArray,(encS s).length≤10+s.size:=fun s=>by
   have:=(encN_length s.data.toList.length).1
   simp only [encS,encRow,List.length_append,Array.length_toList,ByteArray.size] at this ⊢
   omega
  have e1:=e key;have e2:=e who;have e3:=e tkey;have e4:=e twho
  simp only [List.length_append]
  omega
 refine (S5.out.nums [item,count,price,b1 false,id] w3.heap.size 5 rfl rfl _ rfl (by rw [List.length_append];simp only [List.length_cons,List.length_nil] at hl1 ⊢;omega)).mono ?_
 rintro e w4 ⟨rfl,o4,hS⟩
 have S6:=Lib.hid hS
 have hlen:((encs [kind,client,seq]++(encS key++encS who++encS tkey++encS twho))++encs [item,count,price,b1 false,id]).length≤140737488351232:=by
  have hl3:=encs_length [item,count,price,b1 false,id]
  rw [List.length_append,List.length_append]
  simp only [List.length_cons,List.length_nil] at hl1 hl3
  omega
 have Hlen:=Lib.hid hlen
 clear S5 hS hlt3 hc3 hl1 hl2 hlen
 go_wp2_with fail
 refine (out_any w1.heap.size w.heap.size (encO ⟨kind,client,seq,key,who,tkey,twho,item,count,price,false,id⟩) o4 w4 S6.out.head Hlen.out).mono ?_
 rintro e w5 ⟨ao,cap,rfl,ho,hb⟩
 go_wp2_with fail
 go_ret2
 exact ⟨ao,cap,rfl,own_weak ho S6.out.b.size,(S6.out.grow hb).b⟩
end Go.Proofs.YtogamdaomdoapaaGreat
namespace Go.Proofs.YtogamdaomdoapaaGreat
open Go.RowKit
def EncPost (w:World) (o:Rq) (e:Ending) (w':World):Prop:=if mayO o=true then ∃ ao cap,e=.returned (.tuple #[.slice ao (encO o).length cap,.int .i64 0])∧OwnB w' w.heap.size ao cap (encO o)∧Below w.heap.size w w' else e=.returned (.tuple #[.slice none 0 0,.int .i64 1])∧Below w.heap.size w w'
theorem enc_any (o:Rq) (w:World):Calls Tryz.prog 117 #[.agg #[.int .i64 o.kind,.int .i64 o.client,.int .i64 o.seq,.string o.key,.string o.who,.string o.tkey,.string o.twho,.int .i64 o.item,.int .i64 o.count,.int .i64 o.price,.bool o.buy,.int .i64 o.id]] w (EncPost w o):=by
 cases hm:mayO o with
 | true =>
  refine Calls.mono ?_ (fun e w' h=>(show EncPost w o e w' by unfold EncPost;rw [if_pos hm];exact h))
  obtain ⟨kind,client,seq,key,who,tkey,twho,item,count,price,buy,id⟩:=o
  cases buy with
  | true=>exact enc_true kind client seq key who tkey twho item count price id w hm
  | false=>exact enc_false kind client seq key who tkey twho item count price id w hm
 | false =>
  refine Calls.mono (encode_no o w hm) (fun e w' h=>?_)
  unfold EncPost;rw [if_neg (by rw [hm];simp)];exact h
theorem enc_yes (o:Rq) (w:World) (hm:mayO o=true):Calls Tryz.prog 117 #[.agg #[.int .i64 o.kind,.int .i64 o.client,.int .i64 o.seq,.string o.key,.string o.who,.string o.tkey,.string o.twho,.int .i64 o.item,.int .i64 o.count,.int .i64 o.price,.bool o.buy,.int .i64 o.id]] w fun e w'=>∃ ao cap,e=.returned (.tuple #[.slice ao (encO o).length cap,.int .i64 0])∧OwnB w' w.heap.size ao cap (encO o)∧Below w.heap.size w w':=by
 refine (enc_any o w).mono (fun e w' h=>?_)
 unfold EncPost at h
 rwa [if_pos hm] at h
end Go.Proofs.YtogamdaomdoapaaGreat
namespace Go.Proofs.YtogamdaomdoapaaGreat
set_option maxRecDepth 20000
open Go.RowKit
def restW (d:Wd):List UInt8:=if d.kind=3 then O.encM d.mp else if d.kind=4 then O.encC d.ch else if d.kind=5 then encO d.op else if d.kind=6 then encP d.rep else d.data
def RestPost (N:Nat) (w:World) (l:List UInt8) (e:Ending) (w':World):Prop:=∃ ao cap,e=.returned (.slice ao l.length cap)∧F.Sl w' ao cap l∧(0<l.length→∀ a,ao=some a→w.heap.size≤a.block∨a.block<N)∧Below w.heap.size w w'
theorem rest_new {N:Nat} {w w1 w':World} {l:List UInt8} {ao:Option Addr} {cap:Nat} (hb1:Below w.heap.size w w1) (h:OwnB w' w1.heap.size ao cap l) (hb:Below w1.heap.size w1 w'):RestPost N w l (.returned (.slice ao l.length cap)) w' :=
 have h1:=hb1.size
 ⟨ao,cap,rfl,h.sl,fun _ a ha=>.inl (by
  subst ha
  have h2:=(own_lt h a.block rfl).2
  omega),hb1.trans (hb.mono h1)⟩
theorem data_v {d:Wd} {ms ds:Value} {V:Array Value} (hV:V=wdV d ms ds) (w:World):Calls Tryz.prog 72 #[.agg V] w fun e w'=>e=.returned ds∧Below w.heap.size w w':=by
 have HV:=Lib.hid hV
 clear hV
 go_enter Tryz.func72,Tryz.ntmps72
 ((refine wp_hold fun C HC=>?_);(go_wp2_with fail);(refine wp_name fun wa hwa=>?_;have wa_s0:=sg w.heap.size hwa;have wa_b:Below w.heap.size w wa:=(by rw [hwa];exact bg);have wa_bh:wa.heap[w.heap.size]?=some (.cells V 85 (0,0)):=(by rw [hwa];exact heap_alloc_new w _);clear hwa);(obtain ⟨c0,c1,c2,c3,c4,c5,c6,c7,c8,c9,c10,c11,c12,c13,c14,c15,c16,c17,c18,c19,c20,c21,c22,c23,c24,c25,c26,c27,c28,c29,c30,c31,c32,c33,c34,c35,c36⟩:=wbox (show wa.heap[w.heap.size]?=some (.cells (wdV d ms ds) 85 (0,0)) from (by rw [←HV.out];exact wa_bh)));(have hC:=HC.out);clear HC;subst hC)
 clear c0 c1 c2 c3 c4 c5 c6 c7 c8 c9 c10 c11 c12 c13 c14 c15 c16 c17 c18 c19 c20 c21 c22 c23 c24 c25 c26 c27 c28 c29 c30 c31 c32 c33 c34 c35
 go_wp2_with fail
 go_ret
 exact ⟨rfl,wa_b⟩
theorem told_v {d:Wd} {ms ds:Value} {V:Array Value} (hV:V=wdV d ms ds) (N:Nat) (ao:Option Addr) (zc:Nat) (hms:ms=.slice ao d.mp.zs.length zc) (w:World) (hz:O.ZsAt w ao d.mp.zs) (hl:O.MzB d.mp):Calls Tryz.prog 73 #[.agg V] w (RestPost N w (O.encM d.mp)):=by
 have HV:=Lib.hid hV
 clear hV
 go_enter Tryz.func73,Tryz.ntmps73
 ((refine wp_hold fun C HC=>?_);(go_wp2_with fail);(refine wp_name fun wa hwa=>?_;have wa_s0:=sg w.heap.size hwa;have wa_b:Below w.heap.size w wa:=(by rw [hwa];exact bg);have wa_bh:wa.heap[w.heap.size]?=some (.cells V 85 (0,0)):=(by rw [hwa];exact heap_alloc_new w _);clear hwa);(obtain ⟨c0,c1,c2,c3,c4,c5,c6,c7,c8,c9,c10,c11,c12,c13,c14,c15,c16,c17,c18,c19,c20,c21,c22,c23,c24,c25,c26,c27,c28,c29,c30,c31,c32,c33,c34,c35,c36⟩:=wbox (show wa.heap[w.heap.size]?=some (.cells (wdV d ms ds) 85 (0,0)) from (by rw [←HV.out];exact wa_bh)));(have hC:=HC.out);clear HC;subst hC)
 clear c0 c1 c2 c3 c4 c5 c6 c7 c8 c9 c10 c11 c12 c13 c14 c15 c16 c17 c18 c19 c20 c21 c22 c23 c24 c25 c26 c27 c31 c32 c33 c34 c35 c36
 subst hms
 go_wp2_with fail
 refine (O.pencM_any ao zc d.mp wa (hz.grow wa_b) hl.sz).mono ?_
 rintro e w1 ⟨yo,yc,rfl,ho,hb1⟩
 have hp:=rest_new (N:=N) wa_b ho hb1
 clear ho hb1 wa_bh c28 c29 c30
 go_wp2_with fail
 go_ret
 exact hp
theorem asked_v {d:Wd} {ms ds:Value} {V:Array Value} (hV:V=wdV d ms ds) (N:Nat) (hm:mayC d.ch=true) (w:World):Calls Tryz.prog 74 #[.agg V] w (RestPost N w (O.encC d.ch)):=by
 have HV:=Lib.hid hV
 clear hV
 go_enter Tryz.func74,Tryz.ntmps74
 ((refine wp_hold fun C HC=>?_);(go_wp2_with fail);(refine wp_name fun wa hwa=>?_;have wa_s0:=sg w.heap.size hwa;have wa_b:Below w.heap.size w wa:=(by rw [hwa];exact bg);have wa_bh:wa.heap[w.heap.size]?=some (.cells V 85 (0,0)):=(by rw [hwa];exact heap_alloc_new w _);clear hwa);(obtain ⟨c0,c1,c2,c3,c4,c5,c6,c7,c8,c9,c10,c11,c12,c13,c14,c15,c16,c17,c18,c19,c20,c21,c22,c23,c24,c25,c26,c27,c28,c29,c30,c31,c32,c33,c34,c35,c36⟩:=wbox (show wa.heap[w.heap.size]?=some (.cells (wdV d ms ds) 85 (0,0)) from (by rw [←HV.out];exact wa_bh)));(have hC:=HC.out);clear HC;subst hC)
 clear c0 c1 c2 c3 c4 c5 c6 c7 c8 c9 c10 c11 c12 c13 c14 c15 c16 c17 c18 c19 c20 c21 c22 c23 c24 c25 c26 c27 c28 c29 c30 c36
 go_wp2_with fail
 refine (O.pencC_any d.ch wa).mono ?_
 rintro e w1 ⟨hb1,h⟩
 rw [if_pos hm] at h
 obtain ⟨yo,yc,rfl,ho⟩:=h
 have hp:=rest_new (N:=N) wa_b ho hb1
 clear ho hb1 wa_bh c31 c32 c33 c34 c35
 go_wp2_with fail
 go_ret
 exact hp
theorem called_v {d:Wd} {ms ds:Value} {V:Array Value} (hV:V=wdV d ms ds) (N:Nat) (hm:mayO d.op=true) (w:World):Calls Tryz.prog 75 #[.agg V] w (RestPost N w (encO d.op)):=by
 have HV:=Lib.hid hV
 clear hV
 go_enter Tryz.func75,Tryz.ntmps75
 ((refine wp_hold fun C HC=>?_);(go_wp2_with fail);(refine wp_name fun wa hwa=>?_;have wa_s0:=sg w.heap.size hwa;have wa_b:Below w.heap.size w wa:=(by rw [hwa];exact bg);have wa_bh:wa.heap[w.heap.size]?=some (.cells V 85 (0,0)):=(by rw [hwa];exact heap_alloc_new w _);clear hwa);(obtain ⟨c0,c1,c2,c3,c4,c5,c6,c7,c8,c9,c10,c11,c12,c13,c14,c15,c16,c17,c18,c19,c20,c21,c22,c23,c24,c25,c26,c27,c28,c29,c30,c31,c32,c33,c34,c35,c36⟩:=wbox (show wa.heap[w.heap.size]?=some (.cells (wdV d ms ds) 85 (0,0)) from (by rw [←HV.out];exact wa_bh)));(have hC:=HC.out);clear HC;subst hC)
 clear c0 c1 c2 c3 c4 c5 c6 c7 c8 c9 c22 c23 c24 c25 c26 c27 c28 c29 c30 c31 c32 c33 c34 c35 c36
 go_wp2_with fail
 refine (enc_yes d.op wa hm).mono ?_
 rintro e w1 ⟨yo,yc,rfl,ho,hb1⟩
 have hp:=rest_new (N:=N) wa_b ho hb1
 clear ho hb1 wa_bh c10 c11 c12 c13 c14 c15 c16 c17 c18 c19 c20 c21
 go_wp2_with fail
 go_ret
 exact hp
theorem replied_v {d:Wd} {ms ds:Value} {V:Array Value} (hV:V=wdV d ms ds) (N:Nat) (hm:mayR d.rep=true) (w:World):Calls Tryz.prog 76 #[.agg V] w (RestPost N w (encP d.rep)):=by
 have HV:=Lib.hid hV
 clear hV
 go_enter Tryz.func76,Tryz.ntmps76
 ((refine wp_hold fun C HC=>?_);(go_wp2_with fail);(refine wp_name fun wa hwa=>?_;have wa_s0:=sg w.heap.size hwa;have wa_b:Below w.heap.size w wa:=(by rw [hwa];exact bg);have wa_bh:wa.heap[w.heap.size]?=some (.cells V 85 (0,0)):=(by rw [hwa];exact heap_alloc_new w _);clear hwa);(obtain ⟨c0,c1,c2,c3,c4,c5,c6,c7,c8,c9,c10,c11,c12,c13,c14,c15,c16,c17,c18,c19,c20,c21,c22,c23,c24,c25,c26,c27,c28,c29,c30,c31,c32,c33,c34,c35,c36⟩:=wbox (show wa.heap[w.heap.size]?=some (.cells (wdV d ms ds) 85 (0,0)) from (by rw [←HV.out];exact wa_bh)));(have hC:=HC.out);clear HC;subst hC)
 clear c0 c1 c2 c3 c4 c5 c6 c7 c8 c9 c10 c11 c12 c13 c14 c15 c16 c17 c18 c19 c20 c21 c28 c29 c30 c31 c32 c33 c34 c35 c36
 go_wp2_with fail
 refine (encrep_yes d.rep wa hm).mono ?_
 rintro e w1 ⟨yo,yc,rfl,ho,hb1⟩
 have hp:=rest_new (N:=N) wa_b ho hb1
 clear ho hb1 wa_bh c22 c23 c24 c25 c26 c27
 go_wp2_with fail
 go_ret
 exact hp
end Go.Proofs.YtogamdaomdoapaaGreat
namespace Go.Proofs.YtogamdaomdoapaaGreat
open Go.RowKit
def numsB (d:Wd):List UInt8:=encs [d.kind,d.zone,d.epoch,d.index,d.size,d.off,d.host,d.err]
def opsB (d:Wd):List UInt8:=if d.kind=6 then encs [d.op.kind,d.op.client,d.op.seq] else []
def wdB (d:Wd):List UInt8:=((numsB d++(encS d.sf++encS d.st))++opsB d)++encRow (restW d)
def encW (d:Wd):List UInt8:=F.frameB (wdB d)
structure Light (d:Wd):Prop where
 mp:O.MzB d.mp
 data:d.data.length≤131072
 sf:d.sf.size≤2000
 st:d.st.size≤2000
theorem encO_shortW {o:Rq} (h:mayO o=true):(encO o).length≤2000:=by
 have hz:=may_sizes h
 have e1:=encS_length o.key
 have e2:=encS_length o.who
 have e3:=encS_length o.tkey
 have e4:=encS_length o.twho
 have h1:=encs_length [o.kind,o.client,o.seq]
 have h2:=encs_length [o.item,o.count,o.price,b1 o.buy,o.id]
 simp only [encO,List.length_append,List.length_cons,List.length_nil] at h1 h2 ⊢
 omega
theorem mayW_ok {d:Wd} (h:mayW d=true):okW d=true:=by
 unfold mayW at h
 simp only [Bool.and_eq_true] at h
 exact h.1.1.1.1
theorem mayW_ch {d:Wd} (h:mayW d=true) (k:d.kind=4):mayC d.ch=true:=by
 have:=mayW_ok h
 simpa [okW,k] using this
theorem mayW_op {d:Wd} (h:mayW d=true) (k:d.kind=5):mayO d.op=true:=by
 have:=mayW_ok h
 simpa [okW,k] using this
theorem mayW_rep {d:Wd} (h:mayW d=true) (k:d.kind=6):mayR d.rep=true:=by
 have:=mayW_ok h
 simp only [okW,k,Int.reduceEq,if_false,if_true] at this
 unfold ansW at this
 simp only [Bool.and_eq_true] at this
 exact this.1.2
theorem restW_length {d:Wd} (h:mayW d=true) (hl:Light d):(restW d).length≤131072:=by
 unfold restW
 split
 ·have:=hl.mp.le;omega
 split
 ·rename_i k
  have:=O.xE_length d.ch
  unfold O.xE at this
  rw [if_pos (mayW_ch h k)] at this
  omega
 split
 ·rename_i k
  have:=encO_shortW (mayW_op h k)
  omega
 split
 ·have:=encP_len d.rep
  unfold encP
  rw [List.length_append]
  omega
 ·exact hl.data
theorem numsB_length (d:Wd):(numsB d).length≤80:=by
 have:=encs_length [d.kind,d.zone,d.epoch,d.index,d.size,d.off,d.host,d.err]
 simpa [numsB] using this
theorem opsB_length (d:Wd):(opsB d).length≤30:=by
 unfold opsB
 split
 ·have:=encs_length [d.op.kind,d.op.client,d.op.seq]
  simpa using this
 ·simp
end Go.Proofs.YtogamdaomdoapaaGreat
namespace Go.Proofs.YtogamdaomdoapaaGreat.G
open Go.RowKit
structure Gt where
 id:Int
 hosts:Int
 next:Int
 host:Int
 wait:Int
 pend:Bool
 op:Rq
def callW (o:Rq):Wd:=⟨5,0,0,0,0,0,0,0,e0,e0,o,zRp,mp0,ch0,[]⟩
theorem callW_may {o:Rq} (h:mayO o=true):mayW (callW o)=true:=by
 unfold mayW okW namedW callW Wd.pl
 simp only [h]
 simp [eqPl,eqRp,eqCh,eqR,hasD,hasM,mapsB,mp0,pl0]
theorem callW_light (o:Rq):Light (callW o):=⟨O.MzB.of ⟨(by decide:(0:Nat)≤60),fun z hz=>by cases hz⟩,(by decide:(0:Nat)≤131072),(by decide:e0.size≤2000),(by decide:e0.size≤2000)⟩
def newOk (id hosts:Int):Bool:=decide (32≤id∧id<36∧1≤hosts∧hosts≤6)
def newG (id hosts:Int):Gt:=⟨id,hosts,1,8,0,false,rq0⟩
structure Ok (g:Gt):Prop where
 id:32≤g.id∧g.id<36
 hosts:1≤g.hosts∧g.hosts≤6
 next:1≤g.next∧g.next≤1099511627777
 host:8≤g.host∧g.host<8+g.hosts
 wait:0≤g.wait∧g.wait≤4
 may:g.pend=true→mayO g.op=true
theorem new_ok {id hosts:Int} (h:newOk id hosts=true):Ok (newG id hosts):=by
 unfold newOk at h
 rw [decide_eq_true_eq] at h
 exact ⟨⟨h.1,h.2.1⟩,h.2.2,⟨(by decide:(1:Int)≤1),(by decide:(1:Int)≤1099511627777)⟩,⟨(by decide:(8:Int)≤8),show (8:Int)<8+hosts by omega⟩,⟨(by decide:(0:Int)≤0),(by decide:(0:Int)≤4)⟩,fun h=>(nomatch h)⟩
def isHostB (hosts n:Int):Bool:=decide (8≤n)&&decide (n<8+hosts)
def askO (g:Gt) (o:Rq):Rq:={ o with client:=g.id - 32+1,seq:=g.next }
def takesB (g:Gt) (o:Rq):Bool:=!g.pend&&(decide (1≤o.kind)&&decide (o.kind≤5))&&mayO (askO g o)
def subG (g:Gt) (o:Rq):Gt:=if takesB g o=true then { g with op:=askO g o,pend:=true,wait:=0,next:=g.next+1 } else g
def subR (g:Gt) (o:Rq):Rq:=if takesB g o=true then askO g o else rq0
def subE (g:Gt) (o:Rq):Int:=if g.pend=true then 12 else if takesB g o=true then 0 else 1
theorem sub_ok {g:Gt} (h:Ok g) (o:Rq):Ok (subG g o):=by
 unfold subG
 split
 ·next ht =>
  unfold takesB at ht
  simp only [Bool.and_eq_true] at ht
  have hm:=ht.2
  have hs:(askO g o).seq≤1099511627776:=by
   unfold mayO at hm
   simp only [Bool.and_eq_true,decide_eq_true_eq] at hm
   exact hm.1.1.2.2.2
  have hs2:g.next≤1099511627776:=hs
  exact ⟨h.id,h.hosts,⟨by have:=h.next;show 1≤g.next+1;omega,by show g.next+1≤1099511627777;omega⟩,h.host,⟨(by decide:(0:Int)≤0),(by decide:(0:Int)≤4)⟩,fun _=>hm⟩
 ·exact h
def nextH (g:Gt):Int:=if isHostB g.hosts (g.host+1)=true then g.host+1 else 8
def saysB (g:Gt):Bool:=g.pend&&decide (g.wait=0)
def tickG (g:Gt):Gt:=if g.pend=true then (if 0<g.wait then { g with wait:=g.wait - 1 } else { g with wait:=4,host:=nextH g }) else g
end Go.Proofs.YtogamdaomdoapaaGreat.G
namespace Go.Proofs.YtogamdaomdoapaaGreat.F
set_option maxRecDepth 20000
open Go.RowKit
theorem flatR_take_next (L:List RowR) (k:Nat) (h:k<L.length):flatR (L.take (k+1))=flatR (L.take k)++L[k].bs:=by
 unfold flatR
 rw [List.take_succ_eq_append_getElem h,List.flatMap_append]
 simp
theorem flatR_take_le (L:List RowR) (k:Nat):(flatR (L.take k)).length≤(flatR L).length:=by
 have:flatR L=flatR (L.take k)++flatR (L.drop k):=by unfold flatR;rw [←List.flatMap_append,List.take_append_drop]
 rw [this,List.length_append];omega
def EncPost (w:World) (p:List UInt8) (e:Ending) (w':World):Prop:=∃ ao cap,e=.returned (.tuple #[.slice ao (frameB p).length cap,.int .i64 0])∧OwnC w' w.heap.size ao cap (frameB p)∧Below w.heap.size w w'
set_option maxHeartbeats 2000000 in
theorem encode_any (ao:Option Addr) (cap:Nat) (L:List RowR) (D:Nat→Prop) (w:World) (h:RsAt w D ao L) (hc:L.length≤cap) (hm:L.length≤140737488355328) (hl:(flatR L).length≤1048576) :
 Calls Tryz.prog 77 #[.slice ao L.length cap] w (EncPost w (flatR L)):=by
 have H:=Lib.hid h
 clear h
 go_enter Tryz.func77,Tryz.ntmps77
 go_wp2_with fail
 go_loopw [4,10] (fun s4 s10 wr=>wr=w∧∃ k:Nat,s10=.int .i64 k∧s4=.int .i64 ((flatR (L.take k)).length:Nat)∧k≤L.length) (fun _ s10 _=>L.length - (intOf s10).toNat)
 case atStart=>exact ⟨rfl,0,rfl,rfl,by omega⟩
 case round =>
  obtain ⟨rfl,k,rfl,rfl,hk⟩:=hrel
  have h1:=flatR_take_le L k
  obtain ⟨n,hn⟩:∃ n,n=(flatR (L.take k)).length:=⟨_,rfl⟩
  rw [←hn] at h1 ⊢
  by_cases hlt:k<L.length
  ·obtain ⟨b,off,rfl,hb,-,hr⟩:=H.out (by omega)
   have hra:=hr k hlt
   obtain ⟨ro,rc,rb,hrr⟩:∃ ro rc rb,(⟨ro,rc,rb⟩:RowR)=L[k]:=⟨_,_,_,rfl⟩
   rw [←hrr] at hra
   have c0:=hra.c
   simp only at c0
   have h2:=flatR_take_next L k hlt
   have h3:=flatR_take_le L (k+1)
   have h4:n+rb.length=(flatR (L.take (k+1))).length:=by rw [h2,List.length_append,←hn,←hrr]
   have H4:=Lib.hid h4
   have h5:n+rb.length≤1048576:=by omega
   clear h2 h3 h4 hrr hra hr hn
   go_wp2_with fail
   go_roundw
   case rel=>exact ⟨by first | rfl | trivial,k+1,by go_num,by rw [←H4.out];go_num,by omega⟩
   case measure=>simp [intOf];omega
  ·have hkL:L.take k=L:=List.take_of_length_le (by omega)
   rw [hkL] at hn
   obtain ⟨p,hp⟩:∃ p,p=flatR L:=⟨_,rfl⟩
   rw [←hp] at hn hl ⊢
   have Hn:=Lib.hid hn
   have Hp:=Lib.hid hp
   have hn2:n≤1048576:=by omega
   clear hkL hn hp h1
   go_wp2_with fail
   refine (headOf_any n _ (by omega)).mono ?_
   rintro e w1 ⟨ho,hc1,rfl,h1,b1⟩
   have H1:=Lib.hid h1.sl
   have B1:=Lib.hid b1
   have s1:=b1.size
   have HR:=Lib.hid (H.out.grow b1)
   clear h1 b1
   go_wp2_with fail
   refine (join_any ao cap L D _ HR.out hc hm (by rw [←Hp.out];omega)).mono ?_
   rintro e w2 ⟨bo,bc,rfl,h2,b2⟩
   rw [←Hp.out] at h2 ⊢
   have H2:=Lib.hid h2.sl
   have H12:=Lib.hid (H1.out.grow b2)
   have B2:=Lib.hid (B1.out.trans (b2.mono s1))
   have s2:=B2.out.size
   clear h2 b2 H1 B1 HR
   go_wp2_with fail
   refine (join_two H12.out H2.out 47 _ rfl (by rw [headB_length];omega)).mono ?_
   rintro e w3 ⟨co,cc,rfl,h3,b3⟩
   have hlen:(headB n++p).length=n+8:=by rw [List.length_append,headB_length,←Hn.out];omega
   obtain ⟨q,hq⟩:∃ q,q=headB n++p:=⟨_,rfl⟩
   rw [←hq] at h3 hlen ⊢
   have Hq:=Lib.hid hq
   have Hlen:=Lib.hid hlen
   have H3:=Lib.hid h3.sl
   have B3:=Lib.hid (B2.out.trans (b3.mono s2))
   have s3:=B3.out.size
   have hsl:=sumOf_lt q
   clear h3 b3 H12 H2 B2 hq hlen
   go_wp2_with fail
   refine (sum_one H3.out 47 _ rfl).mono ?_
   rintro e w4 ⟨rfl,rfl⟩
   go_wp2_with fail
   refine (qframe.four_any _ _ hsl).mono ?_
   rintro e w4 ⟨rfl,h4,b4⟩
   simp only [World.alloc,Array.size_push] at h4
   have H4:=Lib.hid h4.sl
   have b4':=(below_allocF w3 (.cells #[.slice co q.length cc] 47)).trans (b4.mono (by simp))
   have B4:=Lib.hid (B3.out.trans (b4'.mono s3))
   have H34:=Lib.hid (H3.out.grow b4')
   have s4:=B4.out.size
   clear h4 b4 b4' H3 B3
   go_wp2_with fail
   refine (join_two H34.out H4.out 47 _ rfl (by rw [Hlen.out,fourB_length];omega)).mono ?_
   rintro e w5 ⟨fo,fc,rfl,h5,b5⟩
   have he:q++fourB (sumOf q)=frameB p:=by rw [Hq.out,Hn.out];rfl
   rw [he] at h5 ⊢
   have H5:=Lib.hid (ownC_weak h5 s4)
   have B5:=Lib.hid (B4.out.trans (b5.mono s4))
   clear h5 b5 he
   go_wp2_with fail
   go_ret2
   obtain rfl:=Hp.out
   exact ⟨fo,fc,rfl,H5.out,B5.out⟩
end Go.Proofs.YtogamdaomdoapaaGreat.F