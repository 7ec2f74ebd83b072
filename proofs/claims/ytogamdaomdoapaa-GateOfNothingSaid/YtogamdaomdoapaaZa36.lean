/- Texts put together: Enc, EncA. -/
import Derived.Test.YtogamdaomdoapaaZa07
import Derived.Test.YtogamdaomdoapaaZa08
import Derived.Test.YtogamdaomdoapaaZa09
import Derived.Test.YtogamdaomdoapaaZa32
namespace Go.Proofs.Ytogamdaomdoapaa
open Go.RowKit
set_option maxRecDepth 20000 in
theorem encode_no (o:Rq) (w:World) (hm:mayO o=false) :
 Calls Try.prog 63 #[.agg #[.int .i64 o.kind,.int .i64 o.client,.int .i64 o.seq,.string o.key,.string o.who,.string o.tkey,.string o.twho,.int .i64 o.item,.int .i64 o.count,.int .i64 o.price,.bool o.buy,.int .i64 o.id]] w fun e w'=>e=.returned (.tuple #[.slice none 0 0,.int .i64 1])∧Below w.heap.size w w':=by
 have Hm:=Lib.hid hm
 clear hm
 go_enter Try.func63,Try.ntmps63
 go_wp2_with fail
 (refine calls_name fun wa hwa=>?_;have wa_b:Below w.heap.size w wa:=(by rw [hwa];exact bg);clear hwa)
 refine (may_any o _ false Hm.out).mono ?_
 (rintro e w1 ⟨rfl,w1_h⟩;obtain ⟨w1_hc,w1_hf⟩:=bcell w1_h;have w1_z:=w1_h.size;have w1_b:=wa_b.trans (w1_h.mono (by have:=wa_b.size;omega));have w1_le:=w1_b.size;clear w1_h)
 go_wp2_with fail
 go_ret2
 exact ⟨rfl,bg⟩
set_option maxRecDepth 20000 in
set_option maxHeartbeats 4000000 in
theorem enc_true (kind client seq:Int) (key who tkey twho:ByteArray) (item count price id:Int) (w:World) (hm:mayO ⟨kind,client,seq,key,who,tkey,twho,item,count,price,true,id⟩=true) :
 Calls Try.prog 63 #[.agg #[.int .i64 kind,.int .i64 client,.int .i64 seq,.string key,.string who,.string tkey,.string twho,.int .i64 item,.int .i64 count,.int .i64 price,.bool true,.int .i64 id]] w fun e w'=>∃ ao cap,e=.returned (.tuple #[.slice ao (encO ⟨kind,client,seq,key,who,tkey,twho,item,count,price,true,id⟩).length cap,.int .i64 0])∧OwnB w' w.heap.size ao cap (encO ⟨kind,client,seq,key,who,tkey,twho,item,count,price,true,id⟩)∧Below w.heap.size w w':=by
 have Hmy:=Lib.hid (fun w=>may_any ⟨kind,client,seq,key,who,tkey,twho,item,count,price,true,id⟩ w true hm)
 have hsz:=may_sizes hm
 simp only at hsz
 have Hsz:=Lib.hid hsz
 have hcv:=conv_bytes
 clear hm hsz
 go_enter Try.func63,Try.ntmps63
 go_wp2_with fail
 have S0:Hid (St w _ [thObj w.heap.size (.cells #[.int .i64 kind,.int .i64 client,.int .i64 seq,.string key,.string who,.string tkey,.string twho,.int .i64 item,.int .i64 count,.int .i64 price,.bool true,.int .i64 id] 30 (0,0))]):=(St.start w).objN (.cells #[.int .i64 kind,.int .i64 client,.int .i64 seq,.string key,.string who,.string tkey,.string twho,.int .i64 item,.int .i64 count,.int .i64 price,.bool true,.int .i64 id] 30) w.heap.size rfl
 refine (Hmy.out _).mono ?_
 rintro e w1 ⟨rfl,hb1⟩
 have S1:=Lib.hid (S0.out.grow hb1)
 obtain ⟨hlt1,hc1,-⟩:=S1.out.cells (List.mem_cons_self ..)
 clear S0 hb1
 go_wp2_with fail
 have S2:=S1.out.newWr w1.heap.size rfl w.heap.size
 refine (S2.nums [kind,client,seq] (w1.heap.size+1) 3 (by simp) rfl _ rfl (by simp)).mono ?_
 rintro e w2 ⟨rfl,o2,hS⟩
 have S3:=Lib.hid hS
 obtain ⟨hlt2,hc2,-⟩:=S3.out.cells (List.mem_cons_of_mem _ (List.mem_cons_self ..))
 have g1:w.heap.size<w2.heap.size+1:=by omega
 have g2:w.heap.size<w2.heap.size+1+1:=by omega
 have g3:w.heap.size<w2.heap.size+1+1+1:=by omega
 clear S1 S2 hS hlt1 hc1
 go_wp2_with fail
 have b1:=bytesWorld_below w2 key
 have z1:=bytesWorld_sz w2 key
 generalize hk1:Lib.bytesWorld w2 5 key=k1 at *
 have b2:=bytesWorld_below k1 who
 have z2:=bytesWorld_sz k1 who
 generalize hk2:Lib.bytesWorld k1 5 who=k2 at *
 have b3:=bytesWorld_below k2 tkey
 have z3:=bytesWorld_sz k2 tkey
 generalize hk3:Lib.bytesWorld k2 5 tkey=k3 at *
 have b4:=bytesWorld_below k3 twho
 have z4:=bytesWorld_sz k3 twho
 generalize hk4:Lib.bytesWorld k3 5 twho=k4 at *
 have c3:Below k3.heap.size k3 k4:=b4
 have c2:Below k2.heap.size k2 k4:=b3.trans (b4.mono (by omega))
 have c1:Below k1.heap.size k1 k4:=b2.trans (c2.mono (by omega))
 have S4:=S3.out.grow (b1.trans (c1.mono (by omega)))
 have hwr:WrAt w2 w1.heap.size w.heap.size ([]++encs [kind,client,seq]) o2:=S3.out.head
 have hp2:=hwr.lt
 have ho2:∀ x,o2=some x→x<w2.heap.size:=fun x hx=>(hwr.own_lt x hx).1
 refine (S4.rows [⟨some ⟨w2.heap.size,0,none⟩,grownCap w2 key.size 0 5,key.data.toList⟩,⟨some ⟨w2.heap.size+1,0,none⟩,grownCap k1 who.size 0 5,who.data.toList⟩,⟨some ⟨w2.heap.size+1+1,0,none⟩,grownCap k2 tkey.size 0 5,tkey.data.toList⟩,⟨some ⟨w2.heap.size+1+1+1,0,none⟩,grownCap k3 twho.size 0 5,twho.data.toList⟩] (w2.heap.size+1+1+1+1) 4 (by omega) rfl _ rfl (fun r hr=>?_) ?_).mono ?_
 ·simp only [List.mem_cons,List.not_mem_nil,or_false] at hr
  rcases hr with rfl | rfl | rfl | rfl
  ·exact srow_ok key (Nat.le_trans Hsz.out.1 (by decide)) _ _ _ rfl hp2 ho2 (by rw [hk1];exact c1)
  ·exact srow_ok who (Nat.le_trans Hsz.out.2.1 (by decide)) _ _ _ (by omega) (by omega) (fun x hx=>by have:=ho2 x hx;omega) (by rw [hk2];exact c2)
  ·exact srow_ok tkey (Nat.le_trans Hsz.out.2.2.1 (by decide)) _ _ _ (by omega) (by omega) (fun x hx=>by have:=ho2 x hx;omega) (by rw [hk3];exact c3)
  ·exact srow_ok twho (Nat.le_trans Hsz.out.2.2.2 (by decide)) _ _ _ (by omega) (by omega) (fun x hx=>by have:=ho2 x hx;omega) (by rw [hk4];exact Below.refl _ _)
 ·have h0:=Hsz.out
  have h1:=encs_length [kind,client,seq]
  simp only [flatR,List.flatMap_cons,List.flatMap_nil,List.length_append,List.length_cons,List.length_nil,List.append_nil,Array.length_toList] at h1 ⊢
  simp only [ByteArray.size] at h0
  omega
 rintro e w3 ⟨rfl,o3,hS⟩
 have S5:Hid (St w w3 [thWr w1.heap.size w.heap.size (encs [kind,client,seq]++(encS key++encS who++encS tkey++encS twho)) o3,thObj w.heap.size (.cells #[.int .i64 kind,.int .i64 client,.int .i64 seq,.string key,.string who,.string tkey,.string twho,.int .i64 item,.int .i64 count,.int .i64 price,.bool true,.int .i64 id] 30 (0,0))]):=by
  have e:∀ (a b c d:RowR),encRows [a,b,c,d]=encRow a.bs++encRow b.bs++encRow c.bs++encRow d.bs:=fun a b c d=>by
   simp only [encRows,List.flatMap_cons,List.flatMap_nil,List.append_nil,List.append_assoc]
  rw [e] at hS
  exact hS
 obtain ⟨hlt3,hc3,-⟩:=S5.out.cells (List.mem_cons_of_mem _ (List.mem_cons_self ..))
 clear S3 S4 hS hlt2 hc2 g1 g2 g3 b1 b2 b3 b4 z1 z2 z3 z4 hk1 hk2 hk3 hk4 c1 c2 c3 hwr hp2 ho2
 go_wp2_with fail
 have hl1:=encs_length [kind,client,seq]
 have hl2:(encS key++encS who++encS tkey++encS twho).length≤200:=by
  have h0:=Hsz.out
  have e:∀ s:ByteArray,(encS s).length≤10+s.size:=fun s=>by
   have:=(encN_length s.data.toList.length).1
   simp only [encS,encRow,List.length_append,Array.length_toList,ByteArray.size] at this ⊢
   omega
  have e1:=e key;have e2:=e who;have e3:=e tkey;have e4:=e twho
  simp only [List.length_append]
  omega
 refine (S5.out.nums [item,count,price,b1 true,id] w3.heap.size 5 rfl rfl _ rfl (by rw [List.length_append];simp only [List.length_cons,List.length_nil] at hl1 ⊢;omega)).mono ?_
 rintro e w4 ⟨rfl,o4,hS⟩
 have S6:=Lib.hid hS
 have hlen:((encs [kind,client,seq]++(encS key++encS who++encS tkey++encS twho))++encs [item,count,price,b1 true,id]).length≤140737488351232:=by
  have hl3:=encs_length [item,count,price,b1 true,id]
  rw [List.length_append,List.length_append]
  simp only [List.length_cons,List.length_nil] at hl1 hl3
  omega
 have Hlen:=Lib.hid hlen
 clear S5 hS hlt3 hc3 hl1 hl2 hlen
 go_wp2_with fail
 refine (out_any w1.heap.size w.heap.size (encO ⟨kind,client,seq,key,who,tkey,twho,item,count,price,true,id⟩) o4 w4 S6.out.head Hlen.out).mono ?_
 rintro e w5 ⟨ao,cap,rfl,ho,hb⟩
 go_wp2_with fail
 go_ret2
 exact ⟨ao,cap,rfl,own_weak ho S6.out.b.size,(S6.out.grow hb).b⟩
set_option maxRecDepth 20000 in
set_option maxHeartbeats 4000000 in
theorem enc_false (kind client seq:Int) (key who tkey twho:ByteArray) (item count price id:Int) (w:World) (hm:mayO ⟨kind,client,seq,key,who,tkey,twho,item,count,price,false,id⟩=true) :
 Calls Try.prog 63 #[.agg #[.int .i64 kind,.int .i64 client,.int .i64 seq,.string key,.string who,.string tkey,.string twho,.int .i64 item,.int .i64 count,.int .i64 price,.bool false,.int .i64 id]] w fun e w'=>∃ ao cap,e=.returned (.tuple #[.slice ao (encO ⟨kind,client,seq,key,who,tkey,twho,item,count,price,false,id⟩).length cap,.int .i64 0])∧OwnB w' w.heap.size ao cap (encO ⟨kind,client,seq,key,who,tkey,twho,item,count,price,false,id⟩)∧Below w.heap.size w w':=by
 have Hmy:=Lib.hid (fun w=>may_any ⟨kind,client,seq,key,who,tkey,twho,item,count,price,false,id⟩ w true hm)
 have hsz:=may_sizes hm
 simp only at hsz
 have Hsz:=Lib.hid hsz
 have hcv:=conv_bytes
 clear hm hsz
 go_enter Try.func63,Try.ntmps63
 go_wp2_with fail
 have S0:Hid (St w _ [thObj w.heap.size (.cells #[.int .i64 kind,.int .i64 client,.int .i64 seq,.string key,.string who,.string tkey,.string twho,.int .i64 item,.int .i64 count,.int .i64 price,.bool false,.int .i64 id] 30 (0,0))]):=(St.start w).objN (.cells #[.int .i64 kind,.int .i64 client,.int .i64 seq,.string key,.string who,.string tkey,.string twho,.int .i64 item,.int .i64 count,.int .i64 price,.bool false,.int .i64 id] 30) w.heap.size rfl
 refine (Hmy.out _).mono ?_
 rintro e w1 ⟨rfl,hb1⟩
 have S1:=Lib.hid (S0.out.grow hb1)
 obtain ⟨hlt1,hc1,-⟩:=S1.out.cells (List.mem_cons_self ..)
 clear S0 hb1
 go_wp2_with fail
 have S2:=S1.out.newWr w1.heap.size rfl w.heap.size
 refine (S2.nums [kind,client,seq] (w1.heap.size+1) 3 (by simp) rfl _ rfl (by simp)).mono ?_
 rintro e w2 ⟨rfl,o2,hS⟩
 have S3:=Lib.hid hS
 obtain ⟨hlt2,hc2,-⟩:=S3.out.cells (List.mem_cons_of_mem _ (List.mem_cons_self ..))
 have g1:w.heap.size<w2.heap.size+1:=by omega
 have g2:w.heap.size<w2.heap.size+1+1:=by omega
 have g3:w.heap.size<w2.heap.size+1+1+1:=by omega
 clear S1 S2 hS hlt1 hc1
 go_wp2_with fail
 have b1:=bytesWorld_below w2 key
 have z1:=bytesWorld_sz w2 key
 generalize hk1:Lib.bytesWorld w2 5 key=k1 at *
 have b2:=bytesWorld_below k1 who
 have z2:=bytesWorld_sz k1 who
 generalize hk2:Lib.bytesWorld k1 5 who=k2 at *
 have b3:=bytesWorld_below k2 tkey
 have z3:=bytesWorld_sz k2 tkey
 generalize hk3:Lib.bytesWorld k2 5 tkey=k3 at *
 have b4:=bytesWorld_below k3 twho
 have z4:=bytesWorld_sz k3 twho
 generalize hk4:Lib.bytesWorld k3 5 twho=k4 at *
 have c3:Below k3.heap.size k3 k4:=b4
 have c2:Below k2.heap.size k2 k4:=b3.trans (b4.mono (by omega))
 have c1:Below k1.heap.size k1 k4:=b2.trans (c2.mono (by omega))
 have S4:=S3.out.grow (b1.trans (c1.mono (by omega)))
 have hwr:WrAt w2 w1.heap.size w.heap.size ([]++encs [kind,client,seq]) o2:=S3.out.head
 have hp2:=hwr.lt
 have ho2:∀ x,o2=some x→x<w2.heap.size:=fun x hx=>(hwr.own_lt x hx).1
 refine (S4.rows [⟨some ⟨w2.heap.size,0,none⟩,grownCap w2 key.size 0 5,key.data.toList⟩,⟨some ⟨w2.heap.size+1,0,none⟩,grownCap k1 who.size 0 5,who.data.toList⟩,⟨some ⟨w2.heap.size+1+1,0,none⟩,grownCap k2 tkey.size 0 5,tkey.data.toList⟩,⟨some ⟨w2.heap.size+1+1+1,0,none⟩,grownCap k3 twho.size 0 5,twho.data.toList⟩] (w2.heap.size+1+1+1+1) 4 (by omega) rfl _ rfl (fun r hr=>?_) ?_).mono ?_
 ·simp only [List.mem_cons,List.not_mem_nil,or_false] at hr
  rcases hr with rfl | rfl | rfl | rfl
  ·exact srow_ok key (Nat.le_trans Hsz.out.1 (by decide)) _ _ _ rfl hp2 ho2 (by rw [hk1];exact c1)
  ·exact srow_ok who (Nat.le_trans Hsz.out.2.1 (by decide)) _ _ _ (by omega) (by omega) (fun x hx=>by have:=ho2 x hx;omega) (by rw [hk2];exact c2)
  ·exact srow_ok tkey (Nat.le_trans Hsz.out.2.2.1 (by decide)) _ _ _ (by omega) (by omega) (fun x hx=>by have:=ho2 x hx;omega) (by rw [hk3];exact c3)
  ·exact srow_ok twho (Nat.le_trans Hsz.out.2.2.2 (by decide)) _ _ _ (by omega) (by omega) (fun x hx=>by have:=ho2 x hx;omega) (by rw [hk4];exact Below.refl _ _)
 ·have h0:=Hsz.out
  have h1:=encs_length [kind,client,seq]
  simp only [flatR,List.flatMap_cons,List.flatMap_nil,List.length_append,List.length_cons,List.length_nil,List.append_nil,Array.length_toList] at h1 ⊢
  simp only [ByteArray.size] at h0
  omega
 rintro e w3 ⟨rfl,o3,hS⟩
 have S5:Hid (St w w3 [thWr w1.heap.size w.heap.size (encs [kind,client,seq]++(encS key++encS who++encS tkey++encS twho)) o3,thObj w.heap.size (.cells #[.int .i64 kind,.int .i64 client,.int .i64 seq,.string key,.string who,.string tkey,.string twho,.int .i64 item,.int .i64 count,.int .i64 price,.bool false,.int .i64 id] 30 (0,0))]):=by
  have e:∀ (a b c d:RowR),encRows [a,b,c,d]=encRow a.bs++encRow b.bs++encRow c.bs++encRow d.bs:=fun a b c d=>by
   simp only [encRows,List.flatMap_cons,List.flatMap_nil,List.append_nil,List.append_assoc]
  rw [e] at hS
  exact hS
 obtain ⟨hlt3,hc3,-⟩:=S5.out.cells (List.mem_cons_of_mem _ (List.mem_cons_self ..))
 clear S3 S4 hS hlt2 hc2 g1 g2 g3 b1 b2 b3 b4 z1 z2 z3 z4 hk1 hk2 hk3 hk4 c1 c2 c3 hwr hp2 ho2
 go_wp2_with fail
 have hl1:=encs_length [kind,client,seq]
 have hl2:(encS key++encS who++encS tkey++encS twho).length≤200:=by
  have h0:=Hsz.out
  have e:∀ s:ByteArray,(encS s).length≤10+s.size:=fun s=>by
   have:=(encN_length s.data.toList.length).1
   simp only [encS,encRow,List.length_append,Array.length_toList,ByteArray.size] at this ⊢
   omega
  have e1:=e key;have e2:=e who;have e3:=e tkey;have e4:=e twho
  simp only [List.length_append]
  omega
 refine (S5.out.nums [item,count,price,b1 false,id] w3.heap.size 5 rfl rfl _ rfl (by rw [List.length_append];simp only [List.length_cons,List.length_nil] at hl1 ⊢;omega)).mono ?_
 rintro e w4 ⟨rfl,o4,hS⟩
 have S6:=Lib.hid hS
 have hlen:((encs [kind,client,seq]++(encS key++encS who++encS tkey++encS twho))++encs [item,count,price,b1 false,id]).length≤140737488351232:=by
  have hl3:=encs_length [item,count,price,b1 false,id]
  rw [List.length_append,List.length_append]
  simp only [List.length_cons,List.length_nil] at hl1 hl3
  omega
 have Hlen:=Lib.hid hlen
 clear S5 hS hlt3 hc3 hl1 hl2 hlen
 go_wp2_with fail
 refine (out_any w1.heap.size w.heap.size (encO ⟨kind,client,seq,key,who,tkey,twho,item,count,price,false,id⟩) o4 w4 S6.out.head Hlen.out).mono ?_
 rintro e w5 ⟨ao,cap,rfl,ho,hb⟩
 go_wp2_with fail
 go_ret2
 exact ⟨ao,cap,rfl,own_weak ho S6.out.b.size,(S6.out.grow hb).b⟩
end Go.Proofs.Ytogamdaomdoapaa
namespace Go.Proofs.Ytogamdaomdoapaa
open Go.RowKit
def EncPost (w:World) (o:Rq) (e:Ending) (w':World):Prop:=if mayO o=true then ∃ ao cap,e=.returned (.tuple #[.slice ao (encO o).length cap,.int .i64 0])∧OwnB w' w.heap.size ao cap (encO o)∧Below w.heap.size w w' else e=.returned (.tuple #[.slice none 0 0,.int .i64 1])∧Below w.heap.size w w'
theorem enc_any (o:Rq) (w:World):Calls Try.prog 63 #[.agg #[.int .i64 o.kind,.int .i64 o.client,.int .i64 o.seq,.string o.key,.string o.who,.string o.tkey,.string o.twho,.int .i64 o.item,.int .i64 o.count,.int .i64 o.price,.bool o.buy,.int .i64 o.id]] w (EncPost w o):=by
 cases hm:mayO o with
 | true =>
  refine Calls.mono ?_ (fun e w' h=>(show EncPost w o e w' by unfold EncPost;rw [if_pos hm];exact h))
  obtain ⟨kind,client,seq,key,who,tkey,twho,item,count,price,buy,id⟩:=o
  cases buy with
  | true=>exact enc_true kind client seq key who tkey twho item count price id w hm
  | false=>exact enc_false kind client seq key who tkey twho item count price id w hm
 | false =>
  refine Calls.mono (encode_no o w hm) (fun e w' h=>?_)
  unfold EncPost;rw [if_neg (by rw [hm];simp)];exact h
theorem enc_yes (o:Rq) (w:World) (hm:mayO o=true):Calls Try.prog 63 #[.agg #[.int .i64 o.kind,.int .i64 o.client,.int .i64 o.seq,.string o.key,.string o.who,.string o.tkey,.string o.twho,.int .i64 o.item,.int .i64 o.count,.int .i64 o.price,.bool o.buy,.int .i64 o.id]] w fun e w'=>∃ ao cap,e=.returned (.tuple #[.slice ao (encO o).length cap,.int .i64 0])∧OwnB w' w.heap.size ao cap (encO o)∧Below w.heap.size w w':=by
 refine (enc_any o w).mono (fun e w' h=>?_)
 unfold EncPost at h
 rwa [if_pos hm] at h
end Go.Proofs.Ytogamdaomdoapaa