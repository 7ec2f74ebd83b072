/- Texts put together: Enc, EncA, WRs, WEp, GtP, FrEnc. -/
import Derived.Test.YtogamdaomdoapaaGreatGa04
import Derived.Test.YtogamdaomdoapaaGreatGa05
import Derived.Test.YtogamdaomdoapaaGreatGa23
import Derived.Test.YtogamdaomdoapaaGreatGa24
namespace Go.Proofs.YtogamdaomdoapaaGreat
open Go.Value renaming int→aI,string→aS,bool→aB
open Go.IntKind renaming i64→aK
open List renaming length_append→lL
open Bool renaming and_eq_true→bA
open Go.Lib renaming hid→uH
open Go.RowKit
set_option maxRecDepth 20000 in
theorem p0m (o:Rq) (w:World) (hm:mayO o=false) :
 Calls Tryz.prog 117 #[.agg #[aI aK o.kind,aI aK o.client,aI aK o.seq,aS o.key,aS o.who,aS o.tkey,aS o.twho,aI aK o.item,aI aK o.count,aI aK o.price,aB o.buy,aI aK o.id]] w fun e w'=>e=.returned (.tuple #[.slice none 0 0,aI aK 1])∧Below w.heap.size w w':=by
 have Hm:=uH hm
 clear hm
 go_enter Tryz.func117,Tryz.ntmps117
 go_wp2_with fail
 (refine a0e fun wa hwa=>?_;have wa_b:Below w.heap.size w wa:=(by rw [hwa];exact bg);clear hwa)
 refine (h0t o _ false Hm.out).mono ?_
 (rintro e w1 ⟨rfl,w1_h⟩;obtain ⟨w1_hc,w1_hf⟩:=a0w w1_h;have w1_z:=w1_h.size;have w1_b:=wa_b.trans (w1_h.mono (by have:=wa_b.size;omega));have w1_le:=w1_b.size;clear w1_h)
 go_wp2_with fail
 go_ret2
 exact ⟨rfl,bg⟩
set_option maxRecDepth 20000 in
set_option maxHeartbeats 4000000 in
theorem enc_true (kind client seq:Int) (key who tkey twho:ByteArray) (item count price id:Int) (w:World) (hm:mayO ⟨kind,client,seq,key,who,tkey,twho,item,count,price,true,id⟩=true) :
 Calls Tryz.prog 117 #[.agg #[aI aK kind,aI aK client,aI aK seq,aS key,aS who,aS tkey,aS twho,aI aK item,aI aK count,aI aK price,aB true,aI aK id]] w fun e w'=>∃ ao cap,e=.returned (.tuple #[.slice ao (encO ⟨kind,client,seq,key,who,tkey,twho,item,count,price,true,id⟩).length cap,aI aK 0])∧OwnB w' w.heap.size ao cap (encO ⟨kind,client,seq,key,who,tkey,twho,item,count,price,true,id⟩)∧Below w.heap.size w w':=by
 have Hmy:=uH (fun w=>h0t ⟨kind,client,seq,key,who,tkey,twho,item,count,price,true,id⟩ w true hm)
 have hsz:=g0i hm
 simp only at hsz
 have Hsz:=uH hsz
 have hcv:=b0y
 clear hm hsz
 go_enter Tryz.func117,Tryz.ntmps117
 go_wp2_with fail
 have S0:Hid (St w _ [a0c w.heap.size (.cells #[aI aK kind,aI aK client,aI aK seq,aS key,aS who,aS tkey,aS twho,aI aK item,aI aK count,aI aK price,aB true,aI aK id] 30 (0,0))]):=(St.start w).objN (.cells #[aI aK kind,aI aK client,aI aK seq,aS key,aS who,aS tkey,aS twho,aI aK item,aI aK count,aI aK price,aB true,aI aK id] 30) w.heap.size rfl
 refine (Hmy.out _).mono ?_
 rintro e w1 ⟨rfl,hb1⟩
 have S1:=uH (S0.out.grow hb1)
 obtain ⟨hlt1,hc1,-⟩:=S1.out.cells (List.mem_cons_self ..)
 clear S0 hb1
 go_wp2_with fail
 have S2:=S1.out.t0z w1.heap.size rfl w.heap.size
 refine (S2.nums [kind,client,seq] (w1.heap.size+1) 3 (by simp) rfl _ rfl (by simp)).mono ?_
 rintro e w2 ⟨rfl,o2,hS⟩
 have S3:=uH hS
 obtain ⟨hlt2,hc2,-⟩:=S3.out.cells (List.mem_cons_of_mem _ (List.mem_cons_self ..))
 have g1:w.heap.size<w2.heap.size+1:=by omega
 have g2:w.heap.size<w2.heap.size+1+1:=by omega
 have g3:w.heap.size<w2.heap.size+1+1+1:=by omega
 clear S1 S2 hS hlt1 hc1
 go_wp2_with fail
 have b1:=bytesWorld_below w2 key
 have z1:=a0g w2 key
 generalize hk1:Lib.bytesWorld w2 5 key=k1 at *
 have b2:=bytesWorld_below k1 who
 have z2:=a0g k1 who
 generalize hk2:Lib.bytesWorld k1 5 who=k2 at *
 have b3:=bytesWorld_below k2 tkey
 have z3:=a0g k2 tkey
 generalize hk3:Lib.bytesWorld k2 5 tkey=k3 at *
 have b4:=bytesWorld_below k3 twho
 have z4:=a0g k3 twho
 generalize hk4:Lib.bytesWorld k3 5 twho=k4 at *
 have c3:Below k3.heap.size k3 k4:=b4
 have c2:Below k2.heap.size k2 k4:=b3.trans (b4.mono (by omega))
 have c1:Below k1.heap.size k1 k4:=b2.trans (c2.mono (by omega))
 have S4:=S3.out.grow (b1.trans (c1.mono (by omega)))
 have hwr:WrAt w2 w1.heap.size w.heap.size ([]++encs [kind,client,seq]) o2:=S3.out.head
 have hp2:=hwr.lt
 have ho2:∀ x,o2=some x→x<w2.heap.size:=fun x hx=>(hwr.d0a x hx).1
 refine (S4.rows [⟨some ⟨w2.heap.size,0,none⟩,grownCap w2 key.size 0 5,key.data.toList⟩,⟨some ⟨w2.heap.size+1,0,none⟩,grownCap k1 who.size 0 5,who.data.toList⟩,⟨some ⟨w2.heap.size+1+1,0,none⟩,grownCap k2 tkey.size 0 5,tkey.data.toList⟩,⟨some ⟨w2.heap.size+1+1+1,0,none⟩,grownCap k3 twho.size 0 5,twho.data.toList⟩] (w2.heap.size+1+1+1+1) 4 (by omega) rfl _ rfl (fun r hr=>?_) ?_).mono ?_
 ·simp only [List.mem_cons,List.not_mem_nil,or_false] at hr
  rcases hr with rfl | rfl | rfl | rfl
  ·exact e0t key (Nat.le_trans Hsz.out.1 (by decide)) _ _ _ rfl hp2 ho2 (by rw [hk1];exact c1)
  ·exact e0t who (Nat.le_trans Hsz.out.2.1 (by decide)) _ _ _ (by omega) (by omega) (fun x hx=>by have:=ho2 x hx;omega) (by rw [hk2];exact c2)
  ·exact e0t tkey (Nat.le_trans Hsz.out.2.2.1 (by decide)) _ _ _ (by omega) (by omega) (fun x hx=>by have:=ho2 x hx;omega) (by rw [hk3];exact c3)
  ·exact e0t twho (Nat.le_trans Hsz.out.2.2.2 (by decide)) _ _ _ (by omega) (by omega) (fun x hx=>by have:=ho2 x hx;omega) (by rw [hk4];exact Below.refl _ _)
 ·have h0:=Hsz.out
  have h1:=a0m [kind,client,seq]
  simp only [c0g,List.flatMap_cons,List.flatMap_nil,lL,List.length_cons,List.length_nil,List.append_nil,Array.length_toList] at h1 ⊢
  simp only [ByteArray.size] at h0
  omega
 rintro e w3 ⟨rfl,o3,hS⟩
 have S5:Hid (St w w3 [thWr w1.heap.size w.heap.size (encs [kind,client,seq]++(encS key++encS who++encS tkey++encS twho)) o3,a0c w.heap.size (.cells #[aI aK kind,aI aK client,aI aK seq,aS key,aS who,aS tkey,aS twho,aI aK item,aI aK count,aI aK price,aB true,aI aK id] 30 (0,0))]):=by
  have e:∀ (a b c d:RowR),c0p [a,b,c,d]=a0n a.bs++a0n b.bs++a0n c.bs++a0n d.bs:=fun a b c d=>by
   simp only [c0p,List.flatMap_cons,List.flatMap_nil,List.append_nil,List.append_assoc]
  rw [e] at hS
  exact hS
 obtain ⟨hlt3,hc3,-⟩:=S5.out.cells (List.mem_cons_of_mem _ (List.mem_cons_self ..))
 clear S3 S4 hS hlt2 hc2 g1 g2 g3 b1 b2 b3 b4 z1 z2 z3 z4 hk1 hk2 hk3 hk4 c1 c2 c3 hwr hp2 ho2
 go_wp2_with fail
 have hl1:=a0m [kind,client,seq]
 have hl2:(encS key++encS who++encS tkey++encS twho).length≤200:=by
  have h0:=Hsz.out
  have e:∀ s:ByteArray,(encS s).length≤10+s.size:=fun s=>by
   have:=(a0o s.data.toList.length).1
   simp only [encS,a0n,lL,Array.length_toList,ByteArray.size] at this ⊢
   omega
  have e1:=e key;have e2:=e who;have e3:=e tkey;have e4:=e twho
  simp only [lL]
  omega
 refine (S5.out.nums [item,count,price,b1 true,id] w3.heap.size 5 rfl rfl _ rfl (by rw [lL];simp only [List.length_cons,List.length_nil] at hl1 ⊢;omega)).mono ?_
 rintro e w4 ⟨rfl,o4,hS⟩
 have S6:=uH hS
 have hlen:((encs [kind,client,seq]++(encS key++encS who++encS tkey++encS twho))++encs [item,count,price,b1 true,id]).length≤140737488351232:=by
  have hl3:=a0m [item,count,price,b1 true,id]
  rw [lL,lL]
  simp only [List.length_cons,List.length_nil] at hl1 hl3
  omega
 have Hlen:=uH hlen
 clear S5 hS hlt3 hc3 hl1 hl2 hlen
 go_wp2_with fail
 refine (f0i w1.heap.size w.heap.size (encO ⟨kind,client,seq,key,who,tkey,twho,item,count,price,true,id⟩) o4 w4 S6.out.head Hlen.out).mono ?_
 rintro e w5 ⟨ao,cap,rfl,ho,hb⟩
 go_wp2_with fail
 go_ret2
 exact ⟨ao,cap,rfl,b0a ho S6.out.b.size,(S6.out.grow hb).b⟩
set_option maxRecDepth 20000 in
set_option maxHeartbeats 4000000 in
theorem y0g (kind client seq:Int) (key who tkey twho:ByteArray) (item count price id:Int) (w:World) (hm:mayO ⟨kind,client,seq,key,who,tkey,twho,item,count,price,false,id⟩=true) :
 Calls Tryz.prog 117 #[.agg #[aI aK kind,aI aK client,aI aK seq,aS key,aS who,aS tkey,aS twho,aI aK item,aI aK count,aI aK price,aB false,aI aK id]] w fun e w'=>∃ ao cap,e=.returned (.tuple #[.slice ao (encO ⟨kind,client,seq,key,who,tkey,twho,item,count,price,false,id⟩).length cap,aI aK 0])∧OwnB w' w.heap.size ao cap (encO ⟨kind,client,seq,key,who,tkey,twho,item,count,price,false,id⟩)∧Below w.heap.size w w':=by
 have Hmy:=uH (fun w=>h0t ⟨kind,client,seq,key,who,tkey,twho,item,count,price,false,id⟩ w true hm)
 have hsz:=g0i hm
 simp only at hsz
 have Hsz:=uH hsz
 have hcv:=b0y
 clear hm hsz
 go_enter Tryz.func117,Tryz.ntmps117
 go_wp2_with fail
 have S0:Hid (St w _ [a0c w.heap.size (.cells #[aI aK kind,aI aK client,aI aK seq,aS key,aS who,aS tkey,aS twho,aI aK item,aI aK count,aI aK price,aB false,aI aK id] 30 (0,0))]):=(St.start w).objN (.cells #[aI aK kind,aI aK client,aI aK seq,aS key,aS who,aS tkey,aS twho,aI aK item,aI aK count,aI aK price,aB false,aI aK id] 30) w.heap.size rfl
 refine (Hmy.out _).mono ?_
 rintro e w1 ⟨rfl,hb1⟩
 have S1:=uH (S0.out.grow hb1)
 obtain ⟨hlt1,hc1,-⟩:=S1.out.cells (List.mem_cons_self ..)
 clear S0 hb1
 go_wp2_with fail
 have S2:=S1.out.t0z w1.heap.size rfl w.heap.size
 refine (S2.nums [kind,client,seq] (w1.heap.size+1) 3 (by simp) rfl _ rfl (by simp)).mono ?_
 rintro e w2 ⟨rfl,o2,hS⟩
 have S3:=uH hS
 obtain ⟨hlt2,hc2,-⟩:=S3.out.cells (List.mem_cons_of_mem _ (List.mem_cons_self ..))
 have g1:w.heap.size<w2.heap.size+1:=by omega
 have g2:w.heap.size<w2.heap.size+1+1:=by omega
 have g3:w.heap.size<w2.heap.size+1+1+1:=by omega
 clear S1 S2 hS hlt1 hc1
 go_wp2_with fail
 have b1:=bytesWorld_below w2 key
 have z1:=a0g w2 key
 generalize hk1:Lib.bytesWorld w2 5 key=k1 at *
 have b2:=bytesWorld_below k1 who
 have z2:=a0g k1 who
 generalize hk2:Lib.bytesWorld k1 5 who=k2 at *
 have b3:=bytesWorld_below k2 tkey
 have z3:=a0g k2 tkey
 generalize hk3:Lib.bytesWorld k2 5 tkey=k3 at *
 have b4:=bytesWorld_below k3 twho
 have z4:=a0g k3 twho
 generalize hk4:Lib.bytesWorld k3 5 twho=k4 at *
 have c3:Below k3.heap.size k3 k4:=b4
 have c2:Below k2.heap.size k2 k4:=b3.trans (b4.mono (by omega))
 have c1:Below k1.heap.size k1 k4:=b2.trans (c2.mono (by omega))
 have S4:=S3.out.grow (b1.trans (c1.mono (by omega)))
 have hwr:WrAt w2 w1.heap.size w.heap.size ([]++encs [kind,client,seq]) o2:=S3.out.head
 have hp2:=hwr.lt
 have ho2:∀ x,o2=some x→x<w2.heap.size:=fun x hx=>(hwr.d0a x hx).1
 refine (S4.rows [⟨some ⟨w2.heap.size,0,none⟩,grownCap w2 key.size 0 5,key.data.toList⟩,⟨some ⟨w2.heap.size+1,0,none⟩,grownCap k1 who.size 0 5,who.data.toList⟩,⟨some ⟨w2.heap.size+1+1,0,none⟩,grownCap k2 tkey.size 0 5,tkey.data.toList⟩,⟨some ⟨w2.heap.size+1+1+1,0,none⟩,grownCap k3 twho.size 0 5,twho.data.toList⟩] (w2.heap.size+1+1+1+1) 4 (by omega) rfl _ rfl (fun r hr=>?_) ?_).mono ?_
 ·simp only [List.mem_cons,List.not_mem_nil,or_false] at hr
  rcases hr with rfl | rfl | rfl | rfl
  ·exact e0t key (Nat.le_trans Hsz.out.1 (by decide)) _ _ _ rfl hp2 ho2 (by rw [hk1];exact c1)
  ·exact e0t who (Nat.le_trans Hsz.out.2.1 (by decide)) _ _ _ (by omega) (by omega) (fun x hx=>by have:=ho2 x hx;omega) (by rw [hk2];exact c2)
  ·exact e0t tkey (Nat.le_trans Hsz.out.2.2.1 (by decide)) _ _ _ (by omega) (by omega) (fun x hx=>by have:=ho2 x hx;omega) (by rw [hk3];exact c3)
  ·exact e0t twho (Nat.le_trans Hsz.out.2.2.2 (by decide)) _ _ _ (by omega) (by omega) (fun x hx=>by have:=ho2 x hx;omega) (by rw [hk4];exact Below.refl _ _)
 ·have h0:=Hsz.out
  have h1:=a0m [kind,client,seq]
  simp only [c0g,List.flatMap_cons,List.flatMap_nil,lL,List.length_cons,List.length_nil,List.append_nil,Array.length_toList] at h1 ⊢
  simp only [ByteArray.size] at h0
  omega
 rintro e w3 ⟨rfl,o3,hS⟩
 have S5:Hid (St w w3 [thWr w1.heap.size w.heap.size (encs [kind,client,seq]++(encS key++encS who++encS tkey++encS twho)) o3,a0c w.heap.size (.cells #[aI aK kind,aI aK client,aI aK seq,aS key,aS who,aS tkey,aS twho,aI aK item,aI aK count,aI aK price,aB false,aI aK id] 30 (0,0))]):=by
  have e:∀ (a b c d:RowR),c0p [a,b,c,d]=a0n a.bs++a0n b.bs++a0n c.bs++a0n d.bs:=fun a b c d=>by
   simp only [c0p,List.flatMap_cons,List.flatMap_nil,List.append_nil,List.append_assoc]
  rw [e] at hS
  exact hS
 obtain ⟨hlt3,hc3,-⟩:=S5.out.cells (List.mem_cons_of_mem _ (List.mem_cons_self ..))
 clear S3 S4 hS hlt2 hc2 g1 g2 g3 b1 b2 b3 b4 z1 z2 z3 z4 hk1 hk2 hk3 hk4 c1 c2 c3 hwr hp2 ho2
 go_wp2_with fail
 have hl1:=a0m [kind,client,seq]
 have hl2:(encS key++encS who++encS tkey++encS twho).length≤200:=by
  have h0:=Hsz.out
  have e:∀ s:ByteArray,(encS s).length≤10+s.size:=fun s=>by
   have:=(a0o s.data.toList.length).1
   simp only [encS,a0n,lL,Array.length_toList,ByteArray.size] at this ⊢
   omega
  have e1:=e key;have e2:=e who;have e3:=e tkey;have e4:=e twho
  simp only [lL]
  omega
 refine (S5.out.nums [item,count,price,b1 false,id] w3.heap.size 5 rfl rfl _ rfl (by rw [lL];simp only [List.length_cons,List.length_nil] at hl1 ⊢;omega)).mono ?_
 rintro e w4 ⟨rfl,o4,hS⟩
 have S6:=uH hS
 have hlen:((encs [kind,client,seq]++(encS key++encS who++encS tkey++encS twho))++encs [item,count,price,b1 false,id]).length≤140737488351232:=by
  have hl3:=a0m [item,count,price,b1 false,id]
  rw [lL,lL]
  simp only [List.length_cons,List.length_nil] at hl1 hl3
  omega
 have Hlen:=uH hlen
 clear S5 hS hlt3 hc3 hl1 hl2 hlen
 go_wp2_with fail
 refine (f0i w1.heap.size w.heap.size (encO ⟨kind,client,seq,key,who,tkey,twho,item,count,price,false,id⟩) o4 w4 S6.out.head Hlen.out).mono ?_
 rintro e w5 ⟨ao,cap,rfl,ho,hb⟩
 go_wp2_with fail
 go_ret2
 exact ⟨ao,cap,rfl,b0a ho S6.out.b.size,(S6.out.grow hb).b⟩
open Go.RowKit
def i0b (w:World) (o:Rq) (e:Ending) (w':World):Prop:=if mayO o=true then ∃ ao cap,e=.returned (.tuple #[.slice ao (encO o).length cap,aI aK 0])∧OwnB w' w.heap.size ao cap (encO o)∧Below w.heap.size w w' else e=.returned (.tuple #[.slice none 0 0,aI aK 1])∧Below w.heap.size w w'
theorem enc_any (o:Rq) (w:World):Calls Tryz.prog 117 #[.agg #[aI aK o.kind,aI aK o.client,aI aK o.seq,aS o.key,aS o.who,aS o.tkey,aS o.twho,aI aK o.item,aI aK o.count,aI aK o.price,aB o.buy,aI aK o.id]] w (i0b w o):=by
 cases hm:mayO o with
 | true =>
  refine Calls.mono ?_ (fun e w' h=>(show i0b w o e w' by unfold i0b;rw [if_pos hm];exact h))
  obtain ⟨kind,client,seq,key,who,tkey,twho,item,count,price,buy,id⟩:=o
  cases buy with
  | true=>exact enc_true kind client seq key who tkey twho item count price id w hm
  | false=>exact y0g kind client seq key who tkey twho item count price id w hm
 | false =>
  refine Calls.mono (p0m o w hm) (fun e w' h=>?_)
  unfold i0b;rw [if_neg (by rw [hm];simp)];exact h
theorem y0f (o:Rq) (w:World) (hm:mayO o=true):Calls Tryz.prog 117 #[.agg #[aI aK o.kind,aI aK o.client,aI aK o.seq,aS o.key,aS o.who,aS o.tkey,aS o.twho,aI aK o.item,aI aK o.count,aI aK o.price,aB o.buy,aI aK o.id]] w fun e w'=>∃ ao cap,e=.returned (.tuple #[.slice ao (encO o).length cap,aI aK 0])∧OwnB w' w.heap.size ao cap (encO o)∧Below w.heap.size w w':=by
 refine (enc_any o w).mono (fun e w' h=>?_)
 unfold i0b at h
 rwa [if_pos hm] at h
set_option maxRecDepth 20000
open Go.RowKit
def f0h (d:Wd):List UInt8:=if d.kind=3 then O.encM d.mp else if d.kind=4 then O.encC d.ch else if d.kind=5 then encO d.op else if d.kind=6 then encP d.rep else d.data
def h0e (N:Nat) (w:World) (l:List UInt8) (e:Ending) (w':World):Prop:=∃ ao cap,e=.returned (.slice ao l.length cap)∧F.Sl w' ao cap l∧(0<l.length→∀ a,ao=some a→w.heap.size≤a.block∨a.block<N)∧Below w.heap.size w w'
theorem k0b {N:Nat} {w w1 w':World} {l:List UInt8} {ao:Option Addr} {cap:Nat} (hb1:Below w.heap.size w w1) (h:OwnB w' w1.heap.size ao cap l) (hb:Below w1.heap.size w1 w'):h0e N w l (.returned (.slice ao l.length cap)) w' :=
 have h1:=hb1.size
 ⟨ao,cap,rfl,h.sl,fun _ a ha=>.inl (by
  subst ha
  have h2:=(d0a h a.block rfl).2
  omega),hb1.trans (hb.mono h1)⟩
theorem data_v {d:Wd} {ms ds:Value} {V:Array Value} (hV:V=wdV d ms ds) (w:World):Calls Tryz.prog 72 #[.agg V] w fun e w'=>e=.returned ds∧Below w.heap.size w w':=by
 have HV:=uH hV
 clear hV
 go_enter Tryz.func72,Tryz.ntmps72
 ((refine a0a fun C HC=>?_);(go_wp2_with fail);(refine a0d fun wa hwa=>?_;have wa_s0:=sg w.heap.size hwa;have wa_b:Below w.heap.size w wa:=(by rw [hwa];exact bg);have wa_bh:wa.heap[w.heap.size]?=some (.cells V 85 (0,0)):=(by rw [hwa];exact heap_alloc_new w _);clear hwa);(obtain ⟨c0,c1,c2,c3,c4,c5,c6,c7,c8,c9,c10,c11,c12,c13,c14,c15,c16,c17,c18,c19,c20,c21,c22,c23,c24,c25,c26,c27,c28,c29,c30,c31,c32,c33,c34,c35,c36⟩:=wbox (show wa.heap[w.heap.size]?=some (.cells (wdV d ms ds) 85 (0,0)) from (by rw [←HV.out];exact wa_bh)));(have hC:=HC.out);clear HC;subst hC)
 clear c0 c1 c2 c3 c4 c5 c6 c7 c8 c9 c10 c11 c12 c13 c14 c15 c16 c17 c18 c19 c20 c21 c22 c23 c24 c25 c26 c27 c28 c29 c30 c31 c32 c33 c34 c35
 go_wp2_with fail
 go_ret
 exact ⟨rfl,wa_b⟩
theorem told_v {d:Wd} {ms ds:Value} {V:Array Value} (hV:V=wdV d ms ds) (N:Nat) (ao:Option Addr) (zc:Nat) (hms:ms=.slice ao d.mp.zs.length zc) (w:World) (hz:O.ZsAt w ao d.mp.zs) (hl:O.MzB d.mp):Calls Tryz.prog 73 #[.agg V] w (h0e N w (O.encM d.mp)):=by
 have HV:=uH hV
 clear hV
 go_enter Tryz.func73,Tryz.ntmps73
 ((refine a0a fun C HC=>?_);(go_wp2_with fail);(refine a0d fun wa hwa=>?_;have wa_s0:=sg w.heap.size hwa;have wa_b:Below w.heap.size w wa:=(by rw [hwa];exact bg);have wa_bh:wa.heap[w.heap.size]?=some (.cells V 85 (0,0)):=(by rw [hwa];exact heap_alloc_new w _);clear hwa);(obtain ⟨c0,c1,c2,c3,c4,c5,c6,c7,c8,c9,c10,c11,c12,c13,c14,c15,c16,c17,c18,c19,c20,c21,c22,c23,c24,c25,c26,c27,c28,c29,c30,c31,c32,c33,c34,c35,c36⟩:=wbox (show wa.heap[w.heap.size]?=some (.cells (wdV d ms ds) 85 (0,0)) from (by rw [←HV.out];exact wa_bh)));(have hC:=HC.out);clear HC;subst hC)
 clear c0 c1 c2 c3 c4 c5 c6 c7 c8 c9 c10 c11 c12 c13 c14 c15 c16 c17 c18 c19 c20 c21 c22 c23 c24 c25 c26 c27 c31 c32 c33 c34 c35 c36
 subst hms
 go_wp2_with fail
 refine (O.k0u ao zc d.mp wa (hz.grow wa_b) hl.sz).mono ?_
 rintro e w1 ⟨yo,yc,rfl,ho,hb1⟩
 have hp:=k0b (N:=N) wa_b ho hb1
 clear ho hb1 wa_bh c28 c29 c30
 go_wp2_with fail
 go_ret
 exact hp
theorem asked_v {d:Wd} {ms ds:Value} {V:Array Value} (hV:V=wdV d ms ds) (N:Nat) (hm:mayC d.ch=true) (w:World):Calls Tryz.prog 74 #[.agg V] w (h0e N w (O.encC d.ch)):=by
 have HV:=uH hV
 clear hV
 go_enter Tryz.func74,Tryz.ntmps74
 ((refine a0a fun C HC=>?_);(go_wp2_with fail);(refine a0d fun wa hwa=>?_;have wa_s0:=sg w.heap.size hwa;have wa_b:Below w.heap.size w wa:=(by rw [hwa];exact bg);have wa_bh:wa.heap[w.heap.size]?=some (.cells V 85 (0,0)):=(by rw [hwa];exact heap_alloc_new w _);clear hwa);(obtain ⟨c0,c1,c2,c3,c4,c5,c6,c7,c8,c9,c10,c11,c12,c13,c14,c15,c16,c17,c18,c19,c20,c21,c22,c23,c24,c25,c26,c27,c28,c29,c30,c31,c32,c33,c34,c35,c36⟩:=wbox (show wa.heap[w.heap.size]?=some (.cells (wdV d ms ds) 85 (0,0)) from (by rw [←HV.out];exact wa_bh)));(have hC:=HC.out);clear HC;subst hC)
 clear c0 c1 c2 c3 c4 c5 c6 c7 c8 c9 c10 c11 c12 c13 c14 c15 c16 c17 c18 c19 c20 c21 c22 c23 c24 c25 c26 c27 c28 c29 c30 c36
 go_wp2_with fail
 refine (O.o0u d.ch wa).mono ?_
 rintro e w1 ⟨hb1,h⟩
 rw [if_pos hm] at h
 obtain ⟨yo,yc,rfl,ho⟩:=h
 have hp:=k0b (N:=N) wa_b ho hb1
 clear ho hb1 wa_bh c31 c32 c33 c34 c35
 go_wp2_with fail
 go_ret
 exact hp
theorem called_v {d:Wd} {ms ds:Value} {V:Array Value} (hV:V=wdV d ms ds) (N:Nat) (hm:mayO d.op=true) (w:World):Calls Tryz.prog 75 #[.agg V] w (h0e N w (encO d.op)):=by
 have HV:=uH hV
 clear hV
 go_enter Tryz.func75,Tryz.ntmps75
 ((refine a0a fun C HC=>?_);(go_wp2_with fail);(refine a0d fun wa hwa=>?_;have wa_s0:=sg w.heap.size hwa;have wa_b:Below w.heap.size w wa:=(by rw [hwa];exact bg);have wa_bh:wa.heap[w.heap.size]?=some (.cells V 85 (0,0)):=(by rw [hwa];exact heap_alloc_new w _);clear hwa);(obtain ⟨c0,c1,c2,c3,c4,c5,c6,c7,c8,c9,c10,c11,c12,c13,c14,c15,c16,c17,c18,c19,c20,c21,c22,c23,c24,c25,c26,c27,c28,c29,c30,c31,c32,c33,c34,c35,c36⟩:=wbox (show wa.heap[w.heap.size]?=some (.cells (wdV d ms ds) 85 (0,0)) from (by rw [←HV.out];exact wa_bh)));(have hC:=HC.out);clear HC;subst hC)
 clear c0 c1 c2 c3 c4 c5 c6 c7 c8 c9 c22 c23 c24 c25 c26 c27 c28 c29 c30 c31 c32 c33 c34 c35 c36
 go_wp2_with fail
 refine (y0f d.op wa hm).mono ?_
 rintro e w1 ⟨yo,yc,rfl,ho,hb1⟩
 have hp:=k0b (N:=N) wa_b ho hb1
 clear ho hb1 wa_bh c10 c11 c12 c13 c14 c15 c16 c17 c18 c19 c20 c21
 go_wp2_with fail
 go_ret
 exact hp
theorem w0d {d:Wd} {ms ds:Value} {V:Array Value} (hV:V=wdV d ms ds) (N:Nat) (hm:mayR d.rep=true) (w:World):Calls Tryz.prog 76 #[.agg V] w (h0e N w (encP d.rep)):=by
 have HV:=uH hV
 clear hV
 go_enter Tryz.func76,Tryz.ntmps76
 ((refine a0a fun C HC=>?_);(go_wp2_with fail);(refine a0d fun wa hwa=>?_;have wa_s0:=sg w.heap.size hwa;have wa_b:Below w.heap.size w wa:=(by rw [hwa];exact bg);have wa_bh:wa.heap[w.heap.size]?=some (.cells V 85 (0,0)):=(by rw [hwa];exact heap_alloc_new w _);clear hwa);(obtain ⟨c0,c1,c2,c3,c4,c5,c6,c7,c8,c9,c10,c11,c12,c13,c14,c15,c16,c17,c18,c19,c20,c21,c22,c23,c24,c25,c26,c27,c28,c29,c30,c31,c32,c33,c34,c35,c36⟩:=wbox (show wa.heap[w.heap.size]?=some (.cells (wdV d ms ds) 85 (0,0)) from (by rw [←HV.out];exact wa_bh)));(have hC:=HC.out);clear HC;subst hC)
 clear c0 c1 c2 c3 c4 c5 c6 c7 c8 c9 c10 c11 c12 c13 c14 c15 c16 c17 c18 c19 c20 c21 c28 c29 c30 c31 c32 c33 c34 c35 c36
 go_wp2_with fail
 refine (m0o d.rep wa hm).mono ?_
 rintro e w1 ⟨yo,yc,rfl,ho,hb1⟩
 have hp:=k0b (N:=N) wa_b ho hb1
 clear ho hb1 wa_bh c22 c23 c24 c25 c26 c27
 go_wp2_with fail
 go_ret
 exact hp
open Go.RowKit
def j0b (d:Wd):List UInt8:=encs [d.kind,d.zone,d.epoch,d.index,d.size,d.off,d.host,d.err]
def opsB (d:Wd):List UInt8:=if d.kind=6 then encs [d.op.kind,d.op.client,d.op.seq] else []
def wdB (d:Wd):List UInt8:=((j0b d++(encS d.sf++encS d.st))++opsB d)++a0n (f0h d)
def encW (d:Wd):List UInt8:=F.d0w (wdB d)
structure Light (d:Wd):Prop where
 mp:O.MzB d.mp
 data:d.data.length≤131072
 sf:d.sf.size≤2000
 st:d.st.size≤2000
theorem l0l {o:Rq} (h:mayO o=true):(encO o).length≤2000:=by
 have hz:=g0i h
 have e1:=a0t o.key
 have e2:=a0t o.who
 have e3:=a0t o.tkey
 have e4:=a0t o.twho
 have h1:=a0m [o.kind,o.client,o.seq]
 have h2:=a0m [o.item,o.count,o.price,b1 o.buy,o.id]
 simp only [encO,lL,List.length_cons,List.length_nil] at h1 h2 ⊢
 omega
theorem q0o {d:Wd} (h:mayW d=true):okW d=true:=by
 unfold mayW at h
 simp only [bA] at h
 exact h.1.1.1.1
theorem q0p {d:Wd} (h:mayW d=true) (k:d.kind=4):mayC d.ch=true:=by
 have:=q0o h
 simpa [okW,k] using this
theorem n0i {d:Wd} (h:mayW d=true) (k:d.kind=5):mayO d.op=true:=by
 have:=q0o h
 simpa [okW,k] using this
theorem s0v {d:Wd} (h:mayW d=true) (k:d.kind=6):mayR d.rep=true:=by
 have:=q0o h
 simp only [okW,k,Int.reduceEq,if_false,if_true] at this
 unfold ansW at this
 simp only [bA] at this
 exact this.1.2
theorem g0h {d:Wd} (h:mayW d=true) (hl:Light d):(f0h d).length≤131072:=by
 unfold f0h
 split
 ·have:=hl.mp.le;omega
 split
 ·rename_i k
  have:=O.u0z d.ch
  unfold O.xE at this
  rw [if_pos (q0p h k)] at this
  omega
 split
 ·rename_i k
  have:=l0l (n0i h k)
  omega
 split
 ·have:=i0p d.rep
  unfold encP
  rw [lL]
  omega
 ·exact hl.data
theorem f0e (d:Wd):(j0b d).length≤80:=by
 have:=a0m [d.kind,d.zone,d.epoch,d.index,d.size,d.off,d.host,d.err]
 simpa [j0b] using this
theorem h0s (d:Wd):(opsB d).length≤30:=by
 unfold opsB
 split
 ·have:=a0m [d.op.kind,d.op.client,d.op.seq]
  simpa using this
 ·simp
end Go.Proofs.YtogamdaomdoapaaGreat
namespace Go.Proofs.YtogamdaomdoapaaGreat.G
open Go.Value renaming int→aI,string→aS,bool→aB
open Go.IntKind renaming i64→aK
open List renaming length_append→lL
open Bool renaming and_eq_true→bA
open Go.Lib renaming hid→uH
open Go.RowKit
structure Gt where
 id:Int
 hosts:Int
 next:Int
 host:Int
 wait:Int
 pend:Bool
 op:Rq
def f0j (o:Rq):Wd:=⟨5,0,0,0,0,0,0,0,e0,e0,o,zRp,mp0,ch0,[]⟩
theorem p0t {o:Rq} (h:mayO o=true):mayW (f0j o)=true:=by
 unfold mayW okW a0v f0j Wd.pl
 simp only [h]
 simp [eqPl,eqRp,eqCh,eqR,hasD,hasM,j0x,mp0,pl0]
theorem l0q (o:Rq):Light (f0j o):=⟨O.MzB.of ⟨(by decide:(0:Nat)≤60),fun z hz=>by cases hz⟩,(by decide:(0:Nat)≤131072),(by decide:e0.size≤2000),(by decide:e0.size≤2000)⟩
def l0d (id hosts:Int):Bool:=decide (32≤id∧id<36∧1≤hosts∧hosts≤6)
def newG (id hosts:Int):Gt:=⟨id,hosts,1,8,0,false,rq0⟩
structure Ok (g:Gt):Prop where
 id:32≤g.id∧g.id<36
 hosts:1≤g.hosts∧g.hosts≤6
 next:1≤g.next∧g.next≤1099511627777
 host:8≤g.host∧g.host<8+g.hosts
 wait:0≤g.wait∧g.wait≤4
 may:g.pend=true→mayO g.op=true
theorem x0b {id hosts:Int} (h:l0d id hosts=true):Ok (newG id hosts):=by
 unfold l0d at h
 rw [decide_eq_true_eq] at h
 exact ⟨⟨h.1,h.2.1⟩,h.2.2,⟨(by decide:(1:Int)≤1),(by decide:(1:Int)≤1099511627777)⟩,⟨(by decide:(8:Int)≤8),show (8:Int)<8+hosts by omega⟩,⟨(by decide:(0:Int)≤0),(by decide:(0:Int)≤4)⟩,fun h=>(nomatch h)⟩
def b0w (hosts n:Int):Bool:=decide (8≤n)&&decide (n<8+hosts)
def askO (g:Gt) (o:Rq):Rq:={ o with client:=g.id - 32+1,seq:=g.next }
def c0t (g:Gt) (o:Rq):Bool:=!g.pend&&(decide (1≤o.kind)&&decide (o.kind≤5))&&mayO (askO g o)
def subG (g:Gt) (o:Rq):Gt:=if c0t g o=true then { g with op:=askO g o,pend:=true,wait:=0,next:=g.next+1 } else g
def subR (g:Gt) (o:Rq):Rq:=if c0t g o=true then askO g o else rq0
def subE (g:Gt) (o:Rq):Int:=if g.pend=true then 12 else if c0t g o=true then 0 else 1
theorem sub_ok {g:Gt} (h:Ok g) (o:Rq):Ok (subG g o):=by
 unfold subG
 split
 ·next ht =>
  unfold c0t at ht
  simp only [bA] at ht
  have hm:=ht.2
  have hs:(askO g o).seq≤1099511627776:=by
   unfold mayO at hm
   simp only [bA,decide_eq_true_eq] at hm
   exact hm.1.1.2.2.2
  have hs2:g.next≤1099511627776:=hs
  exact ⟨h.id,h.hosts,⟨by have:=h.next;show 1≤g.next+1;omega,by show g.next+1≤1099511627777;omega⟩,h.host,⟨(by decide:(0:Int)≤0),(by decide:(0:Int)≤4)⟩,fun _=>hm⟩
 ·exact h
def t0y (g:Gt):Int:=if b0w g.hosts (g.host+1)=true then g.host+1 else 8
def h0j (g:Gt):Bool:=g.pend&&decide (g.wait=0)
def h0g (g:Gt):Gt:=if g.pend=true then (if 0<g.wait then { g with wait:=g.wait - 1 } else { g with wait:=4,host:=t0y g }) else g
theorem next_ok {g:Gt} (h:Ok g):8≤t0y g∧t0y g<8+g.hosts:=by
 have h1:=h.hosts
 have h2:=h.host
 unfold t0y b0w
 split
 ·next hh =>
  simp only [bA,decide_eq_true_eq] at hh
  exact hh
 ·omega
theorem v0e {g:Gt} (h:Ok g):Ok (h0g g):=by
 have h1:=h.wait
 unfold h0g
 split
 ·split
  ·exact ⟨h.id,h.hosts,h.next,h.host,⟨by show 0≤g.wait - 1;omega,by show g.wait - 1≤4;omega⟩,h.may⟩
  ·exact ⟨h.id,h.hosts,h.next,next_ok h,⟨(by decide:(0:Int)≤4),(by decide:(4:Int)≤4)⟩,h.may⟩
 ·exact h
end Go.Proofs.YtogamdaomdoapaaGreat.G
namespace Go.Proofs.YtogamdaomdoapaaGreat.F
open Go.Value renaming int→aI,string→aS,bool→aB
open Go.IntKind renaming i64→aK
open List renaming length_append→lL
open Bool renaming and_eq_true→bA
open Go.Lib renaming hid→uH
set_option maxRecDepth 20000
open Go.RowKit
theorem l0h (L:List RowR) (k:Nat) (h:k<L.length):c0g (L.take (k+1))=c0g (L.take k)++L[k].bs:=by
 unfold c0g
 rw [List.take_succ_eq_append_getElem h,List.flatMap_append]
 simp
theorem i0n (L:List RowR) (k:Nat):(c0g (L.take k)).length≤(c0g L).length:=by
 have:c0g L=c0g (L.take k)++c0g (L.drop k):=by unfold c0g;rw [←List.flatMap_append,List.take_append_drop]
 rw [this,lL];omega
def i0b (w:World) (p:List UInt8) (e:Ending) (w':World):Prop:=∃ ao cap,e=.returned (.tuple #[.slice ao (d0w p).length cap,aI aK 0])∧OwnC w' w.heap.size ao cap (d0w p)∧Below w.heap.size w w'
set_option maxHeartbeats 2000000 in
theorem u0m (ao:Option Addr) (cap:Nat) (L:List RowR) (D:Nat→Prop) (w:World) (h:RsAt w D ao L) (hc:L.length≤cap) (hm:L.length≤140737488355328) (hl:(c0g L).length≤1048576) :
 Calls Tryz.prog 77 #[.slice ao L.length cap] w (i0b w (c0g L)):=by
 have H:=uH h
 clear h
 go_enter Tryz.func77,Tryz.ntmps77
 go_wp2_with fail
 go_loopw [4,10] (fun s4 s10 wr=>wr=w∧∃ k:Nat,s10=aI aK k∧s4=aI aK ((c0g (L.take k)).length:Nat)∧k≤L.length) (fun _ s10 _=>L.length - (intOf s10).toNat)
 case atStart=>exact ⟨rfl,0,rfl,rfl,by omega⟩
 case round =>
  obtain ⟨rfl,k,rfl,rfl,hk⟩:=hrel
  have h1:=i0n L k
  obtain ⟨n,hn⟩:∃ n,n=(c0g (L.take k)).length:=⟨_,rfl⟩
  rw [←hn] at h1 ⊢
  by_cases hlt:k<L.length
  ·obtain ⟨b,off,rfl,hb,-,hr⟩:=H.out (by omega)
   have hra:=hr k hlt
   obtain ⟨ro,rc,rb,hrr⟩:∃ ro rc rb,(⟨ro,rc,rb⟩:RowR)=L[k]:=⟨_,_,_,rfl⟩
   rw [←hrr] at hra
   have c0:=hra.c
   simp only at c0
   have h2:=l0h L k hlt
   have h3:=i0n L (k+1)
   have h4:n+rb.length=(c0g (L.take (k+1))).length:=by rw [h2,lL,←hn,←hrr]
   have H4:=uH h4
   have h5:n+rb.length≤1048576:=by omega
   clear h2 h3 h4 hrr hra hr hn
   go_wp2_with fail
   go_roundw
   case rel=>exact ⟨by first | rfl | trivial,k+1,by go_num,by rw [←H4.out];go_num,by omega⟩
   case measure=>simp [intOf];omega
  ·have hkL:L.take k=L:=List.take_of_length_le (by omega)
   rw [hkL] at hn
   obtain ⟨p,hp⟩:∃ p,p=c0g L:=⟨_,rfl⟩
   rw [←hp] at hn hl ⊢
   have Hn:=uH hn
   have Hp:=uH hp
   have hn2:n≤1048576:=by omega
   clear hkL hn hp h1
   go_wp2_with fail
   refine (m0l n _ (by omega)).mono ?_
   rintro e w1 ⟨ho,hc1,rfl,h1,b1⟩
   have H1:=uH h1.sl
   have B1:=uH b1
   have s1:=b1.size
   have HR:=uH (H.out.grow b1)
   clear h1 b1
   go_wp2_with fail
   refine (s0x ao cap L D _ HR.out hc hm (by rw [←Hp.out];omega)).mono ?_
   rintro e w2 ⟨bo,bc,rfl,h2,b2⟩
   rw [←Hp.out] at h2 ⊢
   have H2:=uH h2.sl
   have H12:=uH (H1.out.grow b2)
   have B2:=uH (B1.out.trans (b2.mono s1))
   have s2:=B2.out.size
   clear h2 b2 H1 B1 HR
   go_wp2_with fail
   refine (n0k H12.out H2.out 47 _ rfl (by rw [g0m];omega)).mono ?_
   rintro e w3 ⟨co,cc,rfl,h3,b3⟩
   have hlen:(b0x n++p).length=n+8:=by rw [lL,g0m,←Hn.out];omega
   obtain ⟨q,hq⟩:∃ q,q=b0x n++p:=⟨_,rfl⟩
   rw [←hq] at h3 hlen ⊢
   have Hq:=uH hq
   have Hlen:=uH hlen
   have H3:=uH h3.sl
   have B3:=uH (B2.out.trans (b3.mono s2))
   have s3:=B3.out.size
   have hsl:=i0e q
   clear h3 b3 H12 H2 B2 hq hlen
   go_wp2_with fail
   refine (p0z H3.out 47 _ rfl).mono ?_
   rintro e w4 ⟨rfl,rfl⟩
   go_wp2_with fail
   refine (qframe.g0z _ _ hsl).mono ?_
   rintro e w4 ⟨rfl,h4,b4⟩
   simp only [World.alloc,Array.size_push] at h4
   have H4:=uH h4.sl
   have b4':=(b0s w3 (.cells #[.slice co q.length cc] 47)).trans (b4.mono (by simp))
   have B4:=uH (B3.out.trans (b4'.mono s3))
   have H34:=uH (H3.out.grow b4')
   have s4:=B4.out.size
   clear h4 b4 b4' H3 B3
   go_wp2_with fail
   refine (n0k H34.out H4.out 47 _ rfl (by rw [Hlen.out,f0f];omega)).mono ?_
   rintro e w5 ⟨fo,fc,rfl,h5,b5⟩
   have he:q++e0v (sumOf q)=d0w p:=by rw [Hq.out,Hn.out];rfl
   rw [he] at h5 ⊢
   have H5:=uH (d0t h5 s4)
   have B5:=uH (B4.out.trans (b5.mono s4))
   clear h5 b5 he
   go_wp2_with fail
   go_ret2
   obtain rfl:=Hp.out
   exact ⟨fo,fc,rfl,H5.out,B5.out⟩
end Go.Proofs.YtogamdaomdoapaaGreat.F