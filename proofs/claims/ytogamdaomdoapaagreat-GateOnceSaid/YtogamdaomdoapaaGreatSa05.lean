/- Texts put together: ThO, WrSt, Ref, Str, EncP, OpenB. -/
import Derived.Test.YtogamdaomdoapaaGreatSa01
import Derived.Test.YtogamdaomdoapaaGreatSa02
import Derived.Test.YtogamdaomdoapaaGreatSa03
import Derived.Test.YtogamdaomdoapaaGreatSa04
import Derived.ChangeSame
import Derived.ChangeSlices
import Derived.Deep.Fields
import Derived.Deep.Slices
import Derived.Laws.Bits64b
import Derived.Lib.ConvBytes
import Derived.Lib.SmallJoins
import Derived.OpenShut
import Derived.ProofKit
import Derived.ShutString
import Derived.SizedLaws
namespace Go.Proofs.YtogamdaomdoapaaGreat
open Go.RowKit
theorem below_allocO (w:World) (o:Obj):Below w.heap.size w (w.alloc o):=(Below.refl _ _).alloc (Nat.le_refl _) _
def thObj (b:Nat) (o:Obj):Th where
 T w:=w.heap[b]?=some o
 F x:=x=b
 stay h k hS:=(k.block b (lt_of_block h) (hS b rfl)).trans h
 lt h e:=e▸lt_of_block h
theorem St.objN {W w:World} {L:List Th} (h:St W w L) (o:Obj) (n:Nat) (hn:n=w.heap.size):St W (w.alloc o) (thObj n o::L):=by
 subst hn
 exact h.new (below_allocO w o) _ (heap_new w o) (fun x e=>by rw [e];exact Nat.le_refl _)
theorem cells_of_obj {w:World} {b:Nat} {cur:Array Value} {t:TypeId} (h:w.heap[b]?=some (.cells cur t (0,0))):(∀ j,w.cell? ⟨b,j,none⟩=cur[j]?)∧∀ j,w.frozen? ⟨b,j,none⟩=false:=by
 refine ⟨fun j=>by simp [World.cell?,h],fun j=>by simp [World.frozen?,h]⟩
theorem St.cells {W w:World} {L:List Th} (h:St W w L) {b:Nat} {cur:Array Value} {t:TypeId} (ht:thObj b (.cells cur t (0,0))∈L):b<w.heap.size∧(∀ j,w.cell? ⟨b,j,none⟩=cur[j]?)∧∀ j,w.frozen? ⟨b,j,none⟩=false :=
 ⟨lt_of_block (h.mem ht),cells_of_obj (h.mem ht)⟩
end Go.Proofs.YtogamdaomdoapaaGreat
namespace Go.Proofs.YtogamdaomdoapaaGreat
open Go.RowKit
set_option maxRecDepth 20000
def intV (l:List Int):List Value:=l.map (.int .i64)
theorem irow_obj {w:World} {n:Nat} {vs:List Int} {t:TypeId} {cur:Array Value} (h:w.heap[n]?=some (.cells cur t (0,0))) (hc:cur=(intV vs).toArray):IRow w n 0 vs:=by
 subst hc
 intro i hi
 rw [(cells_of_obj h).1,Nat.zero_add]
 simp [intV,hi]
theorem St.nums {W w:World} {L:List Th} {p:Nat} {l:List UInt8} {o:Option Nat} (h:St W w (thWr p W.heap.size l o::L)) (vs:List Int) (n k:Nat) (hn:n=w.heap.size) (hk:k=vs.length) (cur:Array Value) (hc:cur=(intV vs).toArray) (hm:l.length+10 * vs.length≤140737488351232) :
 Calls Tryz.prog 70 #[.pointer (some ⟨p,0,none⟩),.slice (some ⟨n,0,none⟩) k k] (w.alloc (.cells cur 3)) fun e w'=>e=.returned (.tuple #[])∧∃ o',St W w' (thWr p W.heap.size (l++encs vs) o'::L):=by
 subst hn hk
 have hw:=h.head
 have hb:=h.b.size
 have hg:St W (w.alloc (.cells cur 3)) (thWr p W.heap.size l o::L):=h.grow (below_allocO _ _)
 refine (nums_some p W.heap.size l o w.heap.size 0 vs.length vs _ hg.head (irow_obj (heap_new w _) hc) (by simp) (fun e=>by have:=(show WrAt w p W.heap.size l o from hw).lt;omega) (fun e=>by have:=((show WrAt w p W.heap.size l o from hw).own_lt _ e).1;omega) (by simp;omega) hm).mono ?_
 rintro e w' ⟨rfl,hi⟩
 exact ⟨rfl,hg.wrote hi⟩
theorem rs_lit {w:World} {n:Nat} {cur:Array Value} {t:TypeId} (h:w.heap[n]?=some (.cells cur t (0,0))) (L:List RowR) (hc:cur.toList=L.map fun r=>Value.slice r.ao r.bs.length r.cap) (D:Nat→Prop) (hD:D n) (hL:∀ r∈L,r.bs.length≤r.cap∧r.cap≤9223372036854775807∧(r.ao=none→r.bs.length=0∧r.cap=0)∧BIn w D r.ao r.bs):RsAt w D (some ⟨n,0,none⟩) L:=by
 refine fun _=>⟨n,0,rfl,lt_of_block h,hD,fun i hi=>?_⟩
 obtain ⟨h1,h2,h3,h4⟩:=hL _ (List.getElem_mem hi)
 refine ⟨?_,h1,h2,h3,h4⟩
 rw [(cells_of_obj h).1,Nat.zero_add,←Array.getElem?_toList,hc]
 simp [hi]
theorem St.rows {W w:World} {L:List Th} {p:Nat} {l:List UInt8} {o:Option Nat} (h:St W w (thWr p W.heap.size l o::L)) (R:List RowR) (n k:Nat) (hn:n=w.heap.size) (hk:k=R.length) (cur:Array Value) (hc:cur.toList=R.map fun r=>Value.slice r.ao r.bs.length r.cap)
 (hR:∀ r∈R,r.bs.length≤r.cap∧r.cap≤9223372036854775807∧(r.ao=none→r.bs.length=0∧r.cap=0)∧BAt w r.ao r.bs∧∀ a,r.ao=some a→¬Foot p o a.block) (hm:l.length+10 * R.length+(flatR R).length+10≤140737488351232) :
 Calls Tryz.prog 71 #[.pointer (some ⟨p,0,none⟩),.slice (some ⟨n,0,none⟩) k k] (w.alloc (.cells cur 47)) fun e w'=>e=.returned (.tuple #[])∧∃ o',St W w' (thWr p W.heap.size (l++encRows R) o'::L):=by
 subst hn hk
 have hw:WrAt w p W.heap.size l o:=h.head
 have hb:=h.b.size
 have hg:St W (w.alloc (.cells cur 47)) (thWr p W.heap.size l o::L):=h.grow (below_allocO _ _)
 have hnp:¬Foot p o w.heap.size:=by
  rintro (e | e)
  ·have:=hw.lt;omega
  ·have:=(hw.own_lt _ e).1;omega
 have hrs:=rs_lit (heap_new w (.cells cur 47)) R hc (fun x=>x<(w.alloc (.cells cur 47)).heap.size∧¬Foot p o x) ⟨by simp,hnp⟩ (fun r hr=>by
  obtain ⟨h1,h2,h3,h4,h5⟩:=hR r hr
  refine ⟨h1,h2,h3,fun hp=>?_⟩
  obtain ⟨b,off,e,hlt,hrow⟩:=h4 hp
  exact ⟨b,off,e,by simp;omega,⟨by simp;omega,h5 _ e⟩,hrow.below hlt (below_allocO _ _)⟩)
 refine (wbytes_any p W.heap.size l o _ R.length R _ _ hg.head hrs (fun hx=>hx.2 (.inl rfl)) (fun g hgo hx=>hx.2 (.inr hgo)) (fun x hx=>hx.1) (by simp;omega) (by omega)).mono ?_
 rintro e w' ⟨rfl,hi⟩
 exact ⟨rfl,hg.wrote hi⟩
end Go.Proofs.YtogamdaomdoapaaGreat
namespace Go.Proofs.YtogamdaomdoapaaGreat
open Go.RowKit
set_option maxRecDepth 20000
theorem bits_and_seven (q:Nat) (h:q≤4611686018427387904):bits .and .u64 (q:Int) 127=(q:Int) % 128:=by
 rw [show (127:Int)=((127:Nat):Int) from rfl,bits_and_u64_nat q 127 (by omega) (by omega)]
 rw [show (127:Nat)=2 ^ 7 - 1 from rfl,Nat.and_two_pow_sub_one_eq_mod]
 omega
theorem bits_more7 (q:Nat):bits BinOp.or IntKind.u8 ((q:Int) % 128) 128=((UInt8.ofNat (q % 128+128)).toNat:Int):=by
 have h:=bits_more (q % 128)
 rw [show (((q % 128:Nat)):Int) % 256=(q:Int) % 128 from by omega,Nat.mod_mod] at h
 exact h
set_option maxHeartbeats 4000000 in
theorem refNum_any (v:Int) (w:World):Calls Tryz.prog 88 #[.int .i64 v] w (FreshB w (encN (clampN v))):=by
 obtain ⟨i0,hi,hz0,hz1,hz2⟩:=info_parts byteInfo
 obtain ⟨u,hu⟩:∃ u,u=clampN v:=⟨_,rfl⟩
 have hul:u≤4611686018427387904:=hu▸clampN_le v
 rw [←hu]
 have Hul:=Lib.hid hul
 by_cases hbig:4611686018427387904<v
 ·have hue:u=4611686018427387904:=by rw [hu];unfold clampN;omega
  have Hue:=Lib.hid hue
  clear hu hue hul
  go_enter Tryz.func88,Tryz.ntmps88
  go_wp2_with fail
  go_loopw [3,4] (fun s3 s4 wr=>∃ (q:Nat) (cur:List UInt8) (ao:Option Addr) (cap:Nat),s3=.int .u64 q∧s4=.slice ao cur.length cap∧q≤4611686018427387904∧cur.length≤10∧Hid (OwnB wr w.heap.size ao cap cur)∧Hid (Below w.heap.size w wr)∧Hid (cur++encN q=encN u)) (fun s3 _ _=>(intOf s3).toNat)
  case atStart=>exact ⟨u,[],none,0,by rw [Hue.out]<;>rfl,rfl,Hul.out,by simp,⟨rfl,.inl ⟨rfl,rfl⟩⟩,Below.refl _ _,rfl⟩
  case round =>
   clear Hue
   obtain ⟨q,cur,ao,cap,rfl,rfl,hq,hcl,Hown,Hb,Hfull⟩:=hrel
   have hbs:=Hb.out.size
   have hfl:=congrArg List.length Hfull.out
   rw [List.length_append] at hfl
   have hel:=encN_length u
   by_cases h128:(128:Int)≤q
   ·have hb7:=bits_and_seven q hq
    have hbm:=bits_more7 q
    obtain ⟨c,hc⟩:∃ c:UInt8,c=UInt8.ofNat (q % 128+128):=⟨_,rfl⟩
    rw [←hc] at hbm
    have Hc:=Lib.hid hc
    clear hc
    have hcl2:cur.length+1≤10:=by
     have h1:=(encN_length q).2
     omega
    go_wp2_with (at_builtin;go_must (refine wpList_append_foot _ rfl (.tmp 13) (.tmp 18) 47 rfl w.heap.size 5 i0 (.int .u8 0) 1 1 Tryz.underlying47 hi hz0 hz1 hz2 rfl (by decide) ao cur.length cap (bytV cur) rfl (Hown.out.alloc _) (some ⟨wr.heap.size,0,none⟩) 1 1 (bytV [c]) rfl (fun h=>by cases h) rfl (one_cell _ _ _ _ rfl) (bytV_one [c]) (by unfold maxLen;omega) (by omega) (by simp;omega) ?_))
    intro co c' w1 hown1 hgrow1 hco1
    have hb1:Below w.heap.size w w1:=below_grown (Hb.out.alloc hbs _) (by simp;omega) hgrow1 (fun k hk=>own_block Hown.out hk)
    have ho1:OwnB w1 w.heap.size co c' (cur++[c]):=by unfold OwnB;rw [←bytV_append,List.length_append];exact hown1
    have Hb1:=Lib.hid hb1
    have Ho1:=Lib.hid ho1
    clear hown1 hgrow1 hco1 hb1 ho1 hbm hb7
    go_wp2_with fail
    go_roundw
    case rel=>exact ⟨q / 128,cur++[c],co,c',by simp,by simp,by omega,by simp;omega,Ho1,Hb1,by unfold Hid;rw [List.append_assoc];rw [←Hfull.out,encN_big (n:=q) (by omega) hq,←Hc.out];rfl⟩
    case measure=>simp [intOf];omega
   ·obtain ⟨c,hc⟩:∃ c:UInt8,c=UInt8.ofNat q:=⟨_,rfl⟩
    have hcq:(q:Int)=(c.toNat:Int):=by rw [hc];simp;omega
    have Hc:=Lib.hid hc
    have Hcq:=Lib.hid hcq
    clear hc hcq
    go_wp2_with (at_builtin;go_must (refine wpList_append_foot _ rfl (.tmp 22) (.tmp 25) 47 rfl w.heap.size 5 i0 (.int .u8 0) 1 1 Tryz.underlying47 hi hz0 hz1 hz2 rfl (by decide) ao cur.length cap (bytV cur) rfl (Hown.out.alloc _) (some ⟨wr.heap.size,0,none⟩) 1 1 (bytV [c]) rfl (fun h=>by cases h) rfl (one_cell _ _ _ _ Hcq.out) (bytV_one [c]) (by unfold maxLen;omega) (by omega) (by simp;omega) ?_))
    intro co c' w1 hown1 hgrow1 hco1
    have hb1:Below w.heap.size w w1:=below_grown (Hb.out.alloc hbs _) (by simp;omega) hgrow1 (fun k hk=>own_block Hown.out hk)
    have ho1:OwnB w1 w.heap.size co c' (cur++[c]):=by unfold OwnB;rw [←bytV_append,List.length_append];exact hown1
    have hcc:cur++[c]=encN u:=by rw [←Hfull.out,encN_small (n:=q) (by omega),←Hc.out]
    rw [hcc] at ho1
    have hlen:cur.length+1=(encN u).length:=by rw [←hcc];simp
    have Hb1:=Lib.hid hb1
    have Ho1:=Lib.hid ho1
    have Hlen:=Lib.hid hlen
    clear hown1 hgrow1 hco1 hb1 ho1 hcc hlen
    go_wp2_with fail
    go_ret
    exact ⟨co,c',by rw [←Hlen.out];rfl,Ho1.out,Hb1.out⟩
 by_cases hpos:0<v
 ·obtain ⟨n,rfl⟩:∃ n:Nat,v=n:=⟨v.toNat,by omega⟩
  have hue:u=n:=by rw [hu];unfold clampN;omega
  have Hue:=Lib.hid hue
  have hwr:IntKind.u64.wrap (n:Int)=n:=by rw [IntKind.wrap_u64];omega
  clear hu hue hul
  go_enter Tryz.func88,Tryz.ntmps88
  go_wp2_with fail
  go_loopw [3,4] (fun s3 s4 wr=>∃ (q:Nat) (cur:List UInt8) (ao:Option Addr) (cap:Nat),s3=.int .u64 q∧s4=.slice ao cur.length cap∧q≤4611686018427387904∧cur.length≤10∧Hid (OwnB wr w.heap.size ao cap cur)∧Hid (Below w.heap.size w wr)∧Hid (cur++encN q=encN u)) (fun s3 _ _=>(intOf s3).toNat)
  case atStart=>exact ⟨u,[],none,0,by rw [Hue.out]<;>rfl,rfl,Hul.out,by simp,⟨rfl,.inl ⟨rfl,rfl⟩⟩,Below.refl _ _,rfl⟩
  case round =>
   clear Hue
   obtain ⟨q,cur,ao,cap,rfl,rfl,hq,hcl,Hown,Hb,Hfull⟩:=hrel
   have hbs:=Hb.out.size
   have hfl:=congrArg List.length Hfull.out
   rw [List.length_append] at hfl
   have hel:=encN_length u
   by_cases h128:(128:Int)≤q
   ·have hb7:=bits_and_seven q hq
    have hbm:=bits_more7 q
    obtain ⟨c,hc⟩:∃ c:UInt8,c=UInt8.ofNat (q % 128+128):=⟨_,rfl⟩
    rw [←hc] at hbm
    have Hc:=Lib.hid hc
    clear hc
    have hcl2:cur.length+1≤10:=by
     have h1:=(encN_length q).2
     omega
    go_wp2_with (at_builtin;go_must (refine wpList_append_foot _ rfl (.tmp 13) (.tmp 18) 47 rfl w.heap.size 5 i0 (.int .u8 0) 1 1 Tryz.underlying47 hi hz0 hz1 hz2 rfl (by decide) ao cur.length cap (bytV cur) rfl (Hown.out.alloc _) (some ⟨wr.heap.size,0,none⟩) 1 1 (bytV [c]) rfl (fun h=>by cases h) rfl (one_cell _ _ _ _ rfl) (bytV_one [c]) (by unfold maxLen;omega) (by omega) (by simp;omega) ?_))
    intro co c' w1 hown1 hgrow1 hco1
    have hb1:Below w.heap.size w w1:=below_grown (Hb.out.alloc hbs _) (by simp;omega) hgrow1 (fun k hk=>own_block Hown.out hk)
    have ho1:OwnB w1 w.heap.size co c' (cur++[c]):=by unfold OwnB;rw [←bytV_append,List.length_append];exact hown1
    have Hb1:=Lib.hid hb1
    have Ho1:=Lib.hid ho1
    clear hown1 hgrow1 hco1 hb1 ho1 hbm hb7
    go_wp2_with fail
    go_roundw
    case rel=>exact ⟨q / 128,cur++[c],co,c',by simp,by simp,by omega,by simp;omega,Ho1,Hb1,by unfold Hid;rw [List.append_assoc];rw [←Hfull.out,encN_big (n:=q) (by omega) hq,←Hc.out];rfl⟩
    case measure=>simp [intOf];omega
   ·obtain ⟨c,hc⟩:∃ c:UInt8,c=UInt8.ofNat q:=⟨_,rfl⟩
    have hcq:(q:Int)=(c.toNat:Int):=by rw [hc];simp;omega
    have Hc:=Lib.hid hc
    have Hcq:=Lib.hid hcq
    clear hc hcq
    go_wp2_with (at_builtin;go_must (refine wpList_append_foot _ rfl (.tmp 22) (.tmp 25) 47 rfl w.heap.size 5 i0 (.int .u8 0) 1 1 Tryz.underlying47 hi hz0 hz1 hz2 rfl (by decide) ao cur.length cap (bytV cur) rfl (Hown.out.alloc _) (some ⟨wr.heap.size,0,none⟩) 1 1 (bytV [c]) rfl (fun h=>by cases h) rfl (one_cell _ _ _ _ Hcq.out) (bytV_one [c]) (by unfold maxLen;omega) (by omega) (by simp;omega) ?_))
    intro co c' w1 hown1 hgrow1 hco1
    have hb1:Below w.heap.size w w1:=below_grown (Hb.out.alloc hbs _) (by simp;omega) hgrow1 (fun k hk=>own_block Hown.out hk)
    have ho1:OwnB w1 w.heap.size co c' (cur++[c]):=by unfold OwnB;rw [←bytV_append,List.length_append];exact hown1
    have hcc:cur++[c]=encN u:=by rw [←Hfull.out,encN_small (n:=q) (by omega),←Hc.out]
    rw [hcc] at ho1
    have hlen:cur.length+1=(encN u).length:=by rw [←hcc];simp
    have Hb1:=Lib.hid hb1
    have Ho1:=Lib.hid ho1
    have Hlen:=Lib.hid hlen
    clear hown1 hgrow1 hco1 hb1 ho1 hcc hlen
    go_wp2_with fail
    go_ret
    exact ⟨co,c',by rw [←Hlen.out];rfl,Ho1.out,Hb1.out⟩
 ·have hue:u=0:=by rw [hu];unfold clampN;omega
  have Hue:=Lib.hid hue
  clear hu hue hul
  go_enter Tryz.func88,Tryz.ntmps88
  go_wp2_with fail
  go_loopw [3,4] (fun s3 s4 wr=>∃ (q:Nat) (cur:List UInt8) (ao:Option Addr) (cap:Nat),s3=.int .u64 q∧s4=.slice ao cur.length cap∧q≤4611686018427387904∧cur.length≤10∧Hid (OwnB wr w.heap.size ao cap cur)∧Hid (Below w.heap.size w wr)∧Hid (cur++encN q=encN u)) (fun s3 _ _=>(intOf s3).toNat)
  case atStart=>exact ⟨u,[],none,0,by rw [Hue.out]<;>rfl,rfl,Hul.out,by simp,⟨rfl,.inl ⟨rfl,rfl⟩⟩,Below.refl _ _,rfl⟩
  case round =>
   clear Hue
   obtain ⟨q,cur,ao,cap,rfl,rfl,hq,hcl,Hown,Hb,Hfull⟩:=hrel
   have hbs:=Hb.out.size
   have hfl:=congrArg List.length Hfull.out
   rw [List.length_append] at hfl
   have hel:=encN_length u
   by_cases h128:(128:Int)≤q
   ·have hb7:=bits_and_seven q hq
    have hbm:=bits_more7 q
    obtain ⟨c,hc⟩:∃ c:UInt8,c=UInt8.ofNat (q % 128+128):=⟨_,rfl⟩
    rw [←hc] at hbm
    have Hc:=Lib.hid hc
    clear hc
    have hcl2:cur.length+1≤10:=by
     have h1:=(encN_length q).2
     omega
    go_wp2_with (at_builtin;go_must (refine wpList_append_foot _ rfl (.tmp 13) (.tmp 18) 47 rfl w.heap.size 5 i0 (.int .u8 0) 1 1 Tryz.underlying47 hi hz0 hz1 hz2 rfl (by decide) ao cur.length cap (bytV cur) rfl (Hown.out.alloc _) (some ⟨wr.heap.size,0,none⟩) 1 1 (bytV [c]) rfl (fun h=>by cases h) rfl (one_cell _ _ _ _ rfl) (bytV_one [c]) (by unfold maxLen;omega) (by omega) (by simp;omega) ?_))
    intro co c' w1 hown1 hgrow1 hco1
    have hb1:Below w.heap.size w w1:=below_grown (Hb.out.alloc hbs _) (by simp;omega) hgrow1 (fun k hk=>own_block Hown.out hk)
    have ho1:OwnB w1 w.heap.size co c' (cur++[c]):=by unfold OwnB;rw [←bytV_append,List.length_append];exact hown1
    have Hb1:=Lib.hid hb1
    have Ho1:=Lib.hid ho1
    clear hown1 hgrow1 hco1 hb1 ho1 hbm hb7
    go_wp2_with fail
    go_roundw
    case rel=>exact ⟨q / 128,cur++[c],co,c',by simp,by simp,by omega,by simp;omega,Ho1,Hb1,by unfold Hid;rw [List.append_assoc];rw [←Hfull.out,encN_big (n:=q) (by omega) hq,←Hc.out];rfl⟩
    case measure=>simp [intOf];omega
   ·obtain ⟨c,hc⟩:∃ c:UInt8,c=UInt8.ofNat q:=⟨_,rfl⟩
    have hcq:(q:Int)=(c.toNat:Int):=by rw [hc];simp;omega
    have Hc:=Lib.hid hc
    have Hcq:=Lib.hid hcq
    clear hc hcq
    go_wp2_with (at_builtin;go_must (refine wpList_append_foot _ rfl (.tmp 22) (.tmp 25) 47 rfl w.heap.size 5 i0 (.int .u8 0) 1 1 Tryz.underlying47 hi hz0 hz1 hz2 rfl (by decide) ao cur.length cap (bytV cur) rfl (Hown.out.alloc _) (some ⟨wr.heap.size,0,none⟩) 1 1 (bytV [c]) rfl (fun h=>by cases h) rfl (one_cell _ _ _ _ Hcq.out) (bytV_one [c]) (by unfold maxLen;omega) (by omega) (by simp;omega) ?_))
    intro co c' w1 hown1 hgrow1 hco1
    have hb1:Below w.heap.size w w1:=below_grown (Hb.out.alloc hbs _) (by simp;omega) hgrow1 (fun k hk=>own_block Hown.out hk)
    have ho1:OwnB w1 w.heap.size co c' (cur++[c]):=by unfold OwnB;rw [←bytV_append,List.length_append];exact hown1
    have hcc:cur++[c]=encN u:=by rw [←Hfull.out,encN_small (n:=q) (by omega),←Hc.out]
    rw [hcc] at ho1
    have hlen:cur.length+1=(encN u).length:=by rw [←hcc];simp
    have Hb1:=Lib.hid hb1
    have Ho1:=Lib.hid ho1
    have Hlen:=Lib.hid hlen
    clear hown1 hgrow1 hco1 hb1 ho1 hcc hlen
    go_wp2_with fail
    go_ret
    exact ⟨co,c',by rw [←Hlen.out];rfl,Ho1.out,Hb1.out⟩
set_option maxHeartbeats 2000000 in
theorem refNums_any (ao:Option Addr) (cv:Nat) (vs:List Int) (w:World) (hrow:0<vs.length→∃ b off,ao=some ⟨b,off,none⟩∧b<w.heap.size∧IRow w b off vs) (hm:vs.length≤1000000) :
 Calls Tryz.prog 54 #[.slice ao vs.length cv] w (FreshB w (encs vs)):=by
 obtain ⟨i0,hi,hz0,hz1,hz2⟩:=info_parts byteInfo
 have Hrow:=Lib.hid hrow
 clear hrow
 go_enter Tryz.func54,Tryz.ntmps54
 go_wp2_with fail
 go_loopw [4,3] (fun s4 s3 wr=>∃ (k:Nat) (ao:Option Addr) (cap:Nat),s4=.int .i64 k∧s3=.slice ao (encs (vs.take k)).length cap∧k≤vs.length∧Hid (OwnB wr w.heap.size ao cap (encs (vs.take k)))∧Hid (Below w.heap.size w wr)) (fun s4 _ _=>vs.length - (intOf s4).toNat)
 case atStart=>exact ⟨0,none,0,rfl,rfl,by omega,⟨rfl,.inl ⟨rfl,rfl⟩⟩,Below.refl _ _⟩
 case round =>
  obtain ⟨k,bo,cap,rfl,rfl,hk,Hown,Hb⟩:=hrel
  have hbs:=Hb.out.size
  by_cases hlt:(k:Int)<vs.length
  ·obtain ⟨b,off,rfl,hb,hr⟩:=Hrow.out (by omega)
   obtain ⟨v,hv⟩:∃ v,v=vs[k]'(by omega):=⟨_,rfl⟩
   have hcv:=(Hb.out.cell (p:=⟨b,off+k,none⟩) hb).trans (hr k (by omega))
   rw [←hv] at hcv
   have Hv:=Lib.hid hv
   clear hv hr
   have hl:=encs_length (vs.take k)
   have hl2:(vs.take k).length≤k:=List.length_take_le _ _
   go_wp2_with fail
   refine (refNum_any v wr).mono ?_
   rintro e w1 ⟨co,cc,rfl,ho1,hb1⟩
   have hcl:=(encN_length (clampN v)).1
   have hb1':=Hb.out.trans (hb1.mono hbs)
   have hs1:=hb1'.size
   have hown1:OwnB w1 w.heap.size bo cap (encs (vs.take k)):=by
    refine ⟨Hown.out.1,?_⟩
    rcases Hown.out.2 with h2 | ⟨g,c,cur,hv,hg,hh,r⟩
    ·exact .inl h2
    ·exact .inr ⟨g,c,cur,hv,hg,(hb1.block g (Array.getElem?_eq_some_iff.1 hh).1).trans hh,r⟩
   have Hown1:=Lib.hid hown1
   have Ho1:=Lib.hid ho1
   have Hb1:=Lib.hid hb1'
   clear hown1 ho1 hb1 hb1' Hown Hb
   go_wp2_with (at_builtin;go_must (refine wpList_append_foot _ rfl (.tmp 11) (.tmp 16) 47 rfl w.heap.size 5 i0 (.int .u8 0) 1 1 Tryz.underlying47 hi hz0 hz1 hz2 rfl (by decide) bo (encs (vs.take k)).length cap (bytV (encs (vs.take k))) rfl Hown1.out co (encN (clampN v)).length cc (bytV (encN (clampN v))) rfl Ho1.out.none (by rw [bytV_length,Nat.mul_one]) Ho1.out.at.cells (bytV_one _) (by unfold maxLen;omega) (by omega) hs1 ?_))
   intro xo c' w2 hown2 hgrow2 hco2
   have hb2:Below w.heap.size w w2:=below_grown Hb1.out hs1 hgrow2 (fun j hj=>own_block Hown1.out hj)
   have hen:encs (vs.take k)++encN (clampN v)=encs (vs.take (k+1)):=by rw [encs_snoc vs k (by omega),Hv.out]
   have ho2:OwnB w2 w.heap.size xo c' (encs (vs.take (k+1))):=by unfold OwnB;rw [←hen,←bytV_append,List.length_append];exact hown2
   have hle2:(encs (vs.take k)).length+(encN (clampN v)).length=(encs (vs.take (k+1))).length:=by rw [←hen,List.length_append]
   have Hb2:=Lib.hid hb2
   have Ho2:=Lib.hid ho2
   have Hle2:=Lib.hid hle2
   clear hown2 hgrow2 hco2 hb2 ho2 hen hle2
   go_wp2_with fail
   go_roundw
   case rel=>exact ⟨k+1,xo,c',by go_num,by rw [←Hle2.out],by omega,Ho2,Hb2⟩
   case measure=>simp [intOf];omega
  ·go_wp2_with fail
   go_ret
   have ht:vs.take k=vs:=List.take_of_length_le (by omega)
   have ho:=Hown.out
   rw [ht] at ho
   exact ⟨bo,cap,by show Ending.returned (.slice bo (encs (vs.take k)).length cap)=_;rw [ht],ho,Hb.out⟩
set_option maxHeartbeats 2000000 in
theorem refBytes_any (ao:Option Addr) (cap:Nat) (l:List UInt8) (w:World) (h0:ao=none→l.length=0∧cap=0) (ha:BAt w ao l) (hm:l.length≤1000000) :
 Calls Tryz.prog 55 #[.slice ao l.length cap] w (FreshB w (encRow l)):=by
 obtain ⟨i0,hi,hz0,hz1,hz2⟩:=info_parts byteInfo
 have H0:=Lib.hid h0
 have Ha:=Lib.hid ha
 clear h0 ha
 have hcl:clampN (l.length:Int)=l.length:=by unfold clampN;omega
 have hel:=(encN_length l.length).1
 go_enter Tryz.func55,Tryz.ntmps55
 go_wp2_with fail
 refine (refNum_any (l.length:Int) w).mono ?_
 rw [hcl]
 clear hcl
 rintro e w1 ⟨co,cc,rfl,ho1,hb1⟩
 have hs1:=hb1.size
 have Ho1:=Lib.hid ho1
 have Hb1:=Lib.hid hb1
 clear ho1 hb1
 go_wp2_with (at_builtin;go_must (refine wpList_append_foot _ rfl (.tmp 5) (.tmp 6) 47 rfl w.heap.size 5 i0 (.int .u8 0) 1 1 Tryz.underlying47 hi hz0 hz1 hz2 rfl (by decide) co (encN l.length).length cc (bytV (encN l.length)) rfl Ho1.out ao l.length cap (bytV l) rfl H0.out (by rw [bytV_length,Nat.mul_one]) (Ha.out.below Hb1.out).cells (bytV_one _) (by unfold maxLen;omega) (by omega) hs1 ?_))
 intro xo c' w2 hown2 hgrow2 hco2
 have hb2:Below w.heap.size w w2:=below_grown Hb1.out hs1 hgrow2 (fun j hj=>own_block Ho1.out hj)
 have ho2:OwnB w2 w.heap.size xo c' (encRow l):=by unfold OwnB encRow;rw [←bytV_append,List.length_append];exact hown2
 have hle2:(encN l.length).length+l.length=(encRow l).length:=by unfold encRow;rw [List.length_append]
 have Hb2:=Lib.hid hb2
 have Ho2:=Lib.hid ho2
 have Hle2:=Lib.hid hle2
 clear hown2 hgrow2 hco2 hb2 ho2 hle2
 go_wp2_with fail
 go_ret
 exact ⟨xo,c',by rw [←Hle2.out];rfl,Ho2.out,Hb2.out⟩
end Go.Proofs.YtogamdaomdoapaaGreat
namespace Go.Proofs.YtogamdaomdoapaaGreat
open Go.RowKit
set_option maxRecDepth 20000
def encS (s:ByteArray):List UInt8:=encRow s.data.toList
theorem conv_bytes (w:World) (s:ByteArray):(convert 9 47 (.string s)).run Tryz.prog w=.ok (.slice (some ⟨w.heap.size,0,none⟩) s.size (grownCap w s.size 0 5)) (Lib.bytesWorld w 5 s) :=
 Lib.run_convert_string_bytes w 9 47 5 s Tryz.underlying9 Tryz.underlying47 Tryz.underlying5
theorem bytesWorld_below (w:World) (s:ByteArray):Below w.heap.size w (Lib.bytesWorld w 5 s) :=
 ⟨rfl,rfl,rfl,by rw [Lib.bytesWorld_size];omega,fun k hk=>Lib.bytesWorld_at_old w _ s k hk⟩
theorem bytesWorld_bat (w:World) (s:ByteArray):BAt (Lib.bytesWorld w 5 s) (some ⟨w.heap.size,0,none⟩) s.data.toList:=fun _=>by
 refine ⟨w.heap.size,0,rfl,by rw [Lib.bytesWorld_size];omega,fun i hi=>?_⟩
 have hs:i<s.size:=by simpa using hi
 rw [Nat.zero_add,Lib.bytesWorld_cell w _ s i hs]
 simp [List.getD,List.getElem?_eq_getElem hi]
@[go_sem] theorem bytesWorld_sz (w:World) (s:ByteArray):(Lib.bytesWorld w 5 s).heap.size=w.heap.size+1:=Lib.bytesWorld_size w _ s
@[go_sem] theorem bytesWorld_old (w:World) (s:ByteArray) (b o:Nat) (h:b<w.heap.size):(Lib.bytesWorld w 5 s).cell? ⟨b,o,none⟩=w.cell? ⟨b,o,none⟩:=(bytesWorld_below w s).cell (p:=⟨b,o,none⟩) h
theorem size_nil {s:ByteArray} (h:s.toList=[]):s.size=0:=by
 rw [ByteArray.toList_eq] at h
 have h2:=congrArg List.length h
 rw [Array.length_toList] at h2
 exact h2
theorem srow_ok {w w':World} (s:ByteArray) (hs:s.size≤1000000) (p:Nat) (o:Option Nat) (g:Nat) (hg:g=w.heap.size) (hp:p<w.heap.size) (ho:∀ x,o=some x→x<w.heap.size) (hb:Below (Lib.bytesWorld w 5 s).heap.size (Lib.bytesWorld w 5 s) w') :
 s.data.toList.length≤grownCap w s.size 0 5∧grownCap w s.size 0 5≤9223372036854775807∧(some (⟨g,0,none⟩:Addr)=none→s.data.toList.length=0∧grownCap w s.size 0 5=0)∧BAt w' (some ⟨g,0,none⟩) s.data.toList∧∀ a,some (⟨g,0,none⟩:Addr)=some a→¬Foot p o a.block:=by
 subst hg
 have h1:s.data.toList.length=s.size:=by rw [Array.length_toList];rfl
 have h2:=grownCap_le_maxLen w s.size 0 5 (by unfold maxLen;omega)
 unfold maxLen at h2
 refine ⟨by rw [h1];exact grownCap_ge w s.size 0 _,by omega,(fun h=>by cases h),(bytesWorld_bat w s).below hb,fun a ha=>?_⟩
 cases ha
 rintro (e | e)
 ·simp only at e;omega
 ·have:=ho _ e;simp only at this;omega
theorem bat_at (w:World) (s:ByteArray) (n:Nat) (hn:n=w.heap.size):BAt (Lib.bytesWorld w 5 s) (some ⟨n,0,none⟩) s.data.toList:=by subst hn;exact bytesWorld_bat w s
theorem refBytes_str (s:ByteArray) (g cap:Nat) (w:World) (ha:BAt w (some ⟨g,0,none⟩) s.data.toList) (hm:s.data.toList.length≤1000000) :
 Calls Tryz.prog 55 #[.slice (some ⟨g,0,none⟩) s.size cap] w (FreshB w (encS s)) :=
 refBytes_any (some ⟨g,0,none⟩) cap s.data.toList w (fun h=>(nomatch h)) ha hm
theorem encS_length (s:ByteArray):(encS s).length≤s.size+10:=by
 have:=(encN_length s.data.toList.length).1
 simp only [encS,encRow,List.length_append,Array.length_toList,ByteArray.size] at this ⊢
 omega
theorem St.text1 {W w:World} {L:List Th} {p:Nat} {l:List UInt8} {o:Option Nat} (h:St W w (thWr p W.heap.size l o::L)) (s:ByteArray) (hs:s.size≤1000000) (n:Nat) (hn:n=w.heap.size+1) (m:Nat) (hmn:m=w.heap.size) (hm:l.length+s.size+40≤140737488351232) :
 Calls Tryz.prog 71 #[.pointer (some ⟨p,0,none⟩),.slice (some ⟨n,0,none⟩) 1 1] ((Lib.bytesWorld w 5 s).alloc (.cells #[.slice (some ⟨m,0,none⟩) s.size (grownCap w s.size 0 5)] 47)) fun e w'=>e=.returned (.tuple #[])∧∃ o',St W w' (thWr p W.heap.size (l++encS s) o'::L):=by
 subst hmn
 have hwr:WrAt w p W.heap.size l o:=h.head
 have hp2:=hwr.lt
 have ho2:∀ x,o=some x→x<w.heap.size:=fun x hx=>(hwr.own_lt x hx).1
 have z1:=bytesWorld_sz w s
 have S4:=h.grow (bytesWorld_below w s)
 refine (S4.rows [⟨some ⟨w.heap.size,0,none⟩,grownCap w s.size 0 5,s.data.toList⟩] n 1 (by omega) rfl _ rfl (fun r hr=>?_) ?_).mono ?_
 ·obtain rfl:=List.mem_singleton.1 hr
  exact srow_ok s hs _ _ _ rfl hp2 ho2 (Below.refl _ _)
 ·simp only [flatR,List.flatMap_cons,List.flatMap_nil,List.length_cons,List.length_nil,List.append_nil,Array.length_toList]
  simp only [ByteArray.size] at hm
  omega
 ·rintro e w' ⟨rfl,o',hS⟩
  refine ⟨rfl,o',?_⟩
  simp only [encRows,List.flatMap_cons,List.flatMap_nil,List.append_nil] at hS
  exact hS
theorem St.text2 {W w:World} {L:List Th} {p:Nat} {l:List UInt8} {o:Option Nat} (h:St W w (thWr p W.heap.size l o::L)) (s t:ByteArray) (hs:s.size≤1000000) (ht:t.size≤1000000) (n:Nat) (hn:n=w.heap.size+1+1) (m m2:Nat) (hmn:m=w.heap.size) (hmn2:m2=w.heap.size+1) (hm:l.length+s.size+t.size+40≤140737488351232) :
 Calls Tryz.prog 71 #[.pointer (some ⟨p,0,none⟩),.slice (some ⟨n,0,none⟩) 2 2] ((Lib.bytesWorld (Lib.bytesWorld w 5 s) 5 t).alloc (.cells #[.slice (some ⟨m,0,none⟩) s.size (grownCap w s.size 0 5),.slice (some ⟨m2,0,none⟩) t.size (grownCap (Lib.bytesWorld w 5 s) t.size 0 5)] 47)) fun e w'=>e=.returned (.tuple #[])∧∃ o',St W w' (thWr p W.heap.size (l++(encS s++encS t)) o'::L):=by
 subst hmn hmn2
 have hwr:WrAt w p W.heap.size l o:=h.head
 have hp2:=hwr.lt
 have ho2:∀ x,o=some x→x<w.heap.size:=fun x hx=>(hwr.own_lt x hx).1
 have z1:=bytesWorld_sz w s
 have z2:=bytesWorld_sz (Lib.bytesWorld w 5 s) t
 have b2:=bytesWorld_below (Lib.bytesWorld w 5 s) t
 have S4:=h.grow ((bytesWorld_below w s).trans (b2.mono (by omega)))
 refine (S4.rows [⟨some ⟨w.heap.size,0,none⟩,grownCap w s.size 0 5,s.data.toList⟩,⟨some ⟨w.heap.size+1,0,none⟩,grownCap (Lib.bytesWorld w 5 s) t.size 0 5,t.data.toList⟩] n 2 (by omega) rfl _ rfl (fun r hr=>?_) ?_).mono ?_
 ·simp only [List.mem_cons,List.not_mem_nil,or_false] at hr
  rcases hr with rfl | rfl
  ·exact srow_ok s hs _ _ _ rfl hp2 ho2 b2
  ·exact srow_ok t ht _ _ _ (by omega) (by omega) (fun x hx=>by have:=ho2 x hx;omega) (Below.refl _ _)
 ·simp only [flatR,List.flatMap_cons,List.flatMap_nil,List.length_append,List.length_cons,List.length_nil,List.append_nil,Array.length_toList]
  simp only [ByteArray.size] at hm
  omega
 ·rintro e w' ⟨rfl,o',hS⟩
  refine ⟨rfl,o',?_⟩
  simp only [encRows,List.flatMap_cons,List.flatMap_nil,List.append_nil] at hS
  exact hS
end Go.Proofs.YtogamdaomdoapaaGreat
namespace Go.Proofs.YtogamdaomdoapaaGreat
open Go.RowKit
def b1 (b:Bool):Int:=if b then 1 else 0
def encO (o:Rq):List UInt8:=encs [o.kind,o.client,o.seq]++(encS o.key++encS o.who++encS o.tkey++encS o.twho)++encs [o.item,o.count,o.price,b1 o.buy,o.id]
theorem may_kind {o:Rq} (h:mayO o=true):placeB o.key o.who=true∧kindO o=true∧1≤o.client∧o.client≤1048576∧1≤o.seq∧o.seq≤1099511627776:=by
 simp only [mayO,Bool.and_eq_true,decide_eq_true_eq] at h
 obtain ⟨⟨h1,h2⟩,h3⟩:=h
 exact ⟨h2,h3,h1⟩
theorem kind_parts {o:Rq} (h:kindO o=true):((o.kind=1∨o.kind=6)∧cntO o=true)∨(o.kind=2∧sendO o=true)∨(o.kind=3∧ordO o=true)∨(o.kind=4∧canO o=true)∨((o.kind=5∨o.kind=7)∧barO o=true):=by
 unfold kindO at h
 split at h
 ·exact .inl ⟨by assumption,h⟩
 ·split at h
  ·exact .inr (.inl ⟨by assumption,h⟩)
  ·split at h
   ·exact .inr (.inr (.inl ⟨by assumption,h⟩))
   ·split at h
    ·exact .inr (.inr (.inr (.inl ⟨by assumption,h⟩)))
    ·split at h
     ·exact .inr (.inr (.inr (.inr ⟨by assumption,h⟩)))
     ·cases h
theorem may_sizes {o:Rq} (h:mayO o=true):o.key.size≤16∧o.who.size≤16∧o.tkey.size≤16∧o.twho.size≤16:=by
 obtain ⟨hp,hk,-⟩:=may_kind h
 simp only [placeB,decide_eq_true_eq] at hp
 refine ⟨hp.2.1,hp.2.2.2,?_⟩
 rcases kind_parts hk with ⟨-,h⟩ | ⟨-,h⟩ | ⟨-,h⟩ | ⟨-,h⟩ | ⟨-,h⟩
 ·simp only [cntO,decide_eq_true_eq] at h
  rw [size_nil h.2.2.2.2.1,size_nil h.2.2.2.2.2.1];omega
 ·simp only [sendO,placeB,Bool.and_eq_true,decide_eq_true_eq] at h
  omega
 ·simp only [ordO,cntO,Bool.and_eq_true,decide_eq_true_eq] at h
  rw [size_nil h.2.2.2.2.2.1,size_nil h.2.2.2.2.2.2.1];omega
 ·simp only [canO,decide_eq_true_eq] at h
  rw [size_nil h.2.2.1,size_nil h.2.2.2.1];omega
 ·simp only [barO,decide_eq_true_eq] at h
  rw [size_nil h.1,size_nil h.2.1];omega
end Go.Proofs.YtogamdaomdoapaaGreat
namespace Go.Proofs.YtogamdaomdoapaaGreat
open Go.ChangeShapes Go.WideShapes Go.Deep Go.RowKit
theorem lt_of_cellB {w:World} {a:Addr} {v:Value} (h:w.cell? a=some v):a.block<w.heap.size:=by
 rcases Nat.lt_or_ge a.block w.heap.size with h1 | h1
 ·exact h1
 ·simp [World.cell?,Array.getElem?_eq_none h1] at h
section
variable {H:Type} {enc:TypeId × Value→H} {W:World}
end
end Go.Proofs.YtogamdaomdoapaaGreat