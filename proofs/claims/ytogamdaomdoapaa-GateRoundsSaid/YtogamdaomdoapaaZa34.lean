/- Texts put together: Sum, FrPlain, FrFour, Join, JoinAny. -/
import Derived.Test.YtogamdaomdoapaaZa02
import Derived.Test.YtogamdaomdoapaaZa03
import Derived.Test.YtogamdaomdoapaaZa04
import Derived.Test.YtogamdaomdoapaaZa06
import Derived.Laws.Bits64b
import Derived.Laws.BytesArg
import Derived.Lib.SlBytesConst
import Derived.Shelf.Bytes.SlJoin
import Derived.Shelf.Bytes.SlSmallAll
namespace Go.Proofs.Ytogamdaomdoapaa
open Go.RowKit
def crc1 (v:Nat):Nat:=(v / 2) ^^^ (if v % 2=1 then 3988292384 else 0)
def crcN:Nat→Nat→Nat
 | 0,v=>v
 | n+1,v=>crc1 (crcN n v)
def crcB (v:Nat) (c:UInt8):Nat:=crcN 8 (v ^^^ c.toNat)
def crcOf (v:Nat) (l:List UInt8):Nat:=l.foldl crcB v
def sumOf (l:List UInt8):Nat:=4294967295 ^^^ crcOf 4294967295 l
theorem wrap_u32 (n:Int):IntKind.u32.wrap n=n % 4294967296:=by simp [IntKind.wrap,IntKind.bits,IntKind.signed]
theorem bits_xor_u32 (a b:Nat) (ha:a<4294967296) (hb:b<4294967296):bits .xor .u32 (a:Int) (b:Int)=((a ^^^ b:Nat):Int):=by
 have hx:a ^^^ b<2 ^ 32:=Nat.xor_lt_two_pow (by omega) (by omega)
 have h1:(BitVec.ofInt 32 (a:Int)).toNat=a:=by
  rw [BitVec.ofInt_natCast,BitVec.toNat_ofNat];exact Nat.mod_eq_of_lt (by omega)
 have h2:(BitVec.ofInt 32 (b:Int)).toNat=b:=by
  rw [BitVec.ofInt_natCast,BitVec.toNat_ofNat];exact Nat.mod_eq_of_lt (by omega)
 show IntKind.u32.wrap ((BitVec.ofInt 32 (a:Int) ^^^ BitVec.ofInt 32 (b:Int)).toNat:Int)=_
 rw [BitVec.toNat_xor,h1,h2,wrap_u32]
 omega
theorem bits_and_u32 (a b:Nat) (ha:a<4294967296) (hb:b<4294967296):bits .and .u32 (a:Int) (b:Int)=((a &&& b:Nat):Int) :=
 (bits_nat .u32 32 (by decide) (fun n h0 h1=>by rw [wrap_u32];omega) a b (by omega) (by omega)).1
theorem crc1_lt {x:Nat} (h:x<4294967296):crc1 x<4294967296:=by
 unfold crc1
 have:x / 2 ^^^ (if x % 2=1 then 3988292384 else 0)<2 ^ 32:=Nat.xor_lt_two_pow (by omega) (by split<;>omega)
 omega
theorem crcN_lt {x:Nat} (h:x<4294967296):∀ n,crcN n x<4294967296
 | 0=>h
 | n+1=>crc1_lt (crcN_lt h n)
theorem xor_lt {u:Nat} (h:u<4294967296) (c:UInt8):u ^^^ c.toNat<4294967296:=by
 have:=c.toNat_lt
 have:u ^^^ c.toNat<2 ^ 32:=Nat.xor_lt_two_pow (by omega) (by omega)
 omega
theorem crcB_lt {u:Nat} (h:u<4294967296) (c:UInt8):crcB u c<4294967296:=crcN_lt (xor_lt h c) 8
theorem crcOf_lt:∀ (l:List UInt8) {u:Nat},u<4294967296→crcOf u l<4294967296
 | [],_,h=>h
 | c::r,_,h=>crcOf_lt r (crcB_lt h c)
theorem bits_crc (x:Nat) (hx:x<4294967296):bits .xor .u32 ((x:Int) / 2) (bits .and .u32 3988292384 (-bits .and .u32 (x:Int) 1 % 4294967296))=(crc1 x:Int):=by
 have h1:bits .and .u32 (x:Int) 1=((x % 2:Nat):Int):=by
  rw [show (1:Int)=((1:Nat):Int) from rfl,bits_and_u32 x 1 hx (by omega),Nat.and_one_is_mod]
 have h2:((x:Int) / 2)=((x / 2:Nat):Int):=by omega
 rw [h1,h2]
 unfold crc1
 rcases Nat.mod_two_eq_zero_or_one x with h | h
 ·rw [h,show bits .and .u32 3988292384 (-((0:Nat):Int) % 4294967296)=((0:Nat):Int) from by decide,bits_xor_u32 _ _ (by omega) (by omega)]
  rfl
 ·rw [h,show bits .and .u32 3988292384 (-((1:Nat):Int) % 4294967296)=((3988292384:Nat):Int) from by decide,bits_xor_u32 _ _ (by omega) (by omega)]
  rfl
theorem crcOf_take {v j:Nat} {l:List UInt8} (h:j<l.length):crcOf v (l.take (j+1))=crcB (crcOf v (l.take j)) l[j]:=by
 rw [List.take_succ_eq_append_getElem h]
 simp only [crcOf,List.foldl_append,List.foldl_cons,List.foldl_nil]
theorem crcOf_append (v:Nat) (a b:List UInt8):crcOf v (a++b)=crcOf (crcOf v a) b:=by simp only [crcOf,List.foldl_append]
set_option maxHeartbeats 2000000 in
theorem sum_any (ao:Option Addr) (cap:Nat) (L:List RowR) (w:World) (D:Nat→Prop) (h:RsAt w D ao L) (hm:L.length≤9223372036854775807) :
 Calls Try.prog 68 #[.slice ao L.length cap] w fun e w'=>e=.returned (.int .u32 (sumOf (flatR L)))∧w'=w:=by
 have H:=Lib.hid h
 clear h
 go_enter Try.func68,Try.ntmps68
 go_wp2_with fail
 go_loopw [10,3] (fun s10 s3 wr=>wr=w∧∃ (k v:Nat),s10=.int .i64 k∧s3=.int .u32 v∧k≤L.length∧v<4294967296∧Hid (v=crcOf 4294967295 (flatR (L.take k)))) (fun s10 _ _=>L.length - (intOf s10).toNat)
 case atStart=>exact ⟨rfl,0,4294967295,rfl,rfl,by omega,by omega,rfl⟩
 case round =>
  obtain ⟨rfl,k,v,rfl,rfl,hk,hv,hst⟩:=hrel
  by_cases hlt:(k:Int)<L.length
  ·obtain ⟨b,off,rfl,hb,-,hr⟩:=H.out (by omega)
   obtain ⟨ro,rc,rb,hrr⟩:∃ ro rc rb,(⟨ro,rc,rb⟩:RowR)=L[k]'(by omega):=⟨_,_,_,rfl⟩
   have hra:=hr k (by omega)
   rw [←hrr] at hra
   have Hrr:=Lib.hid hrr
   have c0:=hra.c
   have hle:=hra.le
   have hcm:=hra.cm
   have hat:BIn _ D ro rb:=hra.at_
   have Hat:=Lib.hid hat
   clear hra hr hrr hat
   simp only at c0 hle hcm
   go_wp2_with fail
   go_loopw [16,3] (fun s16 s3 w2=>w2=wr∧∃ (j u:Nat),s16=.int .i64 j∧s3=.int .u32 u∧j≤rb.length∧u<4294967296∧Hid (u=crcOf v (rb.take j))) (fun s16 _ _=>rb.length - (intOf s16).toNat)
   case atStart=>exact ⟨rfl,0,v,rfl,rfl,by omega,hv,rfl⟩
   case round =>
    obtain ⟨rfl,j,u,rfl,rfl,hj,hu,hs2⟩:=hrel
    by_cases hlt2:(j:Int)<rb.length
    ·obtain ⟨g,go,hao,hg,-,hrow⟩:=Hat.out (by omega)
     subst hao
     have c1:=hrow j (by omega)
     obtain ⟨c,hc⟩:∃ c,c=rb[j]'(by omega):=⟨_,rfl⟩
     rw [←hc] at c1
     have Hc:=Lib.hid hc
     clear hc hrow
     have hc8:(c.toNat:Int)<256:=by have:=c.toNat_lt;omega
     go_wp2_with fail
     have hux:=xor_lt hu c
     have hbx:=bits_xor_u32 u c.toNat hu (by omega)
     go_loopw [24,3] (fun s24 s3 w3=>w3=wr∧∃ (i x:Nat),s24=.int .i64 i∧s3=.int .u32 x∧i≤8∧x<4294967296∧Hid (x=crcN i (u ^^^ c.toNat))) (fun s24 _ _=>8 - (intOf s24).toNat)
     case atStart=>exact ⟨rfl,0,u ^^^ c.toNat,rfl,by rw [hbx],by omega,hux,rfl⟩
     case round =>
      obtain ⟨rfl,i,x,rfl,rfl,hi,hx,hs3⟩:=hrel
      clear hbx
      by_cases hlt3:(i:Int)<8
      ·have hbc:=bits_crc x hx
       have hcl:=crc1_lt hx
       go_wp2_with fail
       go_roundw
       case rel=>exact ⟨trivial,i+1,crc1 x,by go_num,rfl,by omega,hcl,by unfold Hid crcN;rw [←hs3.out]⟩
       case measure=>simp [intOf];omega
      ·go_wp2_with fail
       go_roundw
       case rel=>exact ⟨trivial,j+1,x,by go_num,rfl,by omega,hx,by
        have h8:i=8:=by omega
        subst h8
        unfold Hid
        rw [hs3.out,crcOf_take (by omega),←hs2.out,Hc.out]
        rfl⟩
       case measure=>simp [intOf];omega
    ·go_wp2_with fail
     go_roundw
     case rel=>exact ⟨trivial,k+1,u,by go_num,rfl,by omega,hu,by
      unfold Hid
      rw [hs2.out,List.take_of_length_le (by omega),List.take_succ_eq_append_getElem (by omega)]
      unfold flatR
      rw [List.flatMap_append,crcOf_append]
      simp only [List.flatMap_cons,List.flatMap_nil,List.append_nil]
      rw [←Hrr.out]
      congr 1⟩
     case measure=>simp [intOf];omega
  ·go_wp2_with fail
   have hmx:bits .xor .u32 IntKind.u32.max (v:Int)=((4294967295 ^^^ v:Nat):Int):=by
    rw [show IntKind.u32.max=((4294967295:Nat):Int) from by decide,bits_xor_u32 _ _ (by omega) hv]
   go_ret
   refine ⟨?_,rfl⟩
   rw [hmx]
   have:=hst.out
   rw [List.take_of_length_le (by omega)] at this
   rw [this]
   rfl
end Go.Proofs.Ytogamdaomdoapaa
namespace Go.Proofs.Ytogamdaomdoapaa.F
def fourB (n:Nat):List UInt8:=[UInt8.ofNat n,UInt8.ofNat (n / 256),UInt8.ofNat (n / 65536),UInt8.ofNat (n / 16777216)]
theorem fourB_length (n:Nat):(fourB n).length=4:=rfl
theorem sumOf_lt (l:List UInt8):sumOf l<4294967296:=by
 unfold sumOf
 exact Nat.xor_lt_two_pow (n:=32) (by omega) (by have:=crcOf_lt l (u:=4294967295) (by omega);omega)
def headB (n:Nat):List UInt8:=fourB n++fourB (sumOf (fourB n))
theorem headB_length (n:Nat):(headB n).length=8:=rfl
def frameB (p:List UInt8):List UInt8:=(headB p.length++p)++fourB (sumOf (headB p.length++p))
end Go.Proofs.Ytogamdaomdoapaa.F
namespace Go.Proofs.Ytogamdaomdoapaa.F
set_option maxRecDepth 20000
open Go.RowKit
def Fresh4 (w:World) (l:List UInt8) (e:Ending) (w':World):Prop:=e=.returned (.slice (some ⟨w.heap.size,0,none⟩) 4 4)∧OwnB w' w.heap.size (some ⟨w.heap.size,0,none⟩) 4 l∧Below w.heap.size w w'
theorem own_four {w:World} {n:Nat} (hn:n<4294967296):OwnB (w.alloc (.cells #[.int .u8 ((n:Int) % 256),.int .u8 ((n:Int) / 256 % 256),.int .u8 ((n:Int) / 65536 % 256),.int .u8 ((n:Int) / 16777216)] 5)) w.heap.size (some ⟨w.heap.size,0,none⟩) 4 (fourB n):=by
 have:=World.ownsRow_lit (base:=w.heap.size) (size:=1) (e:=5) w #[.int .u8 ((n:Int) % 256),.int .u8 ((n:Int) / 256 % 256),.int .u8 ((n:Int) / 65536 % 256),.int .u8 ((n:Int) / 16777216)] 4 (Nat.le_refl _) (by unfold maxLen;omega) (by simp)
 unfold OwnB
 have e:bytV (fourB n)=(#[.int .u8 ((n:Int) % 256),.int .u8 ((n:Int) / 256 % 256),.int .u8 ((n:Int) / 65536 % 256),.int .u8 ((n:Int) / 16777216)]:Array Value).toList:=by
  simp only [bytV,fourB,List.map_cons,List.map_nil,UInt8.toNat_ofNat',List.cons.injEq,Value.int.injEq,true_and,and_true]
  omega
 rw [e]
 exact this
theorem conv_bytes {w:World} {ao:Option Addr} {l:List UInt8} (h:BAt w ao l) (c:Nat):(convert 36 9 (.slice ao l.length c)).run Try.prog w=.ok (.string ⟨l.toArray⟩) w:=by
 by_cases hp:0<l.length
 ·obtain ⟨b,off,rfl,-,hr⟩:=h hp
  have:=run_convert_bytes_arg (P:=Try.prog) w 36 5 Try.underlying36 Try.underlying5 b off l.length c (l.map fun c=>(c.toNat:Int)) (by simp) (fun i hi=>by
   rw [hr i hi];simp [List.getD,hi]) 9 Try.underlying9
  rw [this]
  congr 2
  simp [strOfNums,Function.comp_def]
 ·have:l=[]:=List.length_eq_zero_iff.1 (by omega)
  subst this
  exact run_convert_bytes_zero w 36 5 Try.underlying36 Try.underlying5 ao c 9 Try.underlying9
theorem equal_any (ao bo:Option Addr) (ca cb:Nat) (a b:List UInt8) (w:World) (ha:BAt w ao a) (hb:BAt w bo b) :
 Calls Try.prog 32 #[.slice ao a.length ca,.slice bo b.length cb] w fun e w'=>e=.returned (.bool (a==b))∧w'=w:=by
 have h1:=conv_bytes ha ca
 have h2:=conv_bytes hb cb
 clear ha hb
 go_enter Try.func32,Try.ntmps32
 go_wp2_with fail
 go_ret
 exact ⟨rfl,rfl⟩
set_option maxHeartbeats 1000000 in
theorem qframe.four_any (n:Nat) (w:World) (hn:n<4294967296):Calls Try.prog 67 #[.int .u32 n] w (Fresh4 w (fourB n)):=by
 have h0:(0:Int)≤n:=by omega
 have h1:(n:Int)<4294967296:=by omega
 go_enter Try.func67,Try.ntmps67
 go_wp2_with fail
 go_ret
 exact ⟨rfl,own_four hn,bg⟩
end Go.Proofs.Ytogamdaomdoapaa.F
namespace Go.Proofs.Ytogamdaomdoapaa
open Go.RowKit Go.Shelf
def renJ:Ren:=⟨fun n=>if n=14 then 76 else if n=15 then 85 else 0,
 fun n=>if n=3 then 3 else if n=4 then 4 else if n=5 then 5 else if n=9 then 9 else if n=20 then 20 else if n=22 then 36 else if n=26 then 116 else 0,fun n=>n⟩
set_option maxRecDepth 100000 in
theorem laysJ:SlLaysJ.n14 Try.prog renJ where
 mixed:=by kernel_rfl
 f14:=by kernel_rfl
 f15:=by kernel_rfl
 t0:=by kernel_rfl
 a0:=fun _=>by kernel_rfl
 z0:=fun _=>by kernel_rfl
 v0:=fun _=>by kernel_rfl
 t3:=by kernel_rfl
 a3:=fun _=>by kernel_rfl
 z3:=fun _=>by kernel_rfl
 v3:=fun _=>by kernel_rfl
 t4:=by kernel_rfl
 a4:=fun _=>by kernel_rfl
 z4:=fun _=>by kernel_rfl
 v4:=fun _=>by kernel_rfl
 t9:=by kernel_rfl
 a9:=fun _=>by kernel_rfl
 z9:=fun _=>by kernel_rfl
 v9:=fun _=>by kernel_rfl
 t20:=by kernel_rfl
 a20:=fun _=>by kernel_rfl
 z20:=fun _=>by kernel_rfl
 v20:=fun _=>by kernel_rfl
 t22:=by kernel_rfl
 a22:=fun _=>by kernel_rfl
 z22:=fun _=>by kernel_rfl
 v22:=fun _=>by kernel_rfl
 t26:=by kernel_rfl
 a26:=fun _=>by kernel_rfl
 z26:=fun _=>by kernel_rfl
 v26:=fun _=>by kernel_rfl
 t5:=by kernel_rfl
 z5:=fun _=>by kernel_rfl
 i5:=by kernel_rfl
end Go.Proofs.Ytogamdaomdoapaa
namespace Go.Proofs.Ytogamdaomdoapaa
open Go.RowKit Go.Shelf
def OwnC (w:World) (base:Nat) (ao:Option Addr) (cap:Nat) (l:List UInt8):Prop :=
 (ao=none∧l=[]∧cap=0)∨∃ (g:Nat) (zs:List UInt8),ao=some ⟨g,0,none⟩∧base≤g∧l.length≤cap∧cap≤maxLen∧zs.length=cap∧zs.take l.length=l ∧
  (∀ i,(h:i<zs.length)→w.cell? ⟨g,i,none⟩=some (.int .u8 (zs[i].toNat:Int)))∧(∀ i,i<cap→w.frozen? ⟨g,i,none⟩=false)
theorem OwnC.at {w:World} {base:Nat} {ao:Option Addr} {cap:Nat} {l:List UInt8} (h:OwnC w base ao cap l):BAt w ao l:=fun hp=>by
 rcases h with ⟨-,rfl,-⟩ | ⟨g,zs,rfl,-,h1,-,h2,h3,h4,-⟩
 ·simp at hp
 ·have h0:=h4 0 (by omega)
  refine ⟨g,0,rfl,?_,fun i hi=>?_⟩
  ·rcases Nat.lt_or_ge g w.heap.size with h | h
   ·exact h
   ·simp [World.cell?,Array.getElem?_eq_none h] at h0
  ·rw [Nat.zero_add,h4 i (by omega)]
   have:l[i]=(zs.take l.length)[i]'(by rw [List.length_take];omega):=by simp only [h3]
   rw [this,List.getElem_take]
theorem OwnC.none {w:World} {base:Nat} {ao:Option Addr} {cap:Nat} {l:List UInt8} (h:OwnC w base ao cap l):ao=.none→l.length=0∧cap=0:=fun e=>by
 rcases h with ⟨-,rfl,rfl⟩ | ⟨g,zs,rfl,-⟩
 ·exact ⟨rfl,rfl⟩
 ·cases e
theorem OwnC.le {w:World} {base:Nat} {ao:Option Addr} {cap:Nat} {l:List UInt8} (h:OwnC w base ao cap l):l.length≤cap∧cap≤9223372036854775807:=by
 rcases h with ⟨-,rfl,rfl⟩ | ⟨g,zs,rfl,-,h1,h2,-⟩
 ·exact ⟨Nat.le_refl _,by omega⟩
 ·exact ⟨h1,by unfold maxLen at h2;omega⟩
def FreshC (w:World) (l:List UInt8) (e:Ending) (w':World):Prop:=∃ ao cap,e=.returned (.slice ao l.length cap)∧OwnC w' w.heap.size ao cap l∧Below w.heap.size w w'
theorem ownC_fresh {B:Nat} {w':World} {v:Value} {l:List UInt8} (h:Lib.FreshBytes B w' v l):∃ ao cap,v=.slice ao l.length cap∧OwnC w' B ao cap l:=by
 obtain ⟨g,cap,zs,rfl,hB,h1,h2,hz,hr,hb,hc,hf⟩:=h
 refine ⟨some ⟨g,0,none⟩,cap,rfl,.inr ⟨g,zs.map fun n=>UInt8.ofNat n.toNat,rfl,hB,h1,h2,by simpa using hz,?_,fun i hi=>?_,hf⟩⟩
 ·rw [←List.map_take];exact hb
 ·have hi':i<zs.length:=by simpa using hi
  rw [hc i (by omega)]
  have h3:=hr zs[i] (List.getElem_mem hi')
  simp only [List.getElem_map,List.getD_eq_getElem?_getD,List.getElem?_eq_getElem hi',Option.getD_some]
  congr 2
  simp only [UInt8.toNat_ofNat']
  omega
theorem lens_flat (L:List RowR):Lib.lens (L.map (·.bs))=(flatR L).length:=by
 induction L with
 | nil=>rfl
 | cons r t ih=>rw [List.map_cons,Lib.lens_cons,ih];simp [flatR]
theorem join_flat (L:List RowR):Lib.join (L.map (·.bs)) []=flatR L:=by
 cases L with
 | nil=>rfl
 | cons r t =>
  rw [List.map_cons,Lib.join_cons]
  unfold Lib.joinTail
  simp [flatR,List.flatMap_def,Function.comp_def]
theorem holds_of {w:World} {ao:Option Addr} {cap:Nat} {l:List UInt8} (h0:ao=none→l.length=0∧cap=0) (h:BAt w ao l):Lib.HoldsBytes w (.slice ao l.length cap) l:=by
 refine ⟨ao,cap,rfl,fun e=>List.length_eq_zero_iff.1 (h0 e).1,fun a ha i x hx=>?_⟩
 subst ha
 have hi:i<l.length:=(List.getElem?_eq_some_iff.1 hx).1
 obtain ⟨b,off,e,hb,hr⟩:=h (by omega)
 simp only [Option.some.injEq] at e
 subst e
 rw [add_none,hr i hi,(List.getElem?_eq_some_iff.1 hx).2]
theorem bjoin_any (ao:Option Addr) (cap:Nat) (L:List RowR) (D:Nat→Prop) (w:World) (h:RsAt w D ao L) (hc:L.length≤cap) (hm:L.length≤140737488355328) (hl:(flatR L).length≤140737488351232) :
 Calls Try.prog 76 #[.slice ao L.length cap,.slice none 0 0] w (FreshC w (flatR L)):=by
 cases L with
 | nil =>
  refine (show Calls Try.prog 76 #[.slice ao 0 cap,.slice none 0 0] w _ from Any.bytes_Join_none laysJ ao cap (.slice none 0 0) w).mono ?_
  rintro e w' ⟨rfl,rfl⟩
  exact ⟨some ⟨w.heap.size,0,none⟩,0,rfl,.inr ⟨w.heap.size,[],rfl,Nat.le_refl _,Nat.le_refl _,Nat.zero_le _,rfl,rfl,fun i hi=>absurd hi (by simp),fun i hi=>by omega⟩,(Below.refl _ _).alloc (Nat.le_refl _) _⟩
 | cons r t =>
  obtain ⟨b,off,rfl,hb,hd,hr⟩:=h (by simp)
  cases t with
  | nil =>
   have h0:=hr 0 (by simp)
   have hf:flatR [r]=r.bs:=by simp [flatR]
   rw [hf] at hl ⊢
   have hcell:w.cell? ⟨b,off,none⟩=some (.slice r.ao r.bs.length r.cap):=h0.c
   by_cases hp:0<r.bs.length
   ·obtain ⟨g,go,hao,hg,-,hrow⟩:=h0.at_ hp
    simp only [List.getElem_cons_zero] at hao hrow
    rw [hao] at hcell
    refine (show Calls Try.prog 76 #[.slice (some ⟨b,off,none⟩) 1 cap,.slice none 0 0] w _ from Any.bytes_Join_one laysJ b off cap ⟨g,go,none⟩ r.cap r.bs (.slice none 0 0) w hcell (fun i x hx=>by
     have hi:=(List.getElem?_eq_some_iff.1 hx).1
     rw [add_none,hrow i hi,(List.getElem?_eq_some_iff.1 hx).2]) hp (by omega)).mono ?_
    rintro e w' ⟨v',rfl,hfr,hb'⟩
    obtain ⟨co,cc,rfl,ho⟩:=ownC_fresh hfr
    exact ⟨co,cc,rfl,ho,hb'⟩
   ·have hz:r.bs=[]:=List.length_eq_zero_iff.1 (by omega)
    rw [hz] at hcell ⊢
    refine (show Calls Try.prog 76 #[.slice (some ⟨b,off,none⟩) 1 cap,.slice none 0 0] w _ from Any.bytes_Join_one_empty laysJ b off cap r.ao r.cap (.slice none 0 0) w hcell).mono ?_
    rintro e w' ⟨rfl,rfl⟩
    exact ⟨none,0,rfl,.inl ⟨rfl,rfl,rfl⟩,Below.refl _ _⟩
  | cons s q =>
   have hparts:Lib.PartsAt w ⟨b,off,none⟩ ((r::s::q).map fun r=>Value.slice r.ao r.bs.length r.cap) ((r::s::q).map (·.bs)):=by
    refine ⟨by simp,fun i v hv=>?_,fun i v l hv hl=>?_⟩
    ·obtain ⟨hi,hv⟩:=List.getElem?_eq_some_iff.1 hv
     simp only [List.length_map] at hi
     rw [add_none,(hr i hi).c,←hv,List.getElem_map]
    ·obtain ⟨hi,hv⟩:=List.getElem?_eq_some_iff.1 hv
     obtain ⟨hi2,hl⟩:=List.getElem?_eq_some_iff.1 hl
     simp only [List.length_map] at hi
     rw [←hv,←hl,List.getElem_map,List.getElem_map]
     exact holds_of (hr i hi).n0 (hr i hi).at_.at
   have:=Any.bytes_Join_many laysJ b off (r::s::q).length cap _ _ (.slice none 0 0) [] w (by simp) (by simp) hparts hc ⟨none,0,rfl,fun _=>rfl,fun a ha=>by cases ha⟩ hm (by rw [lens_flat];simp only [List.length_nil,Nat.zero_mul];omega)
   rw [join_flat] at this
   refine (show Calls Try.prog 76 #[.slice (some ⟨b,off,none⟩) (r::s::q).length cap,.slice none 0 0] w _ from this).mono ?_
   rintro e w' ⟨v',rfl,hfr,hb'⟩
   obtain ⟨co,cc,rfl,ho⟩:=ownC_fresh hfr
   exact ⟨co,cc,rfl,ho,hb'⟩
theorem join_any (ao:Option Addr) (cap:Nat) (L:List RowR) (D:Nat→Prop) (w:World) (h:RsAt w D ao L) (hc:L.length≤cap) (hm:L.length≤140737488355328) (hl:(flatR L).length≤140737488351232) :
 Calls Try.prog 65 #[.slice ao L.length cap] w (FreshC w (flatR L)):=by
 have H:=Lib.hid (bjoin_any ao cap L D w h hc hm hl)
 clear h
 go_enter Try.func65,Try.ntmps65
 go_wp2_with fail
 refine H.out.mono ?_
 rintro e w1 ⟨co,cc,rfl,ho,hb⟩
 go_wp2_with fail
 go_ret
 exact ⟨co,cc,rfl,ho,hb⟩
end Go.Proofs.Ytogamdaomdoapaa