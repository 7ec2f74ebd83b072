/- Texts put together: Sum, FrPlain, FrFour, Join, JoinAny, FrHead. -/
import Derived.Test.YtogamdaomdoapaaGreatGa01
import Derived.Test.YtogamdaomdoapaaGreatGa02
import Derived.Test.YtogamdaomdoapaaGreatGa03
import Derived.Laws.Bits64b
import Derived.Laws.BytesArg
import Derived.Lib.SlBytesConst
import Derived.Shelf.Bytes.SlJoin
import Derived.Shelf.Bytes.SlSmallAll
namespace Go.Proofs.YtogamdaomdoapaaGreat
open Go.Value renaming int→aI
open Go.IntKind renaming i64→aK
open Go.Lib renaming hid→uH
open Go.RowKit
def crc1 (v:Nat):Nat:=(v / 2) ^^^ (if v % 2=1 then 3988292384 else 0)
def crcN:Nat→Nat→Nat
 | 0,v=>v
 | n+1,v=>crc1 (crcN n v)
def crcB (v:Nat) (c:UInt8):Nat:=crcN 8 (v ^^^ c.toNat)
def j0y (v:Nat) (l:List UInt8):Nat:=l.foldl crcB v
def sumOf (l:List UInt8):Nat:=4294967295 ^^^ j0y 4294967295 l
theorem wrap_u32 (n:Int):IntKind.u32.wrap n=n % 4294967296:=by simp [IntKind.wrap,IntKind.bits,IntKind.signed]
theorem c0y (a b:Nat) (ha:a<4294967296) (hb:b<4294967296):bits .xor .u32 (a:Int) (b:Int)=((a ^^^ b:Nat):Int):=by
 have hx:a ^^^ b<2 ^ 32:=Nat.xor_lt_two_pow (by omega) (by omega)
 have h1:(BitVec.ofInt 32 (a:Int)).toNat=a:=by
  rw [BitVec.ofInt_natCast,BitVec.toNat_ofNat];exact Nat.mod_eq_of_lt (by omega)
 have h2:(BitVec.ofInt 32 (b:Int)).toNat=b:=by
  rw [BitVec.ofInt_natCast,BitVec.toNat_ofNat];exact Nat.mod_eq_of_lt (by omega)
 show IntKind.u32.wrap ((BitVec.ofInt 32 (a:Int) ^^^ BitVec.ofInt 32 (b:Int)).toNat:Int)=_
 rw [BitVec.toNat_xor,h1,h2,wrap_u32]
 omega
theorem j0u (a b:Nat) (ha:a<4294967296) (hb:b<4294967296):bits .and .u32 (a:Int) (b:Int)=((a &&& b:Nat):Int) :=
 (bits_nat .u32 32 (by decide) (fun n h0 h1=>by rw [wrap_u32];omega) a b (by omega) (by omega)).1
theorem r0d {x:Nat} (h:x<4294967296):crc1 x<4294967296:=by
 unfold crc1
 have:x / 2 ^^^ (if x % 2=1 then 3988292384 else 0)<2 ^ 32:=Nat.xor_lt_two_pow (by omega) (by split<;>omega)
 omega
theorem y0m {x:Nat} (h:x<4294967296):∀ n,crcN n x<4294967296
 | 0=>h
 | n+1=>r0d (y0m h n)
theorem u0x {u:Nat} (h:u<4294967296) (c:UInt8):u ^^^ c.toNat<4294967296:=by
 have:=c.toNat_lt
 have:u ^^^ c.toNat<2 ^ 32:=Nat.xor_lt_two_pow (by omega) (by omega)
 omega
theorem crcB_lt {u:Nat} (h:u<4294967296) (c:UInt8):crcB u c<4294967296:=y0m (u0x h c) 8
theorem t0e:∀ (l:List UInt8) {u:Nat},u<4294967296→j0y u l<4294967296
 | [],_,h=>h
 | c::r,_,h=>t0e r (crcB_lt h c)
theorem bits_crc (x:Nat) (hx:x<4294967296):bits .xor .u32 ((x:Int) / 2) (bits .and .u32 3988292384 (-bits .and .u32 (x:Int) 1 % 4294967296))=(crc1 x:Int):=by
 have h1:bits .and .u32 (x:Int) 1=((x % 2:Nat):Int):=by
  rw [show (1:Int)=((1:Nat):Int) from rfl,j0u x 1 hx (by omega),Nat.and_one_is_mod]
 have h2:((x:Int) / 2)=((x / 2:Nat):Int):=by omega
 rw [h1,h2]
 unfold crc1
 rcases Nat.mod_two_eq_zero_or_one x with h | h
 ·rw [h,show bits .and .u32 3988292384 (-((0:Nat):Int) % 4294967296)=((0:Nat):Int) from by decide,c0y _ _ (by omega) (by omega)]
  rfl
 ·rw [h,show bits .and .u32 3988292384 (-((1:Nat):Int) % 4294967296)=((3988292384:Nat):Int) from by decide,c0y _ _ (by omega) (by omega)]
  rfl
theorem m0p {v j:Nat} {l:List UInt8} (h:j<l.length):j0y v (l.take (j+1))=crcB (j0y v (l.take j)) l[j]:=by
 rw [List.take_succ_eq_append_getElem h]
 simp only [j0y,List.foldl_append,List.foldl_cons,List.foldl_nil]
theorem p0r (v:Nat) (a b:List UInt8):j0y v (a++b)=j0y (j0y v a) b:=by simp only [j0y,List.foldl_append]
set_option maxHeartbeats 2000000 in
theorem sum_any (ao:Option Addr) (cap:Nat) (L:List RowR) (w:World) (D:Nat→Prop) (h:RsAt w D ao L) (hm:L.length≤9223372036854775807) :
 Calls Tryz.prog 122 #[.slice ao L.length cap] w fun e w'=>e=.returned (.int .u32 (sumOf (c0g L)))∧w'=w:=by
 have H:=uH h
 clear h
 go_enter Tryz.func122,Tryz.ntmps122
 go_wp2_with fail
 go_loopw [10,3] (fun s10 s3 wr=>wr=w∧∃ (k v:Nat),s10=aI aK k∧s3=.int .u32 v∧k≤L.length∧v<4294967296∧Hid (v=j0y 4294967295 (c0g (L.take k)))) (fun s10 _ _=>L.length - (intOf s10).toNat)
 case atStart=>exact ⟨rfl,0,4294967295,rfl,rfl,by omega,by omega,rfl⟩
 case round =>
  obtain ⟨rfl,k,v,rfl,rfl,hk,hv,hst⟩:=hrel
  by_cases hlt:(k:Int)<L.length
  ·obtain ⟨b,off,rfl,hb,-,hr⟩:=H.out (by omega)
   obtain ⟨ro,rc,rb,hrr⟩:∃ ro rc rb,(⟨ro,rc,rb⟩:RowR)=L[k]'(by omega):=⟨_,_,_,rfl⟩
   have hra:=hr k (by omega)
   rw [←hrr] at hra
   have Hrr:=uH hrr
   have c0:=hra.c
   have hle:=hra.le
   have hcm:=hra.cm
   have hat:BIn _ D ro rb:=hra.at_
   have Hat:=uH hat
   clear hra hr hrr hat
   simp only at c0 hle hcm
   go_wp2_with fail
   go_loopw [16,3] (fun s16 s3 w2=>w2=wr∧∃ (j u:Nat),s16=aI aK j∧s3=.int .u32 u∧j≤rb.length∧u<4294967296∧Hid (u=j0y v (rb.take j))) (fun s16 _ _=>rb.length - (intOf s16).toNat)
   case atStart=>exact ⟨rfl,0,v,rfl,rfl,by omega,hv,rfl⟩
   case round =>
    obtain ⟨rfl,j,u,rfl,rfl,hj,hu,hs2⟩:=hrel
    by_cases hlt2:(j:Int)<rb.length
    ·obtain ⟨g,go,hao,hg,-,hrow⟩:=Hat.out (by omega)
     subst hao
     have c1:=hrow j (by omega)
     obtain ⟨c,hc⟩:∃ c,c=rb[j]'(by omega):=⟨_,rfl⟩
     rw [←hc] at c1
     have Hc:=uH hc
     clear hc hrow
     have hc8:(c.toNat:Int)<256:=by have:=c.toNat_lt;omega
     go_wp2_with fail
     have hux:=u0x hu c
     have hbx:=c0y u c.toNat hu (by omega)
     go_loopw [24,3] (fun s24 s3 w3=>w3=wr∧∃ (i x:Nat),s24=aI aK i∧s3=.int .u32 x∧i≤8∧x<4294967296∧Hid (x=crcN i (u ^^^ c.toNat))) (fun s24 _ _=>8 - (intOf s24).toNat)
     case atStart=>exact ⟨rfl,0,u ^^^ c.toNat,rfl,by rw [hbx],by omega,hux,rfl⟩
     case round =>
      obtain ⟨rfl,i,x,rfl,rfl,hi,hx,hs3⟩:=hrel
      clear hbx
      by_cases hlt3:(i:Int)<8
      ·have hbc:=bits_crc x hx
       have hcl:=r0d hx
       go_wp2_with fail
       go_roundw
       case rel=>exact ⟨trivial,i+1,crc1 x,by go_num,rfl,by omega,hcl,by unfold Hid crcN;rw [←hs3.out]⟩
       case measure=>simp [intOf];omega
      ·go_wp2_with fail
       go_roundw
       case rel=>exact ⟨trivial,j+1,x,by go_num,rfl,by omega,hx,by
        have h8:i=8:=by omega
        subst h8
        unfold Hid
        rw [hs3.out,m0p (by omega),←hs2.out,Hc.out]
        rfl⟩
       case measure=>simp [intOf];omega
    ·go_wp2_with fail
     go_roundw
     case rel=>exact ⟨trivial,k+1,u,by go_num,rfl,by omega,hu,by
      unfold Hid
      rw [hs2.out,List.take_of_length_le (by omega),List.take_succ_eq_append_getElem (by omega)]
      unfold c0g
      rw [List.flatMap_append,p0r]
      simp only [List.flatMap_cons,List.flatMap_nil,List.append_nil]
      rw [←Hrr.out]
      congr 1⟩
     case measure=>simp [intOf];omega
  ·go_wp2_with fail
   have hmx:bits .xor .u32 IntKind.u32.max (v:Int)=((4294967295 ^^^ v:Nat):Int):=by
    rw [show IntKind.u32.max=((4294967295:Nat):Int) from by decide,c0y _ _ (by omega) hv]
   go_ret
   refine ⟨?_,rfl⟩
   rw [hmx]
   have:=hst.out
   rw [List.take_of_length_le (by omega)] at this
   rw [this]
   rfl
set_option maxRecDepth 8000 in
set_option maxHeartbeats 2000000 in
theorem i0y (ao:Option Addr) (cap:Nat) (l:List UInt8) (w:World) (h:BAt w ao l) (hm:l.length≤9223372036854775807) :
 Calls Tryz.prog 90 #[.slice ao l.length cap] w fun e w'=>e=.returned (.int .u32 (sumOf l))∧w'=w:=by
 have H:=uH h
 clear h
 go_enter Tryz.func90,Tryz.ntmps90
 go_wp2_with fail
 go_loopw [4,3] (fun s4 s3 wr=>wr=w∧∃ (j u:Nat),s4=aI aK j∧s3=.int .u32 u∧j≤l.length∧u<4294967296∧Hid (u=j0y 4294967295 (l.take j))) (fun s4 _ _=>l.length - (intOf s4).toNat)
 case atStart=>exact ⟨rfl,0,4294967295,rfl,rfl,by omega,by omega,rfl⟩
 case round =>
  obtain ⟨rfl,j,u,rfl,rfl,hj,hu,hs2⟩:=hrel
  by_cases hlt2:(j:Int)<l.length
  ·obtain ⟨g,go,hao,hg,hrow⟩:=H.out (by omega)
   subst hao
   have c1:=hrow j (by omega)
   obtain ⟨c,hc⟩:∃ c,c=l[j]'(by omega):=⟨_,rfl⟩
   rw [←hc] at c1
   have Hc:=uH hc
   clear hc hrow
   have hc8:(c.toNat:Int)<256:=by have:=c.toNat_lt;omega
   have hux:=u0x hu c
   have hbx:=c0y u c.toNat hu (by omega)
   go_wp2_with fail
   go_loopw [5,3] (fun s5 s3 w3=>w3=wr∧∃ (i x:Nat),s5=aI aK i∧s3=.int .u32 x∧i≤8∧x<4294967296∧Hid (x=crcN i (u ^^^ c.toNat))) (fun s5 _ _=>8 - (intOf s5).toNat)
   case atStart=>exact ⟨rfl,0,u ^^^ c.toNat,rfl,rfl,by omega,hux,rfl⟩
   case round =>
    obtain ⟨rfl,i,x,rfl,rfl,hi,hx,hs3⟩:=hrel
    clear hbx
    by_cases hlt3:(i:Int)<8
    ·have hb1:bits .and .u32 (x:Int) 1=((x % 2:Nat):Int):=by
      rw [show (1:Int)=((1:Nat):Int) from rfl,j0u x 1 hx (by omega),Nat.and_one_is_mod]
     have hcl:=r0d hx
     rcases Nat.mod_two_eq_zero_or_one x with h2 | h2
     ·have hb1:bits .and .u32 (x:Int) 1=0:=by rw [hb1,h2];rfl
      have hcr:crc1 x=x / 2:=by unfold crc1;rw [h2];simp
      have Hcr:=uH hcr
      clear hcr h2
      go_wp2_with fail
      go_roundw
      case rel=>exact ⟨trivial,i+1,x / 2,by go_num,by first | rfl | (congr 1;omega),by omega,by omega,by unfold Hid crcN;rw [←hs3.out,Hcr.out]⟩
      case measure=>simp [intOf];omega
     ·have hb1:bits .and .u32 (x:Int) 1=1:=by rw [hb1,h2];rfl
      have hcr:bits .xor .u32 ((x:Int) / 2) 3988292384=(crc1 x:Int):=by
       unfold crc1
       rw [h2,show ((x:Int) / 2)=((x / 2:Nat):Int) from by omega,show (3988292384:Int)=((3988292384:Nat):Int) from rfl,c0y _ _ (by omega) (by omega)]
       rfl
      clear h2
      go_wp2_with fail
      go_roundw
      case rel=>exact ⟨trivial,i+1,crc1 x,by go_num,rfl,by omega,hcl,by unfold Hid crcN;rw [←hs3.out]⟩
      case measure=>simp [intOf];omega
    ·go_wp2_with fail
     go_roundw
     case rel=>exact ⟨trivial,j+1,x,by go_num,rfl,by omega,hx,by
      have h8:i=8:=by omega
      subst h8
      unfold Hid
      rw [hs3.out,m0p (by omega),←hs2.out,Hc.out]
      rfl⟩
     case measure=>simp [intOf];omega
  ·go_wp2_with fail
   have hmx:bits .xor .u32 IntKind.u32.max (u:Int)=((4294967295 ^^^ u:Nat):Int):=by
    rw [show IntKind.u32.max=((4294967295:Nat):Int) from by decide,c0y _ _ (by omega) hu]
   go_ret
   refine ⟨?_,rfl⟩
   rw [hmx]
   have:=hs2.out
   rw [List.take_of_length_le (by omega)] at this
   rw [this]
   rfl
end Go.Proofs.YtogamdaomdoapaaGreat
namespace Go.Proofs.YtogamdaomdoapaaGreat.F
open Go.Value renaming int→aI
open Go.IntKind renaming i64→aK
open Go.Lib renaming hid→uH
def e0v (n:Nat):List UInt8:=[UInt8.ofNat n,UInt8.ofNat (n / 256),UInt8.ofNat (n / 65536),UInt8.ofNat (n / 16777216)]
def b0e:List UInt8→Nat
 | a::b::c::d::_=>a.toNat+b.toNat * 256+c.toNat * 65536+d.toNat * 16777216
 | _=>0
theorem f0f (n:Nat):(e0v n).length=4:=rfl
theorem k0i (l:List UInt8):b0e l<4294967296:=by
 match l with
 | a::b::c::d::_=>have:=a.toNat_lt;have:=b.toNat_lt;have:=c.toNat_lt;have:=d.toNat_lt;simp only [b0e];omega
 | [] | [_] | [_,_] | [_,_,_]=>simp [b0e]
theorem k0j (n:Nat) (hn:n<4294967296) (r:List UInt8):b0e (e0v n++r)=n:=by
 simp only [e0v,List.cons_append,List.nil_append,b0e,UInt8.toNat_ofNat']
 omega
theorem h0y {l:List UInt8} (h:4≤l.length):e0v (b0e l)=l.take 4:=by
 match l,h with
 | a::b::c::d::r,_ =>
  have ha:=a.toNat_lt;have hb:=b.toNat_lt;have hc:=c.toNat_lt;have hd:=d.toNat_lt
  simp only [e0v,b0e,List.take_succ_cons,List.take_zero,List.cons.injEq,and_true]
  refine ⟨?_,?_,?_,?_⟩<;>(apply UInt8.toNat_inj.1;rw [UInt8.toNat_ofNat'];omega)
theorem i0e (l:List UInt8):sumOf l<4294967296:=by
 unfold sumOf
 exact Nat.xor_lt_two_pow (n:=32) (by omega) (by have:=t0e l (u:=4294967295) (by omega);omega)
def b0x (n:Nat):List UInt8:=e0v n++e0v (sumOf (e0v n))
theorem g0m (n:Nat):(b0x n).length=8:=rfl
def d0w (p:List UInt8):List UInt8:=(b0x p.length++p)++e0v (sumOf (b0x p.length++p))
theorem f0y (p:List UInt8):(d0w p).length=p.length+12:=by
 simp only [d0w,List.length_append,g0m,f0f];omega
def decB (l:List UInt8):List UInt8 × Nat × Nat :=
 if l.length<8 then ([],0,2) else if l.take 8≠b0x (b0e l) then ([],0,4) else if 1048576<b0e l then ([],0,5)
 else if l.length<12+b0e l then ([],0,2) else if b0e (l.drop (8+b0e l))≠sumOf (l.take (8+b0e l)) then ([],0,4)
 else ((l.drop 8).take (b0e l),12+b0e l,0)
theorem u0i {l:List UInt8} (h:8≤l.length):l.take 8=b0x (b0e l)↔b0e (l.drop 4)=sumOf (l.take 4):=by
 have e8:l.take 8=l.take 4++(l.drop 4).take 4:=by rw [←List.take_add]
 have h4:=h0y (l:=l) (by omega)
 have h4':=h0y (l:=l.drop 4) (by rw [List.length_drop];omega)
 unfold b0x
 rw [h4,e8,List.append_cancel_left_eq,←h4']
 constructor
 ·intro e
  have:=congrArg b0e e
  have a:=k0j (b0e (l.drop 4)) (k0i _) []
  have b:=k0j (sumOf (l.take 4)) (i0e _) []
  rw [List.append_nil] at a b
  rw [a,b] at this
  exact this
 ·intro e;rw [e]
theorem dec_err {l:List UInt8} (h:(decB l).2.2≠0):(decB l).1=[]∧(decB l).2.1=0:=by
 unfold decB at h ⊢
 repeat' split
 all_goals first | exact ⟨rfl,rfl⟩ | skip
 simp_all
end Go.Proofs.YtogamdaomdoapaaGreat.F
namespace Go.Proofs.YtogamdaomdoapaaGreat.F
open Go.Value renaming int→aI
open Go.IntKind renaming i64→aK
open Go.Lib renaming hid→uH
set_option maxRecDepth 20000
open Go.RowKit
def Fresh4 (w:World) (l:List UInt8) (e:Ending) (w':World):Prop:=e=.returned (.slice (some ⟨w.heap.size,0,none⟩) 4 4)∧OwnB w' w.heap.size (some ⟨w.heap.size,0,none⟩) 4 l∧Below w.heap.size w w'
theorem r0i (a b:Nat) (ha:a<4294967296) (hb:b<4294967296):bits .or .u32 (a:Int) (b:Int)=((a ||| b:Nat):Int):=by
 have hx:a ||| b<2 ^ 32:=Nat.or_lt_two_pow (by omega) (by omega)
 have h1:(BitVec.ofInt 32 (a:Int)).toNat=a:=by
  rw [BitVec.ofInt_natCast,BitVec.toNat_ofNat];exact Nat.mod_eq_of_lt (by omega)
 have h2:(BitVec.ofInt 32 (b:Int)).toNat=b:=by
  rw [BitVec.ofInt_natCast,BitVec.toNat_ofNat];exact Nat.mod_eq_of_lt (by omega)
 show IntKind.u32.wrap ((BitVec.ofInt 32 (a:Int) ||| BitVec.ofInt 32 (b:Int)).toNat:Int)=_
 rw [BitVec.toNat_or,h1,h2,wrap_u32]
 omega
theorem w0v (k a b:Nat) (ha:a<2 ^ k) (hk:b * 2 ^ k<4294967296) (ha2:a<4294967296):bits .or .u32 (a:Int) ((b:Int) * ((2 ^ k:Nat):Int))=((a+b * 2 ^ k:Nat):Int):=by
 rw [←Int.natCast_mul,r0i _ _ ha2 hk]
 congr 1
 rw [Nat.mul_comm b,Nat.or_comm,←Nat.two_pow_add_eq_or_of_lt ha,Nat.add_comm]
theorem x0u (a b c d:UInt8):bits .or .u32 (bits .or .u32 (bits .or .u32 (a.toNat:Int) ((b.toNat:Int) * 256)) ((c.toNat:Int) * 65536)) ((d.toNat:Int) * 16777216)=((a.toNat+b.toNat * 256+c.toNat * 65536+d.toNat * 16777216:Nat):Int):=by
 have ha:=a.toNat_lt;have hb:=b.toNat_lt;have hc:=c.toNat_lt;have hd:=d.toNat_lt
 have e1:=w0v 8 a.toNat b.toNat (by omega) (by omega) (by omega)
 have e2:=w0v 16 (a.toNat+b.toNat * 256) c.toNat (by omega) (by omega) (by omega)
 have e3:=w0v 24 (a.toNat+b.toNat * 256+c.toNat * 65536) d.toNat (by omega) (by omega) (by omega)
 simp only [show ((2 ^ 8:Nat):Int)=256 from rfl,show ((2 ^ 16:Nat):Int)=65536 from rfl,show ((2 ^ 24:Nat):Int)=16777216 from rfl,show (2:Nat) ^ 8=256 from rfl,show (2:Nat) ^ 16=65536 from rfl,show (2:Nat) ^ 24=16777216 from rfl] at e1 e2 e3
 rw [e1,e2,e3]
theorem s0s {w:World} {n:Nat} (hn:n<4294967296):OwnB (w.alloc (.cells #[aI .u8 ((n:Int) % 256),aI .u8 ((n:Int) / 256 % 256),aI .u8 ((n:Int) / 65536 % 256),aI .u8 ((n:Int) / 16777216)] 5)) w.heap.size (some ⟨w.heap.size,0,none⟩) 4 (e0v n):=by
 have:=World.ownsRow_lit (base:=w.heap.size) (size:=1) (e:=5) w #[aI .u8 ((n:Int) % 256),aI .u8 ((n:Int) / 256 % 256),aI .u8 ((n:Int) / 65536 % 256),aI .u8 ((n:Int) / 16777216)] 4 (Nat.le_refl _) (by unfold maxLen;omega) (by simp)
 unfold OwnB
 have e:bytV (e0v n)=(#[aI .u8 ((n:Int) % 256),aI .u8 ((n:Int) / 256 % 256),aI .u8 ((n:Int) / 65536 % 256),aI .u8 ((n:Int) / 16777216)]:Array Value).toList:=by
  simp only [bytV,e0v,List.map_cons,List.map_nil,UInt8.toNat_ofNat',List.cons.injEq,Value.int.injEq,true_and,and_true]
  omega
 rw [e]
 exact this
theorem b0y {w:World} {ao:Option Addr} {l:List UInt8} (h:BAt w ao l) (c:Nat):(convert 47 9 (.slice ao l.length c)).run Tryz.prog w=.ok (.string ⟨l.toArray⟩) w:=by
 by_cases hp:0<l.length
 ·obtain ⟨b,off,rfl,-,hr⟩:=h hp
  have:=run_convert_bytes_arg (P:=Tryz.prog) w 47 5 Tryz.underlying47 Tryz.underlying5 b off l.length c (l.map fun c=>(c.toNat:Int)) (by simp) (fun i hi=>by
   rw [hr i hi];simp [List.getD,hi]) 9 Tryz.underlying9
  rw [this]
  congr 2
  simp [strOfNums,Function.comp_def]
 ·have:l=[]:=List.length_eq_zero_iff.1 (by omega)
  subst this
  exact run_convert_bytes_zero w 47 5 Tryz.underlying47 Tryz.underlying5 ao c 9 Tryz.underlying9
theorem f0q (ao bo:Option Addr) (ca cb:Nat) (a b:List UInt8) (w:World) (ha:BAt w ao a) (hb:BAt w bo b) :
 Calls Tryz.prog 53 #[.slice ao a.length ca,.slice bo b.length cb] w fun e w'=>e=.returned (.bool (a==b))∧w'=w:=by
 have h1:=b0y ha ca
 have h2:=b0y hb cb
 clear ha hb
 go_enter Tryz.func53,Tryz.ntmps53
 go_wp2_with fail
 go_ret
 exact ⟨rfl,rfl⟩
set_option maxHeartbeats 1000000 in
theorem qframe.g0z (n:Nat) (w:World) (hn:n<4294967296):Calls Tryz.prog 121 #[.int .u32 n] w (Fresh4 w (e0v n)):=by
 have h0:(0:Int)≤n:=by omega
 have h1:(n:Int)<4294967296:=by omega
 go_enter Tryz.func121,Tryz.ntmps121
 go_wp2_with fail
 go_ret
 exact ⟨rfl,s0s hn,bg⟩
set_option maxHeartbeats 1000000 in
theorem qsatrapyref1.n0y (n:Nat) (w:World) (hn:n<4294967296):Calls Tryz.prog 89 #[.int .u32 n] w (Fresh4 w (e0v n)):=by
 have h0:(0:Int)≤n:=by omega
 have h1:(n:Int)<4294967296:=by omega
 go_enter Tryz.func89,Tryz.ntmps89
 go_wp2_with fail
 go_ret
 exact ⟨rfl,s0s hn,bg⟩
set_option maxHeartbeats 1000000 in
theorem qframe.j0q (ao:Option Addr) (cap:Nat) (l:List UInt8) (w:World) (h:BAt w ao l) (hl:4≤l.length) :
 Calls Tryz.prog 123 #[.slice ao l.length cap] w fun e w'=>e=.returned (.int .u32 (b0e l:Nat))∧∃ n,w'=w.drewN n:=by
 obtain ⟨b,off,rfl,hb,hr⟩:=h (by omega)
 match l,hl with
 | c0::c1::c2::c3::r,_ =>
  have k0:=hr 0 (by simp)
  have k1:=hr 1 (by simp)
  have k2:=hr 2 (by simp)
  have k3:=hr 3 (by simp)
  simp only [List.getElem_cons_zero,List.getElem_cons_succ,Nat.add_zero] at k0 k1 k2 k3
  have b0:(0:Int)≤c0.toNat∧(c0.toNat:Int)<256:=⟨by omega,by have:=c0.toNat_lt;omega⟩
  have b1:(0:Int)≤c1.toNat∧(c1.toNat:Int)<256:=⟨by omega,by have:=c1.toNat_lt;omega⟩
  have b2:(0:Int)≤c2.toNat∧(c2.toNat:Int)<256:=⟨by omega,by have:=c2.toNat_lt;omega⟩
  have b3:(0:Int)≤c3.toNat∧(c3.toNat:Int)<256:=⟨by omega,by have:=c3.toNat_lt;omega⟩
  obtain ⟨m,hm⟩:∃ m,m=(c0::c1::c2::c3::r).length:=⟨_,rfl⟩
  have hm4:4≤m:=by rw [hm];simp
  rw [←hm]
  have hm0:(0:Int)<m:=by omega
  have hm1:(1:Int)<m:=by omega
  have hm2:(2:Int)<m:=by omega
  have hm3:(3:Int)<m:=by omega
  clear hr h hm
  go_enter Tryz.func123,Tryz.ntmps123
  go_wp2_with fail
  go_quiet (fail)
  go_wp2_with fail
  go_ret
  refine ⟨?_,_,rfl⟩
  show Ending.returned (.int .u32 _)=_
  rw [x0u]
  rfl
set_option maxHeartbeats 1000000 in
theorem qsatrapyref1.j0v (ao:Option Addr) (cap:Nat) (l:List UInt8) (w:World) (h:BAt w ao l) (hl:4≤l.length) :
 Calls Tryz.prog 131 #[.slice ao l.length cap] w fun e w'=>e=.returned (.int .u32 (b0e l:Nat))∧∃ n,w'=w.drewN n:=by
 obtain ⟨b,off,rfl,hb,hr⟩:=h (by omega)
 match l,hl with
 | c0::c1::c2::c3::r,_ =>
  have k0:=hr 0 (by simp)
  have k1:=hr 1 (by simp)
  have k2:=hr 2 (by simp)
  have k3:=hr 3 (by simp)
  simp only [List.getElem_cons_zero,List.getElem_cons_succ,Nat.add_zero] at k0 k1 k2 k3
  have b0:(0:Int)≤c0.toNat∧(c0.toNat:Int)<256:=⟨by omega,by have:=c0.toNat_lt;omega⟩
  have b1:(0:Int)≤c1.toNat∧(c1.toNat:Int)<256:=⟨by omega,by have:=c1.toNat_lt;omega⟩
  have b2:(0:Int)≤c2.toNat∧(c2.toNat:Int)<256:=⟨by omega,by have:=c2.toNat_lt;omega⟩
  have b3:(0:Int)≤c3.toNat∧(c3.toNat:Int)<256:=⟨by omega,by have:=c3.toNat_lt;omega⟩
  obtain ⟨m,hm⟩:∃ m,m=(c0::c1::c2::c3::r).length:=⟨_,rfl⟩
  have hm4:4≤m:=by rw [hm];simp
  rw [←hm]
  have hm0:(0:Int)<m:=by omega
  have hm1:(1:Int)<m:=by omega
  have hm2:(2:Int)<m:=by omega
  have hm3:(3:Int)<m:=by omega
  clear hr h hm
  go_enter Tryz.func131,Tryz.ntmps131
  go_wp2_with fail
  go_quiet (fail)
  go_wp2_with fail
  go_ret
  refine ⟨?_,_,rfl⟩
  show Ending.returned (.int .u32 _)=_
  rw [x0u]
  rfl
end Go.Proofs.YtogamdaomdoapaaGreat.F
namespace Go.Proofs.YtogamdaomdoapaaGreat
open Go.Value renaming int→aI
open Go.IntKind renaming i64→aK
open Go.Lib renaming hid→uH
open Go.RowKit Go.Shelf
def renJ:Ren:=⟨fun n=>if n=14 then 137 else if n=15 then 147 else 0,
 fun n=>if n=3 then 3 else if n=4 then 4 else if n=5 then 5 else if n=9 then 9 else if n=20 then 20 else if n=22 then 47 else if n=26 then 176 else 0,fun n=>n⟩
set_option maxRecDepth 100000 in
theorem laysJ:SlLaysJ.n14 Tryz.prog renJ where
 mixed:=by kernel_rfl
 f14:=by kernel_rfl
 f15:=by kernel_rfl
 t0:=by kernel_rfl
 a0:=fun _=>by kernel_rfl
 z0:=fun _=>by kernel_rfl
 v0:=fun _=>by kernel_rfl
 t3:=by kernel_rfl
 a3:=fun _=>by kernel_rfl
 z3:=fun _=>by kernel_rfl
 v3:=fun _=>by kernel_rfl
 t4:=by kernel_rfl
 a4:=fun _=>by kernel_rfl
 z4:=fun _=>by kernel_rfl
 v4:=fun _=>by kernel_rfl
 t9:=by kernel_rfl
 a9:=fun _=>by kernel_rfl
 z9:=fun _=>by kernel_rfl
 v9:=fun _=>by kernel_rfl
 t20:=by kernel_rfl
 a20:=fun _=>by kernel_rfl
 z20:=fun _=>by kernel_rfl
 v20:=fun _=>by kernel_rfl
 t22:=by kernel_rfl
 a22:=fun _=>by kernel_rfl
 z22:=fun _=>by kernel_rfl
 v22:=fun _=>by kernel_rfl
 t26:=by kernel_rfl
 a26:=fun _=>by kernel_rfl
 z26:=fun _=>by kernel_rfl
 v26:=fun _=>by kernel_rfl
 t5:=by kernel_rfl
 z5:=fun _=>by kernel_rfl
 i5:=by kernel_rfl
open Go.RowKit Go.Shelf
def OwnC (w:World) (base:Nat) (ao:Option Addr) (cap:Nat) (l:List UInt8):Prop :=
 (ao=none∧l=[]∧cap=0)∨∃ (g:Nat) (zs:List UInt8),ao=some ⟨g,0,none⟩∧base≤g∧l.length≤cap∧cap≤maxLen∧zs.length=cap∧zs.take l.length=l ∧
  (∀ i,(h:i<zs.length)→w.cell? ⟨g,i,none⟩=some (aI .u8 (zs[i].toNat:Int)))∧(∀ i,i<cap→w.frozen? ⟨g,i,none⟩=false)
theorem OwnC.at {w:World} {base:Nat} {ao:Option Addr} {cap:Nat} {l:List UInt8} (h:OwnC w base ao cap l):BAt w ao l:=fun hp=>by
 rcases h with ⟨-,rfl,-⟩ | ⟨g,zs,rfl,-,h1,-,h2,h3,h4,-⟩
 ·simp at hp
 ·have h0:=h4 0 (by omega)
  refine ⟨g,0,rfl,?_,fun i hi=>?_⟩
  ·rcases Nat.lt_or_ge g w.heap.size with h | h
   ·exact h
   ·simp [World.cell?,Array.getElem?_eq_none h] at h0
  ·rw [Nat.zero_add,h4 i (by omega)]
   have:l[i]=(zs.take l.length)[i]'(by rw [List.length_take];omega):=by simp only [h3]
   rw [this,List.getElem_take]
theorem OwnC.none {w:World} {base:Nat} {ao:Option Addr} {cap:Nat} {l:List UInt8} (h:OwnC w base ao cap l):ao=.none→l.length=0∧cap=0:=fun e=>by
 rcases h with ⟨-,rfl,rfl⟩ | ⟨g,zs,rfl,-⟩
 ·exact ⟨rfl,rfl⟩
 ·cases e
theorem OwnC.le {w:World} {base:Nat} {ao:Option Addr} {cap:Nat} {l:List UInt8} (h:OwnC w base ao cap l):l.length≤cap∧cap≤9223372036854775807:=by
 rcases h with ⟨-,rfl,rfl⟩ | ⟨g,zs,rfl,-,h1,h2,-⟩
 ·exact ⟨Nat.le_refl _,by omega⟩
 ·exact ⟨h1,by unfold maxLen at h2;omega⟩
def z0i (w:World) (l:List UInt8) (e:Ending) (w':World):Prop:=∃ ao cap,e=.returned (.slice ao l.length cap)∧OwnC w' w.heap.size ao cap l∧Below w.heap.size w w'
theorem m0g {B:Nat} {w':World} {v:Value} {l:List UInt8} (h:Lib.FreshBytes B w' v l):∃ ao cap,v=.slice ao l.length cap∧OwnC w' B ao cap l:=by
 obtain ⟨g,cap,zs,rfl,hB,h1,h2,hz,hr,hb,hc,hf⟩:=h
 refine ⟨some ⟨g,0,none⟩,cap,rfl,.inr ⟨g,zs.map fun n=>UInt8.ofNat n.toNat,rfl,hB,h1,h2,by simpa using hz,?_,fun i hi=>?_,hf⟩⟩
 ·rw [←List.map_take];exact hb
 ·have hi':i<zs.length:=by simpa using hi
  rw [hc i (by omega)]
  have h3:=hr zs[i] (List.getElem_mem hi')
  simp only [List.getElem_map,List.getD_eq_getElem?_getD,List.getElem?_eq_getElem hi',Option.getD_some]
  congr 2
  simp only [UInt8.toNat_ofNat']
  omega
theorem x0l (L:List RowR):Lib.lens (L.map (·.bs))=(c0g L).length:=by
 induction L with
 | nil=>rfl
 | cons r t ih=>rw [List.map_cons,Lib.lens_cons,ih];simp [c0g]
theorem x0o (L:List RowR):Lib.join (L.map (·.bs)) []=c0g L:=by
 cases L with
 | nil=>rfl
 | cons r t =>
  rw [List.map_cons,Lib.join_cons]
  unfold Lib.joinTail
  simp [c0g,List.flatMap_def,Function.comp_def]
theorem holds_of {w:World} {ao:Option Addr} {cap:Nat} {l:List UInt8} (h0:ao=none→l.length=0∧cap=0) (h:BAt w ao l):Lib.HoldsBytes w (.slice ao l.length cap) l:=by
 refine ⟨ao,cap,rfl,fun e=>List.length_eq_zero_iff.1 (h0 e).1,fun a ha i x hx=>?_⟩
 subst ha
 have hi:i<l.length:=(List.getElem?_eq_some_iff.1 hx).1
 obtain ⟨b,off,e,hb,hr⟩:=h (by omega)
 simp only [Option.some.injEq] at e
 subst e
 rw [c0q,hr i hi,(List.getElem?_eq_some_iff.1 hx).2]
theorem y0t (ao:Option Addr) (cap:Nat) (L:List RowR) (D:Nat→Prop) (w:World) (h:RsAt w D ao L) (hc:L.length≤cap) (hm:L.length≤140737488355328) (hl:(c0g L).length≤140737488351232) :
 Calls Tryz.prog 137 #[.slice ao L.length cap,.slice none 0 0] w (z0i w (c0g L)):=by
 cases L with
 | nil =>
  refine (show Calls Tryz.prog 137 #[.slice ao 0 cap,.slice none 0 0] w _ from Any.bytes_Join_none laysJ ao cap (.slice none 0 0) w).mono ?_
  rintro e w' ⟨rfl,rfl⟩
  exact ⟨some ⟨w.heap.size,0,none⟩,0,rfl,.inr ⟨w.heap.size,[],rfl,Nat.le_refl _,Nat.le_refl _,Nat.zero_le _,rfl,rfl,fun i hi=>absurd hi (by simp),fun i hi=>by omega⟩,(Below.refl _ _).alloc (Nat.le_refl _) _⟩
 | cons r t =>
  obtain ⟨b,off,rfl,hb,hd,hr⟩:=h (by simp)
  cases t with
  | nil =>
   have h0:=hr 0 (by simp)
   have hf:c0g [r]=r.bs:=by simp [c0g]
   rw [hf] at hl ⊢
   have hcell:w.cell? ⟨b,off,none⟩=some (.slice r.ao r.bs.length r.cap):=h0.c
   by_cases hp:0<r.bs.length
   ·obtain ⟨g,go,hao,hg,-,hrow⟩:=h0.at_ hp
    simp only [List.getElem_cons_zero] at hao hrow
    rw [hao] at hcell
    refine (show Calls Tryz.prog 137 #[.slice (some ⟨b,off,none⟩) 1 cap,.slice none 0 0] w _ from Any.bytes_Join_one laysJ b off cap ⟨g,go,none⟩ r.cap r.bs (.slice none 0 0) w hcell (fun i x hx=>by
     have hi:=(List.getElem?_eq_some_iff.1 hx).1
     rw [c0q,hrow i hi,(List.getElem?_eq_some_iff.1 hx).2]) hp (by omega)).mono ?_
    rintro e w' ⟨v',rfl,hfr,hb'⟩
    obtain ⟨co,cc,rfl,ho⟩:=m0g hfr
    exact ⟨co,cc,rfl,ho,hb'⟩
   ·have hz:r.bs=[]:=List.length_eq_zero_iff.1 (by omega)
    rw [hz] at hcell ⊢
    refine (show Calls Tryz.prog 137 #[.slice (some ⟨b,off,none⟩) 1 cap,.slice none 0 0] w _ from Any.bytes_Join_one_empty laysJ b off cap r.ao r.cap (.slice none 0 0) w hcell).mono ?_
    rintro e w' ⟨rfl,rfl⟩
    exact ⟨none,0,rfl,.inl ⟨rfl,rfl,rfl⟩,Below.refl _ _⟩
  | cons s q =>
   have hparts:Lib.PartsAt w ⟨b,off,none⟩ ((r::s::q).map fun r=>Value.slice r.ao r.bs.length r.cap) ((r::s::q).map (·.bs)):=by
    refine ⟨by simp,fun i v hv=>?_,fun i v l hv hl=>?_⟩
    ·obtain ⟨hi,hv⟩:=List.getElem?_eq_some_iff.1 hv
     simp only [List.length_map] at hi
     rw [c0q,(hr i hi).c,←hv,List.getElem_map]
    ·obtain ⟨hi,hv⟩:=List.getElem?_eq_some_iff.1 hv
     obtain ⟨hi2,hl⟩:=List.getElem?_eq_some_iff.1 hl
     simp only [List.length_map] at hi
     rw [←hv,←hl,List.getElem_map,List.getElem_map]
     exact holds_of (hr i hi).n0 (hr i hi).at_.at
   have:=Any.bytes_Join_many laysJ b off (r::s::q).length cap _ _ (.slice none 0 0) [] w (by simp) (by simp) hparts hc ⟨none,0,rfl,fun _=>rfl,fun a ha=>by cases ha⟩ hm (by rw [x0l];simp only [List.length_nil,Nat.zero_mul];omega)
   rw [x0o] at this
   refine (show Calls Tryz.prog 137 #[.slice (some ⟨b,off,none⟩) (r::s::q).length cap,.slice none 0 0] w _ from this).mono ?_
   rintro e w' ⟨v',rfl,hfr,hb'⟩
   obtain ⟨co,cc,rfl,ho⟩:=m0g hfr
   exact ⟨co,cc,rfl,ho,hb'⟩
theorem s0x (ao:Option Addr) (cap:Nat) (L:List RowR) (D:Nat→Prop) (w:World) (h:RsAt w D ao L) (hc:L.length≤cap) (hm:L.length≤140737488355328) (hl:(c0g L).length≤140737488351232) :
 Calls Tryz.prog 119 #[.slice ao L.length cap] w (z0i w (c0g L)):=by
 have H:=uH (y0t ao cap L D w h hc hm hl)
 clear h
 go_enter Tryz.func119,Tryz.ntmps119
 go_wp2_with fail
 refine H.out.mono ?_
 rintro e w1 ⟨co,cc,rfl,ho,hb⟩
 go_wp2_with fail
 go_ret
 exact ⟨co,cc,rfl,ho,hb⟩
end Go.Proofs.YtogamdaomdoapaaGreat
namespace Go.Proofs.YtogamdaomdoapaaGreat.F
open Go.Value renaming int→aI
open Go.IntKind renaming i64→aK
open Go.Lib renaming hid→uH
set_option maxRecDepth 20000
open Go.RowKit
structure Sl (w:World) (ao:Option Addr) (cap:Nat) (l:List UInt8):Prop where
 le:l.length≤cap
 cm:cap≤9223372036854775807
 n0:ao=none→l.length=0∧cap=0
 at_:BAt w ao l
theorem Sl.grow {w w':World} {ao:Option Addr} {cap:Nat} {l:List UInt8} (h:Sl w ao cap l) (b:Below w.heap.size w w'):Sl w' ao cap l:=⟨h.le,h.cm,h.n0,h.at_.below b⟩
theorem _root_.Go.Proofs.YtogamdaomdoapaaGreat.OwnB.sl {w:World} {base:Nat} {ao:Option Addr} {cap:Nat} {l:List UInt8} (h:OwnB w base ao cap l):Sl w ao cap l:=⟨h.le.1,h.le.2,h.none,h.at⟩
theorem _root_.Go.Proofs.YtogamdaomdoapaaGreat.OwnC.sl {w:World} {base:Nat} {ao:Option Addr} {cap:Nat} {l:List UInt8} (h:OwnC w base ao cap l):Sl w ao cap l:=⟨h.le.1,h.le.2,h.none,h.at⟩
theorem b0s (w:World) (o:Obj):Below w.heap.size w (w.alloc o):=(Below.refl _ _).alloc (Nat.le_refl _) _
theorem Sl.rat {w w':World} {ao:Option Addr} {cap b o:Nat} {l:List UInt8} (h:Sl w ao cap l) (k:Below w.heap.size w w') (hc:w'.cell? ⟨b,o,none⟩=some (.slice ao l.length cap)):RAt w' (fun _=>True) b o ⟨ao,cap,l⟩ :=
 ⟨hc,h.le,h.cm,h.n0,fun hp=>let ⟨b,off,e,hb,hr⟩:=(h.at_.below k) hp;⟨b,off,e,hb,trivial,hr⟩⟩
theorem rs_one {w:World} {a:Option Addr} {c:Nat} {l:List UInt8} (h:Sl w a c l) (t:TypeId) (n:Nat) (hn:n=w.heap.size):RsAt (w.alloc (.cells #[.slice a l.length c] t)) (fun _=>True) (some ⟨n,0,none⟩) [⟨a,c,l⟩]:=fun _=>by
 subst hn
 refine ⟨w.heap.size,0,rfl,by simp,trivial,fun i hi=>?_⟩
 match i,hi with
 | 0,_=>exact h.rat (b0s _ _) (by go_simp)
theorem rs_two {w:World} {a b:Option Addr} {c d:Nat} {l m:List UInt8} (h:Sl w a c l) (k:Sl w b d m) (t:TypeId) (n:Nat) (hn:n=w.heap.size):RsAt (w.alloc (.cells #[.slice a l.length c,.slice b m.length d] t)) (fun _=>True) (some ⟨n,0,none⟩) [⟨a,c,l⟩,⟨b,d,m⟩]:=fun _=>by
 subst hn
 refine ⟨w.heap.size,0,rfl,by simp,trivial,fun i hi=>?_⟩
 match i,hi with
 | 0,_=>exact h.rat (b0s _ _) (by go_simp)
 | 1,_=>exact k.rat (b0s _ _) (by go_simp)
theorem d0t {w:World} {b b':Nat} {ao:Option Addr} {cap:Nat} {l:List UInt8} (h:OwnC w b ao cap l) (hb:b'≤b):OwnC w b' ao cap l:=by
 rcases h with h | ⟨g,zs,h1,h2,r⟩
 ·exact .inl h
 ·exact .inr ⟨g,zs,h1,Nat.le_trans hb h2,r⟩
theorem l0g (a:Option Addr) (c:Nat) (l:List UInt8):c0g [⟨a,c,l⟩]=l:=by simp [c0g]
theorem p0j (a b:Option Addr) (c d:Nat) (l m:List UInt8):c0g [⟨a,c,l⟩,⟨b,d,m⟩]=l++m:=by simp [c0g]
theorem p0z {w:World} {a:Option Addr} {c:Nat} {l:List UInt8} (h:Sl w a c l) (t:TypeId) (n:Nat) (hn:n=w.heap.size) :
 Calls Tryz.prog 122 #[.slice (some ⟨n,0,none⟩) 1 1] (w.alloc (.cells #[.slice a l.length c] t)) fun e w'=>e=.returned (.int .u32 (sumOf l:Nat))∧w'=w.alloc (.cells #[.slice a l.length c] t):=by
 have:=sum_any (some ⟨n,0,none⟩) 1 [⟨a,c,l⟩] _ _ (rs_one h t n hn) (by simp)
 rw [l0g] at this
 exact this
theorem n0k {w:World} {a b:Option Addr} {c d:Nat} {l m:List UInt8} (h:Sl w a c l) (k:Sl w b d m) (t:TypeId) (n:Nat) (hn:n=w.heap.size) (hl:l.length+m.length≤140737488351232) :
 Calls Tryz.prog 119 #[.slice (some ⟨n,0,none⟩) 2 2] (w.alloc (.cells #[.slice a l.length c,.slice b m.length d] t)) fun e w'=>∃ ao cap,e=.returned (.slice ao (l++m).length cap)∧OwnC w' w.heap.size ao cap (l++m)∧Below w.heap.size w w':=by
 have:=s0x (some ⟨n,0,none⟩) 2 [⟨a,c,l⟩,⟨b,d,m⟩] _ _ (rs_two h k t n hn) (by simp) (by simp) (by rw [p0j,List.length_append];exact hl)
 rw [p0j] at this
 refine this.mono ?_
 rintro e w' ⟨ao,cap,rfl,ho,hb⟩
 exact ⟨ao,cap,rfl,d0t ho (by simp),(b0s _ _).trans (hb.mono (by simp))⟩
set_option maxHeartbeats 1000000 in
theorem m0l (n:Nat) (w:World) (hn:n<4294967296):Calls Tryz.prog 120 #[.int .u32 n] w (z0i w (b0x n)):=by
 have hsl:=i0e (e0v n)
 go_enter Tryz.func120,Tryz.ntmps120
 go_wp2_with fail
 refine (qframe.g0z n _ hn).mono ?_
 rintro e w1 ⟨rfl,h1,b1⟩
 have H1:=uH h1.sl
 have B1:=uH b1
 have s1:=b1.size
 clear h1 b1
 go_wp2_with fail
 refine (qframe.g0z n _ hn).mono ?_
 rintro e w2 ⟨rfl,h2,b2⟩
 have H2:=uH h2.sl
 have B2:=uH (B1.out.trans (b2.mono s1))
 have H12:=uH (H1.out.grow b2)
 have s2:=B2.out.size
 clear h2 b2 H1 B1
 go_wp2_with fail
 refine (p0z H2.out 47 _ rfl).mono ?_
 rintro e w3 ⟨rfl,rfl⟩
 go_wp2_with fail
 refine (qframe.g0z _ _ hsl).mono ?_
 rintro e w3 ⟨rfl,h3,b3⟩
 simp only [World.alloc,Array.size_push] at h3
 have H3:=uH h3.sl
 have B3:=uH (B2.out.trans (((b0s _ _).trans (b3.mono (by simp))).mono s2))
 have H13:=uH (H12.out.grow ((b0s _ _).trans (b3.mono (by simp))))
 have s3:=B3.out.size
 clear h3 b3 H2 B2 H12
 go_wp2_with fail
 refine (n0k H13.out H3.out 47 _ rfl (by simp only [f0f];omega)).mono ?_
 rintro e w4 ⟨ao,cap,rfl,ho,hb⟩
 go_wp2_with fail
 go_ret
 exact ⟨ao,cap,rfl,d0t ho s3,B3.out.trans (hb.mono s3)⟩
end Go.Proofs.YtogamdaomdoapaaGreat.F