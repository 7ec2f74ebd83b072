/- Texts put together: OpenB, RdNums, BackNum, BackRd, BackOp, RepP, ItIs, Sm. -/
import Derived.Test.YtogamdaomdoapaaGreatGa01
import Derived.Test.YtogamdaomdoapaaGreatGa02
import Derived.Test.YtogamdaomdoapaaGreatGa04
import Derived.ChangeSlices
import Derived.Deep.DrawnRows
import Derived.Deep.RegionLaw
import Derived.Laws.BytesArg
import Derived.Shelf.Bytes.SlSmallAll
namespace Go.Proofs.YtogamdaomdoapaaGreat
open Go.Value renaming int→aI
open Go.IntKind renaming i64→aK
open Go.Lib renaming hid→uH
open Go.ChangeShapes Go.WideShapes Go.Deep Go.RowKit
theorem h0u {w:World} {a:Addr} {v:Value} (h:w.cell? a=some v):a.block<w.heap.size:=by
 rcases Nat.lt_or_ge a.block w.heap.size with h1 | h1
 ·exact h1
 ·simp [World.cell?,Array.getElem?_eq_none h1] at h
theorem wf_u8 {n:Int} (h:(Lit.int IntKind.u8 n).wf=true):0≤n∧n<256:=by
 have:=range_u8 (zs:=[n]) (by simpa using h) 0
 simp at this
 omega
section
variable {H:Type} {enc:TypeId × Value→H} {W:World}
set_option maxRecDepth 20000 in
theorem t0m {fuel base:Nat} {cs:List Value} {x:DataW H × List MemPlace} (h:DataW.trod enc Tryz.prog W base (fun _=>true) true fuel 47 cs=some x) :
 ∃ ao l cap,cs=[.slice ao (l:List UInt8).length cap]∧l.length≤cap∧cap≤maxLen∧(ao=none→l.length=0∧cap=0)∧BAt W ao l:=by
 rcases open_ints Tryz.underlying47 Tryz.underlying5 (by kernel_rfl:Tryz.prog.cellsOf 5=1) h with ⟨hcs,hx⟩ | ⟨a,len,cap,zs,hcs,_,hl,hm,hz,hx,hcell,hwz⟩
 ·exact ⟨none,[],0,hcs,Nat.le_refl _,Nat.zero_le _,fun _=>⟨rfl,rfl⟩,BAt.nil⟩
 ·simp only [if_true] at hz
  have hlen:((zs.take len).map fun n=>UInt8.ofNat n.toNat).length=len:=by simp;omega
  refine ⟨some a,(zs.take len).map fun n=>UInt8.ofNat n.toNat,cap,by rw [hlen];exact hcs,by omega,hm,fun h=>(nomatch h),fun hp=>?_⟩
  rw [hlen] at hp
  obtain ⟨ab,ao,spot⟩:=a
  have hspot:spot=none:=by simpa [Addr.add] using World.cell?_spot (hcell 0 (by omega))
  subst hspot
  have h0:=hcell 0 (by omega)
  refine ⟨ab,ao,rfl,?_,fun i hi=>?_⟩
  ·rw [c0q] at h0
   exact h0u h0
  ·rw [hlen] at hi
   have hci:=hcell i (by omega)
   rw [c0q] at hci
   rw [hci]
   have e:zs.getD i 0=zs[i]'(by omega):=by simp [List.getD,List.getElem?_eq_getElem (show i<zs.length by omega)]
   have hb:=wf_u8 (hwz _ (List.getElem_mem (show i<zs.length by omega)))
   simp only [e,List.getElem_map,List.getElem_take]
   congr 2
   simp only [UInt8.toNat_ofNat']
   omega
end
open Go.RowKit
set_option maxRecDepth 20000
def numT (rest:List UInt8) (bad:Bool):Nat × List UInt8 × Bool:=match numOf rest with | none=>(0,[],true) | some (n,r)=>(n,r,bad)
def rdSt (rest:List UInt8) (bad:Bool):Nat→List UInt8 × Bool
 | 0=>(rest,bad)
 | k+1=>(numT (rdSt rest bad k).1 (rdSt rest bad k).2).2
def a0j (rest:List UInt8) (bad:Bool) (k:Nat):Nat:=(numT (rdSt rest bad k).1 (rdSt rest bad k).2).1
theorem e0u (rest:List UInt8) (bad:Bool):(numT rest bad).2.1.length≤rest.length∧(numT rest bad).1≤4611686018427387904:=by
 unfold numT
 cases h:numOf rest with
 | none=>simp
 | some o =>
  obtain ⟨n,r⟩:=o
  obtain ⟨h1,k,-,hk,e⟩:=i0i rest 0 0 n r h
  refine ⟨?_,h1⟩
  simp only [e,List.length_drop]
  omega
theorem b0f (rest:List UInt8) (bad:Bool) (k:Nat):(rdSt rest bad k).1.length≤rest.length:=by
 induction k with
 | zero=>exact Nat.le_refl _
 | succ k ih=>exact Nat.le_trans (e0u _ _).1 ih
theorem w0l (p g:Nat) (rest:List UInt8) (bad:Bool) (w:World) (h:RdAt w p g rest bad) (hm:rest.length≤140737488351232) :
 Calls Tryz.prog 81 #[.pointer (some ⟨p,0,none⟩)] w fun e w'=>e=.returned (aI aK ((numT rest bad).1:Nat))∧RdAt w' p g (numT rest bad).2.1 (numT rest bad).2.2∧Keeps w w' (fun x=>x=p):=by
 refine (o0o p g rest bad w h hm).mono ?_
 rintro e w' ⟨h1,h2,h3⟩
 unfold numT
 cases ho:numOf rest with
 | none=>exact ⟨(h2 ho).1,(h2 ho).2,h3⟩
 | some o =>
  obtain ⟨n,r⟩:=o
  exact ⟨(h1 n r ho).1,(h1 n r ho).2,h3⟩
def h0h (w:World) (ps:List (Option Addr)) (val:Nat→Nat):Nat→World
 | 0=>w
 | k+1=>match ps[k]? with
  | some (some a)=>(h0h w ps val k).setCell a (aI aK (val k:Nat))
  | _=>h0h w ps val k
theorem i0x (w:World) (ps:List (Option Addr)) (val:Nat→Nat) (k:Nat):(h0h w ps val k).heap.size=w.heap.size:=by
 induction k with
 | zero=>rfl
 | succ k ih =>
  simp only [h0h]
  split
  ·simpa [World.setCell] using ih
  ·exact ih
theorem t0q {w:World} {ps:List (Option Addr)} {val:Nat→Nat} {a:Addr} {v:Value} (h:w.cell? a=some v) (k:Nat):∃ v',(h0h w ps val k).cell? a=some v':=by
 induction k with
 | zero=>exact ⟨v,h⟩
 | succ k ih =>
  obtain ⟨v',hv⟩:=ih
  simp only [h0h]
  split
  ·exact cell?_setCell_some hv
  ·exact ⟨v',hv⟩
theorem o0g (w:World) (ps:List (Option Addr)) (val:Nat→Nat) (a:Addr) (k:Nat):(h0h w ps val k).frozen? a=w.frozen? a:=by
 induction k with
 | zero=>rfl
 | succ k ih =>
  simp only [h0h]
  split
  ·rw [World.frozen?_setCell];exact ih
  ·exact ih
theorem k0o (w:World) (ps:List (Option Addr)) (val:Nat→Nat) (k:Nat):Keeps w (h0h w ps val k) (fun x=>∃ a,some a∈ps∧a.block=x):=by
 induction k with
 | zero=>exact Keeps.refl _ _
 | succ k ih =>
  simp only [h0h]
  split
  ·rename_i a ha
   exact ih.trans (Keeps.set _ _ _) (fun _ h=>h) (fun x _ hx=>⟨a,List.mem_of_getElem? ha,hx.symm⟩)
  ·exact ih
theorem Keeps.both {a b:World} {S:Nat→Prop} (h:Keeps a b S) (p:Addr) (v:Value):Keeps (a.setCell p v) (b.setCell p v) S :=
 ⟨h.os,h.tape,h.output,by simpa [World.setCell] using h.size,fun k hk hn=>by
  simp only [World.setCell,Array.size_modify] at hk
  have:=h.block k hk hn
  simp only [World.setCell,Array.getElem?_modify,this]⟩
set_option maxHeartbeats 2000000 in
theorem q0f (p g s sc:Nat) (rest:List UInt8) (bad:Bool) (ps:List (Option Addr)) (w:World) (h:RdAt w p g rest bad) (hm:rest.length≤140737488351232) (hl:ps.length≤1000)
 (hrow:∀ i,(hi:i<ps.length)→w.cell? ⟨s,i,none⟩=some (.pointer ps[i])) (hs:s<w.heap.size) (hsp:s≠p)
 (hps:∀ a,some a∈ps→a.block≠p∧a.block≠s∧(0<rest.length→a.block≠g)∧(∃ v,w.cell? a=some v)∧w.frozen? a=false) :
 Calls Tryz.prog 49 #[.pointer (some ⟨p,0,none⟩),.slice (some ⟨s,0,none⟩) ps.length sc] w fun e w'=>e=.returned (.tuple #[])∧RdAt w' p g (rdSt rest bad ps.length).1 (rdSt rest bad ps.length).2∧Keeps (h0h w ps (a0j rest bad) ps.length) w' (fun x=>x=p):=by
 have Hrow:=uH hrow
 have Hps:=uH hps
 have H:=uH h
 clear hrow hps h
 go_enter Tryz.func49,Tryz.ntmps49
 go_wp2_with fail
 go_loopw [9] (fun s9 wr=>∃ k:Nat,s9=aI aK k∧k≤ps.length∧Hid (RdAt wr p g (rdSt rest bad k).1 (rdSt rest bad k).2)∧Hid (Keeps (h0h w ps (a0j rest bad) k) wr (fun x=>x=p))) (fun s9 _=>ps.length - (intOf s9).toNat)
 case atStart=>exact ⟨0,rfl,by omega,H,Keeps.refl _ _⟩
 case round =>
  obtain ⟨k,rfl,hk,HR,HK⟩:=hrel
  clear H
  by_cases hlt:k<ps.length
  ·obtain ⟨q,hq⟩:∃ q,q=ps[k]:=⟨_,rfl⟩
   have hmem:q∈ps:=by rw [hq];exact List.getElem_mem _
   have hat:ps[k]?=some q:=by rw [hq];exact List.getElem?_eq_getElem hlt
   have hrk:w.cell? ⟨s,k,none⟩=some (.pointer q):=by rw [hq];exact Hrow.out k hlt
   have hsS:¬∃ a,some a∈ps∧a.block=s:=fun ⟨a,ha,e⟩=>(Hps.out a ha).2.1 e
   have hc:=((HK.out.cell (p:=⟨s,k,none⟩) (by rw [i0x];exact hs) hsp).trans ((k0o w ps (a0j rest bad) k).cell (p:=⟨s,k,none⟩) hs hsS)).trans hrk
   have hrl:=b0f rest bad k
   have Hq:=uH (⟨hmem,hat⟩:_∧_)
   have HsS:=uH hsS
   obtain ⟨v,hv⟩:∃ v,v=a0j rest bad k:=⟨_,rfl⟩
   have hcall:=w0l p g _ _ wr HR.out (by omega)
   rw [show (numT (rdSt rest bad k).1 (rdSt rest bad k).2).1=v from hv.symm,show (numT (rdSt rest bad k).1 (rdSt rest bad k).2).2.1=(rdSt rest bad (k+1)).1 from rfl,show (numT (rdSt rest bad k).1 (rdSt rest bad k).2).2.2=(rdSt rest bad (k+1)).2 from rfl] at hcall
   have Hcall:=uH hcall
   have Hv:=uH hv
   clear hq hmem hat hrk hsS hcall hv
   go_wp2_with fail
   refine Hcall.out.mono ?_
   rintro e w1 ⟨rfl,hr1,hk1⟩
   have HR1:=uH hr1
   have HK1:=uH (HK.out.trans hk1 (fun _ h=>h) (fun _ _ h=>h))
   clear hr1 hk1 HR HK hc
   cases q with
   | none =>
    go_wp2_with fail
    go_roundw
    case rel=>exact ⟨k+1,by go_num,by omega,HR1,by have:=HK1.out;simp only [Hid,h0h,Hq.out.2];exact this⟩
    case measure=>simp [intOf];omega
   | some a =>
    obtain ⟨n1,n2,n3,⟨v0,n4⟩,n5⟩:=Hps.out a Hq.out.1
    obtain ⟨v1,hc1⟩:=t0q (ps:=ps) (val:=a0j rest bad) n4 k
    have hlt1:a.block<w.heap.size:=h0u n4
    have hc2:=(HK1.out.cell (p:=a) (by rw [i0x];exact hlt1) n1).trans hc1
    have hf2:=((HK1.out.frozen (p:=a) (by rw [i0x];exact hlt1) n1).trans (o0g w ps (a0j rest bad) a k)).trans n5
    have hrl1:=b0f rest bad (k+1)
    have N1:=uH (⟨n1,fun h=>n3 (Nat.lt_of_lt_of_le h hrl1)⟩:a.block≠p∧(0<(rdSt rest bad (k+1)).1.length→a.block≠g))
    clear n1 n2 n3 n4 n5 hc1 hrl1 hrl
    go_wp2_with fail
    go_roundw
    case rel=>exact ⟨k+1,by go_num,by omega,HR1.out.stay (Keeps.set _ _ _) (fun h=>N1.out.1 h.symm) (fun hl h=>N1.out.2 hl h.symm),by
     have:=HK1.out.both a (aI aK (v:Nat))
     simp only [Hid,h0h,Hq.out.2,←Hv.out]
     exact this⟩
    case measure=>simp [intOf];omega
  ·obtain rfl:k=ps.length:=by omega
   go_wp2_with fail
   go_end0
   exact ⟨rfl,HR.out,HK.out⟩
theorem s0t:∀ (m n i u:Nat) (r:List UInt8),n<m→i<9→(0<i→0<n)→u+n * 128 ^ i≤4611686018427387904→numR i u (encN n++r)=some (u+n * 128 ^ i,r)
 | 0,_,_,_,_,h,_,_,_=>by omega
 | m+1,n,i,u,r,h,hi,h0,hle=>by
  have hp:0<128 ^ i:=Nat.pow_pos (by omega)
  by_cases h128:n<128
  ·rw [e0s h128]
   simp only [List.cons_append,List.nil_append,numR]
   have hc:(UInt8.ofNat n).toNat=n:=by simp;omega
   rw [if_neg,hc,if_pos h128,if_neg (by omega)]
   rintro (h1 | ⟨h1,h2⟩)
   ·omega
   ·have:=congrArg UInt8.toNat h2
    rw [hc,UInt8.toNat_zero] at this
    have:=h0 h1
    omega
  ·have hi8:i<8:=by
    apply Nat.lt_of_not_le
    intro h8
    have h1:128 ^ 8≤128 ^ i:=Nat.pow_le_pow_right (by omega) h8
    have h2:128 * 128 ^ 8≤n * 128 ^ i:=Nat.mul_le_mul (by omega) h1
    have h3:(128:Nat) * 128 ^ 8=9223372036854775808:=by decide
    omega
   have hn62:n≤4611686018427387904:=by
    have:n * 1≤n * 128 ^ i:=Nat.mul_le_mul_left _ hp
    omega
   rw [h0a h128 hn62]
   simp only [List.cons_append,numR]
   have hc:(UInt8.ofNat (n % 128+128)).toNat=n % 128+128:=by simp;omega
   have hsum:u+n % 128 * 128 ^ i+n / 128 * 128 ^ (i+1)=u+n * 128 ^ i:=by
    have h1:n / 128 * 128 ^ (i+1)=n / 128 * 128 * 128 ^ i:=by rw [Nat.pow_succ,Nat.mul_assoc,Nat.mul_comm 128]
    have h2:n % 128 * 128 ^ i+n / 128 * 128 * 128 ^ i=n * 128 ^ i:=by
     rw [←Nat.add_mul];congr 1;omega
    omega
   rw [if_neg,hc,if_neg (by omega),show (n % 128+128) % 128=n % 128 from by omega,s0t m (n / 128) (i+1) _ r (by omega) (by omega) (by omega) (by omega),hsum]
   rintro (h1 | ⟨h1,h2⟩)
   ·omega
   ·have:=congrArg UInt8.toNat h2
    rw [hc,UInt8.toNat_zero] at this
    omega
theorem o0z (n:Nat) (r:List UInt8) (h:n≤4611686018427387904):numOf (encN n++r)=some (n,r):=by
 have:=s0t (n+1) n 0 0 r (by omega) (by omega) (by omega) (by omega)
 simpa [numOf] using this
theorem r0h (l r:List UInt8) (h:l.length≤4611686018427387904):bytesOf (a0n l++r)=some (l,r):=by
 unfold bytesOf a0n
 rw [List.append_assoc,o0z _ _ h]
 simp
theorem e0a (l r:List UInt8) (bad:Bool) (h:l.length≤4611686018427387904):a0q (a0n l++r) bad=(l,r,bad):=by
 unfold a0q
 rw [r0h l r h]
open Go.RowKit
set_option maxRecDepth 20000
theorem l0c:∀ (l:List UInt8) (i u n:Nat) (r:List UInt8),numR i u l=some (n,r)→u<128 ^ i→∃ m,n=u+m * 128 ^ i∧l=encN m++r∧(0<i→0<m)
 | [],i,u,n,r,h,_=>by simp [numR] at h
 | c::t,i,u,n,r,h,hu=>by
  have hle:=(i0i (c::t) i u n r h).1
  rw [numR] at h
  split at h
  ·cases h
  ·rename_i hc
   split at h
   ·rename_i hlt
    split at h
    ·cases h
    ·simp only [Option.some.injEq,Prod.mk.injEq] at h
     obtain ⟨rfl,rfl⟩:=h
     refine ⟨c.toNat,rfl,?_,fun hi=>?_⟩
     ·rw [e0s hlt];simp
     ·rcases Nat.eq_zero_or_pos c.toNat with h0 | h0
      ·exact absurd (.inr ⟨hi,UInt8.toNat_inj.1 (by simpa using h0)⟩) hc
      ·exact h0
   ·rename_i hge
    have hu2:=n0u i u (c.toNat % 128) hu (Nat.mod_lt _ (by omega))
    obtain ⟨m,hn,ht,hm⟩:=l0c t (i+1) _ n r h hu2
    have hm:=hm (by omega)
    have hlt:=c.toNat_lt
    have hn2:n=u+(c.toNat % 128+128 * m) * 128 ^ i:=by
     rw [hn,Nat.pow_succ,Nat.add_mul,←Nat.add_assoc]
     congr 1
     generalize 128 ^ i=q
     ac_rfl
    refine ⟨c.toNat % 128+128 * m,hn2,?_,fun _=>by omega⟩
    have hbig:¬(c.toNat % 128+128 * m<128):=by omega
    have hp:0<128 ^ i:=Nat.pow_pos (by omega)
    have hsz:c.toNat % 128+128 * m≤4611686018427387904:=by
     have:=Nat.le_mul_of_pos_right (c.toNat % 128+128 * m) hp
     omega
    rw [h0a hbig hsz,show (c.toNat % 128+128 * m) % 128+128=c.toNat by omega,show (c.toNat % 128+128 * m) / 128=m by omega,ht]
    simp
theorem w0z {rest:List UInt8} {bad:Bool} (h:(numT rest bad).2.2=false):bad=false∧rest=encN (numT rest bad).1++(numT rest bad).2.1:=by
 unfold numT at h ⊢
 cases ho:numOf rest with
 | none=>rw [ho] at h;simp at h
 | some o =>
  obtain ⟨n,r⟩:=o
  rw [ho] at h
  simp only at h ⊢
  obtain ⟨m,hn,hl,-⟩:=l0c rest 0 0 n r ho (by simp)
  obtain rfl:n=m:=by simpa using hn
  exact ⟨h,hl⟩
theorem k0l {rest:List UInt8} {bad:Bool} (h:(a0q rest bad).2.2=false):bad=false∧rest=a0n (a0q rest bad).1++(a0q rest bad).2.1:=by
 unfold a0q bytesOf at h ⊢
 cases ho:numOf rest with
 | none=>rw [ho] at h;simp at h
 | some o =>
  obtain ⟨n,r⟩:=o
  rw [ho] at h
  obtain ⟨m,hn,hl,-⟩:=l0c rest 0 0 n r ho (by simp)
  obtain rfl:n=m:=by simpa using hn
  by_cases hc:n≤r.length
  ·simp only [hc,if_true] at h ⊢
   refine ⟨h,?_⟩
   unfold a0n
   rw [List.length_take,Nat.min_eq_left hc,List.append_assoc,List.take_append_drop]
   exact hl
  ·simp only [hc,if_false] at h
   cases h
theorem o0r {rest:List UInt8} {bad:Bool} {k:Nat} (h:(rdSt rest bad (k+1)).2=false):(rdSt rest bad k).2=false∧(rdSt rest bad k).1=encN (a0j rest bad k)++(rdSt rest bad (k+1)).1:=w0z h
theorem d0i (rest:List UInt8) (bad:Bool) (k:Nat):a0j rest bad k≤4611686018427387904:=(e0u _ _).2
theorem n0g (n:Nat) (r:List UInt8) (bad:Bool) (h:n≤4611686018427387904):numT (encN n++r) bad=(n,r,bad):=by
 unfold numT;rw [o0z n r h]
theorem m0a (rest:List UInt8) (bad:Bool) (k:Nat):rdSt rest bad (k+1)=rdSt (numT rest bad).2.1 (numT rest bad).2.2 k:=by
 induction k with
 | zero=>rfl
 | succ k ih=>rw [rdSt,ih];rfl
theorem q0j (rest:List UInt8) (bad:Bool) (k:Nat):a0j rest bad (k+1)=a0j (numT rest bad).2.1 (numT rest bad).2.2 k:=by
 unfold a0j;rw [m0a]
theorem d0j (n:Nat) (r:List UInt8) (bad:Bool) (k:Nat) (h:n≤4611686018427387904):rdSt (encN n++r) bad (k+1)=rdSt r bad k:=by rw [m0a,n0g n r bad h]
theorem b0u (n:Nat) (r:List UInt8) (bad:Bool) (k:Nat) (h:n≤4611686018427387904):a0j (encN n++r) bad (k+1)=a0j r bad k:=by rw [q0j,n0g n r bad h]
theorem c0r (n:Nat) (r:List UInt8) (bad:Bool) (h:n≤4611686018427387904):a0j (encN n++r) bad 0=n:=by unfold a0j;simp only [rdSt];rw [n0g n r bad h]
open Go.RowKit
structure Dq where
 k:Nat
 c:Nat
 s:Nat
 key:List UInt8
 who:List UInt8
 tkey:List UInt8
 twho:List UInt8
 i:Nat
 n:Nat
 p:Nat
 b:Nat
 d:Nat
 rest:List UInt8
 bad:Bool
def tk1 (l:List UInt8):=a0q (rdSt l false 3).1 (rdSt l false 3).2
def tk2 (l:List UInt8):=a0q (tk1 l).2.1 (tk1 l).2.2
def tk3 (l:List UInt8):=a0q (tk2 l).2.1 (tk2 l).2.2
def tk4 (l:List UInt8):=a0q (tk3 l).2.1 (tk3 l).2.2
def decD (l:List UInt8):Dq:=⟨a0j l false 0,a0j l false 1,a0j l false 2,(tk1 l).1,(tk2 l).1,(tk3 l).1,(tk4 l).1,
 a0j (tk4 l).2.1 (tk4 l).2.2 0,a0j (tk4 l).2.1 (tk4 l).2.2 1,a0j (tk4 l).2.1 (tk4 l).2.2 2,a0j (tk4 l).2.1 (tk4 l).2.2 3,a0j (tk4 l).2.1 (tk4 l).2.2 4,(rdSt (tk4 l).2.1 (tk4 l).2.2 5).1,(rdSt (tk4 l).2.1 (tk4 l).2.2 5).2⟩
def dqQ (d:Dq):Rq:=⟨d.k,d.c,d.s,⟨d.key.toArray⟩,⟨d.who.toArray⟩,⟨d.tkey.toArray⟩,⟨d.twho.toArray⟩,d.i,d.n,d.p,d.b==1,d.d⟩
def g0e (d:Dq):Bool:=!d.bad&&d.rest.isEmpty
def encD (d:Dq):List UInt8:=encN d.k++(encN d.c++(encN d.s++(a0n d.key++(a0n d.who++(a0n d.tkey++(a0n d.twho++(encN d.i++(encN d.n++(encN d.p++(encN d.b++encN d.d))))))))))
theorem g0p {a x r r':List UInt8} (h:a=x++r) (k:r=r'):a=x++r':=k▸h
theorem i0d {s:List UInt8 × Bool} {t:List UInt8 × List UInt8 × Bool} (ht:t=a0q s.1 s.2) (h:t.2.2=false):s.2=false∧s.1=a0n t.1++t.2.1:=by subst ht;exact k0l h
theorem o0q (r:List UInt8) (b:Bool):rdSt r b 0=(r,b):=rfl
theorem e0d {r:List UInt8} {b:Bool} {k j:Nat} (hj:j=k+1) (h:(rdSt r b j).2=false):(rdSt r b k).2=false∧(rdSt r b k).1=encN (a0j r b k)++(rdSt r b j).1:=by subst hj;exact o0r h
theorem p0q {l:List UInt8} (h:g0e (decD l)=true):l=encD (decD l):=by
 have h5:(rdSt (tk4 l).2.1 (tk4 l).2.2 5).2=false∧(rdSt (tk4 l).2.1 (tk4 l).2.2 5).1=[]:=by
  simp only [g0e,Bool.and_eq_true,Bool.not_eq_true',List.isEmpty_iff,decD] at h
  exact h
 obtain ⟨h5,hr⟩:=h5
 obtain ⟨h4,e4⟩:=e0d (k:=4) rfl h5
 obtain ⟨h3,e3⟩:=e0d (k:=3) rfl h4
 obtain ⟨h2,e2⟩:=e0d (k:=2) rfl h3
 obtain ⟨h1,e1⟩:=e0d (k:=1) rfl h2
 obtain ⟨h0,e0⟩:=e0d (k:=0) rfl h1
 rw [hr,List.append_nil] at e4
 have e3:=g0p e3 e4
 have e2:=g0p e2 e3
 have e1:=g0p e1 e2
 have e0:=g0p e0 e1
 rw [o0q] at h0 e0
 obtain ⟨t4,f4⟩:=i0d (s:=(tk3 l).2) (t:=tk4 l) rfl h0
 obtain ⟨t3,f3⟩:=i0d (s:=(tk2 l).2) (t:=tk3 l) rfl t4
 obtain ⟨t2,f2⟩:=i0d (s:=(tk1 l).2) (t:=tk2 l) rfl t3
 obtain ⟨t1,f1⟩:=i0d (s:=rdSt l false 3) (t:=tk1 l) rfl t2
 have f4:=g0p f4 e0
 have f3:=g0p f3 f4
 have f2:=g0p f2 f3
 have f1:=g0p f1 f2
 obtain ⟨g2,q2⟩:=e0d (k:=2) rfl t1
 obtain ⟨g1,q1⟩:=e0d (k:=1) rfl g2
 obtain ⟨g0,q0⟩:=e0d (k:=0) rfl g1
 have q2:=g0p q2 f1
 have q1:=g0p q1 q2
 have q0:=g0p q0 q1
 rw [o0q] at q0
 simp only [encD,decD]
 exact q0
theorem decD_enc (d:Dq) (hk:d.k≤4611686018427387904) (hc:d.c≤4611686018427387904) (hs:d.s≤4611686018427387904) (hi:d.i≤4611686018427387904) (hn:d.n≤4611686018427387904) (hp:d.p≤4611686018427387904) (hb:d.b≤4611686018427387904) (hd:d.d≤4611686018427387904)
 (h1:d.key.length≤4611686018427387904) (h2:d.who.length≤4611686018427387904) (h3:d.tkey.length≤4611686018427387904) (h4:d.twho.length≤4611686018427387904) (hr:d.rest=[]) (hbad:d.bad=false):decD (encD d)=d:=by
 have t1:tk1 (encD d)=(d.key,a0n d.who++(a0n d.tkey++(a0n d.twho++(encN d.i++(encN d.n++(encN d.p++(encN d.b++encN d.d)))))),false):=by
  unfold tk1 encD
  rw [d0j _ _ _ _ hk,d0j _ _ _ _ hc,d0j _ _ _ _ hs]
  exact e0a _ _ _ h1
 have t2:tk2 (encD d)=(d.who,a0n d.tkey++(a0n d.twho++(encN d.i++(encN d.n++(encN d.p++(encN d.b++encN d.d))))),false):=by
  unfold tk2;rw [t1];exact e0a _ _ _ h2
 have t3:tk3 (encD d)=(d.tkey,a0n d.twho++(encN d.i++(encN d.n++(encN d.p++(encN d.b++encN d.d)))),false):=by
  unfold tk3;rw [t2];exact e0a _ _ _ h3
 have t4:tk4 (encD d)=(d.twho,encN d.i++(encN d.n++(encN d.p++(encN d.b++encN d.d))),false):=by
  unfold tk4;rw [t3];exact e0a _ _ _ h4
 have z:encN d.d=encN d.d++[]:=(List.append_nil _).symm
 have e:decD (encD d)=⟨d.k,d.c,d.s,d.key,d.who,d.tkey,d.twho,d.i,d.n,d.p,d.b,d.d,[],false⟩:=by
  unfold decD
  rw [t1,t2,t3,t4]
  simp only [encD]
  rw [z]
  rw [c0r _ _ _ hk,b0u _ _ _ _ hk,c0r _ _ _ hc,b0u _ _ _ _ hk,b0u _ _ _ _ hc,c0r _ _ _ hs]
  rw [c0r _ _ _ hi,b0u _ _ _ 0 hi,c0r _ _ _ hn,b0u _ _ _ 1 hi,b0u _ _ _ _ hn,c0r _ _ _ hp,b0u _ _ _ 2 hi,b0u _ _ _ _ hn,b0u _ _ _ _ hp,c0r _ _ _ hb,b0u _ _ _ 3 hi,b0u _ _ _ _ hn,b0u _ _ _ _ hp,b0u _ _ _ _ hb,c0r _ _ _ hd]
  rw [d0j _ _ _ _ hi,d0j _ _ _ _ hn,d0j _ _ _ _ hp,d0j _ _ _ _ hb,d0j _ _ _ _ hd]
  rfl
 rw [e]
 obtain ⟨k,c,s,key,who,tkey,twho,i,n,p,b,dd,rest,bad⟩:=d
 simp only at hr hbad
 subst hr hbad
 rfl
theorem c0s {n:Nat} (h:n≤4611686018427387904):a0l (n:Int)=n:=by unfold a0l;omega
def qD (o:Rq):Dq:=⟨a0l o.kind,a0l o.client,a0l o.seq,o.key.data.toList,o.who.data.toList,o.tkey.data.toList,o.twho.data.toList,a0l o.item,a0l o.count,a0l o.price,a0l (b1 o.buy),a0l o.id,[],false⟩
theorem encD_q (o:Rq):encD (qD o)=encO o:=by
 simp only [encD,qD,encO,encs,encS,List.flatMap_cons,List.flatMap_nil,List.append_nil,List.append_assoc]
theorem decD_q {o:Rq} (h:mayO o=true):decD (encO o)=qD o:=by
 rw [←encD_q]
 have hz:=g0i h
 have e:∀ s:ByteArray,s.data.toList.length=s.size:=fun s=>by rw [Array.length_toList];rfl
 have h1:(qD o).key.length≤4611686018427387904:=by show o.key.data.toList.length≤_;rw [e];omega
 have h2:(qD o).who.length≤4611686018427387904:=by show o.who.data.toList.length≤_;rw [e];omega
 have h3:(qD o).tkey.length≤4611686018427387904:=by show o.tkey.data.toList.length≤_;rw [e];omega
 have h4:(qD o).twho.length≤4611686018427387904:=by show o.twho.data.toList.length≤_;rw [e];omega
 have c:∀ v,a0l v≤4611686018427387904:=c0x
 refine decD_enc (qD o) ?_ ?_ ?_ ?_ ?_ ?_ ?_ ?_ h1 h2 h3 h4 rfl rfl
 all_goals (simp only [qD];exact c _)
theorem y0i {d:Dq} (hk:d.k≤4611686018427387904) (hc:d.c≤4611686018427387904) (hs:d.s≤4611686018427387904) (hi:d.i≤4611686018427387904) (hn:d.n≤4611686018427387904) (hp:d.p≤4611686018427387904) (hb:d.b≤1) (hd:d.d≤4611686018427387904):encO (dqQ d)=encD d:=by
 rw [←encD_q]
 have e1:a0l (b1 (d.b==1))=d.b:=by
  have:d.b=0∨d.b=1:=by omega
  rcases this with h | h<;>rw [h]<;>rfl
 simp only [encD,qD,dqQ,c0s hk,c0s hc,c0s hs,c0s hi,c0s hn,c0s hp,c0s hd,e1]
theorem y0k (l:List UInt8):(decD l).k≤4611686018427387904∧(decD l).c≤4611686018427387904∧(decD l).s≤4611686018427387904∧(decD l).i≤4611686018427387904∧(decD l).n≤4611686018427387904∧(decD l).p≤4611686018427387904∧(decD l).b≤4611686018427387904∧(decD l).d≤4611686018427387904:=by
 simp only [decD]
 exact ⟨d0i _ _ _,d0i _ _ _,d0i _ _ _,d0i _ _ _,d0i _ _ _,d0i _ _ _,d0i _ _ _,d0i _ _ _⟩
def goodD (l:List UInt8):Bool:=g0e (decD l)&&decide ((decD l).b≤1)&&mayO (dqQ (decD l))
theorem u0k (l:List UInt8):(g0e (decD l)&&mayO (dqQ (decD l))&&(l==encO (dqQ (decD l))))=goodD l:=by
 unfold goodD
 cases hw:g0e (decD l) with
 | false=>simp only [Bool.false_and]
 | true =>
  cases hm:mayO (dqQ (decD l)) with
  | false=>simp only [Bool.and_false,Bool.false_and]
  | true =>
   simp only [Bool.true_and,Bool.and_true]
   by_cases hb:(decD l).b≤1
   ·obtain ⟨b1,b2,b3,b4,b5,b6,-,b8⟩:=y0k l
    have h1:=y0i b1 b2 b3 b4 b5 b6 hb b8
    have h2:=p0q hw
    generalize decD l=d at *
    rw [h1,←h2]
    simp [hb]
   ·have hne:l≠encO (dqQ (decD l)):=fun e=>by
     have h1:=decD_q hm
     rw [←e] at h1
     generalize decD l=d at *
     have h2:d.b=a0l (b1 (d.b==1)):=congrArg Dq.b h1
     have h3:(d.b==1)=false:=by rw [beq_eq_false_iff_ne];omega
     rw [h3] at h2
     have h4:a0l (b1 false)=0:=rfl
     omega
    rw [beq_eq_false_iff_ne.2 hne]
    simp [hb]
open Go.RowKit
structure Rp where
 err:Int
 id:Int
 i:It
def mayR (r:Rp):Bool:=decide (0≤r.err∧r.err≤19∧0≤r.id∧r.id≤1099511627776)&&isI r.i
def j0t (i:It):List UInt8:=encs [i.a,i.b,i.c,i.d]
def encP (r:Rp):List UInt8:=encs [r.err,r.id]++j0t r.i
def rpOf (l:List UInt8):Rp:=⟨a0j l false 0,a0j l false 1,⟨a0j l false 2,a0j l false 3,a0j l false 4,a0j l false 5⟩⟩
def v0c (l:List UInt8):Bool:=!(rdSt l false 6).2&&(rdSt l false 6).1.isEmpty
def e0m (l:List UInt8):Bool:=v0c l&&mayR (rpOf l)
theorem mayR_iff (r:Rp):mayR r=true↔(0≤r.err∧r.err≤19∧0≤r.id∧r.id≤1099511627776)∧isI r.i=true:=by simp [mayR]
theorem encP_eq (r:Rp):encP r=encN (a0l r.err)++(encN (a0l r.id)++(encN (a0l r.i.a)++(encN (a0l r.i.b)++(encN (a0l r.i.c)++(encN (a0l r.i.d)++[]))))):=by
 simp only [encP,j0t,encs,List.flatMap_cons,List.flatMap_nil,List.append_nil,List.append_assoc]
theorem i0p (r:Rp):(encs [r.err,r.id]).length≤20∧(j0t r.i).length≤40:=by
 have h1:=a0m [r.err,r.id]
 have h2:=a0m [r.i.a,r.i.b,r.i.c,r.i.d]
 simp only [j0t,List.length_cons,List.length_nil] at h1 h2 ⊢
 omega
def zRp:Rp:=⟨0,0,⟨0,0,0,0⟩⟩
def repR (l:List UInt8):Rp:=if e0m l=true then rpOf l else zRp
def repE (l:List UInt8):Int:=if e0m l=true then 0 else 3
open Go.RowKit
set_option maxHeartbeats 1000000 in
theorem purse_is (i:It) (w:World) :
 Calls Tryz.prog 145 #[.agg #[aI aK i.a,aI aK i.b,aI aK i.c,aI aK i.d]] w fun e w'=>e=.returned (.bool (isI i))∧Below w.heap.size w w':=by
 have i0:∀ w,(Instr.index 39 (.agg #[aI aK i.a,aI aK i.b,aI aK i.c,aI aK i.d]) (aI aK 0)).run Tryz.prog w=.ok (aI aK i.a) w:=fun _=>by kernel_rfl
 have i1:∀ w,(Instr.index 39 (.agg #[aI aK i.a,aI aK i.b,aI aK i.c,aI aK i.d]) (aI aK 1)).run Tryz.prog w=.ok (aI aK i.b) w:=fun _=>by kernel_rfl
 have i2:∀ w,(Instr.index 39 (.agg #[aI aK i.a,aI aK i.b,aI aK i.c,aI aK i.d]) (aI aK 2)).run Tryz.prog w=.ok (aI aK i.c) w:=fun _=>by kernel_rfl
 have i3:∀ w,(Instr.index 39 (.agg #[aI aK i.a,aI aK i.b,aI aK i.c,aI aK i.d]) (aI aK 3)).run Tryz.prog w=.ok (aI aK i.d) w:=fun _=>by kernel_rfl
 go_enter Tryz.func145,Tryz.ntmps145
 go_wp2_with fail
 (refine wp_loop_rounds 5 ?_;(repeat any_goals (rw [rounds_succ];go_wp2_with fail)))
 all_goals (go_ret;refine ⟨?_,bg⟩;first | (rw [(p0f i).2 (by omega)];rfl) | (rw [(q0s i).2 (by omega)];rfl))
set_option maxHeartbeats 1000000 in
theorem h0o (i:It) (w:World) :
 Calls Tryz.prog 106 #[.agg #[aI aK i.a,aI aK i.b,aI aK i.c,aI aK i.d]] w fun e w'=>e=.returned (.bool (isI i))∧Below w.heap.size w w':=by
 have i0:∀ w,(Instr.index 39 (.agg #[aI aK i.a,aI aK i.b,aI aK i.c,aI aK i.d]) (aI aK 0)).run Tryz.prog w=.ok (aI aK i.a) w:=fun _=>by kernel_rfl
 have i1:∀ w,(Instr.index 39 (.agg #[aI aK i.a,aI aK i.b,aI aK i.c,aI aK i.d]) (aI aK 1)).run Tryz.prog w=.ok (aI aK i.b) w:=fun _=>by kernel_rfl
 have i2:∀ w,(Instr.index 39 (.agg #[aI aK i.a,aI aK i.b,aI aK i.c,aI aK i.d]) (aI aK 2)).run Tryz.prog w=.ok (aI aK i.c) w:=fun _=>by kernel_rfl
 have i3:∀ w,(Instr.index 39 (.agg #[aI aK i.a,aI aK i.b,aI aK i.c,aI aK i.d]) (aI aK 3)).run Tryz.prog w=.ok (aI aK i.d) w:=fun _=>by kernel_rfl
 go_enter Tryz.func106,Tryz.ntmps106
 go_wp2_with fail
 (refine wp_loop_rounds 5 ?_;(repeat any_goals (rw [rounds_succ];go_wp2_with fail)))
 all_goals (go_ret;refine ⟨?_,bg⟩;first | (rw [(p0f i).2 (by omega)];rfl) | (rw [(q0s i).2 (by omega)];rfl))
open Go.RowKit
set_option maxRecDepth 20000
theorem c0v {w w':World} {base:Nat} {ao:Option Addr} {cap:Nat} {l:List UInt8} (h:OwnB w base ao cap l) (b:Below w.heap.size w w'):OwnB w' base ao cap l:=by
 refine ⟨h.1,?_⟩
 rcases h.2 with h2 | ⟨g,c,cur,hv,hg,hh,r⟩
 ·exact .inl h2
 ·exact .inr ⟨g,c,cur,hv,hg,(b.block g (Array.getElem?_eq_some_iff.1 hh).1).trans hh,r⟩
theorem at_go {P:Program} {ops:Array Oper} {o:Oper} {a:Act} {w:World} {K:Act→World→Prop} {Q:Exit→Act→World→Prop} {E:Prop} (f:FuncId) (xs:Array Operand) (ts:Array TypeId) (_:o.op=Op.call { callee:=Callee.value (Operand.func f),args:=xs,argTypes:=ts }) (h:if Region.wanted o (yielded ops a.tmps)=true then Oper.wp P o a w K Q else E):if Region.wanted o (yielded ops a.tmps)=true then Oper.wp P o a w K Q else E:=h
theorem y0w {P:Program} {ops:Array Oper} {o:Oper} {a:Act} {w:World} {K:Act→World→Prop} {Q:Exit→Act→World→Prop} {E:Prop} (xs:Array Operand) (ts:Array TypeId) (_:o.op=Op.call { callee:=Callee.builtin Builtin.append,args:=xs,argTypes:=ts }) (h:if Region.wanted o (yielded ops a.tmps)=true then Oper.wp P o a w K Q else E):if Region.wanted o (yielded ops a.tmps)=true then Oper.wp P o a w K Q else E:=h
theorem p0u {a b c:World} (h:Below a.heap.size a b) (k:Below b.heap.size b c):Below a.heap.size a c:=h.trans (k.mono h.size)
theorem q0d (vs:List Int) (w:World) (n k:Nat) (cur:Array Value) (hn:n=w.heap.size) (hk:k=vs.length) (hc:cur=(intV vs).toArray) (hm:vs.length≤1000000) :
 Calls Tryz.prog 54 #[.slice (some ⟨n,0,none⟩) k k] (w.alloc (.cells cur 3)) fun e w'=>∃ ao cap,e=.returned (.slice ao (encs vs).length cap)∧OwnB w' w.heap.size ao cap (encs vs)∧Below w.heap.size w w':=by
 subst hn hk
 refine (k0s (some ⟨w.heap.size,0,none⟩) vs.length vs _ (fun _=>⟨w.heap.size,0,rfl,by simp,n0n (b0r w _) hc⟩) hm).mono ?_
 rintro e w' ⟨ao,cap,rfl,ho,hb⟩
 exact ⟨ao,cap,rfl,b0a ho (by simp),(a0p w _).trans (hb.mono (by simp))⟩
theorem f0n (vs:List Int) (w:World) (n k:Nat) (cur:Array Value) (hn:n=w.heap.size) (hk:k=vs.length) (hc:cur=(intV vs).toArray) (hm:vs.length≤1000000) (X:List UInt8) (hX:encs vs=X) :
 Calls Tryz.prog 54 #[.slice (some ⟨n,0,none⟩) k k] (w.alloc (.cells cur 3)) (d0b w X):=by
 subst hX;exact q0d vs w n k cur hn hk hc hm
theorem i0z (vs:List Int) (w:World) (n k:Nat) (cur:Array Value) (hh:w.heap[n]?=some (.cells cur 3 (0,0))) (hk:k=vs.length) (hc:cur=(intV vs).toArray) (hm:vs.length≤1000000) (X:List UInt8) (hX:encs vs=X) :
 Calls Tryz.prog 54 #[.slice (some ⟨n,0,none⟩) k k] w (d0b w X):=by
 subst hk hX
 exact k0s (some ⟨n,0,none⟩) vs.length vs _ (fun _=>⟨n,0,rfl,lt_of_block hh,n0n hh hc⟩) hm
theorem St.a0b {W w:World} {L:List Th} (h:St W w L) (i:Nat) {b:Nat} {cur:Array Value} {t:TypeId} (hi:L[i]?=some (a0c b (.cells cur t (0,0)))):b<w.heap.size∧(∀ j,w.cell? ⟨b,j,none⟩=cur[j]?)∧∀ j,w.frozen? ⟨b,j,none⟩=false:=h.cells (List.mem_of_getElem? hi)
theorem etaN (t:Nat × List UInt8 × Bool):t=(t.1,t.2.1,t.2.2):=rfl
theorem b0j (l:List UInt8) (b:Bool) (k j:Nat) (hj:j=k+1):numT (rdSt l b k).1 (rdSt l b k).2=(a0j l b k,(rdSt l b j).1,(rdSt l b j).2):=by subst hj;exact etaN _
theorem b0c {w:World} {ao:Option Addr} {l:List UInt8} (h:BAt w ao l) (c:Nat):(convert 47 9 (.slice ao l.length c)).run Tryz.prog w=.ok (.string ⟨l.toArray⟩) w:=by
 by_cases hp:0<l.length
 ·obtain ⟨b,off,rfl,-,hr⟩:=h hp
  have:=run_convert_bytes_arg (P:=Tryz.prog) w 47 5 Tryz.underlying47 Tryz.underlying5 b off l.length c (l.map fun c=>(c.toNat:Int)) (by simp) (fun i hi=>by
   rw [hr i hi];simp [List.getD,hi]) 9 Tryz.underlying9
  rw [this]
  congr 2
  simp [strOfNums,Function.comp_def]
 ·have:l=[]:=List.length_eq_zero_iff.1 (by omega)
  subst this
  exact run_convert_bytes_zero w 47 5 Tryz.underlying47 Tryz.underlying5 ao c 9 Tryz.underlying9
end Go.Proofs.YtogamdaomdoapaaGreat