/- Texts put together: RdNums, BackNum, BackRd, BackOp, RepP, ItIs. -/
import Derived.Test.YtogamdaomdoapaaGreatSa01
import Derived.Test.YtogamdaomdoapaaGreatSa03
import Derived.Test.YtogamdaomdoapaaGreatSa04
import Derived.Test.YtogamdaomdoapaaGreatSa05
namespace Go.Proofs.YtogamdaomdoapaaGreat
open Go.RowKit
set_option maxRecDepth 20000
def numT (rest:List UInt8) (bad:Bool):Nat × List UInt8 × Bool:=match numOf rest with | none=>(0,[],true) | some (n,r)=>(n,r,bad)
def rdSt (rest:List UInt8) (bad:Bool):Nat→List UInt8 × Bool
 | 0=>(rest,bad)
 | k+1=>(numT (rdSt rest bad k).1 (rdSt rest bad k).2).2
def rdVal (rest:List UInt8) (bad:Bool) (k:Nat):Nat:=(numT (rdSt rest bad k).1 (rdSt rest bad k).2).1
theorem numT_le (rest:List UInt8) (bad:Bool):(numT rest bad).2.1.length≤rest.length∧(numT rest bad).1≤4611686018427387904:=by
 unfold numT
 cases h:numOf rest with
 | none=>simp
 | some o =>
  obtain ⟨n,r⟩:=o
  obtain ⟨h1,k,-,hk,e⟩:=numR_left rest 0 0 n r h
  refine ⟨?_,h1⟩
  simp only [e,List.length_drop]
  omega
theorem rdSt_le (rest:List UInt8) (bad:Bool) (k:Nat):(rdSt rest bad k).1.length≤rest.length:=by
 induction k with
 | zero=>exact Nat.le_refl _
 | succ k ih=>exact Nat.le_trans (numT_le _ _).1 ih
theorem rdnum_t (p g:Nat) (rest:List UInt8) (bad:Bool) (w:World) (h:RdAt w p g rest bad) (hm:rest.length≤140737488351232) :
 Calls Tryz.prog 81 #[.pointer (some ⟨p,0,none⟩)] w fun e w'=>e=.returned (.int .i64 ((numT rest bad).1:Nat))∧RdAt w' p g (numT rest bad).2.1 (numT rest bad).2.2∧Keeps w w' (fun x=>x=p):=by
 refine (rdnum_any p g rest bad w h hm).mono ?_
 rintro e w' ⟨h1,h2,h3⟩
 unfold numT
 cases ho:numOf rest with
 | none=>exact ⟨(h2 ho).1,(h2 ho).2,h3⟩
 | some o =>
  obtain ⟨n,r⟩:=o
  exact ⟨(h1 n r ho).1,(h1 n r ho).2,h3⟩
def setPs (w:World) (ps:List (Option Addr)) (val:Nat→Nat):Nat→World
 | 0=>w
 | k+1=>match ps[k]? with
  | some (some a)=>(setPs w ps val k).setCell a (.int .i64 (val k:Nat))
  | _=>setPs w ps val k
theorem setPs_size (w:World) (ps:List (Option Addr)) (val:Nat→Nat) (k:Nat):(setPs w ps val k).heap.size=w.heap.size:=by
 induction k with
 | zero=>rfl
 | succ k ih =>
  simp only [setPs]
  split
  ·simpa [World.setCell] using ih
  ·exact ih
theorem setPs_cell {w:World} {ps:List (Option Addr)} {val:Nat→Nat} {a:Addr} {v:Value} (h:w.cell? a=some v) (k:Nat):∃ v',(setPs w ps val k).cell? a=some v':=by
 induction k with
 | zero=>exact ⟨v,h⟩
 | succ k ih =>
  obtain ⟨v',hv⟩:=ih
  simp only [setPs]
  split
  ·exact cell?_setCell_some hv
  ·exact ⟨v',hv⟩
theorem setPs_frozen (w:World) (ps:List (Option Addr)) (val:Nat→Nat) (a:Addr) (k:Nat):(setPs w ps val k).frozen? a=w.frozen? a:=by
 induction k with
 | zero=>rfl
 | succ k ih =>
  simp only [setPs]
  split
  ·rw [World.frozen?_setCell];exact ih
  ·exact ih
theorem setPs_keeps (w:World) (ps:List (Option Addr)) (val:Nat→Nat) (k:Nat):Keeps w (setPs w ps val k) (fun x=>∃ a,some a∈ps∧a.block=x):=by
 induction k with
 | zero=>exact Keeps.refl _ _
 | succ k ih =>
  simp only [setPs]
  split
  ·rename_i a ha
   exact ih.trans (Keeps.set _ _ _) (fun _ h=>h) (fun x _ hx=>⟨a,List.mem_of_getElem? ha,hx.symm⟩)
  ·exact ih
theorem Keeps.both {a b:World} {S:Nat→Prop} (h:Keeps a b S) (p:Addr) (v:Value):Keeps (a.setCell p v) (b.setCell p v) S :=
 ⟨h.os,h.tape,h.output,by simpa [World.setCell] using h.size,fun k hk hn=>by
  simp only [World.setCell,Array.size_modify] at hk
  have:=h.block k hk hn
  simp only [World.setCell,Array.getElem?_modify,this]⟩
set_option maxHeartbeats 2000000 in
theorem rdnums_ptrs (p g s sc:Nat) (rest:List UInt8) (bad:Bool) (ps:List (Option Addr)) (w:World) (h:RdAt w p g rest bad) (hm:rest.length≤140737488351232) (hl:ps.length≤1000)
 (hrow:∀ i,(hi:i<ps.length)→w.cell? ⟨s,i,none⟩=some (.pointer ps[i])) (hs:s<w.heap.size) (hsp:s≠p)
 (hps:∀ a,some a∈ps→a.block≠p∧a.block≠s∧(0<rest.length→a.block≠g)∧(∃ v,w.cell? a=some v)∧w.frozen? a=false) :
 Calls Tryz.prog 49 #[.pointer (some ⟨p,0,none⟩),.slice (some ⟨s,0,none⟩) ps.length sc] w fun e w'=>e=.returned (.tuple #[])∧RdAt w' p g (rdSt rest bad ps.length).1 (rdSt rest bad ps.length).2∧Keeps (setPs w ps (rdVal rest bad) ps.length) w' (fun x=>x=p):=by
 have Hrow:=Lib.hid hrow
 have Hps:=Lib.hid hps
 have H:=Lib.hid h
 clear hrow hps h
 go_enter Tryz.func49,Tryz.ntmps49
 go_wp2_with fail
 go_loopw [9] (fun s9 wr=>∃ k:Nat,s9=.int .i64 k∧k≤ps.length∧Hid (RdAt wr p g (rdSt rest bad k).1 (rdSt rest bad k).2)∧Hid (Keeps (setPs w ps (rdVal rest bad) k) wr (fun x=>x=p))) (fun s9 _=>ps.length - (intOf s9).toNat)
 case atStart=>exact ⟨0,rfl,by omega,H,Keeps.refl _ _⟩
 case round =>
  obtain ⟨k,rfl,hk,HR,HK⟩:=hrel
  clear H
  by_cases hlt:k<ps.length
  ·obtain ⟨q,hq⟩:∃ q,q=ps[k]:=⟨_,rfl⟩
   have hmem:q∈ps:=by rw [hq];exact List.getElem_mem _
   have hat:ps[k]?=some q:=by rw [hq];exact List.getElem?_eq_getElem hlt
   have hrk:w.cell? ⟨s,k,none⟩=some (.pointer q):=by rw [hq];exact Hrow.out k hlt
   have hsS:¬∃ a,some a∈ps∧a.block=s:=fun ⟨a,ha,e⟩=>(Hps.out a ha).2.1 e
   have hc:=((HK.out.cell (p:=⟨s,k,none⟩) (by rw [setPs_size];exact hs) hsp).trans ((setPs_keeps w ps (rdVal rest bad) k).cell (p:=⟨s,k,none⟩) hs hsS)).trans hrk
   have hrl:=rdSt_le rest bad k
   have Hq:=Lib.hid (⟨hmem,hat⟩:_∧_)
   have HsS:=Lib.hid hsS
   obtain ⟨v,hv⟩:∃ v,v=rdVal rest bad k:=⟨_,rfl⟩
   have hcall:=rdnum_t p g _ _ wr HR.out (by omega)
   rw [show (numT (rdSt rest bad k).1 (rdSt rest bad k).2).1=v from hv.symm,show (numT (rdSt rest bad k).1 (rdSt rest bad k).2).2.1=(rdSt rest bad (k+1)).1 from rfl,show (numT (rdSt rest bad k).1 (rdSt rest bad k).2).2.2=(rdSt rest bad (k+1)).2 from rfl] at hcall
   have Hcall:=Lib.hid hcall
   have Hv:=Lib.hid hv
   clear hq hmem hat hrk hsS hcall hv
   go_wp2_with fail
   refine Hcall.out.mono ?_
   rintro e w1 ⟨rfl,hr1,hk1⟩
   have HR1:=Lib.hid hr1
   have HK1:=Lib.hid (HK.out.trans hk1 (fun _ h=>h) (fun _ _ h=>h))
   clear hr1 hk1 HR HK hc
   cases q with
   | none =>
    go_wp2_with fail
    go_roundw
    case rel=>exact ⟨k+1,by go_num,by omega,HR1,by have:=HK1.out;simp only [Hid,setPs,Hq.out.2];exact this⟩
    case measure=>simp [intOf];omega
   | some a =>
    obtain ⟨n1,n2,n3,⟨v0,n4⟩,n5⟩:=Hps.out a Hq.out.1
    obtain ⟨v1,hc1⟩:=setPs_cell (ps:=ps) (val:=rdVal rest bad) n4 k
    have hlt1:a.block<w.heap.size:=lt_of_cellB n4
    have hc2:=(HK1.out.cell (p:=a) (by rw [setPs_size];exact hlt1) n1).trans hc1
    have hf2:=((HK1.out.frozen (p:=a) (by rw [setPs_size];exact hlt1) n1).trans (setPs_frozen w ps (rdVal rest bad) a k)).trans n5
    have hrl1:=rdSt_le rest bad (k+1)
    have N1:=Lib.hid (⟨n1,fun h=>n3 (Nat.lt_of_lt_of_le h hrl1)⟩:a.block≠p∧(0<(rdSt rest bad (k+1)).1.length→a.block≠g))
    clear n1 n2 n3 n4 n5 hc1 hrl1 hrl
    go_wp2_with fail
    go_roundw
    case rel=>exact ⟨k+1,by go_num,by omega,HR1.out.stay (Keeps.set _ _ _) (fun h=>N1.out.1 h.symm) (fun hl h=>N1.out.2 hl h.symm),by
     have:=HK1.out.both a (.int .i64 (v:Nat))
     simp only [Hid,setPs,Hq.out.2,←Hv.out]
     exact this⟩
    case measure=>simp [intOf];omega
  ·obtain rfl:k=ps.length:=by omega
   go_wp2_with fail
   go_end0
   exact ⟨rfl,HR.out,HK.out⟩
end Go.Proofs.YtogamdaomdoapaaGreat
namespace Go.Proofs.YtogamdaomdoapaaGreat
theorem numR_enc:∀ (m n i u:Nat) (r:List UInt8),n<m→i<9→(0<i→0<n)→u+n * 128 ^ i≤4611686018427387904→numR i u (encN n++r)=some (u+n * 128 ^ i,r)
 | 0,_,_,_,_,h,_,_,_=>by omega
 | m+1,n,i,u,r,h,hi,h0,hle=>by
  have hp:0<128 ^ i:=Nat.pow_pos (by omega)
  by_cases h128:n<128
  ·rw [encN_small h128]
   simp only [List.cons_append,List.nil_append,numR]
   have hc:(UInt8.ofNat n).toNat=n:=by simp;omega
   rw [if_neg,hc,if_pos h128,if_neg (by omega)]
   rintro (h1 | ⟨h1,h2⟩)
   ·omega
   ·have:=congrArg UInt8.toNat h2
    rw [hc,UInt8.toNat_zero] at this
    have:=h0 h1
    omega
  ·have hi8:i<8:=by
    apply Nat.lt_of_not_le
    intro h8
    have h1:128 ^ 8≤128 ^ i:=Nat.pow_le_pow_right (by omega) h8
    have h2:128 * 128 ^ 8≤n * 128 ^ i:=Nat.mul_le_mul (by omega) h1
    have h3:(128:Nat) * 128 ^ 8=9223372036854775808:=by decide
    omega
   have hn62:n≤4611686018427387904:=by
    have:n * 1≤n * 128 ^ i:=Nat.mul_le_mul_left _ hp
    omega
   rw [encN_big h128 hn62]
   simp only [List.cons_append,numR]
   have hc:(UInt8.ofNat (n % 128+128)).toNat=n % 128+128:=by simp;omega
   have hsum:u+n % 128 * 128 ^ i+n / 128 * 128 ^ (i+1)=u+n * 128 ^ i:=by
    have h1:n / 128 * 128 ^ (i+1)=n / 128 * 128 * 128 ^ i:=by rw [Nat.pow_succ,Nat.mul_assoc,Nat.mul_comm 128]
    have h2:n % 128 * 128 ^ i+n / 128 * 128 * 128 ^ i=n * 128 ^ i:=by
     rw [←Nat.add_mul];congr 1;omega
    omega
   rw [if_neg,hc,if_neg (by omega),show (n % 128+128) % 128=n % 128 from by omega,numR_enc m (n / 128) (i+1) _ r (by omega) (by omega) (by omega) (by omega),hsum]
   rintro (h1 | ⟨h1,h2⟩)
   ·omega
   ·have:=congrArg UInt8.toNat h2
    rw [hc,UInt8.toNat_zero] at this
    omega
theorem numOf_enc (n:Nat) (r:List UInt8) (h:n≤4611686018427387904):numOf (encN n++r)=some (n,r):=by
 have:=numR_enc (n+1) n 0 0 r (by omega) (by omega) (by omega) (by omega)
 simpa [numOf] using this
theorem bytesOf_enc (l r:List UInt8) (h:l.length≤4611686018427387904):bytesOf (encRow l++r)=some (l,r):=by
 unfold bytesOf encRow
 rw [List.append_assoc,numOf_enc _ _ h]
 simp
theorem tookOf_enc (l r:List UInt8) (bad:Bool) (h:l.length≤4611686018427387904):tookOf (encRow l++r) bad=(l,r,bad):=by
 unfold tookOf
 rw [bytesOf_enc l r h]
end Go.Proofs.YtogamdaomdoapaaGreat
namespace Go.Proofs.YtogamdaomdoapaaGreat
open Go.RowKit
set_option maxRecDepth 20000
theorem numR_back:∀ (l:List UInt8) (i u n:Nat) (r:List UInt8),numR i u l=some (n,r)→u<128 ^ i→∃ m,n=u+m * 128 ^ i∧l=encN m++r∧(0<i→0<m)
 | [],i,u,n,r,h,_=>by simp [numR] at h
 | c::t,i,u,n,r,h,hu=>by
  have hle:=(numR_left (c::t) i u n r h).1
  rw [numR] at h
  split at h
  ·cases h
  ·rename_i hc
   split at h
   ·rename_i hlt
    split at h
    ·cases h
    ·simp only [Option.some.injEq,Prod.mk.injEq] at h
     obtain ⟨rfl,rfl⟩:=h
     refine ⟨c.toNat,rfl,?_,fun hi=>?_⟩
     ·rw [encN_small hlt];simp
     ·rcases Nat.eq_zero_or_pos c.toNat with h0 | h0
      ·exact absurd (.inr ⟨hi,UInt8.toNat_inj.1 (by simpa using h0)⟩) hc
      ·exact h0
   ·rename_i hge
    have hu2:=digit_lt i u (c.toNat % 128) hu (Nat.mod_lt _ (by omega))
    obtain ⟨m,hn,ht,hm⟩:=numR_back t (i+1) _ n r h hu2
    have hm:=hm (by omega)
    have hlt:=c.toNat_lt
    have hn2:n=u+(c.toNat % 128+128 * m) * 128 ^ i:=by
     rw [hn,Nat.pow_succ,Nat.add_mul,←Nat.add_assoc]
     congr 1
     generalize 128 ^ i=q
     ac_rfl
    refine ⟨c.toNat % 128+128 * m,hn2,?_,fun _=>by omega⟩
    have hbig:¬(c.toNat % 128+128 * m<128):=by omega
    have hp:0<128 ^ i:=Nat.pow_pos (by omega)
    have hsz:c.toNat % 128+128 * m≤4611686018427387904:=by
     have:=Nat.le_mul_of_pos_right (c.toNat % 128+128 * m) hp
     omega
    rw [encN_big hbig hsz,show (c.toNat % 128+128 * m) % 128+128=c.toNat by omega,show (c.toNat % 128+128 * m) / 128=m by omega,ht]
    simp
theorem numT_back {rest:List UInt8} {bad:Bool} (h:(numT rest bad).2.2=false):bad=false∧rest=encN (numT rest bad).1++(numT rest bad).2.1:=by
 unfold numT at h ⊢
 cases ho:numOf rest with
 | none=>rw [ho] at h;simp at h
 | some o =>
  obtain ⟨n,r⟩:=o
  rw [ho] at h
  simp only at h ⊢
  obtain ⟨m,hn,hl,-⟩:=numR_back rest 0 0 n r ho (by simp)
  obtain rfl:n=m:=by simpa using hn
  exact ⟨h,hl⟩
theorem tookOf_back {rest:List UInt8} {bad:Bool} (h:(tookOf rest bad).2.2=false):bad=false∧rest=encRow (tookOf rest bad).1++(tookOf rest bad).2.1:=by
 unfold tookOf bytesOf at h ⊢
 cases ho:numOf rest with
 | none=>rw [ho] at h;simp at h
 | some o =>
  obtain ⟨n,r⟩:=o
  rw [ho] at h
  obtain ⟨m,hn,hl,-⟩:=numR_back rest 0 0 n r ho (by simp)
  obtain rfl:n=m:=by simpa using hn
  by_cases hc:n≤r.length
  ·simp only [hc,if_true] at h ⊢
   refine ⟨h,?_⟩
   unfold encRow
   rw [List.length_take,Nat.min_eq_left hc,List.append_assoc,List.take_append_drop]
   exact hl
  ·simp only [hc,if_false] at h
   cases h
theorem rdSt_back {rest:List UInt8} {bad:Bool} {k:Nat} (h:(rdSt rest bad (k+1)).2=false):(rdSt rest bad k).2=false∧(rdSt rest bad k).1=encN (rdVal rest bad k)++(rdSt rest bad (k+1)).1:=numT_back h
theorem rdVal_le (rest:List UInt8) (bad:Bool) (k:Nat):rdVal rest bad k≤4611686018427387904:=(numT_le _ _).2
theorem numT_enc (n:Nat) (r:List UInt8) (bad:Bool) (h:n≤4611686018427387904):numT (encN n++r) bad=(n,r,bad):=by
 unfold numT;rw [numOf_enc n r h]
theorem rdSt_shift (rest:List UInt8) (bad:Bool) (k:Nat):rdSt rest bad (k+1)=rdSt (numT rest bad).2.1 (numT rest bad).2.2 k:=by
 induction k with
 | zero=>rfl
 | succ k ih=>rw [rdSt,ih];rfl
theorem rdVal_shift (rest:List UInt8) (bad:Bool) (k:Nat):rdVal rest bad (k+1)=rdVal (numT rest bad).2.1 (numT rest bad).2.2 k:=by
 unfold rdVal;rw [rdSt_shift]
theorem rdSt_enc (n:Nat) (r:List UInt8) (bad:Bool) (k:Nat) (h:n≤4611686018427387904):rdSt (encN n++r) bad (k+1)=rdSt r bad k:=by rw [rdSt_shift,numT_enc n r bad h]
theorem rdVal_enc (n:Nat) (r:List UInt8) (bad:Bool) (k:Nat) (h:n≤4611686018427387904):rdVal (encN n++r) bad (k+1)=rdVal r bad k:=by rw [rdVal_shift,numT_enc n r bad h]
theorem rdVal_enc0 (n:Nat) (r:List UInt8) (bad:Bool) (h:n≤4611686018427387904):rdVal (encN n++r) bad 0=n:=by unfold rdVal;simp only [rdSt];rw [numT_enc n r bad h]
end Go.Proofs.YtogamdaomdoapaaGreat
namespace Go.Proofs.YtogamdaomdoapaaGreat
open Go.RowKit
structure Dq where
 k:Nat
 c:Nat
 s:Nat
 key:List UInt8
 who:List UInt8
 tkey:List UInt8
 twho:List UInt8
 i:Nat
 n:Nat
 p:Nat
 b:Nat
 d:Nat
 rest:List UInt8
 bad:Bool
def tk1 (l:List UInt8):=tookOf (rdSt l false 3).1 (rdSt l false 3).2
def tk2 (l:List UInt8):=tookOf (tk1 l).2.1 (tk1 l).2.2
def tk3 (l:List UInt8):=tookOf (tk2 l).2.1 (tk2 l).2.2
def tk4 (l:List UInt8):=tookOf (tk3 l).2.1 (tk3 l).2.2
def decD (l:List UInt8):Dq:=⟨rdVal l false 0,rdVal l false 1,rdVal l false 2,(tk1 l).1,(tk2 l).1,(tk3 l).1,(tk4 l).1,
 rdVal (tk4 l).2.1 (tk4 l).2.2 0,rdVal (tk4 l).2.1 (tk4 l).2.2 1,rdVal (tk4 l).2.1 (tk4 l).2.2 2,rdVal (tk4 l).2.1 (tk4 l).2.2 3,rdVal (tk4 l).2.1 (tk4 l).2.2 4,(rdSt (tk4 l).2.1 (tk4 l).2.2 5).1,(rdSt (tk4 l).2.1 (tk4 l).2.2 5).2⟩
def dqQ (d:Dq):Rq:=⟨d.k,d.c,d.s,⟨d.key.toArray⟩,⟨d.who.toArray⟩,⟨d.tkey.toArray⟩,⟨d.twho.toArray⟩,d.i,d.n,d.p,d.b==1,d.d⟩
def wholeD (d:Dq):Bool:=!d.bad&&d.rest.isEmpty
def encD (d:Dq):List UInt8:=encN d.k++(encN d.c++(encN d.s++(encRow d.key++(encRow d.who++(encRow d.tkey++(encRow d.twho++(encN d.i++(encN d.n++(encN d.p++(encN d.b++encN d.d))))))))))
theorem app_eq {a x r r':List UInt8} (h:a=x++r) (k:r=r'):a=x++r':=k▸h
theorem took_step {s:List UInt8 × Bool} {t:List UInt8 × List UInt8 × Bool} (ht:t=tookOf s.1 s.2) (h:t.2.2=false):s.2=false∧s.1=encRow t.1++t.2.1:=by subst ht;exact tookOf_back h
theorem rdSt_zero (r:List UInt8) (b:Bool):rdSt r b 0=(r,b):=rfl
theorem rdSt_step {r:List UInt8} {b:Bool} {k j:Nat} (hj:j=k+1) (h:(rdSt r b j).2=false):(rdSt r b k).2=false∧(rdSt r b k).1=encN (rdVal r b k)++(rdSt r b j).1:=by subst hj;exact rdSt_back h
theorem decD_back {l:List UInt8} (h:wholeD (decD l)=true):l=encD (decD l):=by
 have h5:(rdSt (tk4 l).2.1 (tk4 l).2.2 5).2=false∧(rdSt (tk4 l).2.1 (tk4 l).2.2 5).1=[]:=by
  simp only [wholeD,Bool.and_eq_true,Bool.not_eq_true',List.isEmpty_iff,decD] at h
  exact h
 obtain ⟨h5,hr⟩:=h5
 obtain ⟨h4,e4⟩:=rdSt_step (k:=4) rfl h5
 obtain ⟨h3,e3⟩:=rdSt_step (k:=3) rfl h4
 obtain ⟨h2,e2⟩:=rdSt_step (k:=2) rfl h3
 obtain ⟨h1,e1⟩:=rdSt_step (k:=1) rfl h2
 obtain ⟨h0,e0⟩:=rdSt_step (k:=0) rfl h1
 rw [hr,List.append_nil] at e4
 have e3:=app_eq e3 e4
 have e2:=app_eq e2 e3
 have e1:=app_eq e1 e2
 have e0:=app_eq e0 e1
 rw [rdSt_zero] at h0 e0
 obtain ⟨t4,f4⟩:=took_step (s:=(tk3 l).2) (t:=tk4 l) rfl h0
 obtain ⟨t3,f3⟩:=took_step (s:=(tk2 l).2) (t:=tk3 l) rfl t4
 obtain ⟨t2,f2⟩:=took_step (s:=(tk1 l).2) (t:=tk2 l) rfl t3
 obtain ⟨t1,f1⟩:=took_step (s:=rdSt l false 3) (t:=tk1 l) rfl t2
 have f4:=app_eq f4 e0
 have f3:=app_eq f3 f4
 have f2:=app_eq f2 f3
 have f1:=app_eq f1 f2
 obtain ⟨g2,q2⟩:=rdSt_step (k:=2) rfl t1
 obtain ⟨g1,q1⟩:=rdSt_step (k:=1) rfl g2
 obtain ⟨g0,q0⟩:=rdSt_step (k:=0) rfl g1
 have q2:=app_eq q2 f1
 have q1:=app_eq q1 q2
 have q0:=app_eq q0 q1
 rw [rdSt_zero] at q0
 simp only [encD,decD]
 exact q0
theorem decD_enc (d:Dq) (hk:d.k≤4611686018427387904) (hc:d.c≤4611686018427387904) (hs:d.s≤4611686018427387904) (hi:d.i≤4611686018427387904) (hn:d.n≤4611686018427387904) (hp:d.p≤4611686018427387904) (hb:d.b≤4611686018427387904) (hd:d.d≤4611686018427387904)
 (h1:d.key.length≤4611686018427387904) (h2:d.who.length≤4611686018427387904) (h3:d.tkey.length≤4611686018427387904) (h4:d.twho.length≤4611686018427387904) (hr:d.rest=[]) (hbad:d.bad=false):decD (encD d)=d:=by
 have t1:tk1 (encD d)=(d.key,encRow d.who++(encRow d.tkey++(encRow d.twho++(encN d.i++(encN d.n++(encN d.p++(encN d.b++encN d.d)))))),false):=by
  unfold tk1 encD
  rw [rdSt_enc _ _ _ _ hk,rdSt_enc _ _ _ _ hc,rdSt_enc _ _ _ _ hs]
  exact tookOf_enc _ _ _ h1
 have t2:tk2 (encD d)=(d.who,encRow d.tkey++(encRow d.twho++(encN d.i++(encN d.n++(encN d.p++(encN d.b++encN d.d))))),false):=by
  unfold tk2;rw [t1];exact tookOf_enc _ _ _ h2
 have t3:tk3 (encD d)=(d.tkey,encRow d.twho++(encN d.i++(encN d.n++(encN d.p++(encN d.b++encN d.d)))),false):=by
  unfold tk3;rw [t2];exact tookOf_enc _ _ _ h3
 have t4:tk4 (encD d)=(d.twho,encN d.i++(encN d.n++(encN d.p++(encN d.b++encN d.d))),false):=by
  unfold tk4;rw [t3];exact tookOf_enc _ _ _ h4
 have z:encN d.d=encN d.d++[]:=(List.append_nil _).symm
 have e:decD (encD d)=⟨d.k,d.c,d.s,d.key,d.who,d.tkey,d.twho,d.i,d.n,d.p,d.b,d.d,[],false⟩:=by
  unfold decD
  rw [t1,t2,t3,t4]
  simp only [encD]
  rw [z]
  rw [rdVal_enc0 _ _ _ hk,rdVal_enc _ _ _ _ hk,rdVal_enc0 _ _ _ hc,rdVal_enc _ _ _ _ hk,rdVal_enc _ _ _ _ hc,rdVal_enc0 _ _ _ hs]
  rw [rdVal_enc0 _ _ _ hi,rdVal_enc _ _ _ 0 hi,rdVal_enc0 _ _ _ hn,rdVal_enc _ _ _ 1 hi,rdVal_enc _ _ _ _ hn,rdVal_enc0 _ _ _ hp,rdVal_enc _ _ _ 2 hi,rdVal_enc _ _ _ _ hn,rdVal_enc _ _ _ _ hp,rdVal_enc0 _ _ _ hb,rdVal_enc _ _ _ 3 hi,rdVal_enc _ _ _ _ hn,rdVal_enc _ _ _ _ hp,rdVal_enc _ _ _ _ hb,rdVal_enc0 _ _ _ hd]
  rw [rdSt_enc _ _ _ _ hi,rdSt_enc _ _ _ _ hn,rdSt_enc _ _ _ _ hp,rdSt_enc _ _ _ _ hb,rdSt_enc _ _ _ _ hd]
  rfl
 rw [e]
 obtain ⟨k,c,s,key,who,tkey,twho,i,n,p,b,dd,rest,bad⟩:=d
 simp only at hr hbad
 subst hr hbad
 rfl
theorem may_bounds {o:Rq} (h:mayO o=true):(1≤o.kind∧o.kind≤7)∧(1≤o.client∧o.client≤1048576)∧(1≤o.seq∧o.seq≤1099511627776)∧(0≤o.item∧o.item≤3)∧(0≤o.count∧o.count≤1048576)∧(0≤o.price∧o.price≤1024)∧(0≤o.id∧o.id≤1099511627776):=by
 obtain ⟨hp,hk,hc⟩:=may_kind h
 rcases kind_parts hk with ⟨hkk,h⟩ | ⟨hkk,h⟩ | ⟨hkk,h⟩ | ⟨hkk,h⟩ | ⟨hkk,h⟩
 ·simp only [cntO,decide_eq_true_eq] at h;omega
 ·simp only [sendO,cntO,Bool.and_eq_true,decide_eq_true_eq] at h;omega
 ·simp only [ordO,cntO,Bool.and_eq_true,decide_eq_true_eq] at h;omega
 ·simp only [canO,decide_eq_true_eq] at h;omega
 ·simp only [barO,decide_eq_true_eq] at h;omega
theorem clampN_of {v:Int} (h0:0≤v) (h:v≤4611686018427387904):((clampN v:Nat):Int)=v:=by unfold clampN;omega
theorem clampN_nat {n:Nat} (h:n≤4611686018427387904):clampN (n:Int)=n:=by unfold clampN;omega
def qD (o:Rq):Dq:=⟨clampN o.kind,clampN o.client,clampN o.seq,o.key.data.toList,o.who.data.toList,o.tkey.data.toList,o.twho.data.toList,clampN o.item,clampN o.count,clampN o.price,clampN (b1 o.buy),clampN o.id,[],false⟩
theorem encD_q (o:Rq):encD (qD o)=encO o:=by
 simp only [encD,qD,encO,encs,encS,List.flatMap_cons,List.flatMap_nil,List.append_nil,List.append_assoc]
theorem decD_q {o:Rq} (h:mayO o=true):decD (encO o)=qD o:=by
 rw [←encD_q]
 have hz:=may_sizes h
 have e:∀ s:ByteArray,s.data.toList.length=s.size:=fun s=>by rw [Array.length_toList];rfl
 have h1:(qD o).key.length≤4611686018427387904:=by show o.key.data.toList.length≤_;rw [e];omega
 have h2:(qD o).who.length≤4611686018427387904:=by show o.who.data.toList.length≤_;rw [e];omega
 have h3:(qD o).tkey.length≤4611686018427387904:=by show o.tkey.data.toList.length≤_;rw [e];omega
 have h4:(qD o).twho.length≤4611686018427387904:=by show o.twho.data.toList.length≤_;rw [e];omega
 have c:∀ v,clampN v≤4611686018427387904:=clampN_le
 refine decD_enc (qD o) ?_ ?_ ?_ ?_ ?_ ?_ ?_ ?_ h1 h2 h3 h4 rfl rfl
 all_goals (simp only [qD];exact c _)
theorem dqQ_q {o:Rq} (h:mayO o=true):dqQ (qD o)=o:=by
 have hb:=may_bounds h
 obtain ⟨kind,client,seq,key,who,tkey,twho,item,count,price,buy,id⟩:=o
 simp only at hb
 have e:∀ s:ByteArray,(⟨s.data.toList.toArray⟩:ByteArray)=s:=fun s=>by simp
 simp only [dqQ,qD,e,Rq.mk.injEq,true_and]
 refine ⟨clampN_of (by omega) (by omega),clampN_of (by omega) (by omega),clampN_of (by omega) (by omega),clampN_of (by omega) (by omega),clampN_of (by omega) (by omega),clampN_of (by omega) (by omega),?_,clampN_of (by omega) (by omega)⟩
 cases buy<;>rfl
theorem encD_of {d:Dq} (hk:d.k≤4611686018427387904) (hc:d.c≤4611686018427387904) (hs:d.s≤4611686018427387904) (hi:d.i≤4611686018427387904) (hn:d.n≤4611686018427387904) (hp:d.p≤4611686018427387904) (hb:d.b≤1) (hd:d.d≤4611686018427387904):encO (dqQ d)=encD d:=by
 rw [←encD_q]
 have e1:clampN (b1 (d.b==1))=d.b:=by
  have:d.b=0∨d.b=1:=by omega
  rcases this with h | h<;>rw [h]<;>rfl
 simp only [encD,qD,dqQ,clampN_nat hk,clampN_nat hc,clampN_nat hs,clampN_nat hi,clampN_nat hn,clampN_nat hp,clampN_nat hd,e1]
theorem decD_le (l:List UInt8):(decD l).k≤4611686018427387904∧(decD l).c≤4611686018427387904∧(decD l).s≤4611686018427387904∧(decD l).i≤4611686018427387904∧(decD l).n≤4611686018427387904∧(decD l).p≤4611686018427387904∧(decD l).b≤4611686018427387904∧(decD l).d≤4611686018427387904:=by
 simp only [decD]
 exact ⟨rdVal_le _ _ _,rdVal_le _ _ _,rdVal_le _ _ _,rdVal_le _ _ _,rdVal_le _ _ _,rdVal_le _ _ _,rdVal_le _ _ _,rdVal_le _ _ _⟩
def goodD (l:List UInt8):Bool:=wholeD (decD l)&&decide ((decD l).b≤1)&&mayO (dqQ (decD l))
theorem goodD_prog (l:List UInt8):(wholeD (decD l)&&mayO (dqQ (decD l))&&(l==encO (dqQ (decD l))))=goodD l:=by
 unfold goodD
 cases hw:wholeD (decD l) with
 | false=>simp only [Bool.false_and]
 | true =>
  cases hm:mayO (dqQ (decD l)) with
  | false=>simp only [Bool.and_false,Bool.false_and]
  | true =>
   simp only [Bool.true_and,Bool.and_true]
   by_cases hb:(decD l).b≤1
   ·obtain ⟨b1,b2,b3,b4,b5,b6,-,b8⟩:=decD_le l
    have h1:=encD_of b1 b2 b3 b4 b5 b6 hb b8
    have h2:=decD_back hw
    generalize decD l=d at *
    rw [h1,←h2]
    simp [hb]
   ·have hne:l≠encO (dqQ (decD l)):=fun e=>by
     have h1:=decD_q hm
     rw [←e] at h1
     generalize decD l=d at *
     have h2:d.b=clampN (b1 (d.b==1)):=congrArg Dq.b h1
     have h3:(d.b==1)=false:=by rw [beq_eq_false_iff_ne];omega
     rw [h3] at h2
     have h4:clampN (b1 false)=0:=rfl
     omega
    rw [beq_eq_false_iff_ne.2 hne]
    simp [hb]
end Go.Proofs.YtogamdaomdoapaaGreat
namespace Go.Proofs.YtogamdaomdoapaaGreat
open Go.RowKit
structure Rp where
 err:Int
 id:Int
 i:It
def mayR (r:Rp):Bool:=decide (0≤r.err∧r.err≤19∧0≤r.id∧r.id≤1099511627776)&&isI r.i
def encItB (i:It):List UInt8:=encs [i.a,i.b,i.c,i.d]
def encP (r:Rp):List UInt8:=encs [r.err,r.id]++encItB r.i
def rpOf (l:List UInt8):Rp:=⟨rdVal l false 0,rdVal l false 1,⟨rdVal l false 2,rdVal l false 3,rdVal l false 4,rdVal l false 5⟩⟩
def wholeP (l:List UInt8):Bool:=!(rdSt l false 6).2&&(rdSt l false 6).1.isEmpty
def goodP (l:List UInt8):Bool:=wholeP l&&mayR (rpOf l)
theorem mayR_iff (r:Rp):mayR r=true↔(0≤r.err∧r.err≤19∧0≤r.id∧r.id≤1099511627776)∧isI r.i=true:=by simp [mayR]
theorem rd_six (n0 n1 n2 n3 n4 n5:Nat) (h0:n0≤4611686018427387904) (h1:n1≤4611686018427387904) (h2:n2≤4611686018427387904) (h3:n3≤4611686018427387904) (h4:n4≤4611686018427387904) (h5:n5≤4611686018427387904) (l:List UInt8) (hl:l=encN n0++(encN n1++(encN n2++(encN n3++(encN n4++(encN n5++[])))))) :
 rdVal l false 0=n0∧rdVal l false 1=n1∧rdVal l false 2=n2∧rdVal l false 3=n3∧rdVal l false 4=n4∧rdVal l false 5=n5∧rdSt l false 6=([],false):=by
 subst hl
 refine ⟨?_,?_,?_,?_,?_,?_,?_⟩
 ·rw [rdVal_enc0 _ _ _ h0]
 ·rw [rdVal_enc _ _ _ 0 h0,rdVal_enc0 _ _ _ h1]
 ·rw [rdVal_enc _ _ _ 1 h0,rdVal_enc _ _ _ 0 h1,rdVal_enc0 _ _ _ h2]
 ·rw [rdVal_enc _ _ _ 2 h0,rdVal_enc _ _ _ 1 h1,rdVal_enc _ _ _ 0 h2,rdVal_enc0 _ _ _ h3]
 ·rw [rdVal_enc _ _ _ 3 h0,rdVal_enc _ _ _ 2 h1,rdVal_enc _ _ _ 1 h2,rdVal_enc _ _ _ 0 h3,rdVal_enc0 _ _ _ h4]
 ·rw [rdVal_enc _ _ _ 4 h0,rdVal_enc _ _ _ 3 h1,rdVal_enc _ _ _ 2 h2,rdVal_enc _ _ _ 1 h3,rdVal_enc _ _ _ 0 h4,rdVal_enc0 _ _ _ h5]
 ·rw [rdSt_enc _ _ _ 5 h0,rdSt_enc _ _ _ 4 h1,rdSt_enc _ _ _ 3 h2,rdSt_enc _ _ _ 2 h3,rdSt_enc _ _ _ 1 h4,rdSt_enc _ _ _ 0 h5]
  rfl
theorem encP_eq (r:Rp):encP r=encN (clampN r.err)++(encN (clampN r.id)++(encN (clampN r.i.a)++(encN (clampN r.i.b)++(encN (clampN r.i.c)++(encN (clampN r.i.d)++[]))))):=by
 simp only [encP,encItB,encs,List.flatMap_cons,List.flatMap_nil,List.append_nil,List.append_assoc]
theorem rpOf_enc {r:Rp} (h:mayR r=true):goodP (encP r)=true∧rpOf (encP r)=r:=by
 have hm:=h
 rw [mayR_iff] at hm
 obtain ⟨h1,h2⟩:=hm
 rw [isI_iff] at h2
 obtain ⟨v0,v1,v2,v3,v4,v5,st⟩:=rd_six _ _ _ _ _ _ (clampN_le _) (clampN_le _) (clampN_le _) (clampN_le _) (clampN_le _) (clampN_le _) (encP r) (encP_eq r)
 have e:rpOf (encP r)=r:=by
  unfold rpOf
  rw [v0,v1,v2,v3,v4,v5]
  obtain ⟨err,id,a,b,c,d⟩:=r
  simp only at h1 h2
  simp only [Rp.mk.injEq,It.mk.injEq]
  exact ⟨clampN_of (by omega) (by omega),clampN_of (by omega) (by omega),clampN_of (by omega) (by omega),clampN_of (by omega) (by omega),clampN_of (by omega) (by omega),clampN_of (by omega) (by omega)⟩
 refine ⟨?_,e⟩
 unfold goodP wholeP
 rw [e,h,st]
 rfl
theorem encP_len (r:Rp):(encs [r.err,r.id]).length≤20∧(encItB r.i).length≤40:=by
 have h1:=encs_length [r.err,r.id]
 have h2:=encs_length [r.i.a,r.i.b,r.i.c,r.i.d]
 simp only [encItB,List.length_cons,List.length_nil] at h1 h2 ⊢
 omega
def zRp:Rp:=⟨0,0,⟨0,0,0,0⟩⟩
def repR (l:List UInt8):Rp:=if goodP l=true then rpOf l else zRp
def repE (l:List UInt8):Int:=if goodP l=true then 0 else 3
end Go.Proofs.YtogamdaomdoapaaGreat
namespace Go.Proofs.YtogamdaomdoapaaGreat
open Go.RowKit
set_option maxHeartbeats 1000000 in
theorem purse_is (i:It) (w:World) :
 Calls Tryz.prog 145 #[.agg #[.int .i64 i.a,.int .i64 i.b,.int .i64 i.c,.int .i64 i.d]] w fun e w'=>e=.returned (.bool (isI i))∧Below w.heap.size w w':=by
 have i0:∀ w,(Instr.index 39 (.agg #[.int .i64 i.a,.int .i64 i.b,.int .i64 i.c,.int .i64 i.d]) (.int .i64 0)).run Tryz.prog w=.ok (.int .i64 i.a) w:=fun _=>by kernel_rfl
 have i1:∀ w,(Instr.index 39 (.agg #[.int .i64 i.a,.int .i64 i.b,.int .i64 i.c,.int .i64 i.d]) (.int .i64 1)).run Tryz.prog w=.ok (.int .i64 i.b) w:=fun _=>by kernel_rfl
 have i2:∀ w,(Instr.index 39 (.agg #[.int .i64 i.a,.int .i64 i.b,.int .i64 i.c,.int .i64 i.d]) (.int .i64 2)).run Tryz.prog w=.ok (.int .i64 i.c) w:=fun _=>by kernel_rfl
 have i3:∀ w,(Instr.index 39 (.agg #[.int .i64 i.a,.int .i64 i.b,.int .i64 i.c,.int .i64 i.d]) (.int .i64 3)).run Tryz.prog w=.ok (.int .i64 i.d) w:=fun _=>by kernel_rfl
 go_enter Tryz.func145,Tryz.ntmps145
 go_wp2_with fail
 (refine wp_loop_rounds 5 ?_;(repeat any_goals (rw [rounds_succ];go_wp2_with fail)))
 all_goals (go_ret;refine ⟨?_,bg⟩;first | (rw [(isI_false i).2 (by omega)];rfl) | (rw [(isI_iff i).2 (by omega)];rfl))
set_option maxHeartbeats 1000000 in
theorem satrapyref8_is (i:It) (w:World) :
 Calls Tryz.prog 106 #[.agg #[.int .i64 i.a,.int .i64 i.b,.int .i64 i.c,.int .i64 i.d]] w fun e w'=>e=.returned (.bool (isI i))∧Below w.heap.size w w':=by
 have i0:∀ w,(Instr.index 39 (.agg #[.int .i64 i.a,.int .i64 i.b,.int .i64 i.c,.int .i64 i.d]) (.int .i64 0)).run Tryz.prog w=.ok (.int .i64 i.a) w:=fun _=>by kernel_rfl
 have i1:∀ w,(Instr.index 39 (.agg #[.int .i64 i.a,.int .i64 i.b,.int .i64 i.c,.int .i64 i.d]) (.int .i64 1)).run Tryz.prog w=.ok (.int .i64 i.b) w:=fun _=>by kernel_rfl
 have i2:∀ w,(Instr.index 39 (.agg #[.int .i64 i.a,.int .i64 i.b,.int .i64 i.c,.int .i64 i.d]) (.int .i64 2)).run Tryz.prog w=.ok (.int .i64 i.c) w:=fun _=>by kernel_rfl
 have i3:∀ w,(Instr.index 39 (.agg #[.int .i64 i.a,.int .i64 i.b,.int .i64 i.c,.int .i64 i.d]) (.int .i64 3)).run Tryz.prog w=.ok (.int .i64 i.d) w:=fun _=>by kernel_rfl
 go_enter Tryz.func106,Tryz.ntmps106
 go_wp2_with fail
 (refine wp_loop_rounds 5 ?_;(repeat any_goals (rw [rounds_succ];go_wp2_with fail)))
 all_goals (go_ret;refine ⟨?_,bg⟩;first | (rw [(isI_false i).2 (by omega)];rfl) | (rw [(isI_iff i).2 (by omega)];rfl))
end Go.Proofs.YtogamdaomdoapaaGreat