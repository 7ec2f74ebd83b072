/- Texts put together: FrFour, Join, JoinAny, FrHead. -/
import Derived.Test.YtogamdaomdoapaaGreatSa02
import Derived.Test.YtogamdaomdoapaaGreatSa03
import Derived.Test.YtogamdaomdoapaaGreatSa04
import Derived.Test.YtogamdaomdoapaaGreatSa28
import Derived.Laws.BytesArg
import Derived.Lib.SlBytesConst
import Derived.Shelf.Bytes.SlJoin
import Derived.Shelf.Bytes.SlSmallAll
namespace Go.Proofs.YtogamdaomdoapaaGreat.F
set_option maxRecDepth 20000
open Go.RowKit
def Fresh4 (w:World) (l:List UInt8) (e:Ending) (w':World):Prop:=e=.returned (.slice (some ⟨w.heap.size,0,none⟩) 4 4)∧OwnB w' w.heap.size (some ⟨w.heap.size,0,none⟩) 4 l∧Below w.heap.size w w'
theorem bits_or_u32 (a b:Nat) (ha:a<4294967296) (hb:b<4294967296):bits .or .u32 (a:Int) (b:Int)=((a ||| b:Nat):Int):=by
 have hx:a ||| b<2 ^ 32:=Nat.or_lt_two_pow (by omega) (by omega)
 have h1:(BitVec.ofInt 32 (a:Int)).toNat=a:=by
  rw [BitVec.ofInt_natCast,BitVec.toNat_ofNat];exact Nat.mod_eq_of_lt (by omega)
 have h2:(BitVec.ofInt 32 (b:Int)).toNat=b:=by
  rw [BitVec.ofInt_natCast,BitVec.toNat_ofNat];exact Nat.mod_eq_of_lt (by omega)
 show IntKind.u32.wrap ((BitVec.ofInt 32 (a:Int) ||| BitVec.ofInt 32 (b:Int)).toNat:Int)=_
 rw [BitVec.toNat_or,h1,h2,wrap_u32]
 omega
theorem or_top (k a b:Nat) (ha:a<2 ^ k) (hk:b * 2 ^ k<4294967296) (ha2:a<4294967296):bits .or .u32 (a:Int) ((b:Int) * ((2 ^ k:Nat):Int))=((a+b * 2 ^ k:Nat):Int):=by
 rw [←Int.natCast_mul,bits_or_u32 _ _ ha2 hk]
 congr 1
 rw [Nat.mul_comm b,Nat.or_comm,←Nat.two_pow_add_eq_or_of_lt ha,Nat.add_comm]
theorem four_or (a b c d:UInt8):bits .or .u32 (bits .or .u32 (bits .or .u32 (a.toNat:Int) ((b.toNat:Int) * 256)) ((c.toNat:Int) * 65536)) ((d.toNat:Int) * 16777216)=((a.toNat+b.toNat * 256+c.toNat * 65536+d.toNat * 16777216:Nat):Int):=by
 have ha:=a.toNat_lt;have hb:=b.toNat_lt;have hc:=c.toNat_lt;have hd:=d.toNat_lt
 have e1:=or_top 8 a.toNat b.toNat (by omega) (by omega) (by omega)
 have e2:=or_top 16 (a.toNat+b.toNat * 256) c.toNat (by omega) (by omega) (by omega)
 have e3:=or_top 24 (a.toNat+b.toNat * 256+c.toNat * 65536) d.toNat (by omega) (by omega) (by omega)
 simp only [show ((2 ^ 8:Nat):Int)=256 from rfl,show ((2 ^ 16:Nat):Int)=65536 from rfl,show ((2 ^ 24:Nat):Int)=16777216 from rfl,show (2:Nat) ^ 8=256 from rfl,show (2:Nat) ^ 16=65536 from rfl,show (2:Nat) ^ 24=16777216 from rfl] at e1 e2 e3
 rw [e1,e2,e3]
theorem own_four {w:World} {n:Nat} (hn:n<4294967296):OwnB (w.alloc (.cells #[.int .u8 ((n:Int) % 256),.int .u8 ((n:Int) / 256 % 256),.int .u8 ((n:Int) / 65536 % 256),.int .u8 ((n:Int) / 16777216)] 5)) w.heap.size (some ⟨w.heap.size,0,none⟩) 4 (fourB n):=by
 have:=World.ownsRow_lit (base:=w.heap.size) (size:=1) (e:=5) w #[.int .u8 ((n:Int) % 256),.int .u8 ((n:Int) / 256 % 256),.int .u8 ((n:Int) / 65536 % 256),.int .u8 ((n:Int) / 16777216)] 4 (Nat.le_refl _) (by unfold maxLen;omega) (by simp)
 unfold OwnB
 have e:bytV (fourB n)=(#[.int .u8 ((n:Int) % 256),.int .u8 ((n:Int) / 256 % 256),.int .u8 ((n:Int) / 65536 % 256),.int .u8 ((n:Int) / 16777216)]:Array Value).toList:=by
  simp only [bytV,fourB,List.map_cons,List.map_nil,UInt8.toNat_ofNat',List.cons.injEq,Value.int.injEq,true_and,and_true]
  omega
 rw [e]
 exact this
theorem conv_bytes {w:World} {ao:Option Addr} {l:List UInt8} (h:BAt w ao l) (c:Nat):(convert 47 9 (.slice ao l.length c)).run Tryz.prog w=.ok (.string ⟨l.toArray⟩) w:=by
 by_cases hp:0<l.length
 ·obtain ⟨b,off,rfl,-,hr⟩:=h hp
  have:=run_convert_bytes_arg (P:=Tryz.prog) w 47 5 Tryz.underlying47 Tryz.underlying5 b off l.length c (l.map fun c=>(c.toNat:Int)) (by simp) (fun i hi=>by
   rw [hr i hi];simp [List.getD,hi]) 9 Tryz.underlying9
  rw [this]
  congr 2
  simp [strOfNums,Function.comp_def]
 ·have:l=[]:=List.length_eq_zero_iff.1 (by omega)
  subst this
  exact run_convert_bytes_zero w 47 5 Tryz.underlying47 Tryz.underlying5 ao c 9 Tryz.underlying9
theorem equal_any (ao bo:Option Addr) (ca cb:Nat) (a b:List UInt8) (w:World) (ha:BAt w ao a) (hb:BAt w bo b) :
 Calls Tryz.prog 53 #[.slice ao a.length ca,.slice bo b.length cb] w fun e w'=>e=.returned (.bool (a==b))∧w'=w:=by
 have h1:=conv_bytes ha ca
 have h2:=conv_bytes hb cb
 clear ha hb
 go_enter Tryz.func53,Tryz.ntmps53
 go_wp2_with fail
 go_ret
 exact ⟨rfl,rfl⟩
set_option maxHeartbeats 1000000 in
theorem qframe.four_any (n:Nat) (w:World) (hn:n<4294967296):Calls Tryz.prog 121 #[.int .u32 n] w (Fresh4 w (fourB n)):=by
 have h0:(0:Int)≤n:=by omega
 have h1:(n:Int)<4294967296:=by omega
 go_enter Tryz.func121,Tryz.ntmps121
 go_wp2_with fail
 go_ret
 exact ⟨rfl,own_four hn,bg⟩
set_option maxHeartbeats 1000000 in
theorem qsatrapyref1.Four_any (n:Nat) (w:World) (hn:n<4294967296):Calls Tryz.prog 89 #[.int .u32 n] w (Fresh4 w (fourB n)):=by
 have h0:(0:Int)≤n:=by omega
 have h1:(n:Int)<4294967296:=by omega
 go_enter Tryz.func89,Tryz.ntmps89
 go_wp2_with fail
 go_ret
 exact ⟨rfl,own_four hn,bg⟩
set_option maxHeartbeats 1000000 in
theorem qframe.fromFour_any (ao:Option Addr) (cap:Nat) (l:List UInt8) (w:World) (h:BAt w ao l) (hl:4≤l.length) :
 Calls Tryz.prog 123 #[.slice ao l.length cap] w fun e w'=>e=.returned (.int .u32 (unFour l:Nat))∧∃ n,w'=w.drewN n:=by
 obtain ⟨b,off,rfl,hb,hr⟩:=h (by omega)
 match l,hl with
 | c0::c1::c2::c3::r,_ =>
  have k0:=hr 0 (by simp)
  have k1:=hr 1 (by simp)
  have k2:=hr 2 (by simp)
  have k3:=hr 3 (by simp)
  simp only [List.getElem_cons_zero,List.getElem_cons_succ,Nat.add_zero] at k0 k1 k2 k3
  have b0:(0:Int)≤c0.toNat∧(c0.toNat:Int)<256:=⟨by omega,by have:=c0.toNat_lt;omega⟩
  have b1:(0:Int)≤c1.toNat∧(c1.toNat:Int)<256:=⟨by omega,by have:=c1.toNat_lt;omega⟩
  have b2:(0:Int)≤c2.toNat∧(c2.toNat:Int)<256:=⟨by omega,by have:=c2.toNat_lt;omega⟩
  have b3:(0:Int)≤c3.toNat∧(c3.toNat:Int)<256:=⟨by omega,by have:=c3.toNat_lt;omega⟩
  obtain ⟨m,hm⟩:∃ m,m=(c0::c1::c2::c3::r).length:=⟨_,rfl⟩
  have hm4:4≤m:=by rw [hm];simp
  rw [←hm]
  have hm0:(0:Int)<m:=by omega
  have hm1:(1:Int)<m:=by omega
  have hm2:(2:Int)<m:=by omega
  have hm3:(3:Int)<m:=by omega
  clear hr h hm
  go_enter Tryz.func123,Tryz.ntmps123
  go_wp2_with fail
  go_quiet (fail)
  go_wp2_with fail
  go_ret
  refine ⟨?_,_,rfl⟩
  show Ending.returned (.int .u32 _)=_
  rw [four_or]
  rfl
set_option maxHeartbeats 1000000 in
theorem qsatrapyref1.FromFour_any (ao:Option Addr) (cap:Nat) (l:List UInt8) (w:World) (h:BAt w ao l) (hl:4≤l.length) :
 Calls Tryz.prog 131 #[.slice ao l.length cap] w fun e w'=>e=.returned (.int .u32 (unFour l:Nat))∧∃ n,w'=w.drewN n:=by
 obtain ⟨b,off,rfl,hb,hr⟩:=h (by omega)
 match l,hl with
 | c0::c1::c2::c3::r,_ =>
  have k0:=hr 0 (by simp)
  have k1:=hr 1 (by simp)
  have k2:=hr 2 (by simp)
  have k3:=hr 3 (by simp)
  simp only [List.getElem_cons_zero,List.getElem_cons_succ,Nat.add_zero] at k0 k1 k2 k3
  have b0:(0:Int)≤c0.toNat∧(c0.toNat:Int)<256:=⟨by omega,by have:=c0.toNat_lt;omega⟩
  have b1:(0:Int)≤c1.toNat∧(c1.toNat:Int)<256:=⟨by omega,by have:=c1.toNat_lt;omega⟩
  have b2:(0:Int)≤c2.toNat∧(c2.toNat:Int)<256:=⟨by omega,by have:=c2.toNat_lt;omega⟩
  have b3:(0:Int)≤c3.toNat∧(c3.toNat:Int)<256:=⟨by omega,by have:=c3.toNat_lt;omega⟩
  obtain ⟨m,hm⟩:∃ m,m=(c0::c1::c2::c3::r).length:=⟨_,rfl⟩
  have hm4:4≤m:=by rw [hm];simp
  rw [←hm]
  have hm0:(0:Int)<m:=by omega
  have hm1:(1:Int)<m:=by omega
  have hm2:(2:Int)<m:=by omega
  have hm3:(3:Int)<m:=by omega
  clear hr h hm
  go_enter Tryz.func131,Tryz.ntmps131
  go_wp2_with fail
  go_quiet (fail)
  go_wp2_with fail
  go_ret
  refine ⟨?_,_,rfl⟩
  show Ending.returned (.int .u32 _)=_
  rw [four_or]
  rfl
end Go.Proofs.YtogamdaomdoapaaGreat.F
namespace Go.Proofs.YtogamdaomdoapaaGreat
open Go.RowKit Go.Shelf
def renJ:Ren:=⟨fun n=>if n=14 then 137 else if n=15 then 147 else 0,
 fun n=>if n=3 then 3 else if n=4 then 4 else if n=5 then 5 else if n=9 then 9 else if n=20 then 20 else if n=22 then 47 else if n=26 then 176 else 0,fun n=>n⟩
set_option maxRecDepth 100000 in
theorem laysJ:SlLaysJ.n14 Tryz.prog renJ where
 mixed:=by kernel_rfl
 f14:=by kernel_rfl
 f15:=by kernel_rfl
 t0:=by kernel_rfl
 a0:=fun _=>by kernel_rfl
 z0:=fun _=>by kernel_rfl
 v0:=fun _=>by kernel_rfl
 t3:=by kernel_rfl
 a3:=fun _=>by kernel_rfl
 z3:=fun _=>by kernel_rfl
 v3:=fun _=>by kernel_rfl
 t4:=by kernel_rfl
 a4:=fun _=>by kernel_rfl
 z4:=fun _=>by kernel_rfl
 v4:=fun _=>by kernel_rfl
 t9:=by kernel_rfl
 a9:=fun _=>by kernel_rfl
 z9:=fun _=>by kernel_rfl
 v9:=fun _=>by kernel_rfl
 t20:=by kernel_rfl
 a20:=fun _=>by kernel_rfl
 z20:=fun _=>by kernel_rfl
 v20:=fun _=>by kernel_rfl
 t22:=by kernel_rfl
 a22:=fun _=>by kernel_rfl
 z22:=fun _=>by kernel_rfl
 v22:=fun _=>by kernel_rfl
 t26:=by kernel_rfl
 a26:=fun _=>by kernel_rfl
 z26:=fun _=>by kernel_rfl
 v26:=fun _=>by kernel_rfl
 t5:=by kernel_rfl
 z5:=fun _=>by kernel_rfl
 i5:=by kernel_rfl
end Go.Proofs.YtogamdaomdoapaaGreat
namespace Go.Proofs.YtogamdaomdoapaaGreat
open Go.RowKit Go.Shelf
def OwnC (w:World) (base:Nat) (ao:Option Addr) (cap:Nat) (l:List UInt8):Prop :=
 (ao=none∧l=[]∧cap=0)∨∃ (g:Nat) (zs:List UInt8),ao=some ⟨g,0,none⟩∧base≤g∧l.length≤cap∧cap≤maxLen∧zs.length=cap∧zs.take l.length=l ∧
  (∀ i,(h:i<zs.length)→w.cell? ⟨g,i,none⟩=some (.int .u8 (zs[i].toNat:Int)))∧(∀ i,i<cap→w.frozen? ⟨g,i,none⟩=false)
theorem OwnC.at {w:World} {base:Nat} {ao:Option Addr} {cap:Nat} {l:List UInt8} (h:OwnC w base ao cap l):BAt w ao l:=fun hp=>by
 rcases h with ⟨-,rfl,-⟩ | ⟨g,zs,rfl,-,h1,-,h2,h3,h4,-⟩
 ·simp at hp
 ·have h0:=h4 0 (by omega)
  refine ⟨g,0,rfl,?_,fun i hi=>?_⟩
  ·rcases Nat.lt_or_ge g w.heap.size with h | h
   ·exact h
   ·simp [World.cell?,Array.getElem?_eq_none h] at h0
  ·rw [Nat.zero_add,h4 i (by omega)]
   have:l[i]=(zs.take l.length)[i]'(by rw [List.length_take];omega):=by simp only [h3]
   rw [this,List.getElem_take]
theorem OwnC.none {w:World} {base:Nat} {ao:Option Addr} {cap:Nat} {l:List UInt8} (h:OwnC w base ao cap l):ao=.none→l.length=0∧cap=0:=fun e=>by
 rcases h with ⟨-,rfl,rfl⟩ | ⟨g,zs,rfl,-⟩
 ·exact ⟨rfl,rfl⟩
 ·cases e
theorem OwnC.le {w:World} {base:Nat} {ao:Option Addr} {cap:Nat} {l:List UInt8} (h:OwnC w base ao cap l):l.length≤cap∧cap≤9223372036854775807:=by
 rcases h with ⟨-,rfl,rfl⟩ | ⟨g,zs,rfl,-,h1,h2,-⟩
 ·exact ⟨Nat.le_refl _,by omega⟩
 ·exact ⟨h1,by unfold maxLen at h2;omega⟩
def FreshC (w:World) (l:List UInt8) (e:Ending) (w':World):Prop:=∃ ao cap,e=.returned (.slice ao l.length cap)∧OwnC w' w.heap.size ao cap l∧Below w.heap.size w w'
theorem ownC_fresh {B:Nat} {w':World} {v:Value} {l:List UInt8} (h:Lib.FreshBytes B w' v l):∃ ao cap,v=.slice ao l.length cap∧OwnC w' B ao cap l:=by
 obtain ⟨g,cap,zs,rfl,hB,h1,h2,hz,hr,hb,hc,hf⟩:=h
 refine ⟨some ⟨g,0,none⟩,cap,rfl,.inr ⟨g,zs.map fun n=>UInt8.ofNat n.toNat,rfl,hB,h1,h2,by simpa using hz,?_,fun i hi=>?_,hf⟩⟩
 ·rw [←List.map_take];exact hb
 ·have hi':i<zs.length:=by simpa using hi
  rw [hc i (by omega)]
  have h3:=hr zs[i] (List.getElem_mem hi')
  simp only [List.getElem_map,List.getD_eq_getElem?_getD,List.getElem?_eq_getElem hi',Option.getD_some]
  congr 2
  simp only [UInt8.toNat_ofNat']
  omega
theorem lens_flat (L:List RowR):Lib.lens (L.map (·.bs))=(flatR L).length:=by
 induction L with
 | nil=>rfl
 | cons r t ih=>rw [List.map_cons,Lib.lens_cons,ih];simp [flatR]
theorem join_flat (L:List RowR):Lib.join (L.map (·.bs)) []=flatR L:=by
 cases L with
 | nil=>rfl
 | cons r t =>
  rw [List.map_cons,Lib.join_cons]
  unfold Lib.joinTail
  simp [flatR,List.flatMap_def,Function.comp_def]
theorem holds_of {w:World} {ao:Option Addr} {cap:Nat} {l:List UInt8} (h0:ao=none→l.length=0∧cap=0) (h:BAt w ao l):Lib.HoldsBytes w (.slice ao l.length cap) l:=by
 refine ⟨ao,cap,rfl,fun e=>List.length_eq_zero_iff.1 (h0 e).1,fun a ha i x hx=>?_⟩
 subst ha
 have hi:i<l.length:=(List.getElem?_eq_some_iff.1 hx).1
 obtain ⟨b,off,e,hb,hr⟩:=h (by omega)
 simp only [Option.some.injEq] at e
 subst e
 rw [add_none,hr i hi,(List.getElem?_eq_some_iff.1 hx).2]
theorem bjoin_any (ao:Option Addr) (cap:Nat) (L:List RowR) (D:Nat→Prop) (w:World) (h:RsAt w D ao L) (hc:L.length≤cap) (hm:L.length≤140737488355328) (hl:(flatR L).length≤140737488351232) :
 Calls Tryz.prog 137 #[.slice ao L.length cap,.slice none 0 0] w (FreshC w (flatR L)):=by
 cases L with
 | nil =>
  refine (show Calls Tryz.prog 137 #[.slice ao 0 cap,.slice none 0 0] w _ from Any.bytes_Join_none laysJ ao cap (.slice none 0 0) w).mono ?_
  rintro e w' ⟨rfl,rfl⟩
  exact ⟨some ⟨w.heap.size,0,none⟩,0,rfl,.inr ⟨w.heap.size,[],rfl,Nat.le_refl _,Nat.le_refl _,Nat.zero_le _,rfl,rfl,fun i hi=>absurd hi (by simp),fun i hi=>by omega⟩,(Below.refl _ _).alloc (Nat.le_refl _) _⟩
 | cons r t =>
  obtain ⟨b,off,rfl,hb,hd,hr⟩:=h (by simp)
  cases t with
  | nil =>
   have h0:=hr 0 (by simp)
   have hf:flatR [r]=r.bs:=by simp [flatR]
   rw [hf] at hl ⊢
   have hcell:w.cell? ⟨b,off,none⟩=some (.slice r.ao r.bs.length r.cap):=h0.c
   by_cases hp:0<r.bs.length
   ·obtain ⟨g,go,hao,hg,-,hrow⟩:=h0.at_ hp
    simp only [List.getElem_cons_zero] at hao hrow
    rw [hao] at hcell
    refine (show Calls Tryz.prog 137 #[.slice (some ⟨b,off,none⟩) 1 cap,.slice none 0 0] w _ from Any.bytes_Join_one laysJ b off cap ⟨g,go,none⟩ r.cap r.bs (.slice none 0 0) w hcell (fun i x hx=>by
     have hi:=(List.getElem?_eq_some_iff.1 hx).1
     rw [add_none,hrow i hi,(List.getElem?_eq_some_iff.1 hx).2]) hp (by omega)).mono ?_
    rintro e w' ⟨v',rfl,hfr,hb'⟩
    obtain ⟨co,cc,rfl,ho⟩:=ownC_fresh hfr
    exact ⟨co,cc,rfl,ho,hb'⟩
   ·have hz:r.bs=[]:=List.length_eq_zero_iff.1 (by omega)
    rw [hz] at hcell ⊢
    refine (show Calls Tryz.prog 137 #[.slice (some ⟨b,off,none⟩) 1 cap,.slice none 0 0] w _ from Any.bytes_Join_one_empty laysJ b off cap r.ao r.cap (.slice none 0 0) w hcell).mono ?_
    rintro e w' ⟨rfl,rfl⟩
    exact ⟨none,0,rfl,.inl ⟨rfl,rfl,rfl⟩,Below.refl _ _⟩
  | cons s q =>
   have hparts:Lib.PartsAt w ⟨b,off,none⟩ ((r::s::q).map fun r=>Value.slice r.ao r.bs.length r.cap) ((r::s::q).map (·.bs)):=by
    refine ⟨by simp,fun i v hv=>?_,fun i v l hv hl=>?_⟩
    ·obtain ⟨hi,hv⟩:=List.getElem?_eq_some_iff.1 hv
     simp only [List.length_map] at hi
     rw [add_none,(hr i hi).c,←hv,List.getElem_map]
    ·obtain ⟨hi,hv⟩:=List.getElem?_eq_some_iff.1 hv
     obtain ⟨hi2,hl⟩:=List.getElem?_eq_some_iff.1 hl
     simp only [List.length_map] at hi
     rw [←hv,←hl,List.getElem_map,List.getElem_map]
     exact holds_of (hr i hi).n0 (hr i hi).at_.at
   have:=Any.bytes_Join_many laysJ b off (r::s::q).length cap _ _ (.slice none 0 0) [] w (by simp) (by simp) hparts hc ⟨none,0,rfl,fun _=>rfl,fun a ha=>by cases ha⟩ hm (by rw [lens_flat];simp only [List.length_nil,Nat.zero_mul];omega)
   rw [join_flat] at this
   refine (show Calls Tryz.prog 137 #[.slice (some ⟨b,off,none⟩) (r::s::q).length cap,.slice none 0 0] w _ from this).mono ?_
   rintro e w' ⟨v',rfl,hfr,hb'⟩
   obtain ⟨co,cc,rfl,ho⟩:=ownC_fresh hfr
   exact ⟨co,cc,rfl,ho,hb'⟩
theorem join_any (ao:Option Addr) (cap:Nat) (L:List RowR) (D:Nat→Prop) (w:World) (h:RsAt w D ao L) (hc:L.length≤cap) (hm:L.length≤140737488355328) (hl:(flatR L).length≤140737488351232) :
 Calls Tryz.prog 119 #[.slice ao L.length cap] w (FreshC w (flatR L)):=by
 have H:=Lib.hid (bjoin_any ao cap L D w h hc hm hl)
 clear h
 go_enter Tryz.func119,Tryz.ntmps119
 go_wp2_with fail
 refine H.out.mono ?_
 rintro e w1 ⟨co,cc,rfl,ho,hb⟩
 go_wp2_with fail
 go_ret
 exact ⟨co,cc,rfl,ho,hb⟩
end Go.Proofs.YtogamdaomdoapaaGreat
namespace Go.Proofs.YtogamdaomdoapaaGreat.F
set_option maxRecDepth 20000
open Go.RowKit
structure Sl (w:World) (ao:Option Addr) (cap:Nat) (l:List UInt8):Prop where
 le:l.length≤cap
 cm:cap≤9223372036854775807
 n0:ao=none→l.length=0∧cap=0
 at_:BAt w ao l
theorem Sl.grow {w w':World} {ao:Option Addr} {cap:Nat} {l:List UInt8} (h:Sl w ao cap l) (b:Below w.heap.size w w'):Sl w' ao cap l:=⟨h.le,h.cm,h.n0,h.at_.below b⟩
theorem _root_.Go.Proofs.YtogamdaomdoapaaGreat.OwnB.sl {w:World} {base:Nat} {ao:Option Addr} {cap:Nat} {l:List UInt8} (h:OwnB w base ao cap l):Sl w ao cap l:=⟨h.le.1,h.le.2,h.none,h.at⟩
theorem _root_.Go.Proofs.YtogamdaomdoapaaGreat.OwnC.sl {w:World} {base:Nat} {ao:Option Addr} {cap:Nat} {l:List UInt8} (h:OwnC w base ao cap l):Sl w ao cap l:=⟨h.le.1,h.le.2,h.none,h.at⟩
theorem below_allocF (w:World) (o:Obj):Below w.heap.size w (w.alloc o):=(Below.refl _ _).alloc (Nat.le_refl _) _
theorem Sl.rat {w w':World} {ao:Option Addr} {cap b o:Nat} {l:List UInt8} (h:Sl w ao cap l) (k:Below w.heap.size w w') (hc:w'.cell? ⟨b,o,none⟩=some (.slice ao l.length cap)):RAt w' (fun _=>True) b o ⟨ao,cap,l⟩ :=
 ⟨hc,h.le,h.cm,h.n0,fun hp=>let ⟨b,off,e,hb,hr⟩:=(h.at_.below k) hp;⟨b,off,e,hb,trivial,hr⟩⟩
theorem rs_one {w:World} {a:Option Addr} {c:Nat} {l:List UInt8} (h:Sl w a c l) (t:TypeId) (n:Nat) (hn:n=w.heap.size):RsAt (w.alloc (.cells #[.slice a l.length c] t)) (fun _=>True) (some ⟨n,0,none⟩) [⟨a,c,l⟩]:=fun _=>by
 subst hn
 refine ⟨w.heap.size,0,rfl,by simp,trivial,fun i hi=>?_⟩
 match i,hi with
 | 0,_=>exact h.rat (below_allocF _ _) (by go_simp)
theorem rs_two {w:World} {a b:Option Addr} {c d:Nat} {l m:List UInt8} (h:Sl w a c l) (k:Sl w b d m) (t:TypeId) (n:Nat) (hn:n=w.heap.size):RsAt (w.alloc (.cells #[.slice a l.length c,.slice b m.length d] t)) (fun _=>True) (some ⟨n,0,none⟩) [⟨a,c,l⟩,⟨b,d,m⟩]:=fun _=>by
 subst hn
 refine ⟨w.heap.size,0,rfl,by simp,trivial,fun i hi=>?_⟩
 match i,hi with
 | 0,_=>exact h.rat (below_allocF _ _) (by go_simp)
 | 1,_=>exact k.rat (below_allocF _ _) (by go_simp)
theorem ownC_weak {w:World} {b b':Nat} {ao:Option Addr} {cap:Nat} {l:List UInt8} (h:OwnC w b ao cap l) (hb:b'≤b):OwnC w b' ao cap l:=by
 rcases h with h | ⟨g,zs,h1,h2,r⟩
 ·exact .inl h
 ·exact .inr ⟨g,zs,h1,Nat.le_trans hb h2,r⟩
theorem flat_one1 (a:Option Addr) (c:Nat) (l:List UInt8):flatR [⟨a,c,l⟩]=l:=by simp [flatR]
theorem flat_two2 (a b:Option Addr) (c d:Nat) (l m:List UInt8):flatR [⟨a,c,l⟩,⟨b,d,m⟩]=l++m:=by simp [flatR]
theorem sum_one {w:World} {a:Option Addr} {c:Nat} {l:List UInt8} (h:Sl w a c l) (t:TypeId) (n:Nat) (hn:n=w.heap.size) :
 Calls Tryz.prog 122 #[.slice (some ⟨n,0,none⟩) 1 1] (w.alloc (.cells #[.slice a l.length c] t)) fun e w'=>e=.returned (.int .u32 (sumOf l:Nat))∧w'=w.alloc (.cells #[.slice a l.length c] t):=by
 have:=sum_any (some ⟨n,0,none⟩) 1 [⟨a,c,l⟩] _ _ (rs_one h t n hn) (by simp)
 rw [flat_one1] at this
 exact this
theorem join_two {w:World} {a b:Option Addr} {c d:Nat} {l m:List UInt8} (h:Sl w a c l) (k:Sl w b d m) (t:TypeId) (n:Nat) (hn:n=w.heap.size) (hl:l.length+m.length≤140737488351232) :
 Calls Tryz.prog 119 #[.slice (some ⟨n,0,none⟩) 2 2] (w.alloc (.cells #[.slice a l.length c,.slice b m.length d] t)) fun e w'=>∃ ao cap,e=.returned (.slice ao (l++m).length cap)∧OwnC w' w.heap.size ao cap (l++m)∧Below w.heap.size w w':=by
 have:=join_any (some ⟨n,0,none⟩) 2 [⟨a,c,l⟩,⟨b,d,m⟩] _ _ (rs_two h k t n hn) (by simp) (by simp) (by rw [flat_two2,List.length_append];exact hl)
 rw [flat_two2] at this
 refine this.mono ?_
 rintro e w' ⟨ao,cap,rfl,ho,hb⟩
 exact ⟨ao,cap,rfl,ownC_weak ho (by simp),(below_allocF _ _).trans (hb.mono (by simp))⟩
set_option maxHeartbeats 1000000 in
theorem headOf_any (n:Nat) (w:World) (hn:n<4294967296):Calls Tryz.prog 120 #[.int .u32 n] w (FreshC w (headB n)):=by
 have hsl:=sumOf_lt (fourB n)
 go_enter Tryz.func120,Tryz.ntmps120
 go_wp2_with fail
 refine (qframe.four_any n _ hn).mono ?_
 rintro e w1 ⟨rfl,h1,b1⟩
 have H1:=Lib.hid h1.sl
 have B1:=Lib.hid b1
 have s1:=b1.size
 clear h1 b1
 go_wp2_with fail
 refine (qframe.four_any n _ hn).mono ?_
 rintro e w2 ⟨rfl,h2,b2⟩
 have H2:=Lib.hid h2.sl
 have B2:=Lib.hid (B1.out.trans (b2.mono s1))
 have H12:=Lib.hid (H1.out.grow b2)
 have s2:=B2.out.size
 clear h2 b2 H1 B1
 go_wp2_with fail
 refine (sum_one H2.out 47 _ rfl).mono ?_
 rintro e w3 ⟨rfl,rfl⟩
 go_wp2_with fail
 refine (qframe.four_any _ _ hsl).mono ?_
 rintro e w3 ⟨rfl,h3,b3⟩
 simp only [World.alloc,Array.size_push] at h3
 have H3:=Lib.hid h3.sl
 have B3:=Lib.hid (B2.out.trans (((below_allocF _ _).trans (b3.mono (by simp))).mono s2))
 have H13:=Lib.hid (H12.out.grow ((below_allocF _ _).trans (b3.mono (by simp))))
 have s3:=B3.out.size
 clear h3 b3 H2 B2 H12
 go_wp2_with fail
 refine (join_two H13.out H3.out 47 _ rfl (by simp only [fourB_length];omega)).mono ?_
 rintro e w4 ⟨ao,cap,rfl,ho,hb⟩
 go_wp2_with fail
 go_ret
 exact ⟨ao,cap,rfl,ownC_weak ho s3,B3.out.trans (hb.mono s3)⟩
end Go.Proofs.YtogamdaomdoapaaGreat.F