/- Texts put together: Rws, WrRows, Known, Op. -/
import Derived.Test.YtogamdaomdoapaaGreatSa02
import Derived.Lib.SlBytesConst
import Derived.Lib.SmallJoins
namespace Go.Proofs.YtogamdaomdoapaaGreat
open Go.RowKit
structure RowR where
 ao:Option Addr
 cap:Nat
 bs:List UInt8
def BIn (w:World) (D:Nat→Prop) (ao:Option Addr) (l:List UInt8):Prop:=0<l.length→∃ b off,ao=some ⟨b,off,none⟩∧b<w.heap.size∧D b∧BRow w b off l
structure RAt (w:World) (D:Nat→Prop) (b o:Nat) (r:RowR):Prop where
 c:w.cell? ⟨b,o,none⟩=some (.slice r.ao r.bs.length r.cap)
 le:r.bs.length≤r.cap
 cm:r.cap≤9223372036854775807
 n0:r.ao=none→r.bs.length=0∧r.cap=0
 at_:BIn w D r.ao r.bs
def RsAt (w:World) (D:Nat→Prop) (ao:Option Addr) (L:List RowR):Prop:=0<L.length→∃ b off,ao=some ⟨b,off,none⟩∧b<w.heap.size∧D b∧∀ i,(hi:i<L.length)→RAt w D b (off+i) L[i]
def flatR (L:List RowR):List UInt8:=L.flatMap (·.bs)
theorem BIn.at {w:World} {D:Nat→Prop} {ao:Option Addr} {l:List UInt8} (h:BIn w D ao l):BAt w ao l:=fun hp =>
 let ⟨b,off,e,hb,_,hr⟩:=h hp
 ⟨b,off,e,hb,hr⟩
theorem BIn.keeps {w w':World} {D S:Nat→Prop} {ao:Option Addr} {l:List UInt8} (h:BIn w D ao l) (k:Keeps w w' S) (hD:∀ x,D x→¬S x):BIn w' D ao l:=fun hp =>
 let ⟨b,off,e,hb,hd,hr⟩:=h hp
 ⟨b,off,e,Nat.lt_of_lt_of_le hb k.size,hd,hr.keeps hb k (hD b hd)⟩
theorem BIn.weak {w:World} {D E:Nat→Prop} {ao:Option Addr} {l:List UInt8} (h:BIn w D ao l) (hE:∀ x,x<w.heap.size→D x→E x):BIn w E ao l:=fun hp =>
 let ⟨b,off,e,hb,hd,hr⟩:=h hp
 ⟨b,off,e,hb,hE b hb hd,hr⟩
theorem BAt.in {w:World} {ao:Option Addr} {l:List UInt8} (h:BAt w ao l):BIn w (fun x=>x<w.heap.size) ao l:=fun hp =>
 let ⟨b,off,e,hb,hr⟩:=h hp
 ⟨b,off,e,hb,hb,hr⟩
theorem RAt.keeps {w w':World} {D S:Nat→Prop} {b o:Nat} {r:RowR} (h:RAt w D b o r) (k:Keeps w w' S) (hD:∀ x,D x→¬S x) (hb:b<w.heap.size) (hd:D b):RAt w' D b o r :=
 ⟨(k.cell (p:=⟨b,o,none⟩) hb (hD b hd)).trans h.c,h.le,h.cm,h.n0,h.at_.keeps k hD⟩
theorem RsAt.keeps {w w':World} {D S:Nat→Prop} {ao:Option Addr} {L:List RowR} (h:RsAt w D ao L) (k:Keeps w w' S) (hD:∀ x,D x→¬S x):RsAt w' D ao L:=fun hp =>
 let ⟨b,off,e,hb,hd,hr⟩:=h hp
 ⟨b,off,e,Nat.lt_of_lt_of_le hb k.size,hd,fun i hi=>(hr i hi).keeps k hD hb hd⟩
theorem keeps_same {w w':World} (h:Below w.heap.size w w') (S:Nat→Prop):Keeps w w' S:=Keeps.of_grown h (Nat.le_refl _) S
theorem RsAt.grow {w w':World} {D:Nat→Prop} {ao:Option Addr} {L:List RowR} (h:RsAt w D ao L) (b:Below w.heap.size w w'):RsAt w' D ao L:=h.keeps (keeps_same b (fun _=>False)) (fun _ _ h=>h)
theorem RsAt.below {w w':World} {B:Nat} {ao:Option Addr} {L:List RowR} (h:RsAt w (fun x=>x<B) ao L) (b:Below B w w'):RsAt w' (fun x=>x<B) ao L:=h.keeps (Keeps.of_below b) (fun x h1 h2=>by omega)
end Go.Proofs.YtogamdaomdoapaaGreat
namespace Go.Proofs.YtogamdaomdoapaaGreat
open Go.RowKit
set_option maxRecDepth 20000
def encRow (l:List UInt8):List UInt8:=encN l.length++l
def encRows (L:List RowR):List UInt8:=L.flatMap fun r=>encRow r.bs
theorem encRows_cons (r:RowR) (L:List RowR):encRows (r::L)=encRow r.bs++encRows L:=rfl
theorem encRows_length (L:List RowR):(encRows L).length≤10 * L.length+(flatR L).length:=by
 induction L with
 | nil=>simp [encRows,flatR]
 | cons r t ih =>
  have:=(encN_length r.bs.length).1
  rw [encRows_cons]
  simp only [flatR,List.flatMap_cons,List.length_append,List.length_cons,encRow] at *
  omega
theorem WrAt.keeps {w w':World} {p base:Nat} {l:List UInt8} {o:Option Nat} {S:Nat→Prop} (h:WrAt w p base l o) (k:Keeps w w' S) (hp:¬S p) (ho:∀ g,o=some g→¬S g):WrAt w' p base l o:=by
 obtain ⟨ao,cap,h1,h2,h3,h4⟩:=h
 refine ⟨ao,cap,(k.block p (lt_of_block h1) hp).trans h1,?_,h3,h4⟩
 refine ⟨h2.1,?_⟩
 rcases h2.2 with h2 | ⟨g,c,cur,hv,hg,hh,r⟩
 ·exact .inl h2
 ·exact .inr ⟨g,c,cur,hv,hg,(k.block g (Array.getElem?_eq_some_iff.1 hh).1 (ho g (by rw [h3,hv];rfl))).trans hh,r⟩
theorem WrAt.grow {w w':World} {p base:Nat} {l:List UInt8} {o:Option Nat} (h:WrAt w p base l o) (b:Below w.heap.size w w'):WrAt w' p base l o:=h.keeps (keeps_same b (fun _=>False)) (fun h=>h) (fun _ _ h=>h)
theorem WInv.then {w wr wx w':World} {p base:Nat} {o o':Option Nat} {full cur x rest:List UInt8} (hw:WrAt wr p base cur o') (hk:Keeps w wr (Foot p o)) (hfr:∀ g,o'=some g→o=some g∨w.heap.size≤g) (hx:Below wr.heap.size wr wx) (h:WInv wx w' p base o' (cur++x) []) (hfull:cur++(x++rest)=full):WInv w w' p base o full rest:=by
 obtain ⟨c2,o2,h1,h2,h3,h4⟩:=h
 have hs:=hk.size
 have hs2:=hx.size
 rw [List.append_nil] at h2
 have hp:=hw.lt
 refine ⟨c2,o2,h1,by rw [h2,List.append_assoc];exact hfull,?_,fun g hg=>?_⟩
 ·refine hk.trans ((keeps_same hx (Foot p o')).trans h3 (fun _ s=>s) (fun _ _ s=>s)) (fun _ s=>s) (fun i hi s=>?_)
  rcases s with s | s
  ·exact .inl s
  ·rcases hfr i s with h | h
   ·exact .inr h
   ·omega
 ·rcases h4 g hg with h | h
  ·exact hfr g h
  ·right;omega
set_option maxHeartbeats 4000000 in
theorem wbytes_any (p base:Nat) (l:List UInt8) (o:Option Nat) (ao:Option Addr) (cap:Nat) (L:List RowR) (D:Nat→Prop) (w:World) (hw:WrAt w p base l o) (hr:RsAt w D ao L) (hDp:¬D p) (hDo:∀ g,o=some g→¬D g) (hDw:∀ x,D x→x<w.heap.size) (hbase:base≤w.heap.size) (hm:l.length+10 * L.length+(flatR L).length+10≤140737488351232) :
 Calls Tryz.prog 71 #[.pointer (some ⟨p,0,none⟩),.slice ao L.length cap] w fun e w'=>e=.returned (.tuple #[])∧WInv w w' p base o (l++encRows L) []:=by
 have Hw:=Lib.hid hw
 have Hr:=Lib.hid hr
 have HD:=Lib.hid (⟨hDp,hDo,hDw⟩:(¬D p)∧(∀ g,o=some g→¬D g)∧(∀ x,D x→x<w.heap.size))
 have hel:=encRows_length L
 have Hel:=Lib.hid (show (l++encRows L).length+10≤140737488351232 by rw [List.length_append];omega)
 clear hw hr hDp hDo hDw hel
 go_enter Tryz.func71,Tryz.ntmps71
 go_wp2_with fail
 go_loopw [8] (fun s8 wr=>∃ k:Nat,s8=.int .i64 k∧k≤L.length∧Hid (WInv w wr p base o (l++encRows L) (encRows (L.drop k)))) (fun s8 _=>L.length - (intOf s8).toNat)
 case atStart=>exact ⟨0,rfl,by omega,WInv.start Hw.out⟩
 case round =>
  obtain ⟨k,rfl,hk,hst⟩:=hrel
  by_cases hlt:(k:Int)<L.length
  ·obtain ⟨cur,o',hwr,hfull,hkp,hfr⟩:=hst.out
   have hrr:=Hr.out.keeps hkp (fun x hx s=>by
    rcases s with s | s
    ·exact HD.out.1 (s▸hx)
    ·exact HD.out.2.1 x s hx)
   obtain ⟨b,off,hao,hb,hd,hrow⟩:=hrr (by omega)
   subst hao
   have hra:=hrow k (by omega)
   obtain ⟨ro,rc,rb,hL⟩:∃ ro rc rb,(⟨ro,rc,rb⟩:RowR)=L[k]'(by omega):=⟨_,_,_,rfl⟩
   have hdrop:L.drop k=⟨ro,rc,rb⟩::L.drop (k+1):=by rw [hL];exact List.drop_eq_getElem_cons (by omega)
   rw [←hL] at hra
   have c0:wr.cell? ⟨b,off+k,none⟩=some (.slice ro rb.length rc):=hra.c
   have hle:rb.length≤rc:=hra.le
   have hcm:rc≤9223372036854775807:=hra.cm
   have hn0:ro=none→rb.length=0∧rc=0:=hra.n0
   have hat:BIn wr D ro rb:=hra.at_
   rw [hdrop,encRows_cons] at hfull
   simp only at hfull
   have hlen:=congrArg List.length hfull
   have hfl:=Hel.out
   simp only [List.length_append,encRow] at hlen hfl
   have he1:=(encN_length rb.length).2
   have he2:=(encN_length rb.length).1
   have hcl:encs [(rb.length:Int)]=encN rb.length:=by
    simp only [encs,List.flatMap_cons,List.flatMap_nil,List.append_nil]
    congr 1
    unfold clampN;omega
   have hbs:base≤wr.heap.size:=Nat.le_trans hbase hkp.size
   have hpl:=hwr.lt
   have hol:=hwr.own_lt
   have hcb:cur.length+10≤140737488351232∧cur.length+(encN rb.length).length+rb.length≤140737488351232:=by omega
   have Hwr:=Lib.hid hwr
   have HL:=Lib.hid hL
   have Hfull:=Lib.hid hfull
   have Hkp:=Lib.hid hkp
   have Hfr:=Lib.hid hfr
   have Hn0:=Lib.hid hn0
   have Hat:=Lib.hid hat
   have Hcl:=Lib.hid hcl
   have Hcb:=Lib.hid hcb
   have Hol:=Lib.hid hol
   clear hwr hfull hkp hfr hn0 hat hcl hrr hrow hra hL hdrop hlen hfl he1 he2 hcb hol hst
   go_wp2_with fail
   have hnums:=nums_some p base cur o' wr.heap.size 0 1 [(rb.length:Int)] (wr.alloc (.cells #[.int .i64 (rb.length:Int)] 3)) (Hwr.out.grow ((Below.refl _ _).alloc (Nat.le_refl _) _)) (fun i hi=>by
    have hi0:i=0:=by simp at hi;exact hi
    subst hi0
    simp) (by simp) (by omega) (fun h=>by have:=(Hol.out _ h).1;omega) (by simp only [World.alloc,Array.size_push];omega) (by have:=Hcb.out.1;simp only [List.length_cons,List.length_nil];omega)
   refine hnums.mono ?_
   rintro e w1 ⟨rfl,hi1⟩
   have h1:=WInv.then (full:=l++encRows L) (rest:=rb++encRows (L.drop (k+1))) Hwr.out Hkp.out Hfr.out ((Below.refl _ _).alloc (Nat.le_refl _) _) hi1 (by rw [Hcl.out,←Hfull.out];simp only [encRow,List.append_assoc])
   have H1:=Lib.hid h1
   clear hnums hi1 h1
   obtain ⟨cur1,o1,hwr1,hfull1,hkp1,hfr1⟩:=H1.out
   have hl1:=congrArg List.length hfull1
   have hfl:=Hel.out
   simp only [List.length_append] at hl1 hfl
   have hat1:BIn w1 D ro rb:=by
    obtain ⟨b',off',-,-,-,hrow1⟩:=(Hr.out.keeps hkp1 (fun x hx s=>by
     rcases s with s | s
     ·exact HD.out.1 (s▸hx)
     ·exact HD.out.2.1 x s hx)) (by omega)
    have:=(hrow1 k (by omega)).at_
    rw [←HL.out] at this
    exact this
   have Hat1:=Lib.hid hat1
   have Hwr1:=Lib.hid hwr1
   have hb1:base≤w1.heap.size:=Nat.le_trans hbase hkp1.size
   have Hk1:=Lib.hid hkp1
   have Hf1:=Lib.hid hfr1
   have Hfull1:=Lib.hid hfull1
   clear hat1 hwr1 hkp1 hfr1 hfull1 hfl
   go_wp2_with fail
   refine (raw_any p base cur1 o1 ro rc rb w1 Hwr1.out Hn0.out Hat1.out.at hb1 (by have:=Hel.out;simp only [List.length_append] at this;omega)).mono ?_
   rintro e w2 ⟨rfl,hi2⟩
   have h2:=WInv.then (rest:=encRows (L.drop (k+1))) Hwr1.out Hk1.out Hf1.out (Below.refl _ _) hi2 Hfull1.out
   have H2:=Lib.hid h2
   clear hi2 h2
   go_wp2_with fail
   go_roundw
   case rel=>exact ⟨k+1,by go_num,by omega,H2⟩
   case measure=>simp [intOf];omega
  ·go_wp2_with fail
   go_end0
   refine ⟨rfl,?_⟩
   have:=hst.out
   rwa [List.drop_eq_nil_of_le (by omega)] at this
end Go.Proofs.YtogamdaomdoapaaGreat
namespace Go.Proofs.YtogamdaomdoapaaGreat
open Go.RowKit Go.Joins
theorem wr_new (w:World) (base:Nat) (n:Nat) (hn:n=w.heap.size):WrAt (w.alloc (.cells #[.slice none 0 0] 134)) n base [] none:=by
 subst hn
 exact ⟨none,0,heap_new w _,⟨rfl,.inl ⟨rfl,rfl⟩⟩,rfl,by simp⟩
theorem WInv.done {w wr:World} {p base:Nat} {o:Option Nat} {full:List UInt8} (h:WInv w wr p base o full []):∃ o',WrAt wr p base full o'∧Keeps w wr (Foot p o)∧(∀ g,o'=some g→o=some g∨w.heap.size≤g):=by
 obtain ⟨cur,o',h1,h2,h3,h4⟩:=h
 rw [List.append_nil] at h2
 subst h2
 exact ⟨o',h1,h3,h4⟩
theorem BIn.grow {w w':World} {D:Nat→Prop} {ao:Option Addr} {l:List UInt8} (h:BIn w D ao l) (b:Below w.heap.size w w'):BIn w' D ao l:=h.keeps (keeps_same b (fun _=>False)) (fun _ _ h=>h)
theorem below_alloc (w:World) (o:Obj):Below w.heap.size w (w.alloc o):=(Below.refl _ _).alloc (Nat.le_refl _) _
end Go.Proofs.YtogamdaomdoapaaGreat
namespace Go.Proofs.YtogamdaomdoapaaGreat
open Go.RowKit
structure Rq where
 kind:Int
 client:Int
 seq:Int
 key:ByteArray
 who:ByteArray
 tkey:ByteArray
 twho:ByteArray
 item:Int
 count:Int
 price:Int
 buy:Bool
 id:Int
def e0:ByteArray:=⟨#[]⟩
def eqR (a b:Rq):Bool:=decide (a.kind=b.kind∧a.client=b.client∧a.seq=b.seq∧a.key.toList=b.key.toList∧a.who.toList=b.who.toList∧a.tkey.toList=b.tkey.toList∧a.twho.toList=b.twho.toList∧a.item=b.item∧a.count=b.count∧a.price=b.price∧a.buy=b.buy∧a.id=b.id)
set_option maxHeartbeats 1000000 in
theorem eql_op.request (a b:Rq) (w:World) (r:Bool) (hr:eqR a b=r):(Op.equalIn 10000 99 (.agg #[.int .i64 a.kind,.int .i64 a.client,.int .i64 a.seq,.string a.key,.string a.who,.string a.tkey,.string a.twho,.int .i64 a.item,.int .i64 a.count,.int .i64 a.price,.bool a.buy,.int .i64 a.id]) (.agg #[.int .i64 b.kind,.int .i64 b.client,.int .i64 b.seq,.string b.key,.string b.who,.string b.tkey,.string b.twho,.int .i64 b.item,.int .i64 b.count,.int .i64 b.price,.bool b.buy,.int .i64 b.id])).run Tryz.prog w=.ok r w:=by
 subst hr
 unfold eqR
 go_simp
 by_cases h1:a.kind=b.kind
 ·by_cases h2:a.client=b.client
  ·by_cases h3:a.seq=b.seq
   ·by_cases h4:a.key.toList=b.key.toList
    ·by_cases h5:a.who.toList=b.who.toList
     ·by_cases h6:a.tkey.toList=b.tkey.toList
      ·by_cases h7:a.twho.toList=b.twho.toList
       ·by_cases h8:a.item=b.item
        ·by_cases h9:a.count=b.count
         ·by_cases h10:a.price=b.price
          ·by_cases h11:a.buy=b.buy
           ·by_cases h12:a.id=b.id
            ·simp [h1,h2,h3,h4,h5,h6,h7,h8,h9,h10,h11,h12]
            ·simp [h1,h2,h3,h4,h5,h6,h7,h8,h9,h10,h11,h12]
           ·simp [h1,h2,h3,h4,h5,h6,h7,h8,h9,h10,h11]
          ·simp [h1,h2,h3,h4,h5,h6,h7,h8,h9,h10]
         ·simp [h1,h2,h3,h4,h5,h6,h7,h8,h9]
        ·simp [h1,h2,h3,h4,h5,h6,h7,h8]
       ·simp [h1,h2,h3,h4,h5,h6,h7]
      ·simp [h1,h2,h3,h4,h5,h6]
     ·simp [h1,h2,h3,h4,h5]
    ·simp [h1,h2,h3,h4]
   ·simp [h1,h2,h3]
  ·simp [h1,h2]
 ·simp [h1]
theorem eql_api.Op (a b:Rq) (w:World) (r:Bool) (hr:eqR a b=r):(Op.equalIn 10000 30 (.agg #[.int .i64 a.kind,.int .i64 a.client,.int .i64 a.seq,.string a.key,.string a.who,.string a.tkey,.string a.twho,.int .i64 a.item,.int .i64 a.count,.int .i64 a.price,.bool a.buy,.int .i64 a.id]) (.agg #[.int .i64 b.kind,.int .i64 b.client,.int .i64 b.seq,.string b.key,.string b.who,.string b.tkey,.string b.twho,.int .i64 b.item,.int .i64 b.count,.int .i64 b.price,.bool b.buy,.int .i64 b.id])).run Tryz.prog w=.ok r w:=by
 subst hr
 unfold eqR
 go_simp
 by_cases h1:a.kind=b.kind
 ·by_cases h2:a.client=b.client
  ·by_cases h3:a.seq=b.seq
   ·by_cases h4:a.key.toList=b.key.toList
    ·by_cases h5:a.who.toList=b.who.toList
     ·by_cases h6:a.tkey.toList=b.tkey.toList
      ·by_cases h7:a.twho.toList=b.twho.toList
       ·by_cases h8:a.item=b.item
        ·by_cases h9:a.count=b.count
         ·by_cases h10:a.price=b.price
          ·by_cases h11:a.buy=b.buy
           ·by_cases h12:a.id=b.id
            ·simp [h1,h2,h3,h4,h5,h6,h7,h8,h9,h10,h11,h12]
            ·simp [h1,h2,h3,h4,h5,h6,h7,h8,h9,h10,h11,h12]
           ·simp [h1,h2,h3,h4,h5,h6,h7,h8,h9,h10,h11]
          ·simp [h1,h2,h3,h4,h5,h6,h7,h8,h9,h10]
         ·simp [h1,h2,h3,h4,h5,h6,h7,h8,h9]
        ·simp [h1,h2,h3,h4,h5,h6,h7,h8]
       ·simp [h1,h2,h3,h4,h5,h6,h7]
      ·simp [h1,h2,h3,h4,h5,h6]
     ·simp [h1,h2,h3,h4,h5]
    ·simp [h1,h2,h3,h4]
   ·simp [h1,h2,h3]
  ·simp [h1,h2]
 ·simp [h1]
set_option maxRecDepth 20000 in
theorem rest_any (o:Rq) (w:World) :
 Calls Tryz.prog 68 #[.agg #[.int .i64 o.kind,.int .i64 o.client,.int .i64 o.seq,.string o.key,.string o.who,.string o.tkey,.string o.twho,.int .i64 o.item,.int .i64 o.count,.int .i64 o.price,.bool o.buy,.int .i64 o.id]] w fun e w'=>e=.returned (.agg #[.int .i64 0,.int .i64 0,.int .i64 0,.string ⟨#[]⟩,.string ⟨#[]⟩,.string o.tkey,.string o.twho,.int .i64 o.item,.int .i64 o.count,.int .i64 o.price,.bool o.buy,.int .i64 o.id])∧Below w.heap.size w w':=by
 go_enter Tryz.func68,Tryz.ntmps68
 go_wp2_with fail
 refine bodyPost_ret (v:=.agg #[.int .i64 0,.int .i64 0,.int .i64 0,.string ⟨#[]⟩,.string ⟨#[]⟩,.string o.tkey,.string o.twho,.int .i64 o.item,.int .i64 o.count,.int .i64 o.price,.bool o.buy,.int .i64 o.id]) (by simp only [results,Tryz.results68];go_simp) rfl ?_
 exact ⟨rfl,bg⟩
def placeB (k v:ByteArray):Bool:=decide (1≤k.size∧k.size≤16∧1≤v.size∧v.size≤16)
theorem isPlace_any (k v:ByteArray) (w:World) (r:Bool) (hr:placeB k v=r) :
 Calls Tryz.prog 45 #[.agg #[.string k,.string v]] w fun e w'=>e=.returned (.bool r)∧Below w.heap.size w w':=by
 unfold placeB at hr
 by_cases h1:1≤k.size
 ·by_cases h2:k.size≤16
  ·by_cases h3:1≤v.size
   ·by_cases h4:v.size≤16
    ·obtain rfl:r=true:=by rw [←hr];simp [h1,h2,h3,h4]
     have d4:decide ((v.size:Int)≤16)=true:=by rw [decide_eq_true_eq];omega
     clear hr
     go_enter Tryz.func45,Tryz.ntmps45
     go_wp2_with fail
     go_ret
     exact ⟨rfl,bg⟩
    ·obtain rfl:r=false:=by rw [←hr];simp [h4]
     have d4:decide ((v.size:Int)≤16)=false:=by rw [decide_eq_false_iff_not];omega
     clear hr
     go_enter Tryz.func45,Tryz.ntmps45
     go_wp2_with fail
     go_ret
     exact ⟨rfl,bg⟩
   ·obtain rfl:r=false:=by rw [←hr];simp [h3]
    clear hr
    go_enter Tryz.func45,Tryz.ntmps45
    go_wp2_with fail
    go_ret
    exact ⟨rfl,bg⟩
  ·obtain rfl:r=false:=by rw [←hr];simp [h2]
   clear hr
   go_enter Tryz.func45,Tryz.ntmps45
   go_wp2_with fail
   go_ret
   exact ⟨rfl,bg⟩
 ·obtain rfl:r=false:=by rw [←hr];simp [h1]
  clear hr
  go_enter Tryz.func45,Tryz.ntmps45
  go_wp2_with fail
  go_ret
  exact ⟨rfl,bg⟩
def barO (o:Rq):Bool:=decide (o.tkey.toList=[]∧o.twho.toList=[]∧o.item=0∧o.count=0∧o.price=0∧o.buy=false∧o.id=0)
theorem bare_any (o:Rq) (w:World) (r:Bool) (hr:barO o=r) :
 Calls Tryz.prog 44 #[.agg #[.int .i64 o.kind,.int .i64 o.client,.int .i64 o.seq,.string o.key,.string o.who,.string o.tkey,.string o.twho,.int .i64 o.item,.int .i64 o.count,.int .i64 o.price,.bool o.buy,.int .i64 o.id]] w fun e w'=>e=.returned (.bool r)∧Below w.heap.size w w':=by
 have heq:=fun w=>eql_op.request ⟨0,0,0,⟨#[]⟩,⟨#[]⟩,o.tkey,o.twho,o.item,o.count,o.price,o.buy,o.id⟩ ⟨0,0,0,⟨#[]⟩,⟨#[]⟩,⟨#[]⟩,⟨#[]⟩,0,0,0,false,0⟩ w r (by rw [←hr];simp [eqR,barO])
 simp only at heq
 clear hr
 go_enter Tryz.func44,Tryz.ntmps44
 go_wp2_with fail
 refine (rest_any o _).mono ?_
 rintro e w1 ⟨rfl,hb⟩
 have hb1:=(Below.refl w.heap.size w).alloc (Nat.le_refl _) (.cells #[.int .i64 o.kind,.int .i64 o.client,.int .i64 o.seq,.string o.key,.string o.who,.string o.tkey,.string o.twho,.int .i64 o.item,.int .i64 o.count,.int .i64 o.price,.bool o.buy,.int .i64 o.id] 99) |>.trans (hb.mono (by simp))
 clear hb
 go_wp2_with fail
 go_ret
 exact ⟨rfl,hb1⟩
def cntO (o:Rq):Bool:=decide (0≤o.item∧o.item<4∧1≤o.count∧o.count≤1048576∧o.tkey.toList=[]∧o.twho.toList=[]∧o.price=0∧o.buy=false∧o.id=0)
set_option maxRecDepth 20000 in
set_option maxHeartbeats 1000000 in
theorem counts_any (o:Rq) (w:World) (r:Bool) (hr:cntO o=r) :
 Calls Tryz.prog 40 #[.agg #[.int .i64 o.kind,.int .i64 o.client,.int .i64 o.seq,.string o.key,.string o.who,.string o.tkey,.string o.twho,.int .i64 o.item,.int .i64 o.count,.int .i64 o.price,.bool o.buy,.int .i64 o.id]] w fun e w'=>e=.returned (.bool r)∧Below w.heap.size w w':=by
 unfold cntO at hr
 by_cases h1:0≤o.item
 ·by_cases h2:o.item<4
  ·by_cases h3:1≤o.count
   ·by_cases h4:o.count≤1048576
    ·have heq:=fun w=>eql_op.request ⟨0,0,0,⟨#[]⟩,⟨#[]⟩,o.tkey,o.twho,o.item,o.count,o.price,o.buy,o.id⟩ ⟨0,0,0,⟨#[]⟩,⟨#[]⟩,⟨#[]⟩,⟨#[]⟩,o.item,o.count,0,false,0⟩ w r (by rw [←hr];simp [eqR,h1,h2,h3,h4])
     simp only at heq
     clear hr
     go_enter Tryz.func40,Tryz.ntmps40
     go_wp2_with fail
     (refine wp_name fun wa hwa=>?_;have wa_s0:=sg w.heap.size hwa;obtain ⟨wa_c0,wa_c1,wa_c2,wa_c3,wa_c4,wa_c5,wa_c6,wa_c7,wa_c8,wa_c9,wa_c10,wa_c11⟩:=kz12 hwa w.heap.size (.int .i64 o.kind) (.int .i64 o.client) (.int .i64 o.seq) (.string o.key) (.string o.who) (.string o.tkey) (.string o.twho) (.int .i64 o.item) (.int .i64 o.count) (.int .i64 o.price) (.bool o.buy) (.int .i64 o.id);have wa_b:Below w.heap.size w wa:=(by rw [hwa];exact bg);clear hwa)
     (refine wp_region_gr (by kernel_rfl) (by kernel_rfl) ?_;(repeat (go_big_quiet_step (first | (go_at_call 68;exact calls_gr (rest_any o _)) | fail)));refine wpQuiet_nil ?_;intro _ hw';obtain ⟨g,hw''⟩:=hw';subst hw'')
     go_wp2_with fail
     go_ret
     exact ⟨rfl,wa_b.trans ((gr_below wa g).mono (by omega))⟩
    ·have d:decide (o.count≤1048576)=false:=by rw [decide_eq_false_iff_not];omega
     ((have hrf:r=false:=(by rw [←hr];simp [h4]));(subst hrf);(clear hr);go_enter Tryz.func40,Tryz.ntmps40;(go_wp2_with fail);(refine wp_name fun wa hwa=>?_;have wa_s0:=sg w.heap.size hwa;obtain ⟨wa_c0,wa_c1,wa_c2,wa_c3,wa_c4,wa_c5,wa_c6,wa_c7,wa_c8,wa_c9,wa_c10,wa_c11⟩:=kz12 hwa w.heap.size (.int .i64 o.kind) (.int .i64 o.client) (.int .i64 o.seq) (.string o.key) (.string o.who) (.string o.tkey) (.string o.twho) (.int .i64 o.item) (.int .i64 o.count) (.int .i64 o.price) (.bool o.buy) (.int .i64 o.id);have wa_b:Below w.heap.size w wa:=(by rw [hwa];exact bg);clear hwa);(refine wp_region_gr (by kernel_rfl) (by kernel_rfl) ?_;(repeat (go_big_quiet_step (fail)));refine wpQuiet_nil ?_;intro _ hw';obtain ⟨g,hw''⟩:=hw';subst hw'');(go_wp2_with fail);go_ret;exact ⟨rfl,wa_b.trans ((gr_below wa g).mono (by omega))⟩)
   ·have d:decide (1≤o.count)=false:=by rw [decide_eq_false_iff_not];omega
    ((have hrf:r=false:=(by rw [←hr];simp [h3]));(subst hrf);(clear hr);go_enter Tryz.func40,Tryz.ntmps40;(go_wp2_with fail);(refine wp_name fun wa hwa=>?_;have wa_s0:=sg w.heap.size hwa;obtain ⟨wa_c0,wa_c1,wa_c2,wa_c3,wa_c4,wa_c5,wa_c6,wa_c7,wa_c8,wa_c9,wa_c10,wa_c11⟩:=kz12 hwa w.heap.size (.int .i64 o.kind) (.int .i64 o.client) (.int .i64 o.seq) (.string o.key) (.string o.who) (.string o.tkey) (.string o.twho) (.int .i64 o.item) (.int .i64 o.count) (.int .i64 o.price) (.bool o.buy) (.int .i64 o.id);have wa_b:Below w.heap.size w wa:=(by rw [hwa];exact bg);clear hwa);(refine wp_region_gr (by kernel_rfl) (by kernel_rfl) ?_;(repeat (go_big_quiet_step (fail)));refine wpQuiet_nil ?_;intro _ hw';obtain ⟨g,hw''⟩:=hw';subst hw'');(go_wp2_with fail);go_ret;exact ⟨rfl,wa_b.trans ((gr_below wa g).mono (by omega))⟩)
  ·have d:decide (o.item<4)=false:=by rw [decide_eq_false_iff_not];omega
   ((have hrf:r=false:=(by rw [←hr];simp [h2]));(subst hrf);(clear hr);go_enter Tryz.func40,Tryz.ntmps40;(go_wp2_with fail);(refine wp_name fun wa hwa=>?_;have wa_s0:=sg w.heap.size hwa;obtain ⟨wa_c0,wa_c1,wa_c2,wa_c3,wa_c4,wa_c5,wa_c6,wa_c7,wa_c8,wa_c9,wa_c10,wa_c11⟩:=kz12 hwa w.heap.size (.int .i64 o.kind) (.int .i64 o.client) (.int .i64 o.seq) (.string o.key) (.string o.who) (.string o.tkey) (.string o.twho) (.int .i64 o.item) (.int .i64 o.count) (.int .i64 o.price) (.bool o.buy) (.int .i64 o.id);have wa_b:Below w.heap.size w wa:=(by rw [hwa];exact bg);clear hwa);(refine wp_region_gr (by kernel_rfl) (by kernel_rfl) ?_;(repeat (go_big_quiet_step (fail)));refine wpQuiet_nil ?_;intro _ hw';obtain ⟨g,hw''⟩:=hw';subst hw'');(go_wp2_with fail);go_ret;exact ⟨rfl,wa_b.trans ((gr_below wa g).mono (by omega))⟩)
 ·have d:decide (0≤o.item)=false:=by rw [decide_eq_false_iff_not];omega
  ((have hrf:r=false:=(by rw [←hr];simp [h1]));(subst hrf);(clear hr);go_enter Tryz.func40,Tryz.ntmps40;(go_wp2_with fail);(refine wp_name fun wa hwa=>?_;have wa_s0:=sg w.heap.size hwa;obtain ⟨wa_c0,wa_c1,wa_c2,wa_c3,wa_c4,wa_c5,wa_c6,wa_c7,wa_c8,wa_c9,wa_c10,wa_c11⟩:=kz12 hwa w.heap.size (.int .i64 o.kind) (.int .i64 o.client) (.int .i64 o.seq) (.string o.key) (.string o.who) (.string o.tkey) (.string o.twho) (.int .i64 o.item) (.int .i64 o.count) (.int .i64 o.price) (.bool o.buy) (.int .i64 o.id);have wa_b:Below w.heap.size w wa:=(by rw [hwa];exact bg);clear hwa);(refine wp_region_gr (by kernel_rfl) (by kernel_rfl) ?_;(repeat (go_big_quiet_step (fail)));refine wpQuiet_nil ?_;intro _ hw';obtain ⟨g,hw''⟩:=hw';subst hw'');(go_wp2_with fail);go_ret;exact ⟨rfl,wa_b.trans ((gr_below wa g).mono (by omega))⟩)
def canO (o:Rq):Bool:=decide (1≤o.id∧o.id≤1099511627776∧o.tkey.toList=[]∧o.twho.toList=[]∧o.item=0∧o.count=0∧o.price=0∧o.buy=false)
set_option maxRecDepth 20000 in
set_option maxHeartbeats 1000000 in
theorem cancels_any (o:Rq) (w:World) (r:Bool) (hr:canO o=r) :
 Calls Tryz.prog 43 #[.agg #[.int .i64 o.kind,.int .i64 o.client,.int .i64 o.seq,.string o.key,.string o.who,.string o.tkey,.string o.twho,.int .i64 o.item,.int .i64 o.count,.int .i64 o.price,.bool o.buy,.int .i64 o.id]] w fun e w'=>e=.returned (.bool r)∧Below w.heap.size w w':=by
 unfold canO at hr
 by_cases h1:1≤o.id
 ·by_cases h2:o.id≤1099511627776
  ·have heq:=fun w=>eql_op.request ⟨0,0,0,⟨#[]⟩,⟨#[]⟩,o.tkey,o.twho,o.item,o.count,o.price,o.buy,o.id⟩ ⟨0,0,0,⟨#[]⟩,⟨#[]⟩,⟨#[]⟩,⟨#[]⟩,0,0,0,false,o.id⟩ w r (by rw [←hr];simp [eqR,h1,h2])
   simp only at heq
   clear hr
   go_enter Tryz.func43,Tryz.ntmps43
   go_wp2_with fail
   (refine wp_name fun wa hwa=>?_;have wa_s0:=sg w.heap.size hwa;obtain ⟨wa_c0,wa_c1,wa_c2,wa_c3,wa_c4,wa_c5,wa_c6,wa_c7,wa_c8,wa_c9,wa_c10,wa_c11⟩:=kz12 hwa w.heap.size (.int .i64 o.kind) (.int .i64 o.client) (.int .i64 o.seq) (.string o.key) (.string o.who) (.string o.tkey) (.string o.twho) (.int .i64 o.item) (.int .i64 o.count) (.int .i64 o.price) (.bool o.buy) (.int .i64 o.id);have wa_b:Below w.heap.size w wa:=(by rw [hwa];exact bg);clear hwa)
   (refine wp_region_gr (by kernel_rfl) (by kernel_rfl) ?_;(repeat (go_big_quiet_step (first | (go_at_call 68;exact calls_gr (rest_any o _)) | fail)));refine wpQuiet_nil ?_;intro _ hw';obtain ⟨g,hw''⟩:=hw';subst hw'')
   go_wp2_with fail
   go_ret
   exact ⟨rfl,wa_b.trans ((gr_below wa g).mono (by omega))⟩
  ·have d:decide (o.id≤1099511627776)=false:=by rw [decide_eq_false_iff_not];omega
   ((have hrf:r=false:=(by rw [←hr];simp [h2]));(subst hrf);(clear hr);go_enter Tryz.func43,Tryz.ntmps43;(go_wp2_with fail);(refine wp_name fun wa hwa=>?_;have wa_s0:=sg w.heap.size hwa;obtain ⟨wa_c0,wa_c1,wa_c2,wa_c3,wa_c4,wa_c5,wa_c6,wa_c7,wa_c8,wa_c9,wa_c10,wa_c11⟩:=kz12 hwa w.heap.size (.int .i64 o.kind) (.int .i64 o.client) (.int .i64 o.seq) (.string o.key) (.string o.who) (.string o.tkey) (.string o.twho) (.int .i64 o.item) (.int .i64 o.count) (.int .i64 o.price) (.bool o.buy) (.int .i64 o.id);have wa_b:Below w.heap.size w wa:=(by rw [hwa];exact bg);clear hwa);(refine wp_region_gr (by kernel_rfl) (by kernel_rfl) ?_;(repeat (go_big_quiet_step (fail)));refine wpQuiet_nil ?_;intro _ hw';obtain ⟨g,hw''⟩:=hw';subst hw'');(go_wp2_with fail);go_ret;exact ⟨rfl,wa_b.trans ((gr_below wa g).mono (by omega))⟩)
 ·have d:decide (1≤o.id)=false:=by rw [decide_eq_false_iff_not];omega
  ((have hrf:r=false:=(by rw [←hr];simp [h1]));(subst hrf);(clear hr);go_enter Tryz.func43,Tryz.ntmps43;(go_wp2_with fail);(refine wp_name fun wa hwa=>?_;have wa_s0:=sg w.heap.size hwa;obtain ⟨wa_c0,wa_c1,wa_c2,wa_c3,wa_c4,wa_c5,wa_c6,wa_c7,wa_c8,wa_c9,wa_c10,wa_c11⟩:=kz12 hwa w.heap.size (.int .i64 o.kind) (.int .i64 o.client) (.int .i64 o.seq) (.string o.key) (.string o.who) (.string o.tkey) (.string o.twho) (.int .i64 o.item) (.int .i64 o.count) (.int .i64 o.price) (.bool o.buy) (.int .i64 o.id);have wa_b:Below w.heap.size w wa:=(by rw [hwa];exact bg);clear hwa);(refine wp_region_gr (by kernel_rfl) (by kernel_rfl) ?_;(repeat (go_big_quiet_step (fail)));refine wpQuiet_nil ?_;intro _ hw';obtain ⟨g,hw''⟩:=hw';subst hw'');(go_wp2_with fail);go_ret;exact ⟨rfl,wa_b.trans ((gr_below wa g).mono (by omega))⟩)
def ordO (o:Rq):Bool:=decide (1≤o.item∧1≤o.price∧o.price≤1024)&&cntO { o with price:=0,buy:=false }
set_option maxRecDepth 20000 in
set_option maxHeartbeats 1000000 in
theorem orders_any (o:Rq) (w:World) (r:Bool) (hr:ordO o=r) :
 Calls Tryz.prog 42 #[.agg #[.int .i64 o.kind,.int .i64 o.client,.int .i64 o.seq,.string o.key,.string o.who,.string o.tkey,.string o.twho,.int .i64 o.item,.int .i64 o.count,.int .i64 o.price,.bool o.buy,.int .i64 o.id]] w fun e w'=>e=.returned (.bool r)∧Below w.heap.size w w':=by
 unfold ordO at hr
 by_cases h1:1≤o.item
 ·by_cases h2:1≤o.price
  ·by_cases h3:o.price≤1024
   ·have hcn:=counts_any { o with price:=0,buy:=false }
    have hcr:cntO { o with price:=0,buy:=false }=r:=by rw [←hr];simp [h1,h2,h3]
    simp only at hcn
    have Hcn:=Lib.hid hcn
    have Hcr:=Lib.hid hcr
    clear hr hcn hcr
    go_enter Tryz.func42,Tryz.ntmps42
    go_wp2_with fail
    refine (Hcn.out _ r Hcr.out).mono ?_
    rintro e w1 ⟨rfl,hb⟩
    have hb1:Below w.heap.size w w1:=(by refine Below.trans ?_ (hb.mono ?_);exact bg;simp)
    clear hb
    go_wp2_with fail
    go_ret
    exact ⟨rfl,hb1⟩
   ·have d:decide (o.price≤1024)=false:=by rw [decide_eq_false_iff_not];omega
    ((have hrf:r=false:=(by rw [←hr];simp [h3]));(subst hrf);(clear hr);go_enter Tryz.func42,Tryz.ntmps42;(go_wp2_with fail);go_ret;exact ⟨rfl,bg⟩)
  ·have d:decide (1≤o.price)=false:=by rw [decide_eq_false_iff_not];omega
   ((have hrf:r=false:=(by rw [←hr];simp [h2]));(subst hrf);(clear hr);go_enter Tryz.func42,Tryz.ntmps42;(go_wp2_with fail);go_ret;exact ⟨rfl,bg⟩)
 ·have d:decide (1≤o.item)=false:=by rw [decide_eq_false_iff_not];omega
  ((have hrf:r=false:=(by rw [←hr];simp [h1]));(subst hrf);(clear hr);go_enter Tryz.func42,Tryz.ntmps42;(go_wp2_with fail);go_ret;exact ⟨rfl,bg⟩)
def sendO (o:Rq):Bool:=placeB o.tkey o.twho&&cntO { o with tkey:=e0,twho:=e0 }
set_option maxRecDepth 20000 in
set_option maxHeartbeats 1000000 in
theorem sends_any (o:Rq) (w:World) (r:Bool) (hr:sendO o=r) :
 Calls Tryz.prog 41 #[.agg #[.int .i64 o.kind,.int .i64 o.client,.int .i64 o.seq,.string o.key,.string o.who,.string o.tkey,.string o.twho,.int .i64 o.item,.int .i64 o.count,.int .i64 o.price,.bool o.buy,.int .i64 o.id]] w fun e w'=>e=.returned (.bool r)∧Below w.heap.size w w':=by
 unfold sendO at hr
 cases h1:placeB o.tkey o.twho with
 | true =>
  have hcn:=counts_any { o with tkey:=e0,twho:=e0 }
  have hcr:cntO { o with tkey:=e0,twho:=e0 }=r:=by rw [←hr,h1];rfl
  simp only [e0] at hcn
  have Hcn:=Lib.hid hcn
  have Hcr:=Lib.hid hcr
  have H1:=Lib.hid h1
  clear hr hcn hcr h1
  go_enter Tryz.func41,Tryz.ntmps41
  go_wp2_with fail
  (refine calls_name fun wa hwa=>?_;have wa_s0:=sg w.heap.size hwa;obtain ⟨wa_c0,wa_c1,wa_c2,wa_c3,wa_c4,wa_c5,wa_c6,wa_c7,wa_c8,wa_c9,wa_c10,wa_c11⟩:=kz12 hwa w.heap.size (.int .i64 o.kind) (.int .i64 o.client) (.int .i64 o.seq) (.string o.key) (.string o.who) (.string ⟨#[]⟩) (.string ⟨#[]⟩) (.int .i64 o.item) (.int .i64 o.count) (.int .i64 o.price) (.bool o.buy) (.int .i64 o.id);have wa_b:Below w.heap.size w wa:=(by rw [hwa];exact bg);clear hwa)
  refine (isPlace_any o.tkey o.twho _ true H1.out).mono ?_
  (rintro e w1 ⟨rfl,w1_h⟩;obtain ⟨w1_hc,w1_hf⟩:=bcell w1_h;have w1_z:=w1_h.size;have w1_b:=wa_b.trans (w1_h.mono (by have:=wa_b.size;omega));have w1_le:=w1_b.size;have w1_s0:w.heap.size<w1.heap.size:=(by omega);clear w1_h)
  go_wp2_with fail
  (refine calls_name fun wb hwb=>?_;have wb_b:Below w.heap.size w wb:=(by rw [hwb];exact bg);clear hwb)
  refine (Hcn.out _ r Hcr.out).mono ?_
  (rintro e w2 ⟨rfl,w2_h⟩;obtain ⟨w2_hc,w2_hf⟩:=bcell w2_h;have w2_z:=w2_h.size;have w2_b:=wb_b.trans (w2_h.mono (by have:=wb_b.size;omega));have w2_le:=w2_b.size;clear w2_h)
  go_wp2_with fail
  go_ret
  exact ⟨rfl,bg⟩
 | false =>
  obtain rfl:r=false:=by rw [←hr,h1];rfl
  have H1:=Lib.hid h1
  clear hr h1
  go_enter Tryz.func41,Tryz.ntmps41
  go_wp2_with fail
  (refine calls_name fun wa hwa=>?_;have wa_b:Below w.heap.size w wa:=(by rw [hwa];exact bg);clear hwa)
  refine (isPlace_any o.tkey o.twho _ false H1.out).mono ?_
  (rintro e w1 ⟨rfl,w1_h⟩;obtain ⟨w1_hc,w1_hf⟩:=bcell w1_h;have w1_z:=w1_h.size;have w1_b:=wa_b.trans (w1_h.mono (by have:=wa_b.size;omega));have w1_le:=w1_b.size;clear w1_h)
  go_wp2_with fail
  go_ret
  exact ⟨rfl,bg⟩
def kindO (o:Rq):Bool:=if o.kind=1∨o.kind=6 then cntO o else if o.kind=2 then sendO o else if o.kind=3 then ordO o else if o.kind=4 then canO o else if o.kind=5∨o.kind=7 then barO o else false
def mayO (o:Rq):Bool:=decide (1≤o.client∧o.client≤1048576∧1≤o.seq∧o.seq≤1099511627776)&&placeB o.key o.who&&kindO o
end Go.Proofs.YtogamdaomdoapaaGreat