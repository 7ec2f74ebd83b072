/- Texts put together: BackOp, RepP, ItIs, Sm, Rep, PlainTwo, PartsPlain, DirP. -/
import Derived.Test.YthlcmjgdilebeaaGreatQa01
import Derived.Test.YthlcmjgdilebeaaGreatQa03
import Derived.Test.YthlcmjgdilebeaaGreatQa05
import Derived.Deep.DrawnRows
import Derived.Deep.RegionLaw
import Derived.Laws.Bits64b
import Derived.Laws.BytesArg
import Derived.Shelf.Bytes.SlSmallAll
namespace Go.Proofs.YthlcmjgdilebeaaGreat
open Go.RowKit
structure Dq where
 k:Nat
 c:Nat
 s:Nat
 key:List UInt8
 who:List UInt8
 tkey:List UInt8
 twho:List UInt8
 i:Nat
 n:Nat
 p:Nat
 b:Nat
 d:Nat
 rest:List UInt8
 bad:Bool
def tk1 (l:List UInt8):=tookOf (rdSt l false 3).1 (rdSt l false 3).2
def tk2 (l:List UInt8):=tookOf (tk1 l).2.1 (tk1 l).2.2
def tk3 (l:List UInt8):=tookOf (tk2 l).2.1 (tk2 l).2.2
def tk4 (l:List UInt8):=tookOf (tk3 l).2.1 (tk3 l).2.2
def decD (l:List UInt8):Dq:=⟨rdVal l false 0,rdVal l false 1,rdVal l false 2,(tk1 l).1,(tk2 l).1,(tk3 l).1,(tk4 l).1,
 rdVal (tk4 l).2.1 (tk4 l).2.2 0,rdVal (tk4 l).2.1 (tk4 l).2.2 1,rdVal (tk4 l).2.1 (tk4 l).2.2 2,rdVal (tk4 l).2.1 (tk4 l).2.2 3,rdVal (tk4 l).2.1 (tk4 l).2.2 4,(rdSt (tk4 l).2.1 (tk4 l).2.2 5).1,(rdSt (tk4 l).2.1 (tk4 l).2.2 5).2⟩
def dqQ (d:Dq):Rq:=⟨d.k,d.c,d.s,⟨d.key.toArray⟩,⟨d.who.toArray⟩,⟨d.tkey.toArray⟩,⟨d.twho.toArray⟩,d.i,d.n,d.p,d.b==1,d.d⟩
def wholeD (d:Dq):Bool:=!d.bad&&d.rest.isEmpty
def encD (d:Dq):List UInt8:=encN d.k++(encN d.c++(encN d.s++(encRow d.key++(encRow d.who++(encRow d.tkey++(encRow d.twho++(encN d.i++(encN d.n++(encN d.p++(encN d.b++encN d.d))))))))))
theorem app_eq {a x r r':List UInt8} (h:a=x++r) (k:r=r'):a=x++r':=k▸h
theorem took_step {s:List UInt8 × Bool} {t:List UInt8 × List UInt8 × Bool} (ht:t=tookOf s.1 s.2) (h:t.2.2=false):s.2=false∧s.1=encRow t.1++t.2.1:=by subst ht;exact tookOf_back h
theorem rdSt_zero (r:List UInt8) (b:Bool):rdSt r b 0=(r,b):=rfl
theorem rdSt_step {r:List UInt8} {b:Bool} {k j:Nat} (hj:j=k+1) (h:(rdSt r b j).2=false):(rdSt r b k).2=false∧(rdSt r b k).1=encN (rdVal r b k)++(rdSt r b j).1:=by subst hj;exact rdSt_back h
theorem decD_back {l:List UInt8} (h:wholeD (decD l)=true):l=encD (decD l):=by
 have h5:(rdSt (tk4 l).2.1 (tk4 l).2.2 5).2=false∧(rdSt (tk4 l).2.1 (tk4 l).2.2 5).1=[]:=by
  simp only [wholeD,Bool.and_eq_true,Bool.not_eq_true',List.isEmpty_iff,decD] at h
  exact h
 obtain ⟨h5,hr⟩:=h5
 obtain ⟨h4,e4⟩:=rdSt_step (k:=4) rfl h5
 obtain ⟨h3,e3⟩:=rdSt_step (k:=3) rfl h4
 obtain ⟨h2,e2⟩:=rdSt_step (k:=2) rfl h3
 obtain ⟨h1,e1⟩:=rdSt_step (k:=1) rfl h2
 obtain ⟨h0,e0⟩:=rdSt_step (k:=0) rfl h1
 rw [hr,List.append_nil] at e4
 have e3:=app_eq e3 e4
 have e2:=app_eq e2 e3
 have e1:=app_eq e1 e2
 have e0:=app_eq e0 e1
 rw [rdSt_zero] at h0 e0
 obtain ⟨t4,f4⟩:=took_step (s:=(tk3 l).2) (t:=tk4 l) rfl h0
 obtain ⟨t3,f3⟩:=took_step (s:=(tk2 l).2) (t:=tk3 l) rfl t4
 obtain ⟨t2,f2⟩:=took_step (s:=(tk1 l).2) (t:=tk2 l) rfl t3
 obtain ⟨t1,f1⟩:=took_step (s:=rdSt l false 3) (t:=tk1 l) rfl t2
 have f4:=app_eq f4 e0
 have f3:=app_eq f3 f4
 have f2:=app_eq f2 f3
 have f1:=app_eq f1 f2
 obtain ⟨g2,q2⟩:=rdSt_step (k:=2) rfl t1
 obtain ⟨g1,q1⟩:=rdSt_step (k:=1) rfl g2
 obtain ⟨g0,q0⟩:=rdSt_step (k:=0) rfl g1
 have q2:=app_eq q2 f1
 have q1:=app_eq q1 q2
 have q0:=app_eq q0 q1
 rw [rdSt_zero] at q0
 simp only [encD,decD]
 exact q0
theorem decD_enc (d:Dq) (hk:d.k≤4611686018427387904) (hc:d.c≤4611686018427387904) (hs:d.s≤4611686018427387904) (hi:d.i≤4611686018427387904) (hn:d.n≤4611686018427387904) (hp:d.p≤4611686018427387904) (hb:d.b≤4611686018427387904) (hd:d.d≤4611686018427387904)
 (h1:d.key.length≤4611686018427387904) (h2:d.who.length≤4611686018427387904) (h3:d.tkey.length≤4611686018427387904) (h4:d.twho.length≤4611686018427387904) (hr:d.rest=[]) (hbad:d.bad=false):decD (encD d)=d:=by
 have t1:tk1 (encD d)=(d.key,encRow d.who++(encRow d.tkey++(encRow d.twho++(encN d.i++(encN d.n++(encN d.p++(encN d.b++encN d.d)))))),false):=by
  unfold tk1 encD
  rw [rdSt_enc _ _ _ _ hk,rdSt_enc _ _ _ _ hc,rdSt_enc _ _ _ _ hs]
  exact tookOf_enc _ _ _ h1
 have t2:tk2 (encD d)=(d.who,encRow d.tkey++(encRow d.twho++(encN d.i++(encN d.n++(encN d.p++(encN d.b++encN d.d))))),false):=by
  unfold tk2;rw [t1];exact tookOf_enc _ _ _ h2
 have t3:tk3 (encD d)=(d.tkey,encRow d.twho++(encN d.i++(encN d.n++(encN d.p++(encN d.b++encN d.d)))),false):=by
  unfold tk3;rw [t2];exact tookOf_enc _ _ _ h3
 have t4:tk4 (encD d)=(d.twho,encN d.i++(encN d.n++(encN d.p++(encN d.b++encN d.d))),false):=by
  unfold tk4;rw [t3];exact tookOf_enc _ _ _ h4
 have z:encN d.d=encN d.d++[]:=(List.append_nil _).symm
 have e:decD (encD d)=⟨d.k,d.c,d.s,d.key,d.who,d.tkey,d.twho,d.i,d.n,d.p,d.b,d.d,[],false⟩:=by
  unfold decD
  rw [t1,t2,t3,t4]
  simp only [encD]
  rw [z]
  rw [rdVal_enc0 _ _ _ hk,rdVal_enc _ _ _ _ hk,rdVal_enc0 _ _ _ hc,rdVal_enc _ _ _ _ hk,rdVal_enc _ _ _ _ hc,rdVal_enc0 _ _ _ hs]
  rw [rdVal_enc0 _ _ _ hi,rdVal_enc _ _ _ 0 hi,rdVal_enc0 _ _ _ hn,rdVal_enc _ _ _ 1 hi,rdVal_enc _ _ _ _ hn,rdVal_enc0 _ _ _ hp,rdVal_enc _ _ _ 2 hi,rdVal_enc _ _ _ _ hn,rdVal_enc _ _ _ _ hp,rdVal_enc0 _ _ _ hb,rdVal_enc _ _ _ 3 hi,rdVal_enc _ _ _ _ hn,rdVal_enc _ _ _ _ hp,rdVal_enc _ _ _ _ hb,rdVal_enc0 _ _ _ hd]
  rw [rdSt_enc _ _ _ _ hi,rdSt_enc _ _ _ _ hn,rdSt_enc _ _ _ _ hp,rdSt_enc _ _ _ _ hb,rdSt_enc _ _ _ _ hd]
  rfl
 rw [e]
 obtain ⟨k,c,s,key,who,tkey,twho,i,n,p,b,dd,rest,bad⟩:=d
 simp only at hr hbad
 subst hr hbad
 rfl
theorem clampN_nat {n:Nat} (h:n≤4611686018427387904):clampN (n:Int)=n:=by unfold clampN;omega
def qD (o:Rq):Dq:=⟨clampN o.kind,clampN o.client,clampN o.seq,o.key.data.toList,o.who.data.toList,o.tkey.data.toList,o.twho.data.toList,clampN o.item,clampN o.count,clampN o.price,clampN (b1 o.buy),clampN o.id,[],false⟩
theorem encD_q (o:Rq):encD (qD o)=encO o:=by
 simp only [encD,qD,encO,encs,encS,List.flatMap_cons,List.flatMap_nil,List.append_nil,List.append_assoc]
theorem decD_q {o:Rq} (h:mayO o=true):decD (encO o)=qD o:=by
 rw [←encD_q]
 have hz:=may_sizes h
 have e:∀ s:ByteArray,s.data.toList.length=s.size:=fun s=>by rw [Array.length_toList];rfl
 have h1:(qD o).key.length≤4611686018427387904:=by show o.key.data.toList.length≤_;rw [e];omega
 have h2:(qD o).who.length≤4611686018427387904:=by show o.who.data.toList.length≤_;rw [e];omega
 have h3:(qD o).tkey.length≤4611686018427387904:=by show o.tkey.data.toList.length≤_;rw [e];omega
 have h4:(qD o).twho.length≤4611686018427387904:=by show o.twho.data.toList.length≤_;rw [e];omega
 have c:∀ v,clampN v≤4611686018427387904:=clampN_le
 refine decD_enc (qD o) ?_ ?_ ?_ ?_ ?_ ?_ ?_ ?_ h1 h2 h3 h4 rfl rfl
 all_goals (simp only [qD];exact c _)
theorem encD_of {d:Dq} (hk:d.k≤4611686018427387904) (hc:d.c≤4611686018427387904) (hs:d.s≤4611686018427387904) (hi:d.i≤4611686018427387904) (hn:d.n≤4611686018427387904) (hp:d.p≤4611686018427387904) (hb:d.b≤1) (hd:d.d≤4611686018427387904):encO (dqQ d)=encD d:=by
 rw [←encD_q]
 have e1:clampN (b1 (d.b==1))=d.b:=by
  have:d.b=0∨d.b=1:=by omega
  rcases this with h | h<;>rw [h]<;>rfl
 simp only [encD,qD,dqQ,clampN_nat hk,clampN_nat hc,clampN_nat hs,clampN_nat hi,clampN_nat hn,clampN_nat hp,clampN_nat hd,e1]
theorem decD_le (l:List UInt8):(decD l).k≤4611686018427387904∧(decD l).c≤4611686018427387904∧(decD l).s≤4611686018427387904∧(decD l).i≤4611686018427387904∧(decD l).n≤4611686018427387904∧(decD l).p≤4611686018427387904∧(decD l).b≤4611686018427387904∧(decD l).d≤4611686018427387904:=by
 simp only [decD]
 exact ⟨rdVal_le _ _ _,rdVal_le _ _ _,rdVal_le _ _ _,rdVal_le _ _ _,rdVal_le _ _ _,rdVal_le _ _ _,rdVal_le _ _ _,rdVal_le _ _ _⟩
def goodD (l:List UInt8):Bool:=wholeD (decD l)&&decide ((decD l).b≤1)&&mayO (dqQ (decD l))
theorem goodD_prog (l:List UInt8):(wholeD (decD l)&&mayO (dqQ (decD l))&&(l==encO (dqQ (decD l))))=goodD l:=by
 unfold goodD
 cases hw:wholeD (decD l) with
 | false=>simp only [Bool.false_and]
 | true =>
  cases hm:mayO (dqQ (decD l)) with
  | false=>simp only [Bool.and_false,Bool.false_and]
  | true =>
   simp only [Bool.true_and,Bool.and_true]
   by_cases hb:(decD l).b≤1
   ·obtain ⟨b1,b2,b3,b4,b5,b6,-,b8⟩:=decD_le l
    have h1:=encD_of b1 b2 b3 b4 b5 b6 hb b8
    have h2:=decD_back hw
    generalize decD l=d at *
    rw [h1,←h2]
    simp [hb]
   ·have hne:l≠encO (dqQ (decD l)):=fun e=>by
     have h1:=decD_q hm
     rw [←e] at h1
     generalize decD l=d at *
     have h2:d.b=clampN (b1 (d.b==1)):=congrArg Dq.b h1
     have h3:(d.b==1)=false:=by rw [beq_eq_false_iff_ne];omega
     rw [h3] at h2
     have h4:clampN (b1 false)=0:=rfl
     omega
    rw [beq_eq_false_iff_ne.2 hne]
    simp [hb]
end Go.Proofs.YthlcmjgdilebeaaGreat
namespace Go.Proofs.YthlcmjgdilebeaaGreat
open Go.RowKit
structure Rp where
 err:Int
 id:Int
 i:It
def mayR (r:Rp):Bool:=decide (0≤r.err∧r.err≤19∧0≤r.id∧r.id≤1099511627776)&&isI r.i
def encItB (i:It):List UInt8:=encs [i.a,i.b,i.c,i.d]
def encP (r:Rp):List UInt8:=encs [r.err,r.id]++encItB r.i
def rpOf (l:List UInt8):Rp:=⟨rdVal l false 0,rdVal l false 1,⟨rdVal l false 2,rdVal l false 3,rdVal l false 4,rdVal l false 5⟩⟩
def wholeP (l:List UInt8):Bool:=!(rdSt l false 6).2&&(rdSt l false 6).1.isEmpty
def goodP (l:List UInt8):Bool:=wholeP l&&mayR (rpOf l)
theorem mayR_iff (r:Rp):mayR r=true↔(0≤r.err∧r.err≤19∧0≤r.id∧r.id≤1099511627776)∧isI r.i=true:=by simp [mayR]
theorem encP_eq (r:Rp):encP r=encN (clampN r.err)++(encN (clampN r.id)++(encN (clampN r.i.a)++(encN (clampN r.i.b)++(encN (clampN r.i.c)++(encN (clampN r.i.d)++[]))))):=by
 simp only [encP,encItB,encs,List.flatMap_cons,List.flatMap_nil,List.append_nil,List.append_assoc]
theorem encP_len (r:Rp):(encs [r.err,r.id]).length≤20∧(encItB r.i).length≤40:=by
 have h1:=encs_length [r.err,r.id]
 have h2:=encs_length [r.i.a,r.i.b,r.i.c,r.i.d]
 simp only [encItB,List.length_cons,List.length_nil] at h1 h2 ⊢
 omega
def zRp:Rp:=⟨0,0,⟨0,0,0,0⟩⟩
def repR (l:List UInt8):Rp:=if goodP l=true then rpOf l else zRp
def repE (l:List UInt8):Int:=if goodP l=true then 0 else 3
end Go.Proofs.YthlcmjgdilebeaaGreat
namespace Go.Proofs.YthlcmjgdilebeaaGreat
open Go.RowKit
set_option maxHeartbeats 1000000 in
theorem purse_is (i:It) (w:World) :
 Calls Tryz.prog 115 #[.agg #[.int .i64 i.a,.int .i64 i.b,.int .i64 i.c,.int .i64 i.d]] w fun e w'=>e=.returned (.bool (isI i))∧Below w.heap.size w w':=by
 have i0:∀ w,(Instr.index 30 (.agg #[.int .i64 i.a,.int .i64 i.b,.int .i64 i.c,.int .i64 i.d]) (.int .i64 0)).run Tryz.prog w=.ok (.int .i64 i.a) w:=fun _=>by kernel_rfl
 have i1:∀ w,(Instr.index 30 (.agg #[.int .i64 i.a,.int .i64 i.b,.int .i64 i.c,.int .i64 i.d]) (.int .i64 1)).run Tryz.prog w=.ok (.int .i64 i.b) w:=fun _=>by kernel_rfl
 have i2:∀ w,(Instr.index 30 (.agg #[.int .i64 i.a,.int .i64 i.b,.int .i64 i.c,.int .i64 i.d]) (.int .i64 2)).run Tryz.prog w=.ok (.int .i64 i.c) w:=fun _=>by kernel_rfl
 have i3:∀ w,(Instr.index 30 (.agg #[.int .i64 i.a,.int .i64 i.b,.int .i64 i.c,.int .i64 i.d]) (.int .i64 3)).run Tryz.prog w=.ok (.int .i64 i.d) w:=fun _=>by kernel_rfl
 go_enter Tryz.func115,Tryz.ntmps115
 go_wp2_with fail
 (refine wp_loop_rounds 5 ?_;(repeat any_goals (rw [rounds_succ];go_wp2_with fail)))
 all_goals (go_ret;refine ⟨?_,bg⟩;first | (rw [(isI_false i).2 (by omega)];rfl) | (rw [(isI_iff i).2 (by omega)];rfl))
set_option maxHeartbeats 1000000 in
theorem satrapyref8_is (i:It) (w:World) :
 Calls Tryz.prog 120 #[.agg #[.int .i64 i.a,.int .i64 i.b,.int .i64 i.c,.int .i64 i.d]] w fun e w'=>e=.returned (.bool (isI i))∧Below w.heap.size w w':=by
 have i0:∀ w,(Instr.index 30 (.agg #[.int .i64 i.a,.int .i64 i.b,.int .i64 i.c,.int .i64 i.d]) (.int .i64 0)).run Tryz.prog w=.ok (.int .i64 i.a) w:=fun _=>by kernel_rfl
 have i1:∀ w,(Instr.index 30 (.agg #[.int .i64 i.a,.int .i64 i.b,.int .i64 i.c,.int .i64 i.d]) (.int .i64 1)).run Tryz.prog w=.ok (.int .i64 i.b) w:=fun _=>by kernel_rfl
 have i2:∀ w,(Instr.index 30 (.agg #[.int .i64 i.a,.int .i64 i.b,.int .i64 i.c,.int .i64 i.d]) (.int .i64 2)).run Tryz.prog w=.ok (.int .i64 i.c) w:=fun _=>by kernel_rfl
 have i3:∀ w,(Instr.index 30 (.agg #[.int .i64 i.a,.int .i64 i.b,.int .i64 i.c,.int .i64 i.d]) (.int .i64 3)).run Tryz.prog w=.ok (.int .i64 i.d) w:=fun _=>by kernel_rfl
 go_enter Tryz.func120,Tryz.ntmps120
 go_wp2_with fail
 (refine wp_loop_rounds 5 ?_;(repeat any_goals (rw [rounds_succ];go_wp2_with fail)))
 all_goals (go_ret;refine ⟨?_,bg⟩;first | (rw [(isI_false i).2 (by omega)];rfl) | (rw [(isI_iff i).2 (by omega)];rfl))
end Go.Proofs.YthlcmjgdilebeaaGreat
namespace Go.Proofs.YthlcmjgdilebeaaGreat
open Go.RowKit
set_option maxRecDepth 20000
theorem St.cellsN {W w:World} {L:List Th} (h:St W w L) (i:Nat) {b:Nat} {cur:Array Value} {t:TypeId} (hi:L[i]?=some (thObj b (.cells cur t (0,0)))):b<w.heap.size∧(∀ j,w.cell? ⟨b,j,none⟩=cur[j]?)∧∀ j,w.frozen? ⟨b,j,none⟩=false:=h.cells (List.mem_of_getElem? hi)
theorem etaN (t:Nat × List UInt8 × Bool):t=(t.1,t.2.1,t.2.2):=rfl
theorem rd_step (l:List UInt8) (b:Bool) (k j:Nat) (hj:j=k+1):numT (rdSt l b k).1 (rdSt l b k).2=(rdVal l b k,(rdSt l b j).1,(rdSt l b j).2):=by subst hj;exact etaN _
theorem conv_str {w:World} {ao:Option Addr} {l:List UInt8} (h:BAt w ao l) (c:Nat):(convert 38 9 (.slice ao l.length c)).run Tryz.prog w=.ok (.string ⟨l.toArray⟩) w:=by
 by_cases hp:0<l.length
 ·obtain ⟨b,off,rfl,-,hr⟩:=h hp
  have:=run_convert_bytes_arg (P:=Tryz.prog) w 38 5 Tryz.underlying38 Tryz.underlying5 b off l.length c (l.map fun c=>(c.toNat:Int)) (by simp) (fun i hi=>by
   rw [hr i hi];simp [List.getD,hi]) 9 Tryz.underlying9
  rw [this]
  congr 2
  simp [strOfNums,Function.comp_def]
 ·have:l=[]:=List.length_eq_zero_iff.1 (by omega)
  subst this
  exact run_convert_bytes_zero w 38 5 Tryz.underlying38 Tryz.underlying5 ao c 9 Tryz.underlying9
end Go.Proofs.YthlcmjgdilebeaaGreat
namespace Go.Proofs.YthlcmjgdilebeaaGreat
open Go.RowKit
attribute [local go_sem ↓] Go.wp_at_zero Go.wp_at_succ
theorem is_op.mayReply (i:It) (w:World):Calls Tryz.prog 115 #[.agg #[.int .i64 i.a,.int .i64 i.b,.int .i64 i.c,.int .i64 i.d]] w fun e w'=>e=.returned (.bool (isI i))∧Below w.heap.size w w':=purse_is i w
theorem is_satrapyref10.MayReply (i:It) (w:World):Calls Tryz.prog 120 #[.agg #[.int .i64 i.a,.int .i64 i.b,.int .i64 i.c,.int .i64 i.d]] w fun e w'=>e=.returned (.bool (isI i))∧Below w.heap.size w w':=satrapyref8_is i w
set_option maxHeartbeats 1000000 in
theorem qop.mayReply_any (r:Rp) (w:World) (z:Bool) (hz:mayR r=z) :
 Calls Tryz.prog 97 #[.agg #[.int .i64 r.err,.int .i64 r.id,.int .i64 r.i.a,.int .i64 r.i.b,.int .i64 r.i.c,.int .i64 r.i.d]] w fun e w'=>e=.returned (.bool z)∧Below w.heap.size w w':=by
 unfold mayR at hz
 by_cases h1:0≤r.err
 ·by_cases h2:r.err≤19
  ·by_cases h3:0≤r.id
   ·by_cases h4:r.id≤1099511627776
    ·have hi:isI r.i=z:=by rw [←hz];simp [h1,h2,h3,h4]
     have His:=Lib.hid (fun w=>is_op.mayReply r.i w)
     rw [hi] at His
     clear hi hz
     go_enter Tryz.func97,Tryz.ntmps97
     go_wp2_with fail
     (refine calls_name fun wa hwa=>?_;have wa_s0:=sg w.heap.size hwa;obtain ⟨wa_c0,wa_c1,wa_c2,wa_c3,wa_c4,wa_c5⟩:=kz6 hwa w.heap.size (.int .i64 r.err) (.int .i64 r.id) (.int .i64 r.i.a) (.int .i64 r.i.b) (.int .i64 r.i.c) (.int .i64 r.i.d);have wa_b:Below w.heap.size w wa:=(by rw [hwa];exact bg);clear hwa)
     refine (His.out _).mono ?_
     (rintro e w1 ⟨rfl,w1_h⟩;obtain ⟨w1_hc,w1_hf⟩:=bcell w1_h;have w1_z:=w1_h.size;have w1_b:=wa_b.trans (w1_h.mono (by have:=wa_b.size;omega));have w1_le:=w1_b.size;have w1_s0:w.heap.size<w1.heap.size:=(by omega);clear w1_h)
     go_wp2_with fail
     go_ret
     exact ⟨rfl,bg⟩
    ·obtain rfl:z=false:=by rw [←hz];simp [h4]
     have d:decide (r.id≤1099511627776)=false:=by rw [decide_eq_false_iff_not];exact h4
     clear hz
     go_enter Tryz.func97,Tryz.ntmps97
     go_wp2_with fail
     go_ret
     exact ⟨rfl,bg⟩
   ·obtain rfl:z=false:=by rw [←hz];simp [h3]
    clear hz
    go_enter Tryz.func97,Tryz.ntmps97
    go_wp2_with fail
    go_ret
    exact ⟨rfl,bg⟩
  ·obtain rfl:z=false:=by rw [←hz];simp [h2]
   clear hz
   go_enter Tryz.func97,Tryz.ntmps97
   go_wp2_with fail
   go_ret
   exact ⟨rfl,bg⟩
 ·obtain rfl:z=false:=by rw [←hz];simp [h1]
  clear hz
  go_enter Tryz.func97,Tryz.ntmps97
  go_wp2_with fail
  go_ret
  exact ⟨rfl,bg⟩
set_option maxHeartbeats 1000000 in
theorem qsatrapyref10.MayReply_any (r:Rp) (w:World) (z:Bool) (hz:mayR r=z) :
 Calls Tryz.prog 103 #[.agg #[.int .i64 r.err,.int .i64 r.id,.int .i64 r.i.a,.int .i64 r.i.b,.int .i64 r.i.c,.int .i64 r.i.d]] w fun e w'=>e=.returned (.bool z)∧Below w.heap.size w w':=by
 unfold mayR at hz
 by_cases h1:0≤r.err
 ·by_cases h2:r.err≤19
  ·by_cases h3:0≤r.id
   ·by_cases h4:r.id≤1099511627776
    ·have hi:isI r.i=z:=by rw [←hz];simp [h1,h2,h3,h4]
     have His:=Lib.hid (fun w=>is_satrapyref10.MayReply r.i w)
     rw [hi] at His
     clear hi hz
     go_enter Tryz.func103,Tryz.ntmps103
     go_wp2_with fail
     (refine calls_name fun wa hwa=>?_;have wa_s0:=sg w.heap.size hwa;obtain ⟨wa_c0,wa_c1,wa_c2,wa_c3,wa_c4,wa_c5⟩:=kz6 hwa w.heap.size (.int .i64 r.err) (.int .i64 r.id) (.int .i64 r.i.a) (.int .i64 r.i.b) (.int .i64 r.i.c) (.int .i64 r.i.d);have wa_b:Below w.heap.size w wa:=(by rw [hwa];exact bg);clear hwa)
     refine (His.out _).mono ?_
     (rintro e w1 ⟨rfl,w1_h⟩;obtain ⟨w1_hc,w1_hf⟩:=bcell w1_h;have w1_z:=w1_h.size;have w1_b:=wa_b.trans (w1_h.mono (by have:=wa_b.size;omega));have w1_le:=w1_b.size;have w1_s0:w.heap.size<w1.heap.size:=(by omega);clear w1_h)
     go_wp2_with fail
     go_ret
     exact ⟨rfl,bg⟩
    ·obtain rfl:z=false:=by rw [←hz];simp [h4]
     have d:decide (r.id≤1099511627776)=false:=by rw [decide_eq_false_iff_not];exact h4
     clear hz
     go_enter Tryz.func103,Tryz.ntmps103
     go_wp2_with fail
     go_ret
     exact ⟨rfl,bg⟩
   ·obtain rfl:z=false:=by rw [←hz];simp [h3]
    clear hz
    go_enter Tryz.func103,Tryz.ntmps103
    go_wp2_with fail
    go_ret
    exact ⟨rfl,bg⟩
  ·obtain rfl:z=false:=by rw [←hz];simp [h2]
   clear hz
   go_enter Tryz.func103,Tryz.ntmps103
   go_wp2_with fail
   go_ret
   exact ⟨rfl,bg⟩
 ·obtain rfl:z=false:=by rw [←hz];simp [h1]
  clear hz
  go_enter Tryz.func103,Tryz.ntmps103
  go_wp2_with fail
  go_ret
  exact ⟨rfl,bg⟩
theorem St.numsIn {W w:World} {L:List Th} {p b:Nat} {l:List UInt8} {o:Option Nat} {cur:Array Value} {t:TypeId} (h:St W w (thWr p W.heap.size l o::thObj b (.cells cur t (0,0))::L)) (vs:List Int) (off cv k:Nat) (hk:k=vs.length) (hc:∀ i,(hi:i<vs.length)→cur[off+i]?=some (.int .i64 vs[i])) (hm:l.length+10 * vs.length≤140737488351232) :
 Calls Tryz.prog 15 #[.pointer (some ⟨p,0,none⟩),.slice (some ⟨b,off,none⟩) k cv] w fun e w'=>e=.returned (.tuple #[])∧∃ o',St W w' (thWr p W.heap.size (l++encs vs) o'::thObj b (.cells cur t (0,0))::L):=by
 subst hk
 obtain ⟨hlt,hcell,-⟩:=h.cells (b:=b) (cur:=cur) (t:=t) (List.mem_cons_of_mem _ (List.mem_cons_self ..))
 have hdis:=h.t.2.2.1 (thObj b (.cells cur t (0,0))) (List.mem_cons_self ..)
 refine (nums_some p W.heap.size l o b off cv vs w h.head (fun i hi=>by rw [hcell];exact hc i hi) hlt (fun e=>hdis b (.inl e) rfl) (fun e=>hdis b (.inr e) rfl) h.b.size hm).mono ?_
 rintro e w' ⟨rfl,hi⟩
 exact ⟨rfl,h.wrote hi⟩
def RepPost (w:World) (r:Rp) (e:Ending) (w':World):Prop:=∃ ao cap,e=.returned (.tuple #[.slice ao (encP r).length cap,.int .i64 0])∧OwnB w' w.heap.size ao cap (encP r)∧Below w.heap.size w w'
set_option maxRecDepth 20000 in
set_option maxHeartbeats 2000000 in
theorem encrep_yes (r:Rp) (w:World) (hm:mayR r=true):Calls Tryz.prog 53 #[.agg #[.int .i64 r.err,.int .i64 r.id,.int .i64 r.i.a,.int .i64 r.i.b,.int .i64 r.i.c,.int .i64 r.i.d]] w (RepPost w r):=by
 have Hmy:=Lib.hid (fun w=>qop.mayReply_any r w true hm)
 have Hlen:=Lib.hid (encP_len r)
 clear hm
 go_enter Tryz.func53,Tryz.ntmps53
 go_wp2_with fail
 have S0:Hid (St w _ [thObj w.heap.size (.cells #[.int .i64 r.err,.int .i64 r.id,.int .i64 r.i.a,.int .i64 r.i.b,.int .i64 r.i.c,.int .i64 r.i.d] 32 (0,0))]):=(St.start w).objN (.cells #[.int .i64 r.err,.int .i64 r.id,.int .i64 r.i.a,.int .i64 r.i.b,.int .i64 r.i.c,.int .i64 r.i.d] 32) w.heap.size rfl
 refine (Hmy.out _).mono ?_
 rintro e w1 ⟨rfl,hb1⟩
 have S1:=Lib.hid (S0.out.grow hb1)
 obtain ⟨hlt1,hc1,-⟩:=S1.out.cellsN 0 rfl
 clear S0 hb1
 go_wp2_with fail
 have S2:=S1.out.newWr w1.heap.size rfl w.heap.size
 refine (S2.nums [r.err,r.id] (w1.heap.size+1) 2 (by simp) rfl _ rfl (by simp)).mono ?_
 rintro e w2 ⟨rfl,o2,hS⟩
 have S3:=Lib.hid hS
 obtain ⟨hlt2,hc2,-⟩:=S3.out.cellsN 1 rfl
 clear S1 S2 hS hlt1 hc1
 go_wp2_with fail
 refine (S3.out.numsIn [r.i.a,r.i.b,r.i.c,r.i.d] 2 4 4 rfl ?_ (by have:=Hlen.out;simp only [List.nil_append,List.length_cons,List.length_nil];omega)).mono ?_
 ·intro i hi
  have:i=0∨i=1∨i=2∨i=3:=by simp at hi;omega
  rcases this with rfl | rfl | rfl | rfl<;>rfl
 rintro e w3 ⟨rfl,o3,hS⟩
 have S4:Hid (St w w3 [thWr w1.heap.size w.heap.size (encP r) o3,thObj w.heap.size (.cells #[.int .i64 r.err,.int .i64 r.id,.int .i64 r.i.a,.int .i64 r.i.b,.int .i64 r.i.c,.int .i64 r.i.d] 32 (0,0))]):=hS
 clear S3 hS hlt2 hc2
 go_wp2_with fail
 refine (out_any w1.heap.size w.heap.size (encP r) o3 w3 S4.out.head (by have:=Hlen.out;simp only [encP,List.length_append];omega)).mono ?_
 rintro e w4 ⟨ao,cap,rfl,ho,hb⟩
 go_wp2_with fail
 go_ret2
 exact ⟨ao,cap,rfl,own_weak ho S4.out.b.size,(S4.out.grow hb).b⟩
theorem encrep_no (r:Rp) (w:World) (hm:mayR r=false):Calls Tryz.prog 53 #[.agg #[.int .i64 r.err,.int .i64 r.id,.int .i64 r.i.a,.int .i64 r.i.b,.int .i64 r.i.c,.int .i64 r.i.d]] w fun e w'=>e=.returned (.tuple #[.slice none 0 0,.int .i64 1])∧Below w.heap.size w w':=by
 have Hmy:=Lib.hid (fun w=>qop.mayReply_any r w false hm)
 clear hm
 go_enter Tryz.func53,Tryz.ntmps53
 go_wp2_with fail
 (refine calls_name fun wa hwa=>?_;have wa_b:Below w.heap.size w wa:=(by rw [hwa];exact bg);clear hwa)
 refine (Hmy.out _).mono ?_
 (rintro e w1 ⟨rfl,w1_h⟩;obtain ⟨w1_hc,w1_hf⟩:=bcell w1_h;have w1_z:=w1_h.size;have w1_b:=wa_b.trans (w1_h.mono (by have:=wa_b.size;omega));have w1_le:=w1_b.size;clear w1_h)
 go_wp2_with fail
 go_ret2
 exact ⟨rfl,bg⟩
end Go.Proofs.YthlcmjgdilebeaaGreat
namespace Go.Proofs.YthlcmjgdilebeaaGreat
abbrev Sp:=ByteArray × ByteArray
def sGo (a:Sp):List Sp→Option Sp
 | []=>some a
 | s::r=>if joinOk a.1 a.2 s.1 s.2 then sGo (a.1,s.2) r else none
def endB (a:Sp):Bool:=isB a.1 a.2&&(a.1.toList.isEmpty&&a.2.toList.isEmpty)
def sAll:List Sp→Bool
 | []=>false
 | s::r=>match sGo s r with
  | none=>false
  | some a=>endB a
def rGo (atB:List UInt8):List Sp→Option (List UInt8)
 | []=>some atB
 | s::r=>if isB s.1 s.2&&(s.1.toList==atB)&&!atB.isEmpty then rGo s.2.toList r else none
def finR:Option (List UInt8)→Bool
 | none=>false
 | some e=>e.isEmpty
def rAll:List Sp→Bool
 | []=>false
 | s::r=>if isB s.1 s.2&&s.1.toList.isEmpty then finR (rGo s.2.toList r) else false
theorem joinOk_iff (f t f' t':ByteArray):joinOk f t f' t'=true↔isB f t=true∧isB f' t'=true∧t.toList≠[]∧t.toList=f'.toList:=by
 simp [joinOk,and_assoc]
theorem isB_from {f g t:ByteArray} (h:isB g t=true) (hf:f.toList=[]):isB f t=true:=by
 rw [isB_iff] at *
 refine ⟨?_,h.2.1,?_⟩
 ·have:f.size=0:=by
   rw [ByteArray.toList_eq] at hf
   show f.data.size=0
   rw [←Array.length_toList,hf];rfl
  omega
 ·rcases h.2.2 with h | h
  ·exact .inl h
  ·right
   rw [hf]
   exact bl_of_nil fun e=>by rw [e,bl_nil] at h;cases h
theorem sGo_rGo (f t:ByteArray) (r:List Sp) (hf:f.toList=[]) (h:isB f t=true) :
 (match sGo (f,t) r with | none=>false | some a=>endB a)=finR (rGo t.toList r):=by
 induction r generalizing t with
 | nil=>simp [sGo,rGo,finR,endB,h,hf]
 | cons s r ih =>
  simp only [sGo,rGo]
  have e:joinOk f t s.1 s.2=(isB s.1 s.2&&(s.1.toList==t.toList)&&!t.toList.isEmpty):=by
   rw [Bool.eq_iff_iff,joinOk_iff]
   simp only [h,true_and,Bool.and_eq_true,beq_iff_eq,Bool.not_eq_true',List.isEmpty_eq_false_iff]
   constructor
   ·rintro ⟨a,b,c⟩;exact ⟨⟨a,c.symm⟩,b⟩
   ·rintro ⟨⟨a,c⟩,b⟩;exact ⟨a,b,c.symm⟩
  rw [e]
  by_cases hc:(isB s.1 s.2&&(s.1.toList==t.toList)&&!t.toList.isEmpty)=true
  ·rw [if_pos hc,if_pos hc]
   simp only [Bool.and_eq_true] at hc
   exact ih s.2 (isB_from hc.1.1 hf)
  ·rw [if_neg hc,if_neg hc];rfl
theorem sGo_none (f t:ByteArray) (r:List Sp) (hf:f.toList≠[]):(match sGo (f,t) r with | none=>false | some a=>endB a)=false:=by
 induction r generalizing t with
 | nil=>simp [sGo,endB,hf]
 | cons s r ih =>
  simp only [sGo]
  by_cases hc:joinOk f t s.1 s.2=true
  ·rw [if_pos hc];exact ih s.2
  ·rw [if_neg hc]
theorem sGo_bad (f t:ByteArray) (r:List Sp) (h:isB f t=false):(match sGo (f,t) r with | none=>false | some a=>endB a)=false:=by
 cases r with
 | nil=>simp [sGo,endB,h]
 | cons s r =>
  have:joinOk f t s.1 s.2=false:=by simp [joinOk,h]
  simp [sGo,this]
theorem all_same (l:List Sp):sAll l=rAll l:=by
 cases l with
 | nil=>rfl
 | cons s r =>
  obtain ⟨s1,s2⟩:=s
  show (match sGo (s1,s2) r with | none=>false | some a=>endB a)=(if isB s1 s2&&s1.toList.isEmpty then finR (rGo s2.toList r) else false)
  by_cases hf:s1.toList=[]
  ·cases h:isB s1 s2 with
   | false=>rw [sGo_bad s1 s2 r h];simp
   | true=>rw [sGo_rGo s1 s2 r hf h];simp [hf]
  ·rw [sGo_none s1 s2 r hf];simp [hf]
end Go.Proofs.YthlcmjgdilebeaaGreat
namespace Go.Proofs.YthlcmjgdilebeaaGreat
def Chain (f:List UInt8):List Sp→Prop
 | []=>False
 | s::r=>s.1.toList=f∧isB s.1 s.2=true∧((r=[]∧s.2.toList=[])∨(s.2.toList≠[]∧Chain s.2.toList r))
theorem chain_fin {s:Sp} {r:List Sp} (h:(r=[]∧s.2.toList=[])∨(s.2.toList≠[]∧Chain s.2.toList r)):finR (rGo s.2.toList r)=true:=by
 induction r generalizing s with
 | nil =>
  rcases h with ⟨-,h⟩ | ⟨-,h⟩
  ·simp [rGo,finR,h]
  ·exact h.elim
 | cons t r ih =>
  rcases h with ⟨h,-⟩ | ⟨h1,h2,h3,h4⟩
  ·cases h
  ·have:(isB t.1 t.2&&(t.1.toList==s.2.toList)&&!s.2.toList.isEmpty)=true:=by simp [h3,h2,h1]
   simp only [rGo,this,if_true]
   exact ih h4
theorem chain_all {l:List Sp} (h:Chain [] l):sAll l=true:=by
 rw [all_same]
 cases l with
 | nil=>exact h.elim
 | cons s r =>
  obtain ⟨h1,h2,h3⟩:=h
  simp only [rAll,h1,h2]
  simpa using chain_fin h3
end Go.Proofs.YthlcmjgdilebeaaGreat
namespace Go.Proofs.YthlcmjgdilebeaaGreat
structure Zn where
 id:Int
 fr:ByteArray
 to:ByteArray
 owner:Int
 epoch:Int
 pend:Int
 tt:Int
 key:ByteArray
 nw:Int
deriving DecidableEq
structure Ch where
 kind:Int
 zone:Int
 epoch:Int
 tt:Int
 key:ByteArray
structure Mp where
 ver:Int
 next:Int
 zs:List Zn
def z0:ByteArray:=⟨#[]⟩
def mayC (c:Ch):Bool:=decide (1≤c.zone∧c.zone≤1099511627776) &&
 (if c.kind=1 then decide (1≤c.key.size∧c.key.size≤16∧c.epoch=0∧c.tt=0)
 else if c.kind=2 then decide (c.epoch=0∧c.tt=0∧c.key.toList=[])
 else if c.kind=3 then decide (1≤c.tt∧c.tt≤1048576∧c.epoch=0∧c.key.toList=[])
 else if c.kind=4∨c.kind=5 then decide (1≤c.epoch∧c.epoch≤1099511627776∧c.tt=0∧c.key.toList=[])
 else false)
def findZ (l:List Zn) (id:Int):Option Nat:=l.findIdx? fun z=>z.id==id
def pendN (k:Int) (l:List Zn):Nat:=(l.filter fun z=>z.pend==k).length
def spz (z:Zn):Sp:=(z.fr,z.to)
def numsZ (z:Zn):List Int:=if z.pend=1 then [z.id,z.nw] else [z.id]
def nums (l:List Zn):List Int:=l.flatMap numsZ
theorem nums_append (a b:List Zn):nums (a++b)=nums a++nums b:=by simp [nums]
theorem nums_cons (a:Zn) (b:List Zn):nums (a::b)=numsZ a++nums b:=by simp [nums]
theorem id_mem {l:List Zn} {z:Zn} (h:z∈l):z.id∈nums l:=by
 simp only [nums,List.mem_flatMap]
 refine ⟨z,h,?_⟩
 unfold numsZ;split<;>simp
theorem nw_mem {l:List Zn} {z:Zn} (h:z∈l) (hp:z.pend=1):z.nw∈nums l:=by
 simp only [nums,List.mem_flatMap]
 refine ⟨z,h,?_⟩
 simp [numsZ,hp]
theorem nums_length (l:List Zn):(nums l).length=l.length+pendN 1 l:=by
 induction l with
 | nil=>rfl
 | cons z r ih =>
  rw [nums_cons,List.length_append,ih]
  unfold numsZ pendN
  by_cases h:z.pend=1
  ·simp [h];omega
  ·simp [h];omega
def Pair (a b:Zn):Prop:=a.pend=2∧b.pend=2∧a.nw=b.id∧b.nw=a.id∧a.owner=b.owner
inductive Pairs:List Zn→Prop
 | nil:Pairs []
 | one {z:Zn} {r:List Zn}:z.pend≠2→Pairs r→Pairs (z::r)
 | two {a b:Zn} {r:List Zn}:Pair a b→Pairs r→Pairs (a::b::r)
theorem Pairs.append {l r:List Zn} (h:Pairs l) (k:Pairs r):Pairs (l++r):=by
 induction h with
 | nil=>exact k
 | one hz _ ih=>exact .one hz ih
 | two hp _ ih=>exact .two hp ih
theorem Pairs.mate {A B:List Zn} {z:Zn} (h:Pairs (A++z::B)) (hz:z.pend=2):(∃ b R,B=b::R∧Pair z b∧Pairs A∧Pairs R)∨(∃ Q a,A=Q++[a]∧Pair a z∧Pairs Q∧Pairs B):=by
 generalize hl:A++z::B=l at h
 induction h generalizing A with
 | nil=>simp at hl
 | @one y r hy hr ih =>
  cases A with
  | nil=>simp only [List.nil_append,List.cons.injEq] at hl;obtain ⟨rfl,rfl⟩:=hl;exact absurd hz hy
  | cons a A =>
   simp only [List.cons_append,List.cons.injEq] at hl
   obtain ⟨rfl,hl⟩:=hl
   rcases ih hl with ⟨b,R,e,h1,h2,h3⟩ | ⟨Q,a',e,h1,h2,h3⟩
   ·exact .inl ⟨b,R,e,h1,.one hy h2,h3⟩
   ·exact .inr ⟨a::Q,a',by rw [e];rfl,h1,.one hy h2,h3⟩
 | @two a b r hp hr ih =>
  cases A with
  | nil =>
   simp only [List.nil_append,List.cons.injEq] at hl
   obtain ⟨rfl,rfl⟩:=hl
   exact .inl ⟨b,r,rfl,hp,.nil,hr⟩
  | cons a' A =>
   simp only [List.cons_append,List.cons.injEq] at hl
   obtain ⟨rfl,hl⟩:=hl
   cases A with
   | nil =>
    simp only [List.nil_append,List.cons.injEq] at hl
    obtain ⟨rfl,rfl⟩:=hl
    exact .inr ⟨[],a',rfl,hp,.nil,hr⟩
   | cons b' A =>
    simp only [List.cons_append,List.cons.injEq] at hl
    obtain ⟨rfl,hl⟩:=hl
    rcases ih hl with ⟨b,R,e,h1,h2,h3⟩ | ⟨Q,a,e,h1,h2,h3⟩
    ·exact .inl ⟨b,R,e,h1,.two hp h2,h3⟩
    ·exact .inr ⟨a'::b'::Q,a,by rw [e];rfl,h1,.two hp h2,h3⟩
def ZOk (z:Zn):Prop:=1≤z.owner∧z.owner≤1048576∧1≤z.epoch∧z.epoch≤1099511627776 ∧
 ((z.pend=0∧z.tt=0∧z.key=z0∧z.nw=0)∨(z.pend=3∧1≤z.tt∧z.tt≤1048576∧z.tt≠z.owner∧z.key=z0∧z.nw=0)∨(z.pend=1∧z.tt=0∧cutOk z.fr z.to z.key=true)∨(z.pend=2∧z.tt=0∧z.key=z0))
structure Inv (m:Mp):Prop where
 ver:1≤m.ver∧m.ver≤1099511627776
 next:1≤m.next∧m.next≤1099511627776
 nd:(nums m.zs).Nodup
 lt:∀ n∈nums m.zs,1≤n∧n<m.next
 ok:∀ z∈m.zs,ZOk z
 prs:Pairs m.zs
 chain:Chain [] (m.zs.map spz)
 room:(nums m.zs).length≤16
 moves:pendN 3 m.zs≤2
theorem cut_at {l:List Zn} {i:Nat} {z:Zn} (h:l[i]?=some z):∃ A B,l=A++z::B∧A.length=i:=by
 obtain ⟨hi,rfl⟩:=List.getElem?_eq_some_iff.1 h
 exact ⟨l.take i,l.drop (i+1),by rw [←List.drop_eq_getElem_cons hi,List.take_append_drop],by rw [List.length_take];omega⟩
section
variable {ver next:Int} {A B:List Zn} {z x:Zn}
end
theorem numsZ_split {z:Zn} (h:z.pend=1):numsZ z=[z.id,z.nw]:=by unfold numsZ;rw [if_pos h]
end Go.Proofs.YthlcmjgdilebeaaGreat