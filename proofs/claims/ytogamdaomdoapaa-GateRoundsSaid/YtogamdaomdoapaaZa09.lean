/- Texts put together: BackNum, BackRd, BackOp, RepP, ItIs, Sm, Rep. -/
import Derived.Test.YtogamdaomdoapaaZa01
import Derived.Test.YtogamdaomdoapaaZa02
import Derived.Test.YtogamdaomdoapaaZa04
import Derived.Test.YtogamdaomdoapaaZa07
import Derived.Test.YtogamdaomdoapaaZa08
import Derived.Deep.DrawnRows
import Derived.Deep.RegionLaw
import Derived.Laws.Bits64b
import Derived.Laws.BytesArg
import Derived.Shelf.Bytes.SlSmallAll
namespace Go.Proofs.Ytogamdaomdoapaa
theorem numR_enc:∀ (m n i u:Nat) (r:List UInt8),n<m→i<9→(0<i→0<n)→u+n * 128 ^ i≤4611686018427387904→numR i u (encN n++r)=some (u+n * 128 ^ i,r)
 | 0,_,_,_,_,h,_,_,_=>by omega
 | m+1,n,i,u,r,h,hi,h0,hle=>by
  have hp:0<128 ^ i:=Nat.pow_pos (by omega)
  by_cases h128:n<128
  ·rw [encN_small h128]
   simp only [List.cons_append,List.nil_append,numR]
   have hc:(UInt8.ofNat n).toNat=n:=by simp;omega
   rw [if_neg,hc,if_pos h128,if_neg (by omega)]
   rintro (h1 | ⟨h1,h2⟩)
   ·omega
   ·have:=congrArg UInt8.toNat h2
    rw [hc,UInt8.toNat_zero] at this
    have:=h0 h1
    omega
  ·have hi8:i<8:=by
    apply Nat.lt_of_not_le
    intro h8
    have h1:128 ^ 8≤128 ^ i:=Nat.pow_le_pow_right (by omega) h8
    have h2:128 * 128 ^ 8≤n * 128 ^ i:=Nat.mul_le_mul (by omega) h1
    have h3:(128:Nat) * 128 ^ 8=9223372036854775808:=by decide
    omega
   have hn62:n≤4611686018427387904:=by
    have:n * 1≤n * 128 ^ i:=Nat.mul_le_mul_left _ hp
    omega
   rw [encN_big h128 hn62]
   simp only [List.cons_append,numR]
   have hc:(UInt8.ofNat (n % 128+128)).toNat=n % 128+128:=by simp;omega
   have hsum:u+n % 128 * 128 ^ i+n / 128 * 128 ^ (i+1)=u+n * 128 ^ i:=by
    have h1:n / 128 * 128 ^ (i+1)=n / 128 * 128 * 128 ^ i:=by rw [Nat.pow_succ,Nat.mul_assoc,Nat.mul_comm 128]
    have h2:n % 128 * 128 ^ i+n / 128 * 128 * 128 ^ i=n * 128 ^ i:=by
     rw [←Nat.add_mul];congr 1;omega
    omega
   rw [if_neg,hc,if_neg (by omega),show (n % 128+128) % 128=n % 128 from by omega,numR_enc m (n / 128) (i+1) _ r (by omega) (by omega) (by omega) (by omega),hsum]
   rintro (h1 | ⟨h1,h2⟩)
   ·omega
   ·have:=congrArg UInt8.toNat h2
    rw [hc,UInt8.toNat_zero] at this
    omega
theorem numOf_enc (n:Nat) (r:List UInt8) (h:n≤4611686018427387904):numOf (encN n++r)=some (n,r):=by
 have:=numR_enc (n+1) n 0 0 r (by omega) (by omega) (by omega) (by omega)
 simpa [numOf] using this
theorem bytesOf_enc (l r:List UInt8) (h:l.length≤4611686018427387904):bytesOf (encRow l++r)=some (l,r):=by
 unfold bytesOf encRow
 rw [List.append_assoc,numOf_enc _ _ h]
 simp
theorem tookOf_enc (l r:List UInt8) (bad:Bool) (h:l.length≤4611686018427387904):tookOf (encRow l++r) bad=(l,r,bad):=by
 unfold tookOf
 rw [bytesOf_enc l r h]
end Go.Proofs.Ytogamdaomdoapaa
namespace Go.Proofs.Ytogamdaomdoapaa
open Go.RowKit
set_option maxRecDepth 20000
theorem numR_back:∀ (l:List UInt8) (i u n:Nat) (r:List UInt8),numR i u l=some (n,r)→u<128 ^ i→∃ m,n=u+m * 128 ^ i∧l=encN m++r∧(0<i→0<m)
 | [],i,u,n,r,h,_=>by simp [numR] at h
 | c::t,i,u,n,r,h,hu=>by
  have hle:=(numR_left (c::t) i u n r h).1
  rw [numR] at h
  split at h
  ·cases h
  ·rename_i hc
   split at h
   ·rename_i hlt
    split at h
    ·cases h
    ·simp only [Option.some.injEq,Prod.mk.injEq] at h
     obtain ⟨rfl,rfl⟩:=h
     refine ⟨c.toNat,rfl,?_,fun hi=>?_⟩
     ·rw [encN_small hlt];simp
     ·rcases Nat.eq_zero_or_pos c.toNat with h0 | h0
      ·exact absurd (.inr ⟨hi,UInt8.toNat_inj.1 (by simpa using h0)⟩) hc
      ·exact h0
   ·rename_i hge
    have hu2:=digit_lt i u (c.toNat % 128) hu (Nat.mod_lt _ (by omega))
    obtain ⟨m,hn,ht,hm⟩:=numR_back t (i+1) _ n r h hu2
    have hm:=hm (by omega)
    have hlt:=c.toNat_lt
    have hn2:n=u+(c.toNat % 128+128 * m) * 128 ^ i:=by
     rw [hn,Nat.pow_succ,Nat.add_mul,←Nat.add_assoc]
     congr 1
     generalize 128 ^ i=q
     ac_rfl
    refine ⟨c.toNat % 128+128 * m,hn2,?_,fun _=>by omega⟩
    have hbig:¬(c.toNat % 128+128 * m<128):=by omega
    have hp:0<128 ^ i:=Nat.pow_pos (by omega)
    have hsz:c.toNat % 128+128 * m≤4611686018427387904:=by
     have:=Nat.le_mul_of_pos_right (c.toNat % 128+128 * m) hp
     omega
    rw [encN_big hbig hsz,show (c.toNat % 128+128 * m) % 128+128=c.toNat by omega,show (c.toNat % 128+128 * m) / 128=m by omega,ht]
    simp
theorem numT_back {rest:List UInt8} {bad:Bool} (h:(numT rest bad).2.2=false):bad=false∧rest=encN (numT rest bad).1++(numT rest bad).2.1:=by
 unfold numT at h ⊢
 cases ho:numOf rest with
 | none=>rw [ho] at h;simp at h
 | some o =>
  obtain ⟨n,r⟩:=o
  rw [ho] at h
  simp only at h ⊢
  obtain ⟨m,hn,hl,-⟩:=numR_back rest 0 0 n r ho (by simp)
  obtain rfl:n=m:=by simpa using hn
  exact ⟨h,hl⟩
theorem tookOf_back {rest:List UInt8} {bad:Bool} (h:(tookOf rest bad).2.2=false):bad=false∧rest=encRow (tookOf rest bad).1++(tookOf rest bad).2.1:=by
 unfold tookOf bytesOf at h ⊢
 cases ho:numOf rest with
 | none=>rw [ho] at h;simp at h
 | some o =>
  obtain ⟨n,r⟩:=o
  rw [ho] at h
  obtain ⟨m,hn,hl,-⟩:=numR_back rest 0 0 n r ho (by simp)
  obtain rfl:n=m:=by simpa using hn
  by_cases hc:n≤r.length
  ·simp only [hc,if_true] at h ⊢
   refine ⟨h,?_⟩
   unfold encRow
   rw [List.length_take,Nat.min_eq_left hc,List.append_assoc,List.take_append_drop]
   exact hl
  ·simp only [hc,if_false] at h
   cases h
theorem rdSt_back {rest:List UInt8} {bad:Bool} {k:Nat} (h:(rdSt rest bad (k+1)).2=false):(rdSt rest bad k).2=false∧(rdSt rest bad k).1=encN (rdVal rest bad k)++(rdSt rest bad (k+1)).1:=numT_back h
theorem rdVal_le (rest:List UInt8) (bad:Bool) (k:Nat):rdVal rest bad k≤4611686018427387904:=(numT_le _ _).2
theorem numT_enc (n:Nat) (r:List UInt8) (bad:Bool) (h:n≤4611686018427387904):numT (encN n++r) bad=(n,r,bad):=by
 unfold numT;rw [numOf_enc n r h]
theorem rdSt_shift (rest:List UInt8) (bad:Bool) (k:Nat):rdSt rest bad (k+1)=rdSt (numT rest bad).2.1 (numT rest bad).2.2 k:=by
 induction k with
 | zero=>rfl
 | succ k ih=>rw [rdSt,ih];rfl
theorem rdVal_shift (rest:List UInt8) (bad:Bool) (k:Nat):rdVal rest bad (k+1)=rdVal (numT rest bad).2.1 (numT rest bad).2.2 k:=by
 unfold rdVal;rw [rdSt_shift]
theorem rdSt_enc (n:Nat) (r:List UInt8) (bad:Bool) (k:Nat) (h:n≤4611686018427387904):rdSt (encN n++r) bad (k+1)=rdSt r bad k:=by rw [rdSt_shift,numT_enc n r bad h]
theorem rdVal_enc (n:Nat) (r:List UInt8) (bad:Bool) (k:Nat) (h:n≤4611686018427387904):rdVal (encN n++r) bad (k+1)=rdVal r bad k:=by rw [rdVal_shift,numT_enc n r bad h]
theorem rdVal_enc0 (n:Nat) (r:List UInt8) (bad:Bool) (h:n≤4611686018427387904):rdVal (encN n++r) bad 0=n:=by unfold rdVal;simp only [rdSt];rw [numT_enc n r bad h]
end Go.Proofs.Ytogamdaomdoapaa
namespace Go.Proofs.Ytogamdaomdoapaa
open Go.RowKit
structure Dq where
 k:Nat
 c:Nat
 s:Nat
 key:List UInt8
 who:List UInt8
 tkey:List UInt8
 twho:List UInt8
 i:Nat
 n:Nat
 p:Nat
 b:Nat
 d:Nat
 rest:List UInt8
 bad:Bool
theorem clampN_nat {n:Nat} (h:n≤4611686018427387904):clampN (n:Int)=n:=by unfold clampN;omega
end Go.Proofs.Ytogamdaomdoapaa
namespace Go.Proofs.Ytogamdaomdoapaa
open Go.RowKit
structure Rp where
 err:Int
 id:Int
 i:It
def mayR (r:Rp):Bool:=decide (0≤r.err∧r.err≤19∧0≤r.id∧r.id≤1099511627776)&&isI r.i
def encItB (i:It):List UInt8:=encs [i.a,i.b,i.c,i.d]
def encP (r:Rp):List UInt8:=encs [r.err,r.id]++encItB r.i
theorem encP_len (r:Rp):(encs [r.err,r.id]).length≤20∧(encItB r.i).length≤40:=by
 have h1:=encs_length [r.err,r.id]
 have h2:=encs_length [r.i.a,r.i.b,r.i.c,r.i.d]
 simp only [encItB,List.length_cons,List.length_nil] at h1 h2 ⊢
 omega
def zRp:Rp:=⟨0,0,⟨0,0,0,0⟩⟩
end Go.Proofs.Ytogamdaomdoapaa
namespace Go.Proofs.Ytogamdaomdoapaa
open Go.RowKit
set_option maxHeartbeats 1000000 in
theorem purse_is (i:It) (w:World) :
 Calls Try.prog 84 #[.agg #[.int .i64 i.a,.int .i64 i.b,.int .i64 i.c,.int .i64 i.d]] w fun e w'=>e=.returned (.bool (isI i))∧Below w.heap.size w w':=by
 have i0:∀ w,(Instr.index 55 (.agg #[.int .i64 i.a,.int .i64 i.b,.int .i64 i.c,.int .i64 i.d]) (.int .i64 0)).run Try.prog w=.ok (.int .i64 i.a) w:=fun _=>by kernel_rfl
 have i1:∀ w,(Instr.index 55 (.agg #[.int .i64 i.a,.int .i64 i.b,.int .i64 i.c,.int .i64 i.d]) (.int .i64 1)).run Try.prog w=.ok (.int .i64 i.b) w:=fun _=>by kernel_rfl
 have i2:∀ w,(Instr.index 55 (.agg #[.int .i64 i.a,.int .i64 i.b,.int .i64 i.c,.int .i64 i.d]) (.int .i64 2)).run Try.prog w=.ok (.int .i64 i.c) w:=fun _=>by kernel_rfl
 have i3:∀ w,(Instr.index 55 (.agg #[.int .i64 i.a,.int .i64 i.b,.int .i64 i.c,.int .i64 i.d]) (.int .i64 3)).run Try.prog w=.ok (.int .i64 i.d) w:=fun _=>by kernel_rfl
 go_enter Try.func84,Try.ntmps84
 go_wp2_with fail
 (refine wp_loop_rounds 5 ?_;(repeat any_goals (rw [rounds_succ];go_wp2_with fail)))
 all_goals (go_ret;refine ⟨?_,bg⟩;first | (rw [(isI_false i).2 (by omega)];rfl) | (rw [(isI_iff i).2 (by omega)];rfl))
end Go.Proofs.Ytogamdaomdoapaa
namespace Go.Proofs.Ytogamdaomdoapaa
open Go.RowKit
set_option maxRecDepth 20000
theorem St.cellsN {W w:World} {L:List Th} (h:St W w L) (i:Nat) {b:Nat} {cur:Array Value} {t:TypeId} (hi:L[i]?=some (thObj b (.cells cur t (0,0)))):b<w.heap.size∧(∀ j,w.cell? ⟨b,j,none⟩=cur[j]?)∧∀ j,w.frozen? ⟨b,j,none⟩=false:=h.cells (List.mem_of_getElem? hi)
theorem etaN (t:Nat × List UInt8 × Bool):t=(t.1,t.2.1,t.2.2):=rfl
theorem rd_step (l:List UInt8) (b:Bool) (k j:Nat) (hj:j=k+1):numT (rdSt l b k).1 (rdSt l b k).2=(rdVal l b k,(rdSt l b j).1,(rdSt l b j).2):=by subst hj;exact etaN _
theorem conv_str {w:World} {ao:Option Addr} {l:List UInt8} (h:BAt w ao l) (c:Nat):(convert 36 9 (.slice ao l.length c)).run Try.prog w=.ok (.string ⟨l.toArray⟩) w:=by
 by_cases hp:0<l.length
 ·obtain ⟨b,off,rfl,-,hr⟩:=h hp
  have:=run_convert_bytes_arg (P:=Try.prog) w 36 5 Try.underlying36 Try.underlying5 b off l.length c (l.map fun c=>(c.toNat:Int)) (by simp) (fun i hi=>by
   rw [hr i hi];simp [List.getD,hi]) 9 Try.underlying9
  rw [this]
  congr 2
  simp [strOfNums,Function.comp_def]
 ·have:l=[]:=List.length_eq_zero_iff.1 (by omega)
  subst this
  exact run_convert_bytes_zero w 36 5 Try.underlying36 Try.underlying5 ao c 9 Try.underlying9
end Go.Proofs.Ytogamdaomdoapaa
namespace Go.Proofs.Ytogamdaomdoapaa
open Go.RowKit
attribute [local go_sem ↓] Go.wp_at_zero Go.wp_at_succ
theorem is_op.mayReply (i:It) (w:World):Calls Try.prog 84 #[.agg #[.int .i64 i.a,.int .i64 i.b,.int .i64 i.c,.int .i64 i.d]] w fun e w'=>e=.returned (.bool (isI i))∧Below w.heap.size w w':=purse_is i w
set_option maxHeartbeats 1000000 in
theorem qop.mayReply_any (r:Rp) (w:World) (z:Bool) (hz:mayR r=z) :
 Calls Try.prog 73 #[.agg #[.int .i64 r.err,.int .i64 r.id,.int .i64 r.i.a,.int .i64 r.i.b,.int .i64 r.i.c,.int .i64 r.i.d]] w fun e w'=>e=.returned (.bool z)∧Below w.heap.size w w':=by
 unfold mayR at hz
 by_cases h1:0≤r.err
 ·by_cases h2:r.err≤19
  ·by_cases h3:0≤r.id
   ·by_cases h4:r.id≤1099511627776
    ·have hi:isI r.i=z:=by rw [←hz];simp [h1,h2,h3,h4]
     have His:=Lib.hid (fun w=>is_op.mayReply r.i w)
     rw [hi] at His
     clear hi hz
     go_enter Try.func73,Try.ntmps73
     go_wp2_with fail
     (refine calls_name fun wa hwa=>?_;have wa_s0:=sg w.heap.size hwa;obtain ⟨wa_c0,wa_c1,wa_c2,wa_c3,wa_c4,wa_c5⟩:=kz6 hwa w.heap.size (.int .i64 r.err) (.int .i64 r.id) (.int .i64 r.i.a) (.int .i64 r.i.b) (.int .i64 r.i.c) (.int .i64 r.i.d);have wa_b:Below w.heap.size w wa:=(by rw [hwa];exact bg);clear hwa)
     refine (His.out _).mono ?_
     (rintro e w1 ⟨rfl,w1_h⟩;obtain ⟨w1_hc,w1_hf⟩:=bcell w1_h;have w1_z:=w1_h.size;have w1_b:=wa_b.trans (w1_h.mono (by have:=wa_b.size;omega));have w1_le:=w1_b.size;have w1_s0:w.heap.size<w1.heap.size:=(by omega);clear w1_h)
     go_wp2_with fail
     go_ret
     exact ⟨rfl,bg⟩
    ·obtain rfl:z=false:=by rw [←hz];simp [h4]
     have d:decide (r.id≤1099511627776)=false:=by rw [decide_eq_false_iff_not];exact h4
     clear hz
     go_enter Try.func73,Try.ntmps73
     go_wp2_with fail
     go_ret
     exact ⟨rfl,bg⟩
   ·obtain rfl:z=false:=by rw [←hz];simp [h3]
    clear hz
    go_enter Try.func73,Try.ntmps73
    go_wp2_with fail
    go_ret
    exact ⟨rfl,bg⟩
  ·obtain rfl:z=false:=by rw [←hz];simp [h2]
   clear hz
   go_enter Try.func73,Try.ntmps73
   go_wp2_with fail
   go_ret
   exact ⟨rfl,bg⟩
 ·obtain rfl:z=false:=by rw [←hz];simp [h1]
  clear hz
  go_enter Try.func73,Try.ntmps73
  go_wp2_with fail
  go_ret
  exact ⟨rfl,bg⟩
theorem St.numsIn {W w:World} {L:List Th} {p b:Nat} {l:List UInt8} {o:Option Nat} {cur:Array Value} {t:TypeId} (h:St W w (thWr p W.heap.size l o::thObj b (.cells cur t (0,0))::L)) (vs:List Int) (off cv k:Nat) (hk:k=vs.length) (hc:∀ i,(hi:i<vs.length)→cur[off+i]?=some (.int .i64 vs[i])) (hm:l.length+10 * vs.length≤140737488351232) :
 Calls Try.prog 35 #[.pointer (some ⟨p,0,none⟩),.slice (some ⟨b,off,none⟩) k cv] w fun e w'=>e=.returned (.tuple #[])∧∃ o',St W w' (thWr p W.heap.size (l++encs vs) o'::thObj b (.cells cur t (0,0))::L):=by
 subst hk
 obtain ⟨hlt,hcell,-⟩:=h.cells (b:=b) (cur:=cur) (t:=t) (List.mem_cons_of_mem _ (List.mem_cons_self ..))
 have hdis:=h.t.2.2.1 (thObj b (.cells cur t (0,0))) (List.mem_cons_self ..)
 refine (nums_some p W.heap.size l o b off cv vs w h.head (fun i hi=>by rw [hcell];exact hc i hi) hlt (fun e=>hdis b (.inl e) rfl) (fun e=>hdis b (.inr e) rfl) h.b.size hm).mono ?_
 rintro e w' ⟨rfl,hi⟩
 exact ⟨rfl,h.wrote hi⟩
def RepPost (w:World) (r:Rp) (e:Ending) (w':World):Prop:=∃ ao cap,e=.returned (.tuple #[.slice ao (encP r).length cap,.int .i64 0])∧OwnB w' w.heap.size ao cap (encP r)∧Below w.heap.size w w'
set_option maxRecDepth 20000 in
set_option maxHeartbeats 2000000 in
theorem encrep_yes (r:Rp) (w:World) (hm:mayR r=true):Calls Try.prog 64 #[.agg #[.int .i64 r.err,.int .i64 r.id,.int .i64 r.i.a,.int .i64 r.i.b,.int .i64 r.i.c,.int .i64 r.i.d]] w (RepPost w r):=by
 have Hmy:=Lib.hid (fun w=>qop.mayReply_any r w true hm)
 have Hlen:=Lib.hid (encP_len r)
 clear hm
 go_enter Try.func64,Try.ntmps64
 go_wp2_with fail
 have S0:Hid (St w _ [thObj w.heap.size (.cells #[.int .i64 r.err,.int .i64 r.id,.int .i64 r.i.a,.int .i64 r.i.b,.int .i64 r.i.c,.int .i64 r.i.d] 57 (0,0))]):=(St.start w).objN (.cells #[.int .i64 r.err,.int .i64 r.id,.int .i64 r.i.a,.int .i64 r.i.b,.int .i64 r.i.c,.int .i64 r.i.d] 57) w.heap.size rfl
 refine (Hmy.out _).mono ?_
 rintro e w1 ⟨rfl,hb1⟩
 have S1:=Lib.hid (S0.out.grow hb1)
 obtain ⟨hlt1,hc1,-⟩:=S1.out.cellsN 0 rfl
 clear S0 hb1
 go_wp2_with fail
 have S2:=S1.out.newWr w1.heap.size rfl w.heap.size
 refine (S2.nums [r.err,r.id] (w1.heap.size+1) 2 (by simp) rfl _ rfl (by simp)).mono ?_
 rintro e w2 ⟨rfl,o2,hS⟩
 have S3:=Lib.hid hS
 obtain ⟨hlt2,hc2,-⟩:=S3.out.cellsN 1 rfl
 clear S1 S2 hS hlt1 hc1
 go_wp2_with fail
 refine (S3.out.numsIn [r.i.a,r.i.b,r.i.c,r.i.d] 2 4 4 rfl ?_ (by have:=Hlen.out;simp only [List.nil_append,List.length_cons,List.length_nil];omega)).mono ?_
 ·intro i hi
  have:i=0∨i=1∨i=2∨i=3:=by simp at hi;omega
  rcases this with rfl | rfl | rfl | rfl<;>rfl
 rintro e w3 ⟨rfl,o3,hS⟩
 have S4:Hid (St w w3 [thWr w1.heap.size w.heap.size (encP r) o3,thObj w.heap.size (.cells #[.int .i64 r.err,.int .i64 r.id,.int .i64 r.i.a,.int .i64 r.i.b,.int .i64 r.i.c,.int .i64 r.i.d] 57 (0,0))]):=hS
 clear S3 hS hlt2 hc2
 go_wp2_with fail
 refine (out_any w1.heap.size w.heap.size (encP r) o3 w3 S4.out.head (by have:=Hlen.out;simp only [encP,List.length_append];omega)).mono ?_
 rintro e w4 ⟨ao,cap,rfl,ho,hb⟩
 go_wp2_with fail
 go_ret2
 exact ⟨ao,cap,rfl,own_weak ho S4.out.b.size,(S4.out.grow hb).b⟩
theorem encrep_no (r:Rp) (w:World) (hm:mayR r=false):Calls Try.prog 64 #[.agg #[.int .i64 r.err,.int .i64 r.id,.int .i64 r.i.a,.int .i64 r.i.b,.int .i64 r.i.c,.int .i64 r.i.d]] w fun e w'=>e=.returned (.tuple #[.slice none 0 0,.int .i64 1])∧Below w.heap.size w w':=by
 have Hmy:=Lib.hid (fun w=>qop.mayReply_any r w false hm)
 clear hm
 go_enter Try.func64,Try.ntmps64
 go_wp2_with fail
 (refine calls_name fun wa hwa=>?_;have wa_b:Below w.heap.size w wa:=(by rw [hwa];exact bg);clear hwa)
 refine (Hmy.out _).mono ?_
 (rintro e w1 ⟨rfl,w1_h⟩;obtain ⟨w1_hc,w1_hf⟩:=bcell w1_h;have w1_z:=w1_h.size;have w1_b:=wa_b.trans (w1_h.mono (by have:=wa_b.size;omega));have w1_le:=w1_b.size;clear w1_h)
 go_wp2_with fail
 go_ret2
 exact ⟨rfl,bg⟩
end Go.Proofs.Ytogamdaomdoapaa