/- Texts put together: Sm, Rep, PlainTwo, PartsPlain, DirP, DirQ. -/
import Derived.Test.YtogamdaomdoapaaGreatSa01
import Derived.Test.YtogamdaomdoapaaGreatSa05
import Derived.Test.YtogamdaomdoapaaGreatSa06
import Derived.Deep.DrawnRows
import Derived.Deep.RegionLaw
import Derived.Laws.BytesArg
import Derived.Shelf.Bytes.SlSmallAll
namespace Go.Proofs.YtogamdaomdoapaaGreat
open Go.RowKit
set_option maxRecDepth 20000
theorem own_growO {w w':World} {base:Nat} {ao:Option Addr} {cap:Nat} {l:List UInt8} (h:OwnB w base ao cap l) (b:Below w.heap.size w w'):OwnB w' base ao cap l:=by
 refine ⟨h.1,?_⟩
 rcases h.2 with h2 | ⟨g,c,cur,hv,hg,hh,r⟩
 ·exact .inl h2
 ·exact .inr ⟨g,c,cur,hv,hg,(b.block g (Array.getElem?_eq_some_iff.1 hh).1).trans hh,r⟩
theorem at_go {P:Program} {ops:Array Oper} {o:Oper} {a:Act} {w:World} {K:Act→World→Prop} {Q:Exit→Act→World→Prop} {E:Prop} (f:FuncId) (xs:Array Operand) (ts:Array TypeId) (_:o.op=Op.call { callee:=Callee.value (Operand.func f),args:=xs,argTypes:=ts }) (h:if Region.wanted o (yielded ops a.tmps)=true then Oper.wp P o a w K Q else E):if Region.wanted o (yielded ops a.tmps)=true then Oper.wp P o a w K Q else E:=h
theorem at_app {P:Program} {ops:Array Oper} {o:Oper} {a:Act} {w:World} {K:Act→World→Prop} {Q:Exit→Act→World→Prop} {E:Prop} (xs:Array Operand) (ts:Array TypeId) (_:o.op=Op.call { callee:=Callee.builtin Builtin.append,args:=xs,argTypes:=ts }) (h:if Region.wanted o (yielded ops a.tmps)=true then Oper.wp P o a w K Q else E):if Region.wanted o (yielded ops a.tmps)=true then Oper.wp P o a w K Q else E:=h
theorem bstep {a b c:World} (h:Below a.heap.size a b) (k:Below b.heap.size b c):Below a.heap.size a c:=h.trans (k.mono h.size)
theorem refNums_lit (vs:List Int) (w:World) (n k:Nat) (cur:Array Value) (hn:n=w.heap.size) (hk:k=vs.length) (hc:cur=(intV vs).toArray) (hm:vs.length≤1000000) :
 Calls Tryz.prog 54 #[.slice (some ⟨n,0,none⟩) k k] (w.alloc (.cells cur 3)) fun e w'=>∃ ao cap,e=.returned (.slice ao (encs vs).length cap)∧OwnB w' w.heap.size ao cap (encs vs)∧Below w.heap.size w w':=by
 subst hn hk
 refine (refNums_any (some ⟨w.heap.size,0,none⟩) vs.length vs _ (fun _=>⟨w.heap.size,0,rfl,by simp,irow_obj (heap_new w _) hc⟩) hm).mono ?_
 rintro e w' ⟨ao,cap,rfl,ho,hb⟩
 exact ⟨ao,cap,rfl,own_weak ho (by simp),(below_allocO w _).trans (hb.mono (by simp))⟩
theorem refNums_eq (vs:List Int) (w:World) (n k:Nat) (cur:Array Value) (hn:n=w.heap.size) (hk:k=vs.length) (hc:cur=(intV vs).toArray) (hm:vs.length≤1000000) (X:List UInt8) (hX:encs vs=X) :
 Calls Tryz.prog 54 #[.slice (some ⟨n,0,none⟩) k k] (w.alloc (.cells cur 3)) (FreshB w X):=by
 subst hX;exact refNums_lit vs w n k cur hn hk hc hm
theorem refNums_in (vs:List Int) (w:World) (n k:Nat) (cur:Array Value) (hh:w.heap[n]?=some (.cells cur 3 (0,0))) (hk:k=vs.length) (hc:cur=(intV vs).toArray) (hm:vs.length≤1000000) (X:List UInt8) (hX:encs vs=X) :
 Calls Tryz.prog 54 #[.slice (some ⟨n,0,none⟩) k k] w (FreshB w X):=by
 subst hk hX
 exact refNums_any (some ⟨n,0,none⟩) vs.length vs _ (fun _=>⟨n,0,rfl,lt_of_block hh,irow_obj hh hc⟩) hm
theorem St.cellsN {W w:World} {L:List Th} (h:St W w L) (i:Nat) {b:Nat} {cur:Array Value} {t:TypeId} (hi:L[i]?=some (thObj b (.cells cur t (0,0)))):b<w.heap.size∧(∀ j,w.cell? ⟨b,j,none⟩=cur[j]?)∧∀ j,w.frozen? ⟨b,j,none⟩=false:=h.cells (List.mem_of_getElem? hi)
theorem etaN (t:Nat × List UInt8 × Bool):t=(t.1,t.2.1,t.2.2):=rfl
theorem rd_step (l:List UInt8) (b:Bool) (k j:Nat) (hj:j=k+1):numT (rdSt l b k).1 (rdSt l b k).2=(rdVal l b k,(rdSt l b j).1,(rdSt l b j).2):=by subst hj;exact etaN _
theorem conv_str {w:World} {ao:Option Addr} {l:List UInt8} (h:BAt w ao l) (c:Nat):(convert 47 9 (.slice ao l.length c)).run Tryz.prog w=.ok (.string ⟨l.toArray⟩) w:=by
 by_cases hp:0<l.length
 ·obtain ⟨b,off,rfl,-,hr⟩:=h hp
  have:=run_convert_bytes_arg (P:=Tryz.prog) w 47 5 Tryz.underlying47 Tryz.underlying5 b off l.length c (l.map fun c=>(c.toNat:Int)) (by simp) (fun i hi=>by
   rw [hr i hi];simp [List.getD,hi]) 9 Tryz.underlying9
  rw [this]
  congr 2
  simp [strOfNums,Function.comp_def]
 ·have:l=[]:=List.length_eq_zero_iff.1 (by omega)
  subst this
  exact run_convert_bytes_zero w 47 5 Tryz.underlying47 Tryz.underlying5 ao c 9 Tryz.underlying9
end Go.Proofs.YtogamdaomdoapaaGreat
namespace Go.Proofs.YtogamdaomdoapaaGreat
open Go.RowKit
attribute [local go_sem ↓] Go.wp_at_zero Go.wp_at_succ
theorem is_op.mayReply (i:It) (w:World):Calls Tryz.prog 145 #[.agg #[.int .i64 i.a,.int .i64 i.b,.int .i64 i.c,.int .i64 i.d]] w fun e w'=>e=.returned (.bool (isI i))∧Below w.heap.size w w':=purse_is i w
theorem is_satrapyref10.MayReply (i:It) (w:World):Calls Tryz.prog 106 #[.agg #[.int .i64 i.a,.int .i64 i.b,.int .i64 i.c,.int .i64 i.d]] w fun e w'=>e=.returned (.bool (isI i))∧Below w.heap.size w w':=satrapyref8_is i w
set_option maxHeartbeats 1000000 in
theorem qop.mayReply_any (r:Rp) (w:World) (z:Bool) (hz:mayR r=z) :
 Calls Tryz.prog 127 #[.agg #[.int .i64 r.err,.int .i64 r.id,.int .i64 r.i.a,.int .i64 r.i.b,.int .i64 r.i.c,.int .i64 r.i.d]] w fun e w'=>e=.returned (.bool z)∧Below w.heap.size w w':=by
 unfold mayR at hz
 by_cases h1:0≤r.err
 ·by_cases h2:r.err≤19
  ·by_cases h3:0≤r.id
   ·by_cases h4:r.id≤1099511627776
    ·have hi:isI r.i=z:=by rw [←hz];simp [h1,h2,h3,h4]
     have His:=Lib.hid (fun w=>is_op.mayReply r.i w)
     rw [hi] at His
     clear hi hz
     go_enter Tryz.func127,Tryz.ntmps127
     go_wp2_with fail
     (refine calls_name fun wa hwa=>?_;have wa_s0:=sg w.heap.size hwa;obtain ⟨wa_c0,wa_c1,wa_c2,wa_c3,wa_c4,wa_c5⟩:=kz6 hwa w.heap.size (.int .i64 r.err) (.int .i64 r.id) (.int .i64 r.i.a) (.int .i64 r.i.b) (.int .i64 r.i.c) (.int .i64 r.i.d);have wa_b:Below w.heap.size w wa:=(by rw [hwa];exact bg);clear hwa)
     refine (His.out _).mono ?_
     (rintro e w1 ⟨rfl,w1_h⟩;obtain ⟨w1_hc,w1_hf⟩:=bcell w1_h;have w1_z:=w1_h.size;have w1_b:=wa_b.trans (w1_h.mono (by have:=wa_b.size;omega));have w1_le:=w1_b.size;have w1_s0:w.heap.size<w1.heap.size:=(by omega);clear w1_h)
     go_wp2_with fail
     go_ret
     exact ⟨rfl,bg⟩
    ·obtain rfl:z=false:=by rw [←hz];simp [h4]
     have d:decide (r.id≤1099511627776)=false:=by rw [decide_eq_false_iff_not];exact h4
     clear hz
     go_enter Tryz.func127,Tryz.ntmps127
     go_wp2_with fail
     go_ret
     exact ⟨rfl,bg⟩
   ·obtain rfl:z=false:=by rw [←hz];simp [h3]
    clear hz
    go_enter Tryz.func127,Tryz.ntmps127
    go_wp2_with fail
    go_ret
    exact ⟨rfl,bg⟩
  ·obtain rfl:z=false:=by rw [←hz];simp [h2]
   clear hz
   go_enter Tryz.func127,Tryz.ntmps127
   go_wp2_with fail
   go_ret
   exact ⟨rfl,bg⟩
 ·obtain rfl:z=false:=by rw [←hz];simp [h1]
  clear hz
  go_enter Tryz.func127,Tryz.ntmps127
  go_wp2_with fail
  go_ret
  exact ⟨rfl,bg⟩
set_option maxHeartbeats 1000000 in
theorem qsatrapyref10.MayReply_any (r:Rp) (w:World) (z:Bool) (hz:mayR r=z) :
 Calls Tryz.prog 66 #[.agg #[.int .i64 r.err,.int .i64 r.id,.int .i64 r.i.a,.int .i64 r.i.b,.int .i64 r.i.c,.int .i64 r.i.d]] w fun e w'=>e=.returned (.bool z)∧Below w.heap.size w w':=by
 unfold mayR at hz
 by_cases h1:0≤r.err
 ·by_cases h2:r.err≤19
  ·by_cases h3:0≤r.id
   ·by_cases h4:r.id≤1099511627776
    ·have hi:isI r.i=z:=by rw [←hz];simp [h1,h2,h3,h4]
     have His:=Lib.hid (fun w=>is_satrapyref10.MayReply r.i w)
     rw [hi] at His
     clear hi hz
     go_enter Tryz.func66,Tryz.ntmps66
     go_wp2_with fail
     (refine calls_name fun wa hwa=>?_;have wa_s0:=sg w.heap.size hwa;obtain ⟨wa_c0,wa_c1,wa_c2,wa_c3,wa_c4,wa_c5⟩:=kz6 hwa w.heap.size (.int .i64 r.err) (.int .i64 r.id) (.int .i64 r.i.a) (.int .i64 r.i.b) (.int .i64 r.i.c) (.int .i64 r.i.d);have wa_b:Below w.heap.size w wa:=(by rw [hwa];exact bg);clear hwa)
     refine (His.out _).mono ?_
     (rintro e w1 ⟨rfl,w1_h⟩;obtain ⟨w1_hc,w1_hf⟩:=bcell w1_h;have w1_z:=w1_h.size;have w1_b:=wa_b.trans (w1_h.mono (by have:=wa_b.size;omega));have w1_le:=w1_b.size;have w1_s0:w.heap.size<w1.heap.size:=(by omega);clear w1_h)
     go_wp2_with fail
     go_ret
     exact ⟨rfl,bg⟩
    ·obtain rfl:z=false:=by rw [←hz];simp [h4]
     have d:decide (r.id≤1099511627776)=false:=by rw [decide_eq_false_iff_not];exact h4
     clear hz
     go_enter Tryz.func66,Tryz.ntmps66
     go_wp2_with fail
     go_ret
     exact ⟨rfl,bg⟩
   ·obtain rfl:z=false:=by rw [←hz];simp [h3]
    clear hz
    go_enter Tryz.func66,Tryz.ntmps66
    go_wp2_with fail
    go_ret
    exact ⟨rfl,bg⟩
  ·obtain rfl:z=false:=by rw [←hz];simp [h2]
   clear hz
   go_enter Tryz.func66,Tryz.ntmps66
   go_wp2_with fail
   go_ret
   exact ⟨rfl,bg⟩
 ·obtain rfl:z=false:=by rw [←hz];simp [h1]
  clear hz
  go_enter Tryz.func66,Tryz.ntmps66
  go_wp2_with fail
  go_ret
  exact ⟨rfl,bg⟩
theorem St.numsIn {W w:World} {L:List Th} {p b:Nat} {l:List UInt8} {o:Option Nat} {cur:Array Value} {t:TypeId} (h:St W w (thWr p W.heap.size l o::thObj b (.cells cur t (0,0))::L)) (vs:List Int) (off cv k:Nat) (hk:k=vs.length) (hc:∀ i,(hi:i<vs.length)→cur[off+i]?=some (.int .i64 vs[i])) (hm:l.length+10 * vs.length≤140737488351232) :
 Calls Tryz.prog 70 #[.pointer (some ⟨p,0,none⟩),.slice (some ⟨b,off,none⟩) k cv] w fun e w'=>e=.returned (.tuple #[])∧∃ o',St W w' (thWr p W.heap.size (l++encs vs) o'::thObj b (.cells cur t (0,0))::L):=by
 subst hk
 obtain ⟨hlt,hcell,-⟩:=h.cells (b:=b) (cur:=cur) (t:=t) (List.mem_cons_of_mem _ (List.mem_cons_self ..))
 have hdis:=h.t.2.2.1 (thObj b (.cells cur t (0,0))) (List.mem_cons_self ..)
 refine (nums_some p W.heap.size l o b off cv vs w h.head (fun i hi=>by rw [hcell];exact hc i hi) hlt (fun e=>hdis b (.inl e) rfl) (fun e=>hdis b (.inr e) rfl) h.b.size hm).mono ?_
 rintro e w' ⟨rfl,hi⟩
 exact ⟨rfl,h.wrote hi⟩
def RepPost (w:World) (r:Rp) (e:Ending) (w':World):Prop:=∃ ao cap,e=.returned (.tuple #[.slice ao (encP r).length cap,.int .i64 0])∧OwnB w' w.heap.size ao cap (encP r)∧Below w.heap.size w w'
set_option maxRecDepth 20000 in
set_option maxHeartbeats 2000000 in
theorem encrep_yes (r:Rp) (w:World) (hm:mayR r=true):Calls Tryz.prog 118 #[.agg #[.int .i64 r.err,.int .i64 r.id,.int .i64 r.i.a,.int .i64 r.i.b,.int .i64 r.i.c,.int .i64 r.i.d]] w (RepPost w r):=by
 have Hmy:=Lib.hid (fun w=>qop.mayReply_any r w true hm)
 have Hlen:=Lib.hid (encP_len r)
 clear hm
 go_enter Tryz.func118,Tryz.ntmps118
 go_wp2_with fail
 have S0:Hid (St w _ [thObj w.heap.size (.cells #[.int .i64 r.err,.int .i64 r.id,.int .i64 r.i.a,.int .i64 r.i.b,.int .i64 r.i.c,.int .i64 r.i.d] 41 (0,0))]):=(St.start w).objN (.cells #[.int .i64 r.err,.int .i64 r.id,.int .i64 r.i.a,.int .i64 r.i.b,.int .i64 r.i.c,.int .i64 r.i.d] 41) w.heap.size rfl
 refine (Hmy.out _).mono ?_
 rintro e w1 ⟨rfl,hb1⟩
 have S1:=Lib.hid (S0.out.grow hb1)
 obtain ⟨hlt1,hc1,-⟩:=S1.out.cellsN 0 rfl
 clear S0 hb1
 go_wp2_with fail
 have S2:=S1.out.newWr w1.heap.size rfl w.heap.size
 refine (S2.nums [r.err,r.id] (w1.heap.size+1) 2 (by simp) rfl _ rfl (by simp)).mono ?_
 rintro e w2 ⟨rfl,o2,hS⟩
 have S3:=Lib.hid hS
 obtain ⟨hlt2,hc2,-⟩:=S3.out.cellsN 1 rfl
 clear S1 S2 hS hlt1 hc1
 go_wp2_with fail
 refine (S3.out.numsIn [r.i.a,r.i.b,r.i.c,r.i.d] 2 4 4 rfl ?_ (by have:=Hlen.out;simp only [List.nil_append,List.length_cons,List.length_nil];omega)).mono ?_
 ·intro i hi
  have:i=0∨i=1∨i=2∨i=3:=by simp at hi;omega
  rcases this with rfl | rfl | rfl | rfl<;>rfl
 rintro e w3 ⟨rfl,o3,hS⟩
 have S4:Hid (St w w3 [thWr w1.heap.size w.heap.size (encP r) o3,thObj w.heap.size (.cells #[.int .i64 r.err,.int .i64 r.id,.int .i64 r.i.a,.int .i64 r.i.b,.int .i64 r.i.c,.int .i64 r.i.d] 41 (0,0))]):=hS
 clear S3 hS hlt2 hc2
 go_wp2_with fail
 refine (out_any w1.heap.size w.heap.size (encP r) o3 w3 S4.out.head (by have:=Hlen.out;simp only [encP,List.length_append];omega)).mono ?_
 rintro e w4 ⟨ao,cap,rfl,ho,hb⟩
 go_wp2_with fail
 go_ret2
 exact ⟨ao,cap,rfl,own_weak ho S4.out.b.size,(S4.out.grow hb).b⟩
theorem encrep_no (r:Rp) (w:World) (hm:mayR r=false):Calls Tryz.prog 118 #[.agg #[.int .i64 r.err,.int .i64 r.id,.int .i64 r.i.a,.int .i64 r.i.b,.int .i64 r.i.c,.int .i64 r.i.d]] w fun e w'=>e=.returned (.tuple #[.slice none 0 0,.int .i64 1])∧Below w.heap.size w w':=by
 have Hmy:=Lib.hid (fun w=>qop.mayReply_any r w false hm)
 clear hm
 go_enter Tryz.func118,Tryz.ntmps118
 go_wp2_with fail
 (refine calls_name fun wa hwa=>?_;have wa_b:Below w.heap.size w wa:=(by rw [hwa];exact bg);clear hwa)
 refine (Hmy.out _).mono ?_
 (rintro e w1 ⟨rfl,w1_h⟩;obtain ⟨w1_hc,w1_hf⟩:=bcell w1_h;have w1_z:=w1_h.size;have w1_b:=wa_b.trans (w1_h.mono (by have:=wa_b.size;omega));have w1_le:=w1_b.size;clear w1_h)
 go_wp2_with fail
 go_ret2
 exact ⟨rfl,bg⟩
set_option maxHeartbeats 1000000 in
theorem renc8_any (i:It) (w:World):Calls Tryz.prog 130 #[.agg #[.int .i64 i.a,.int .i64 i.b,.int .i64 i.c,.int .i64 i.d]] w (FreshB w (encItB i)):=by
 go_enter Tryz.func130,Tryz.ntmps130
 go_wp2_with fail
 refine (refNums_eq [i.a,i.b,i.c,i.d] _ _ 4 _ (by simp) rfl rfl (by simp) _ rfl).mono ?_
 rintro e w1 ⟨ao,cap,rfl,ho,hb⟩
 have hX:encs [i.a,i.b,i.c,i.d]=encItB i:=rfl
 rw [hX] at ho ⊢
 have Ho:=Lib.hid ho
 have Hb:=Lib.hid hb
 clear hX ho hb
 go_wp2_with fail
 go_ret
 exact ⟨ao,cap,rfl,own_weak Ho.out (by simp),(below_allocO w _).trans (Hb.out.mono (by simp))⟩
set_option maxRecDepth 20000 in
set_option maxHeartbeats 2000000 in
theorem rencrep_yes (r:Rp) (w:World) (hm:mayR r=true):Calls Tryz.prog 94 #[.agg #[.int .i64 r.err,.int .i64 r.id,.int .i64 r.i.a,.int .i64 r.i.b,.int .i64 r.i.c,.int .i64 r.i.d]] w (RepPost w r):=by
 have Hmy:=Lib.hid (fun w=>qsatrapyref10.MayReply_any r w true hm)
 have HL:=Lib.hid (encP_len r)
 obtain ⟨i0,hi,hz0,hz1,hz2⟩:=info_parts byteInfo
 obtain ⟨A,hA⟩:∃ A,encs [r.err,r.id]=A:=⟨_,rfl⟩
 obtain ⟨B,hB⟩:∃ B,encItB r.i=B:=⟨_,rfl⟩
 have HE:Hid (encP r=A++B):=by rw [←hA,←hB];rfl
 have H8:=Lib.hid (fun w=>renc8_any r.i w)
 rw [hA,hB] at HL
 rw [hB] at H8
 have HA:=Lib.hid hA
 clear hm hA hB
 go_enter Tryz.func94,Tryz.ntmps94
 go_wp2_with fail
 (refine calls_name fun wa hwa=>?_;have wa_s0:=sg w.heap.size hwa;obtain ⟨wa_c0,wa_c1,wa_c2,wa_c3,wa_c4,wa_c5⟩:=kz6 hwa w.heap.size (.int .i64 r.err) (.int .i64 r.id) (.int .i64 r.i.a) (.int .i64 r.i.b) (.int .i64 r.i.c) (.int .i64 r.i.d);have wa_b:Below w.heap.size w wa:=(by rw [hwa];exact bg);clear hwa)
 refine (Hmy.out _).mono ?_
 (rintro e w1 ⟨rfl,w1_h⟩;obtain ⟨w1_hc,w1_hf⟩:=bcell w1_h;have w1_z:=w1_h.size;have w1_b:=wa_b.trans (w1_h.mono (by have:=wa_b.size;omega));have w1_le:=w1_b.size;have w1_s0:w.heap.size<w1.heap.size:=(by omega);clear w1_h)
 go_wp2_with fail
 (refine wp_name fun wb hwb=>?_;have wb_s0:=sg w.heap.size hwb;obtain ⟨wb_c0,wb_c1,wb_c2,wb_c3,wb_c4,wb_c5⟩:=kz6 hwb w.heap.size (.int .i64 r.err) (.int .i64 r.id) (.int .i64 r.i.a) (.int .i64 r.i.b) (.int .i64 r.i.c) (.int .i64 r.i.d);have wb_b:Below w.heap.size w wb:=(by rw [hwb];exact bg);clear hwb)
 clear w1_hc w1_hf
 go_region_held3 (fun W=>∀ o,W.cell? ⟨w.heap.size,o,none⟩=wb.cell? ⟨w.heap.size,o,none⟩) (first | assumption | exact fun _=>rfl | exact fun o=>w9_b.cell (p:=⟨w.heap.size,o,none⟩) wb_s0 | exact fun o=>hbw7.cell (p:=⟨w.heap.size,o,none⟩) wb_s0 | exact fun o=>hbw8.cell (p:=⟨w.heap.size,o,none⟩) wb_s0 | exact fun o=>((below_allocO wb _).drew).cell (p:=⟨w.heap.size,o,none⟩) wb_s0) (first
  | (go_at_call 54;go_must (refine (refNums_in [r.err,r.id] _ wb.heap.size 2 #[.int .i64 r.err,.int .i64 r.id] ?_ rfl rfl (by simp) A HA.out).mono ?_;(focus (exact heap_new wb _));rintro e w7 ⟨co7,cc7,rfl,ho7,hb7⟩;have hbw7:Below wb.heap.size wb w7:=((below_allocO wb _).drew).trans (hb7.mono (by first | (simp;done) | (simp;omega)))))
  | (go_at_call 130;go_must (refine (H8.out _).mono ?_;rintro e w8 ⟨co8,cc8,rfl,ho8,hb8⟩;have hbw8:Below wb.heap.size wb w8:=hbw7.trans (hb8.mono hbw7.size)))
  | (refine at_app _ _ (by rfl) ?_;go_must (refine step_append_any _ (by rfl) (.tmp 12) (.tmp 15) 47 (by rfl) wb.heap.size 5 i0 (.int .u8 0) 1 1 Tryz.underlying47 hi hz0 hz1 hz2 rfl (by decide) (.slice co7 A.length cc7) A.length (bytV A) (by rfl) (own_weak (own_growO ho7 hb8) (by first | (simp;done) | (simp;omega))) co8 B.length cc8 (bytV B) (by rfl) ho8.none (by rw [bytV_length,Nat.mul_one]) ho8.at.cells (bytV_one _) (by have:=HL.out;unfold maxLen;omega) (by have:=HL.out;omega) (by have:=hbw8.size;omega) ?_;intro vv w9 hown hgrow;have w9_b:Below wb.heap.size wb w9:=below_grown hbw8 (by have:=hbw8.size;omega) hgrow (fun j hj=>own_block (own_weak ho7 (show wb.heap.size≤_ by first | (simp;done) | (simp;omega))) hj);obtain ⟨do9,dc9,rfl,ho9⟩:=owned_bytes (l:=A++B) (by rw [←bytV_append];exact hown) (by rw [List.length_append]);clear hown hgrow))
  | fail)
 all_goals
  go_wp2_with fail
  go_ret2
  refine ⟨do9,dc9,?_,?_,wb_b.trans (w9_b.mono (by omega))⟩
  ·rw [HE.out,List.length_append];rfl
  ·rw [HE.out];exact own_weak ho9 (by omega)
end Go.Proofs.YtogamdaomdoapaaGreat
namespace Go.Proofs.YtogamdaomdoapaaGreat
abbrev Sp:=ByteArray × ByteArray
def sGo (a:Sp):List Sp→Option Sp
 | []=>some a
 | s::r=>if joinOk a.1 a.2 s.1 s.2 then sGo (a.1,s.2) r else none
def endB (a:Sp):Bool:=isB a.1 a.2&&(a.1.toList.isEmpty&&a.2.toList.isEmpty)
def sAll:List Sp→Bool
 | []=>false
 | s::r=>match sGo s r with
  | none=>false
  | some a=>endB a
def rGo (atB:List UInt8):List Sp→Option (List UInt8)
 | []=>some atB
 | s::r=>if isB s.1 s.2&&(s.1.toList==atB)&&!atB.isEmpty then rGo s.2.toList r else none
def finR:Option (List UInt8)→Bool
 | none=>false
 | some e=>e.isEmpty
def rAll:List Sp→Bool
 | []=>false
 | s::r=>if isB s.1 s.2&&s.1.toList.isEmpty then finR (rGo s.2.toList r) else false
theorem joinOk_iff (f t f' t':ByteArray):joinOk f t f' t'=true↔isB f t=true∧isB f' t'=true∧t.toList≠[]∧t.toList=f'.toList:=by
 simp [joinOk,and_assoc]
theorem isB_from {f g t:ByteArray} (h:isB g t=true) (hf:f.toList=[]):isB f t=true:=by
 rw [isB_iff] at *
 refine ⟨?_,h.2.1,?_⟩
 ·have:f.size=0:=by
   rw [ByteArray.toList_eq] at hf
   show f.data.size=0
   rw [←Array.length_toList,hf];rfl
  omega
 ·rcases h.2.2 with h | h
  ·exact .inl h
  ·right
   rw [hf]
   exact bl_of_nil fun e=>by rw [e,bl_nil] at h;cases h
theorem sGo_rGo (f t:ByteArray) (r:List Sp) (hf:f.toList=[]) (h:isB f t=true) :
 (match sGo (f,t) r with | none=>false | some a=>endB a)=finR (rGo t.toList r):=by
 induction r generalizing t with
 | nil=>simp [sGo,rGo,finR,endB,h,hf]
 | cons s r ih =>
  simp only [sGo,rGo]
  have e:joinOk f t s.1 s.2=(isB s.1 s.2&&(s.1.toList==t.toList)&&!t.toList.isEmpty):=by
   rw [Bool.eq_iff_iff,joinOk_iff]
   simp only [h,true_and,Bool.and_eq_true,beq_iff_eq,Bool.not_eq_true',List.isEmpty_eq_false_iff]
   constructor
   ·rintro ⟨a,b,c⟩;exact ⟨⟨a,c.symm⟩,b⟩
   ·rintro ⟨⟨a,c⟩,b⟩;exact ⟨a,b,c.symm⟩
  rw [e]
  by_cases hc:(isB s.1 s.2&&(s.1.toList==t.toList)&&!t.toList.isEmpty)=true
  ·rw [if_pos hc,if_pos hc]
   simp only [Bool.and_eq_true] at hc
   exact ih s.2 (isB_from hc.1.1 hf)
  ·rw [if_neg hc,if_neg hc];rfl
theorem sGo_none (f t:ByteArray) (r:List Sp) (hf:f.toList≠[]):(match sGo (f,t) r with | none=>false | some a=>endB a)=false:=by
 induction r generalizing t with
 | nil=>simp [sGo,endB,hf]
 | cons s r ih =>
  simp only [sGo]
  by_cases hc:joinOk f t s.1 s.2=true
  ·rw [if_pos hc];exact ih s.2
  ·rw [if_neg hc]
theorem sGo_bad (f t:ByteArray) (r:List Sp) (h:isB f t=false):(match sGo (f,t) r with | none=>false | some a=>endB a)=false:=by
 cases r with
 | nil=>simp [sGo,endB,h]
 | cons s r =>
  have:joinOk f t s.1 s.2=false:=by simp [joinOk,h]
  simp [sGo,this]
theorem all_same (l:List Sp):sAll l=rAll l:=by
 cases l with
 | nil=>rfl
 | cons s r =>
  obtain ⟨s1,s2⟩:=s
  show (match sGo (s1,s2) r with | none=>false | some a=>endB a)=(if isB s1 s2&&s1.toList.isEmpty then finR (rGo s2.toList r) else false)
  by_cases hf:s1.toList=[]
  ·cases h:isB s1 s2 with
   | false=>rw [sGo_bad s1 s2 r h];simp
   | true=>rw [sGo_rGo s1 s2 r hf h];simp [hf]
  ·rw [sGo_none s1 s2 r hf];simp [hf]
end Go.Proofs.YtogamdaomdoapaaGreat
namespace Go.Proofs.YtogamdaomdoapaaGreat
def Chain (f:List UInt8):List Sp→Prop
 | []=>False
 | s::r=>s.1.toList=f∧isB s.1 s.2=true∧((r=[]∧s.2.toList=[])∨(s.2.toList≠[]∧Chain s.2.toList r))
theorem chain_fin {s:Sp} {r:List Sp} (h:(r=[]∧s.2.toList=[])∨(s.2.toList≠[]∧Chain s.2.toList r)):finR (rGo s.2.toList r)=true:=by
 induction r generalizing s with
 | nil =>
  rcases h with ⟨-,h⟩ | ⟨-,h⟩
  ·simp [rGo,finR,h]
  ·exact h.elim
 | cons t r ih =>
  rcases h with ⟨h,-⟩ | ⟨h1,h2,h3,h4⟩
  ·cases h
  ·have:(isB t.1 t.2&&(t.1.toList==s.2.toList)&&!s.2.toList.isEmpty)=true:=by simp [h3,h2,h1]
   simp only [rGo,this,if_true]
   exact ih h4
theorem chain_all {l:List Sp} (h:Chain [] l):sAll l=true:=by
 rw [all_same]
 cases l with
 | nil=>exact h.elim
 | cons s r =>
  obtain ⟨h1,h2,h3⟩:=h
  simp only [rAll,h1,h2]
  simpa using chain_fin h3
end Go.Proofs.YtogamdaomdoapaaGreat
namespace Go.Proofs.YtogamdaomdoapaaGreat
structure Zn where
 id:Int
 fr:ByteArray
 to:ByteArray
 owner:Int
 epoch:Int
 pend:Int
 tt:Int
 key:ByteArray
 nw:Int
deriving DecidableEq
structure Ch where
 kind:Int
 zone:Int
 epoch:Int
 tt:Int
 key:ByteArray
structure Mp where
 ver:Int
 next:Int
 zs:List Zn
def z0:ByteArray:=⟨#[]⟩
def mayC (c:Ch):Bool:=decide (1≤c.zone∧c.zone≤1099511627776) &&
 (if c.kind=1 then decide (1≤c.key.size∧c.key.size≤16∧c.epoch=0∧c.tt=0)
 else if c.kind=2 then decide (c.epoch=0∧c.tt=0∧c.key.toList=[])
 else if c.kind=3 then decide (1≤c.tt∧c.tt≤1048576∧c.epoch=0∧c.key.toList=[])
 else if c.kind=4∨c.kind=5 then decide (1≤c.epoch∧c.epoch≤1099511627776∧c.tt=0∧c.key.toList=[])
 else false)
def findZ (l:List Zn) (id:Int):Option Nat:=l.findIdx? fun z=>z.id==id
def pendN (k:Int) (l:List Zn):Nat:=(l.filter fun z=>z.pend==k).length
def spz (z:Zn):Sp:=(z.fr,z.to)
def numsZ (z:Zn):List Int:=if z.pend=1 then [z.id,z.nw] else [z.id]
def nums (l:List Zn):List Int:=l.flatMap numsZ
theorem nums_append (a b:List Zn):nums (a++b)=nums a++nums b:=by simp [nums]
theorem nums_cons (a:Zn) (b:List Zn):nums (a::b)=numsZ a++nums b:=by simp [nums]
theorem id_mem {l:List Zn} {z:Zn} (h:z∈l):z.id∈nums l:=by
 simp only [nums,List.mem_flatMap]
 refine ⟨z,h,?_⟩
 unfold numsZ;split<;>simp
theorem nw_mem {l:List Zn} {z:Zn} (h:z∈l) (hp:z.pend=1):z.nw∈nums l:=by
 simp only [nums,List.mem_flatMap]
 refine ⟨z,h,?_⟩
 simp [numsZ,hp]
theorem nums_length (l:List Zn):(nums l).length=l.length+pendN 1 l:=by
 induction l with
 | nil=>rfl
 | cons z r ih =>
  rw [nums_cons,List.length_append,ih]
  unfold numsZ pendN
  by_cases h:z.pend=1
  ·simp [h];omega
  ·simp [h];omega
def Pair (a b:Zn):Prop:=a.pend=2∧b.pend=2∧a.nw=b.id∧b.nw=a.id∧a.owner=b.owner
inductive Pairs:List Zn→Prop
 | nil:Pairs []
 | one {z:Zn} {r:List Zn}:z.pend≠2→Pairs r→Pairs (z::r)
 | two {a b:Zn} {r:List Zn}:Pair a b→Pairs r→Pairs (a::b::r)
theorem Pairs.append {l r:List Zn} (h:Pairs l) (k:Pairs r):Pairs (l++r):=by
 induction h with
 | nil=>exact k
 | one hz _ ih=>exact .one hz ih
 | two hp _ ih=>exact .two hp ih
theorem Pairs.mate {A B:List Zn} {z:Zn} (h:Pairs (A++z::B)) (hz:z.pend=2):(∃ b R,B=b::R∧Pair z b∧Pairs A∧Pairs R)∨(∃ Q a,A=Q++[a]∧Pair a z∧Pairs Q∧Pairs B):=by
 generalize hl:A++z::B=l at h
 induction h generalizing A with
 | nil=>simp at hl
 | @one y r hy hr ih =>
  cases A with
  | nil=>simp only [List.nil_append,List.cons.injEq] at hl;obtain ⟨rfl,rfl⟩:=hl;exact absurd hz hy
  | cons a A =>
   simp only [List.cons_append,List.cons.injEq] at hl
   obtain ⟨rfl,hl⟩:=hl
   rcases ih hl with ⟨b,R,e,h1,h2,h3⟩ | ⟨Q,a',e,h1,h2,h3⟩
   ·exact .inl ⟨b,R,e,h1,.one hy h2,h3⟩
   ·exact .inr ⟨a::Q,a',by rw [e];rfl,h1,.one hy h2,h3⟩
 | @two a b r hp hr ih =>
  cases A with
  | nil =>
   simp only [List.nil_append,List.cons.injEq] at hl
   obtain ⟨rfl,rfl⟩:=hl
   exact .inl ⟨b,r,rfl,hp,.nil,hr⟩
  | cons a' A =>
   simp only [List.cons_append,List.cons.injEq] at hl
   obtain ⟨rfl,hl⟩:=hl
   cases A with
   | nil =>
    simp only [List.nil_append,List.cons.injEq] at hl
    obtain ⟨rfl,rfl⟩:=hl
    exact .inr ⟨[],a',rfl,hp,.nil,hr⟩
   | cons b' A =>
    simp only [List.cons_append,List.cons.injEq] at hl
    obtain ⟨rfl,hl⟩:=hl
    rcases ih hl with ⟨b,R,e,h1,h2,h3⟩ | ⟨Q,a,e,h1,h2,h3⟩
    ·exact .inl ⟨b,R,e,h1,.two hp h2,h3⟩
    ·exact .inr ⟨a'::b'::Q,a,by rw [e];rfl,h1,.two hp h2,h3⟩
def ZOk (z:Zn):Prop:=1≤z.owner∧z.owner≤1048576∧1≤z.epoch∧z.epoch≤1099511627776 ∧
 ((z.pend=0∧z.tt=0∧z.key=z0∧z.nw=0)∨(z.pend=3∧1≤z.tt∧z.tt≤1048576∧z.tt≠z.owner∧z.key=z0∧z.nw=0)∨(z.pend=1∧z.tt=0∧cutOk z.fr z.to z.key=true)∨(z.pend=2∧z.tt=0∧z.key=z0))
structure Inv (m:Mp):Prop where
 ver:1≤m.ver∧m.ver≤1099511627776
 next:1≤m.next∧m.next≤1099511627776
 nd:(nums m.zs).Nodup
 lt:∀ n∈nums m.zs,1≤n∧n<m.next
 ok:∀ z∈m.zs,ZOk z
 prs:Pairs m.zs
 chain:Chain [] (m.zs.map spz)
 room:(nums m.zs).length≤16
 moves:pendN 3 m.zs≤2
theorem cut_at {l:List Zn} {i:Nat} {z:Zn} (h:l[i]?=some z):∃ A B,l=A++z::B∧A.length=i:=by
 obtain ⟨hi,rfl⟩:=List.getElem?_eq_some_iff.1 h
 exact ⟨l.take i,l.drop (i+1),by rw [←List.drop_eq_getElem_cons hi,List.take_append_drop],by rw [List.length_take];omega⟩
section
variable {ver next:Int} {A B:List Zn} {z x:Zn}
end
theorem numsZ_split {z:Zn} (h:z.pend=1):numsZ z=[z.id,z.nw]:=by unfold numsZ;rw [if_pos h]
end Go.Proofs.YtogamdaomdoapaaGreat
namespace Go.Proofs.YtogamdaomdoapaaGreat
theorem find_mid {A B:List Zn} {z:Zn} {n:Int} (hz:z.id=n) (hA:∀ y∈A,y.id≠n):findZ (A++z::B) n=some A.length:=by
 induction A with
 | nil=>simp [findZ,List.findIdx?_cons,hz]
 | cons a A ih =>
  have h1:(a.id==n)=false:=by rw [beq_eq_false_iff_ne];exact hA a (by simp)
  have h2:=ih (fun y hy=>hA y (by simp [hy]))
  unfold findZ at h2 ⊢
  rw [List.cons_append,List.findIdx?_cons,h1]
  simp [h2]
theorem find_out {l:List Zn} {n:Int} (h:∀ y∈l,y.id≠n):findZ l n=none:=by
 unfold findZ
 rw [List.findIdx?_eq_none_iff]
 intro y hy
 rw [beq_eq_false_iff_ne]
 exact h y hy
theorem find_some {l:List Zn} {n:Int} {i:Nat} (h:findZ l n=some i):∃ z,l[i]?=some z∧z.id=n∧∀ y∈l.take i,y.id≠n:=by
 unfold findZ at h
 rw [List.findIdx?_eq_some_iff_getElem] at h
 obtain ⟨hi,h1,h2⟩:=h
 refine ⟨l[i],List.getElem?_eq_getElem hi,by simpa using h1,fun y hy=>?_⟩
 obtain ⟨j,hj,rfl⟩:=List.mem_iff_getElem.1 hy
 rw [List.length_take] at hj
 rw [List.getElem_take]
 have:=h2 j (by omega)
 simpa using this
theorem Inv.at {m:Mp} (h:Inv m) {i:Nat} {z:Zn} (hi:m.zs[i]?=some z):findZ m.zs z.id=some i:=by
 obtain ⟨A,B,hl,rfl⟩:=cut_at hi
 rw [hl]
 refine find_mid rfl (fun y hy e=>?_)
 have hnd:=h.nd
 rw [hl,nums_append] at hnd
 exact (List.nodup_append.1 hnd).2.2 _ (id_mem hy) _ (id_mem (z:=z) (by simp)) e
theorem Inv.mate {m:Mp} (h:Inv m) {i:Nat} {z:Zn} (hi:m.zs[i]?=some z) (hp:z.pend=2):∃ k y,findZ m.zs z.nw=some k∧m.zs[k]?=some y∧(k=i+1∨k+1=i)∧y.pend=2∧y.nw=z.id∧y.owner=z.owner:=by
 obtain ⟨A,B,hl,rfl⟩:=cut_at hi
 have hm:=h.prs
 rw [hl] at hm
 rcases hm.mate hp with ⟨b,R,rfl,q1,-,-⟩ | ⟨Q,a,rfl,q1,-,-⟩
 ·have hb:m.zs[A.length+1]?=some b:=by
   rw [hl,List.getElem?_append_right (by omega)]
   simp [show A.length+1 - A.length=1 by omega]
  refine ⟨A.length+1,b,?_,hb,.inl rfl,q1.2.1,q1.2.2.2.1,q1.2.2.2.2.symm⟩
  rw [q1.2.2.1]
  exact h.at hb
 ·have ha:m.zs[Q.length]?=some a:=by
   rw [hl];simp
  refine ⟨Q.length,a,?_,ha,.inr (by simp),q1.1,q1.2.2.1,q1.2.2.2.2⟩
  rw [q1.2.2.2.1]
  exact h.at ha
theorem Inv.fresh {m:Mp} (h:Inv m) {i:Nat} {z:Zn} (hi:m.zs[i]?=some z) (hp:z.pend=1):findZ m.zs z.nw=none∧(1≤z.nw∧z.nw<m.next)∧∀ k y,m.zs[k]?=some y→k≠i→y.pend=1→y.nw≠z.nw:=by
 have hz:=List.mem_of_getElem? hi
 refine ⟨find_out fun y hy e=>?_,h.lt _ (nw_mem hz hp),fun k y hk hne hyp e=>?_⟩
 ·obtain ⟨A,B,hl,rfl⟩:=cut_at hi
  have hnd:=h.nd
  rw [hl,nums_append,nums_cons,numsZ_split hp] at hnd
  rw [hl] at hy
  have h1:=List.nodup_append.1 hnd
  have h2:=List.nodup_append.1 h1.2.1
  rw [List.mem_append,List.mem_cons] at hy
  rcases hy with hy | rfl | hy
  ·exact h1.2.2 _ (id_mem hy) z.nw (by simp) e
  ·have:=h2.1
   simp [e] at this
  ·exact h2.2.2 z.nw (by simp) _ (id_mem hy) e.symm
 ·obtain ⟨A,B,hl,rfl⟩:=cut_at hi
  have hnd:=h.nd
  rw [hl,nums_append,nums_cons,numsZ_split hp] at hnd
  have h1:=List.nodup_append.1 hnd
  have h2:=List.nodup_append.1 h1.2.1
  rw [hl] at hk
  rcases Nat.lt_or_ge k A.length with hlt | hge
  ·rw [List.getElem?_append_left hlt] at hk
   exact h1.2.2 _ (nw_mem (List.mem_of_getElem? hk) hyp) z.nw (by simp) e
  ·rw [List.getElem?_append_right hge] at hk
   obtain ⟨j,hj⟩:∃ j,k - A.length=j+1:=⟨k - A.length - 1,by omega⟩
   rw [hj,List.getElem?_cons_succ] at hk
   exact h2.2.2 z.nw (by simp) _ (nw_mem (List.mem_of_getElem? hk) hyp) e.symm
theorem Inv.all {m:Mp} (h:Inv m):sAll (m.zs.map spz)=true:=chain_all h.chain
theorem Inv.pos {m:Mp} (h:Inv m):0<m.zs.length:=by
 have:=h.chain
 cases hz:m.zs with
 | nil=>rw [hz] at this;exact this.elim
 | cons a r=>simp
theorem Inv.len {m:Mp} (h:Inv m):m.zs.length≤16:=by have:=h.room;rw [nums_length] at this;omega
end Go.Proofs.YtogamdaomdoapaaGreat