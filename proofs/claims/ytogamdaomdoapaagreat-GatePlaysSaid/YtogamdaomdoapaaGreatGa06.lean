/- Texts put together: Rep, PlainTwo, PartsPlain, DirP, DirQ, RMp, WdP, WZo, Hold. -/
import Derived.Test.YtogamdaomdoapaaGreatGa01
import Derived.Test.YtogamdaomdoapaaGreatGa03
import Derived.Test.YtogamdaomdoapaaGreatGa05
import Derived.Laws.Rows
namespace Go.Proofs.YtogamdaomdoapaaGreat
open Go.Value renaming int→aI,string→aS,bool→aB
open Go.IntKind renaming i64→aK
open List renaming length_append→lL
open Bool renaming and_eq_true→bA
open Go.Lib renaming hid→uH
open Go.RowKit
attribute [local go_sem ↓] Go.wp_at_zero Go.wp_at_succ
theorem is_op.mayReply (i:It) (w:World):Calls Tryz.prog 145 #[.agg #[aI aK i.a,aI aK i.b,aI aK i.c,aI aK i.d]] w fun e w'=>e=.returned (aB (isI i))∧Below w.heap.size w w':=purse_is i w
theorem is_satrapyref10.MayReply (i:It) (w:World):Calls Tryz.prog 106 #[.agg #[aI aK i.a,aI aK i.b,aI aK i.c,aI aK i.d]] w fun e w'=>e=.returned (aB (isI i))∧Below w.heap.size w w':=h0o i w
set_option maxHeartbeats 1000000 in
theorem qop.g0j (r:Rp) (w:World) (z:Bool) (hz:mayR r=z) :
 Calls Tryz.prog 127 #[.agg #[aI aK r.err,aI aK r.id,aI aK r.i.a,aI aK r.i.b,aI aK r.i.c,aI aK r.i.d]] w fun e w'=>e=.returned (aB z)∧Below w.heap.size w w':=by
 unfold mayR at hz
 by_cases h1:0≤r.err
 ·by_cases h2:r.err≤19
  ·by_cases h3:0≤r.id
   ·by_cases h4:r.id≤1099511627776
    ·have hi:isI r.i=z:=by rw [←hz];simp [h1,h2,h3,h4]
     have His:=uH (fun w=>is_op.mayReply r.i w)
     rw [hi] at His
     clear hi hz
     go_enter Tryz.func127,Tryz.ntmps127
     go_wp2_with fail
     (refine a0e fun wa hwa=>?_;have wa_s0:=sg w.heap.size hwa;obtain ⟨wa_c0,wa_c1,wa_c2,wa_c3,wa_c4,wa_c5⟩:=kz6 hwa w.heap.size (aI aK r.err) (aI aK r.id) (aI aK r.i.a) (aI aK r.i.b) (aI aK r.i.c) (aI aK r.i.d);have wa_b:Below w.heap.size w wa:=(by rw [hwa];exact bg);clear hwa)
     refine (His.out _).mono ?_
     (rintro e w1 ⟨rfl,w1_h⟩;obtain ⟨w1_hc,w1_hf⟩:=a0w w1_h;have w1_z:=w1_h.size;have w1_b:=wa_b.trans (w1_h.mono (by have:=wa_b.size;omega));have w1_le:=w1_b.size;have w1_s0:w.heap.size<w1.heap.size:=(by omega);clear w1_h)
     go_wp2_with fail
     go_ret
     exact ⟨rfl,bg⟩
    ·obtain rfl:z=false:=by rw [←hz];simp [h4]
     have d:decide (r.id≤1099511627776)=false:=by rw [decide_eq_false_iff_not];exact h4
     clear hz
     go_enter Tryz.func127,Tryz.ntmps127
     go_wp2_with fail
     go_ret
     exact ⟨rfl,bg⟩
   ·obtain rfl:z=false:=by rw [←hz];simp [h3]
    clear hz
    go_enter Tryz.func127,Tryz.ntmps127
    go_wp2_with fail
    go_ret
    exact ⟨rfl,bg⟩
  ·obtain rfl:z=false:=by rw [←hz];simp [h2]
   clear hz
   go_enter Tryz.func127,Tryz.ntmps127
   go_wp2_with fail
   go_ret
   exact ⟨rfl,bg⟩
 ·obtain rfl:z=false:=by rw [←hz];simp [h1]
  clear hz
  go_enter Tryz.func127,Tryz.ntmps127
  go_wp2_with fail
  go_ret
  exact ⟨rfl,bg⟩
set_option maxHeartbeats 1000000 in
theorem qsatrapyref10.g0t (r:Rp) (w:World) (z:Bool) (hz:mayR r=z) :
 Calls Tryz.prog 66 #[.agg #[aI aK r.err,aI aK r.id,aI aK r.i.a,aI aK r.i.b,aI aK r.i.c,aI aK r.i.d]] w fun e w'=>e=.returned (aB z)∧Below w.heap.size w w':=by
 unfold mayR at hz
 by_cases h1:0≤r.err
 ·by_cases h2:r.err≤19
  ·by_cases h3:0≤r.id
   ·by_cases h4:r.id≤1099511627776
    ·have hi:isI r.i=z:=by rw [←hz];simp [h1,h2,h3,h4]
     have His:=uH (fun w=>is_satrapyref10.MayReply r.i w)
     rw [hi] at His
     clear hi hz
     go_enter Tryz.func66,Tryz.ntmps66
     go_wp2_with fail
     (refine a0e fun wa hwa=>?_;have wa_s0:=sg w.heap.size hwa;obtain ⟨wa_c0,wa_c1,wa_c2,wa_c3,wa_c4,wa_c5⟩:=kz6 hwa w.heap.size (aI aK r.err) (aI aK r.id) (aI aK r.i.a) (aI aK r.i.b) (aI aK r.i.c) (aI aK r.i.d);have wa_b:Below w.heap.size w wa:=(by rw [hwa];exact bg);clear hwa)
     refine (His.out _).mono ?_
     (rintro e w1 ⟨rfl,w1_h⟩;obtain ⟨w1_hc,w1_hf⟩:=a0w w1_h;have w1_z:=w1_h.size;have w1_b:=wa_b.trans (w1_h.mono (by have:=wa_b.size;omega));have w1_le:=w1_b.size;have w1_s0:w.heap.size<w1.heap.size:=(by omega);clear w1_h)
     go_wp2_with fail
     go_ret
     exact ⟨rfl,bg⟩
    ·obtain rfl:z=false:=by rw [←hz];simp [h4]
     have d:decide (r.id≤1099511627776)=false:=by rw [decide_eq_false_iff_not];exact h4
     clear hz
     go_enter Tryz.func66,Tryz.ntmps66
     go_wp2_with fail
     go_ret
     exact ⟨rfl,bg⟩
   ·obtain rfl:z=false:=by rw [←hz];simp [h3]
    clear hz
    go_enter Tryz.func66,Tryz.ntmps66
    go_wp2_with fail
    go_ret
    exact ⟨rfl,bg⟩
  ·obtain rfl:z=false:=by rw [←hz];simp [h2]
   clear hz
   go_enter Tryz.func66,Tryz.ntmps66
   go_wp2_with fail
   go_ret
   exact ⟨rfl,bg⟩
 ·obtain rfl:z=false:=by rw [←hz];simp [h1]
  clear hz
  go_enter Tryz.func66,Tryz.ntmps66
  go_wp2_with fail
  go_ret
  exact ⟨rfl,bg⟩
theorem St.numsIn {W w:World} {L:List Th} {p b:Nat} {l:List UInt8} {o:Option Nat} {cur:Array Value} {t:TypeId} (h:St W w (thWr p W.heap.size l o::a0c b (.cells cur t (0,0))::L)) (vs:List Int) (off cv k:Nat) (hk:k=vs.length) (hc:∀ i,(hi:i<vs.length)→cur[off+i]?=some (aI aK vs[i])) (hm:l.length+10 * vs.length≤140737488351232) :
 Calls Tryz.prog 70 #[.pointer (some ⟨p,0,none⟩),.slice (some ⟨b,off,none⟩) k cv] w fun e w'=>e=.returned (.tuple #[])∧∃ o',St W w' (thWr p W.heap.size (l++encs vs) o'::a0c b (.cells cur t (0,0))::L):=by
 subst hk
 obtain ⟨hlt,hcell,-⟩:=h.cells (b:=b) (cur:=cur) (t:=t) (List.mem_cons_of_mem _ (List.mem_cons_self ..))
 have hdis:=h.t.2.2.1 (a0c b (.cells cur t (0,0))) (List.mem_cons_self ..)
 refine (k0x p W.heap.size l o b off cv vs w h.head (fun i hi=>by rw [hcell];exact hc i hi) hlt (fun e=>hdis b (.inl e) rfl) (fun e=>hdis b (.inr e) rfl) h.b.size hm).mono ?_
 rintro e w' ⟨rfl,hi⟩
 exact ⟨rfl,h.wrote hi⟩
def z0d (w:World) (r:Rp) (e:Ending) (w':World):Prop:=∃ ao cap,e=.returned (.tuple #[.slice ao (encP r).length cap,aI aK 0])∧OwnB w' w.heap.size ao cap (encP r)∧Below w.heap.size w w'
set_option maxRecDepth 20000 in
set_option maxHeartbeats 2000000 in
theorem m0o (r:Rp) (w:World) (hm:mayR r=true):Calls Tryz.prog 118 #[.agg #[aI aK r.err,aI aK r.id,aI aK r.i.a,aI aK r.i.b,aI aK r.i.c,aI aK r.i.d]] w (z0d w r):=by
 have Hmy:=uH (fun w=>qop.g0j r w true hm)
 have Hlen:=uH (i0p r)
 clear hm
 go_enter Tryz.func118,Tryz.ntmps118
 go_wp2_with fail
 have S0:Hid (St w _ [a0c w.heap.size (.cells #[aI aK r.err,aI aK r.id,aI aK r.i.a,aI aK r.i.b,aI aK r.i.c,aI aK r.i.d] 41 (0,0))]):=(St.start w).objN (.cells #[aI aK r.err,aI aK r.id,aI aK r.i.a,aI aK r.i.b,aI aK r.i.c,aI aK r.i.d] 41) w.heap.size rfl
 refine (Hmy.out _).mono ?_
 rintro e w1 ⟨rfl,hb1⟩
 have S1:=uH (S0.out.grow hb1)
 obtain ⟨hlt1,hc1,-⟩:=S1.out.a0b 0 rfl
 clear S0 hb1
 go_wp2_with fail
 have S2:=S1.out.t0z w1.heap.size rfl w.heap.size
 refine (S2.nums [r.err,r.id] (w1.heap.size+1) 2 (by simp) rfl _ rfl (by simp)).mono ?_
 rintro e w2 ⟨rfl,o2,hS⟩
 have S3:=uH hS
 obtain ⟨hlt2,hc2,-⟩:=S3.out.a0b 1 rfl
 clear S1 S2 hS hlt1 hc1
 go_wp2_with fail
 refine (S3.out.numsIn [r.i.a,r.i.b,r.i.c,r.i.d] 2 4 4 rfl ?_ (by have:=Hlen.out;simp only [List.nil_append,List.length_cons,List.length_nil];omega)).mono ?_
 ·intro i hi
  have:i=0∨i=1∨i=2∨i=3:=by simp at hi;omega
  rcases this with rfl | rfl | rfl | rfl<;>rfl
 rintro e w3 ⟨rfl,o3,hS⟩
 have S4:Hid (St w w3 [thWr w1.heap.size w.heap.size (encP r) o3,a0c w.heap.size (.cells #[aI aK r.err,aI aK r.id,aI aK r.i.a,aI aK r.i.b,aI aK r.i.c,aI aK r.i.d] 41 (0,0))]):=hS
 clear S3 hS hlt2 hc2
 go_wp2_with fail
 refine (f0i w1.heap.size w.heap.size (encP r) o3 w3 S4.out.head (by have:=Hlen.out;simp only [encP,lL];omega)).mono ?_
 rintro e w4 ⟨ao,cap,rfl,ho,hb⟩
 go_wp2_with fail
 go_ret2
 exact ⟨ao,cap,rfl,b0a ho S4.out.b.size,(S4.out.grow hb).b⟩
theorem y0e (r:Rp) (w:World) (hm:mayR r=false):Calls Tryz.prog 118 #[.agg #[aI aK r.err,aI aK r.id,aI aK r.i.a,aI aK r.i.b,aI aK r.i.c,aI aK r.i.d]] w fun e w'=>e=.returned (.tuple #[.slice none 0 0,aI aK 1])∧Below w.heap.size w w':=by
 have Hmy:=uH (fun w=>qop.g0j r w false hm)
 clear hm
 go_enter Tryz.func118,Tryz.ntmps118
 go_wp2_with fail
 (refine a0e fun wa hwa=>?_;have wa_b:Below w.heap.size w wa:=(by rw [hwa];exact bg);clear hwa)
 refine (Hmy.out _).mono ?_
 (rintro e w1 ⟨rfl,w1_h⟩;obtain ⟨w1_hc,w1_hf⟩:=a0w w1_h;have w1_z:=w1_h.size;have w1_b:=wa_b.trans (w1_h.mono (by have:=wa_b.size;omega));have w1_le:=w1_b.size;clear w1_h)
 go_wp2_with fail
 go_ret2
 exact ⟨rfl,bg⟩
set_option maxHeartbeats 1000000 in
theorem w0i (i:It) (w:World):Calls Tryz.prog 130 #[.agg #[aI aK i.a,aI aK i.b,aI aK i.c,aI aK i.d]] w (d0b w (j0t i)):=by
 go_enter Tryz.func130,Tryz.ntmps130
 go_wp2_with fail
 refine (f0n [i.a,i.b,i.c,i.d] _ _ 4 _ (by simp) rfl rfl (by simp) _ rfl).mono ?_
 rintro e w1 ⟨ao,cap,rfl,ho,hb⟩
 have hX:encs [i.a,i.b,i.c,i.d]=j0t i:=rfl
 rw [hX] at ho ⊢
 have Ho:=uH ho
 have Hb:=uH hb
 clear hX ho hb
 go_wp2_with fail
 go_ret
 exact ⟨ao,cap,rfl,b0a Ho.out (by simp),(a0p w _).trans (Hb.out.mono (by simp))⟩
set_option maxRecDepth 20000 in
set_option maxHeartbeats 2000000 in
theorem q0c (r:Rp) (w:World) (hm:mayR r=true):Calls Tryz.prog 94 #[.agg #[aI aK r.err,aI aK r.id,aI aK r.i.a,aI aK r.i.b,aI aK r.i.c,aI aK r.i.d]] w (z0d w r):=by
 have Hmy:=uH (fun w=>qsatrapyref10.g0t r w true hm)
 have HL:=uH (i0p r)
 obtain ⟨i0,hi,hz0,hz1,hz2⟩:=info_parts c0h
 obtain ⟨A,hA⟩:∃ A,encs [r.err,r.id]=A:=⟨_,rfl⟩
 obtain ⟨B,hB⟩:∃ B,j0t r.i=B:=⟨_,rfl⟩
 have HE:Hid (encP r=A++B):=by rw [←hA,←hB];rfl
 have H8:=uH (fun w=>w0i r.i w)
 rw [hA,hB] at HL
 rw [hB] at H8
 have HA:=uH hA
 clear hm hA hB
 go_enter Tryz.func94,Tryz.ntmps94
 go_wp2_with fail
 (refine a0e fun wa hwa=>?_;have wa_s0:=sg w.heap.size hwa;obtain ⟨wa_c0,wa_c1,wa_c2,wa_c3,wa_c4,wa_c5⟩:=kz6 hwa w.heap.size (aI aK r.err) (aI aK r.id) (aI aK r.i.a) (aI aK r.i.b) (aI aK r.i.c) (aI aK r.i.d);have wa_b:Below w.heap.size w wa:=(by rw [hwa];exact bg);clear hwa)
 refine (Hmy.out _).mono ?_
 (rintro e w1 ⟨rfl,w1_h⟩;obtain ⟨w1_hc,w1_hf⟩:=a0w w1_h;have w1_z:=w1_h.size;have w1_b:=wa_b.trans (w1_h.mono (by have:=wa_b.size;omega));have w1_le:=w1_b.size;have w1_s0:w.heap.size<w1.heap.size:=(by omega);clear w1_h)
 go_wp2_with fail
 (refine a0d fun wb hwb=>?_;have wb_s0:=sg w.heap.size hwb;obtain ⟨wb_c0,wb_c1,wb_c2,wb_c3,wb_c4,wb_c5⟩:=kz6 hwb w.heap.size (aI aK r.err) (aI aK r.id) (aI aK r.i.a) (aI aK r.i.b) (aI aK r.i.c) (aI aK r.i.d);have wb_b:Below w.heap.size w wb:=(by rw [hwb];exact bg);clear hwb)
 clear w1_hc w1_hf
 go_region_held3 (fun W=>∀ o,W.cell? ⟨w.heap.size,o,none⟩=wb.cell? ⟨w.heap.size,o,none⟩) (first | assumption | exact fun _=>rfl | exact fun o=>w9_b.cell (p:=⟨w.heap.size,o,none⟩) wb_s0 | exact fun o=>hbw7.cell (p:=⟨w.heap.size,o,none⟩) wb_s0 | exact fun o=>hbw8.cell (p:=⟨w.heap.size,o,none⟩) wb_s0 | exact fun o=>((a0p wb _).drew).cell (p:=⟨w.heap.size,o,none⟩) wb_s0) (first
  | (go_at_call 54;go_must (refine (i0z [r.err,r.id] _ wb.heap.size 2 #[aI aK r.err,aI aK r.id] ?_ rfl rfl (by simp) A HA.out).mono ?_;(focus (exact b0r wb _));rintro e w7 ⟨co7,cc7,rfl,ho7,hb7⟩;have hbw7:Below wb.heap.size wb w7:=((a0p wb _).drew).trans (hb7.mono (by first | (simp;done) | (simp;omega)))))
  | (go_at_call 130;go_must (refine (H8.out _).mono ?_;rintro e w8 ⟨co8,cc8,rfl,ho8,hb8⟩;have hbw8:Below wb.heap.size wb w8:=hbw7.trans (hb8.mono hbw7.size)))
  | (refine y0w _ _ (by rfl) ?_;go_must (refine d0o _ (by rfl) (.tmp 12) (.tmp 15) 47 (by rfl) wb.heap.size 5 i0 (aI .u8 0) 1 1 Tryz.underlying47 hi hz0 hz1 hz2 rfl (by decide) (.slice co7 A.length cc7) A.length (bytV A) (by rfl) (b0a (c0v ho7 hb8) (by first | (simp;done) | (simp;omega))) co8 B.length cc8 (bytV B) (by rfl) ho8.none (by rw [a0u,Nat.mul_one]) ho8.at.cells (a0x _) (by have:=HL.out;unfold maxLen;omega) (by have:=HL.out;omega) (by have:=hbw8.size;omega) ?_;intro vv w9 hown hgrow;have w9_b:Below wb.heap.size wb w9:=below_grown hbw8 (by have:=hbw8.size;omega) hgrow (fun j hj=>b0o (b0a ho7 (show wb.heap.size≤_ by first | (simp;done) | (simp;omega))) hj);obtain ⟨do9,dc9,rfl,ho9⟩:=c0n (l:=A++B) (by rw [←a0y];exact hown) (by rw [lL]);clear hown hgrow))
  | fail)
 all_goals
  go_wp2_with fail
  go_ret2
  refine ⟨do9,dc9,?_,?_,wb_b.trans (w9_b.mono (by omega))⟩
  ·rw [HE.out,lL];rfl
  ·rw [HE.out];exact b0a ho9 (by omega)
abbrev Sp:=ByteArray × ByteArray
def sGo (a:Sp):List Sp→Option Sp
 | []=>some a
 | s::r=>if d0z a.1 a.2 s.1 s.2 then sGo (a.1,s.2) r else none
def endB (a:Sp):Bool:=isB a.1 a.2&&(a.1.toList.isEmpty&&a.2.toList.isEmpty)
def sAll:List Sp→Bool
 | []=>false
 | s::r=>match sGo s r with
  | none=>false
  | some a=>endB a
def rGo (atB:List UInt8):List Sp→Option (List UInt8)
 | []=>some atB
 | s::r=>if isB s.1 s.2&&(s.1.toList==atB)&&!atB.isEmpty then rGo s.2.toList r else none
def finR:Option (List UInt8)→Bool
 | none=>false
 | some e=>e.isEmpty
def rAll:List Sp→Bool
 | []=>false
 | s::r=>if isB s.1 s.2&&s.1.toList.isEmpty then finR (rGo s.2.toList r) else false
theorem u0e (f t f' t':ByteArray):d0z f t f' t'=true↔isB f t=true∧isB f' t'=true∧t.toList≠[]∧t.toList=f'.toList:=by
 simp [d0z,and_assoc]
theorem isB_from {f g t:ByteArray} (h:isB g t=true) (hf:f.toList=[]):isB f t=true:=by
 rw [isB_iff] at *
 refine ⟨?_,h.2.1,?_⟩
 ·have:f.size=0:=by
   rw [ByteArray.toList_eq] at hf
   show f.data.size=0
   rw [←Array.length_toList,hf];rfl
  omega
 ·rcases h.2.2 with h | h
  ·exact .inl h
  ·right
   rw [hf]
   exact y0s fun e=>by rw [e,bl_nil] at h;cases h
theorem sGo_rGo (f t:ByteArray) (r:List Sp) (hf:f.toList=[]) (h:isB f t=true) :
 (match sGo (f,t) r with | none=>false | some a=>endB a)=finR (rGo t.toList r):=by
 induction r generalizing t with
 | nil=>simp [sGo,rGo,finR,endB,h,hf]
 | cons s r ih =>
  simp only [sGo,rGo]
  have e:d0z f t s.1 s.2=(isB s.1 s.2&&(s.1.toList==t.toList)&&!t.toList.isEmpty):=by
   rw [Bool.eq_iff_iff,u0e]
   simp only [h,true_and,bA,beq_iff_eq,Bool.not_eq_true',List.isEmpty_eq_false_iff]
   constructor
   ·rintro ⟨a,b,c⟩;exact ⟨⟨a,c.symm⟩,b⟩
   ·rintro ⟨⟨a,c⟩,b⟩;exact ⟨a,b,c.symm⟩
  rw [e]
  by_cases hc:(isB s.1 s.2&&(s.1.toList==t.toList)&&!t.toList.isEmpty)=true
  ·rw [if_pos hc,if_pos hc]
   simp only [bA] at hc
   exact ih s.2 (isB_from hc.1.1 hf)
  ·rw [if_neg hc,if_neg hc];rfl
theorem sGo_none (f t:ByteArray) (r:List Sp) (hf:f.toList≠[]):(match sGo (f,t) r with | none=>false | some a=>endB a)=false:=by
 induction r generalizing t with
 | nil=>simp [sGo,endB,hf]
 | cons s r ih =>
  simp only [sGo]
  by_cases hc:d0z f t s.1 s.2=true
  ·rw [if_pos hc];exact ih s.2
  ·rw [if_neg hc]
theorem sGo_bad (f t:ByteArray) (r:List Sp) (h:isB f t=false):(match sGo (f,t) r with | none=>false | some a=>endB a)=false:=by
 cases r with
 | nil=>simp [sGo,endB,h]
 | cons s r =>
  have:d0z f t s.1 s.2=false:=by simp [d0z,h]
  simp [sGo,this]
theorem k0f (l:List Sp):sAll l=rAll l:=by
 cases l with
 | nil=>rfl
 | cons s r =>
  obtain ⟨s1,s2⟩:=s
  show (match sGo (s1,s2) r with | none=>false | some a=>endB a)=(if isB s1 s2&&s1.toList.isEmpty then finR (rGo s2.toList r) else false)
  by_cases hf:s1.toList=[]
  ·cases h:isB s1 s2 with
   | false=>rw [sGo_bad s1 s2 r h];simp
   | true=>rw [sGo_rGo s1 s2 r hf h];simp [hf]
  ·rw [sGo_none s1 s2 r hf];simp [hf]
def Chain (f:List UInt8):List Sp→Prop
 | []=>False
 | s::r=>s.1.toList=f∧isB s.1 s.2=true∧((r=[]∧s.2.toList=[])∨(s.2.toList≠[]∧Chain s.2.toList r))
theorem y0p {s:Sp} {r:List Sp} (h:(r=[]∧s.2.toList=[])∨(s.2.toList≠[]∧Chain s.2.toList r)):finR (rGo s.2.toList r)=true:=by
 induction r generalizing s with
 | nil =>
  rcases h with ⟨-,h⟩ | ⟨-,h⟩
  ·simp [rGo,finR,h]
  ·exact h.elim
 | cons t r ih =>
  rcases h with ⟨h,-⟩ | ⟨h1,h2,h3,h4⟩
  ·cases h
  ·have:(isB t.1 t.2&&(t.1.toList==s.2.toList)&&!s.2.toList.isEmpty)=true:=by simp [h3,h2,h1]
   simp only [rGo,this,if_true]
   exact ih h4
theorem y0q {l:List Sp} (h:Chain [] l):sAll l=true:=by
 rw [k0f]
 cases l with
 | nil=>exact h.elim
 | cons s r =>
  obtain ⟨h1,h2,h3⟩:=h
  simp only [rAll,h1,h2]
  simpa using y0p h3
structure Zn where
 id:Int
 fr:ByteArray
 to:ByteArray
 owner:Int
 epoch:Int
 pend:Int
 tt:Int
 key:ByteArray
 nw:Int
deriving DecidableEq
structure Ch where
 kind:Int
 zone:Int
 epoch:Int
 tt:Int
 key:ByteArray
structure Mp where
 ver:Int
 next:Int
 zs:List Zn
def z0:ByteArray:=⟨#[]⟩
def mayC (c:Ch):Bool:=decide (1≤c.zone∧c.zone≤1099511627776) &&
 (if c.kind=1 then decide (1≤c.key.size∧c.key.size≤16∧c.epoch=0∧c.tt=0)
 else if c.kind=2 then decide (c.epoch=0∧c.tt=0∧c.key.toList=[])
 else if c.kind=3 then decide (1≤c.tt∧c.tt≤1048576∧c.epoch=0∧c.key.toList=[])
 else if c.kind=4∨c.kind=5 then decide (1≤c.epoch∧c.epoch≤1099511627776∧c.tt=0∧c.key.toList=[])
 else false)
def c0w (l:List Zn) (id:Int):Option Nat:=l.findIdx? fun z=>z.id==id
def pendN (k:Int) (l:List Zn):Nat:=(l.filter fun z=>z.pend==k).length
def spz (z:Zn):Sp:=(z.fr,z.to)
def q0l (z:Zn):List Int:=if z.pend=1 then [z.id,z.nw] else [z.id]
def nums (l:List Zn):List Int:=l.flatMap q0l
theorem nums_append (a b:List Zn):nums (a++b)=nums a++nums b:=by simp [nums]
theorem k0y (a:Zn) (b:List Zn):nums (a::b)=q0l a++nums b:=by simp [nums]
theorem p0i {l:List Zn} {z:Zn} (h:z∈l):z.id∈nums l:=by
 simp only [nums,List.mem_flatMap]
 refine ⟨z,h,?_⟩
 unfold q0l;split<;>simp
theorem w0y {l:List Zn} {z:Zn} (h:z∈l) (hp:z.pend=1):z.nw∈nums l:=by
 simp only [nums,List.mem_flatMap]
 refine ⟨z,h,?_⟩
 simp [q0l,hp]
theorem nums_length (l:List Zn):(nums l).length=l.length+pendN 1 l:=by
 induction l with
 | nil=>rfl
 | cons z r ih =>
  rw [k0y,lL,ih]
  unfold q0l pendN
  by_cases h:z.pend=1
  ·simp [h];omega
  ·simp [h];omega
def Pair (a b:Zn):Prop:=a.pend=2∧b.pend=2∧a.nw=b.id∧b.nw=a.id∧a.owner=b.owner
inductive Pairs:List Zn→Prop
 | nil:Pairs []
 | one {z:Zn} {r:List Zn}:z.pend≠2→Pairs r→Pairs (z::r)
 | two {a b:Zn} {r:List Zn}:Pair a b→Pairs r→Pairs (a::b::r)
theorem Pairs.append {l r:List Zn} (h:Pairs l) (k:Pairs r):Pairs (l++r):=by
 induction h with
 | nil=>exact k
 | one hz _ ih=>exact .one hz ih
 | two hp _ ih=>exact .two hp ih
theorem Pairs.mate {A B:List Zn} {z:Zn} (h:Pairs (A++z::B)) (hz:z.pend=2):(∃ b R,B=b::R∧Pair z b∧Pairs A∧Pairs R)∨(∃ Q a,A=Q++[a]∧Pair a z∧Pairs Q∧Pairs B):=by
 generalize hl:A++z::B=l at h
 induction h generalizing A with
 | nil=>simp at hl
 | @one y r hy hr ih =>
  cases A with
  | nil=>simp only [List.nil_append,List.cons.injEq] at hl;obtain ⟨rfl,rfl⟩:=hl;exact absurd hz hy
  | cons a A =>
   simp only [List.cons_append,List.cons.injEq] at hl
   obtain ⟨rfl,hl⟩:=hl
   rcases ih hl with ⟨b,R,e,h1,h2,h3⟩ | ⟨Q,a',e,h1,h2,h3⟩
   ·exact .inl ⟨b,R,e,h1,.one hy h2,h3⟩
   ·exact .inr ⟨a::Q,a',by rw [e];rfl,h1,.one hy h2,h3⟩
 | @two a b r hp hr ih =>
  cases A with
  | nil =>
   simp only [List.nil_append,List.cons.injEq] at hl
   obtain ⟨rfl,rfl⟩:=hl
   exact .inl ⟨b,r,rfl,hp,.nil,hr⟩
  | cons a' A =>
   simp only [List.cons_append,List.cons.injEq] at hl
   obtain ⟨rfl,hl⟩:=hl
   cases A with
   | nil =>
    simp only [List.nil_append,List.cons.injEq] at hl
    obtain ⟨rfl,rfl⟩:=hl
    exact .inr ⟨[],a',rfl,hp,.nil,hr⟩
   | cons b' A =>
    simp only [List.cons_append,List.cons.injEq] at hl
    obtain ⟨rfl,hl⟩:=hl
    rcases ih hl with ⟨b,R,e,h1,h2,h3⟩ | ⟨Q,a,e,h1,h2,h3⟩
    ·exact .inl ⟨b,R,e,h1,.two hp h2,h3⟩
    ·exact .inr ⟨a'::b'::Q,a,by rw [e];rfl,h1,.two hp h2,h3⟩
def ZOk (z:Zn):Prop:=1≤z.owner∧z.owner≤1048576∧1≤z.epoch∧z.epoch≤1099511627776 ∧
 ((z.pend=0∧z.tt=0∧z.key=z0∧z.nw=0)∨(z.pend=3∧1≤z.tt∧z.tt≤1048576∧z.tt≠z.owner∧z.key=z0∧z.nw=0)∨(z.pend=1∧z.tt=0∧e0y z.fr z.to z.key=true)∨(z.pend=2∧z.tt=0∧z.key=z0))
structure Inv (m:Mp):Prop where
 ver:1≤m.ver∧m.ver≤1099511627776
 next:1≤m.next∧m.next≤1099511627776
 nd:(nums m.zs).Nodup
 lt:∀ n∈nums m.zs,1≤n∧n<m.next
 ok:∀ z∈m.zs,ZOk z
 prs:Pairs m.zs
 chain:Chain [] (m.zs.map spz)
 room:(nums m.zs).length≤16
 moves:pendN 3 m.zs≤2
theorem t0d {l:List Zn} {i:Nat} {z:Zn} (h:l[i]?=some z):∃ A B,l=A++z::B∧A.length=i:=by
 obtain ⟨hi,rfl⟩:=List.getElem?_eq_some_iff.1 h
 exact ⟨l.take i,l.drop (i+1),by rw [←List.drop_eq_getElem_cons hi,List.take_append_drop],by rw [List.length_take];omega⟩
section
variable {ver next:Int} {A B:List Zn} {z x:Zn}
end
theorem k0z {z:Zn} (h:z.pend=1):q0l z=[z.id,z.nw]:=by unfold q0l;rw [if_pos h]
theorem find_mid {A B:List Zn} {z:Zn} {n:Int} (hz:z.id=n) (hA:∀ y∈A,y.id≠n):c0w (A++z::B) n=some A.length:=by
 induction A with
 | nil=>simp [c0w,List.findIdx?_cons,hz]
 | cons a A ih =>
  have h1:(a.id==n)=false:=by rw [beq_eq_false_iff_ne];exact hA a (by simp)
  have h2:=ih (fun y hy=>hA y (by simp [hy]))
  unfold c0w at h2 ⊢
  rw [List.cons_append,List.findIdx?_cons,h1]
  simp [h2]
theorem find_out {l:List Zn} {n:Int} (h:∀ y∈l,y.id≠n):c0w l n=none:=by
 unfold c0w
 rw [List.findIdx?_eq_none_iff]
 intro y hy
 rw [beq_eq_false_iff_ne]
 exact h y hy
theorem g0o {l:List Zn} {n:Int} {i:Nat} (h:c0w l n=some i):∃ z,l[i]?=some z∧z.id=n∧∀ y∈l.take i,y.id≠n:=by
 unfold c0w at h
 rw [List.findIdx?_eq_some_iff_getElem] at h
 obtain ⟨hi,h1,h2⟩:=h
 refine ⟨l[i],List.getElem?_eq_getElem hi,by simpa using h1,fun y hy=>?_⟩
 obtain ⟨j,hj,rfl⟩:=List.mem_iff_getElem.1 hy
 rw [List.length_take] at hj
 rw [List.getElem_take]
 have:=h2 j (by omega)
 simpa using this
theorem Inv.at {m:Mp} (h:Inv m) {i:Nat} {z:Zn} (hi:m.zs[i]?=some z):c0w m.zs z.id=some i:=by
 obtain ⟨A,B,hl,rfl⟩:=t0d hi
 rw [hl]
 refine find_mid rfl (fun y hy e=>?_)
 have hnd:=h.nd
 rw [hl,nums_append] at hnd
 exact (List.nodup_append.1 hnd).2.2 _ (p0i hy) _ (p0i (z:=z) (by simp)) e
theorem Inv.mate {m:Mp} (h:Inv m) {i:Nat} {z:Zn} (hi:m.zs[i]?=some z) (hp:z.pend=2):∃ k y,c0w m.zs z.nw=some k∧m.zs[k]?=some y∧(k=i+1∨k+1=i)∧y.pend=2∧y.nw=z.id∧y.owner=z.owner:=by
 obtain ⟨A,B,hl,rfl⟩:=t0d hi
 have hm:=h.prs
 rw [hl] at hm
 rcases hm.mate hp with ⟨b,R,rfl,q1,-,-⟩ | ⟨Q,a,rfl,q1,-,-⟩
 ·have hb:m.zs[A.length+1]?=some b:=by
   rw [hl,List.getElem?_append_right (by omega)]
   simp [show A.length+1 - A.length=1 by omega]
  refine ⟨A.length+1,b,?_,hb,.inl rfl,q1.2.1,q1.2.2.2.1,q1.2.2.2.2.symm⟩
  rw [q1.2.2.1]
  exact h.at hb
 ·have ha:m.zs[Q.length]?=some a:=by
   rw [hl];simp
  refine ⟨Q.length,a,?_,ha,.inr (by simp),q1.1,q1.2.2.1,q1.2.2.2.2⟩
  rw [q1.2.2.2.1]
  exact h.at ha
theorem Inv.fresh {m:Mp} (h:Inv m) {i:Nat} {z:Zn} (hi:m.zs[i]?=some z) (hp:z.pend=1):c0w m.zs z.nw=none∧(1≤z.nw∧z.nw<m.next)∧∀ k y,m.zs[k]?=some y→k≠i→y.pend=1→y.nw≠z.nw:=by
 have hz:=List.mem_of_getElem? hi
 refine ⟨find_out fun y hy e=>?_,h.lt _ (w0y hz hp),fun k y hk hne hyp e=>?_⟩
 ·obtain ⟨A,B,hl,rfl⟩:=t0d hi
  have hnd:=h.nd
  rw [hl,nums_append,k0y,k0z hp] at hnd
  rw [hl] at hy
  have h1:=List.nodup_append.1 hnd
  have h2:=List.nodup_append.1 h1.2.1
  rw [List.mem_append,List.mem_cons] at hy
  rcases hy with hy | rfl | hy
  ·exact h1.2.2 _ (p0i hy) z.nw (by simp) e
  ·have:=h2.1
   simp [e] at this
  ·exact h2.2.2 z.nw (by simp) _ (p0i hy) e.symm
 ·obtain ⟨A,B,hl,rfl⟩:=t0d hi
  have hnd:=h.nd
  rw [hl,nums_append,k0y,k0z hp] at hnd
  have h1:=List.nodup_append.1 hnd
  have h2:=List.nodup_append.1 h1.2.1
  rw [hl] at hk
  rcases Nat.lt_or_ge k A.length with hlt | hge
  ·rw [List.getElem?_append_left hlt] at hk
   exact h1.2.2 _ (w0y (List.mem_of_getElem? hk) hyp) z.nw (by simp) e
  ·rw [List.getElem?_append_right hge] at hk
   obtain ⟨j,hj⟩:∃ j,k - A.length=j+1:=⟨k - A.length - 1,by omega⟩
   rw [hj,List.getElem?_cons_succ] at hk
   exact h2.2.2 z.nw (by simp) _ (w0y (List.mem_of_getElem? hk) hyp) e.symm
theorem Inv.all {m:Mp} (h:Inv m):sAll (m.zs.map spz)=true:=y0q h.chain
theorem Inv.pos {m:Mp} (h:Inv m):0<m.zs.length:=by
 have:=h.chain
 cases hz:m.zs with
 | nil=>rw [hz] at this;exact this.elim
 | cons a r=>simp
theorem Inv.len {m:Mp} (h:Inv m):m.zs.length≤16:=by have:=h.room;rw [nums_length] at this;omega
def zq:Zn:=⟨0,z0,z0,0,0,0,0,z0,0⟩
def l0p (l:List Zn) (i:Nat) (n:Int):Bool:=(List.range l.length).any fun k=>decide (k≠i)&&((l.getD k zq).pend==1&&(l.getD k zq).nw==n)
def c0c (m:Mp) (i:Nat) (z:Zn):Bool:=e0y z.fr z.to z.key&&(decide (z.tt=0∧1≤z.nw∧z.nw<m.next)&&((c0w m.zs z.nw).isNone&&!l0p m.zs i z.nw))
def b0n (l:List Zn) (i:Nat) (z:Zn):Bool:=match c0w l z.nw with
 | none=>false
 | some k=>decide (z.tt=0∧z.key.toList=[]∧(k=i+1∨k+1=i))&&decide ((l.getD k zq).pend=2∧(l.getD k zq).nw=z.id∧(l.getD k zq).owner=z.owner)
def b0x (m:Mp) (i:Nat) (z:Zn):Bool:=decide (1≤z.id∧z.id<m.next∧c0w m.zs z.id=some i∧1≤z.owner∧z.owner≤1048576∧1≤z.epoch∧z.epoch≤1099511627776)
def g0k (m:Mp) (i:Nat) (z:Zn):Bool:=if z.pend=0 then decide (z.tt=0∧z.key.toList=[]∧z.nw=0) else if z.pend=3 then decide (1≤z.tt∧z.tt≤1048576∧z.tt≠z.owner∧z.key.toList=[]∧z.nw=0) else if z.pend=1 then c0c m i z else if z.pend=2 then b0n m.zs i z else false
def d0d (m:Mp) (i:Nat) (z:Zn):Bool:=b0x m i z&&g0k m i z
def mayM (m:Mp):Bool:=decide (1≤m.ver∧m.ver≤1099511627776∧1≤m.next∧m.next≤1099511627776∧m.zs.length≤16)&&(((List.range m.zs.length).all fun i=>d0d m i (m.zs.getD i zq))&&rAll (m.zs.map spz))
theorem p0s {l:List Zn} {i k:Nat} {n:Int} (h:k<l.length) (hk:k≠i) (h1:l[k].pend=1) (h2:l[k].nw=n):l0p l i n=true:=by
 unfold l0p
 rw [List.any_eq_true]
 exact ⟨k,by simpa using h,by simp [h,hk,h1,h2]⟩
theorem l0o {l:List Zn} {i:Nat} {n:Int} (h:∀ k (hk:k<l.length),k≠i→l[k].pend=1→l[k].nw≠n):l0p l i n=false:=by
 unfold l0p
 rw [List.any_eq_false]
 intro k hk
 have hk:k<l.length:=by simpa using hk
 have:=h k hk
 simp only [List.getD_eq_getElem?_getD,List.getElem?_eq_getElem hk,Option.getD_some]
 simpa using this
theorem k0h:z0.toList=[]:=by simp [z0]
theorem Inv.d0d {m:Mp} (h:Inv m) {i:Nat} {z:Zn} (hi:m.zs[i]?=some z):d0d m i z=true:=by
 have hz:=List.mem_of_getElem? hi
 obtain ⟨o1,o2,o3,o4,o5⟩:=h.ok z hz
 have hid:=h.lt _ (p0i hz)
 have hf:=h.at hi
 unfold Go.Proofs.YtogamdaomdoapaaGreat.d0d
 rw [bA]
 refine ⟨by unfold b0x;rw [decide_eq_true_eq];exact ⟨hid.1,hid.2,hf,o1,o2,o3,o4⟩,?_⟩
 unfold g0k
 rcases o5 with ⟨p,q1,q2,q3⟩ | ⟨p,q1,q2,q3,q4,q5⟩ | ⟨p,q1,q2⟩ | ⟨p,q1,q2⟩
 ·rw [if_pos p,decide_eq_true_eq,q2];exact ⟨q1,k0h,q3⟩
 ·rw [if_neg (by omega),if_pos p,decide_eq_true_eq,q4];exact ⟨q1,q2,q3,k0h,q5⟩
 ·rw [if_neg (by omega),if_neg (by omega),if_pos p]
  obtain ⟨f1,f2,f3⟩:=h.fresh hi p
  unfold c0c
  rw [q2,f1,l0o (fun k hk hki hp=>f3 k _ (List.getElem?_eq_getElem hk) hki hp)]
  simp [q1,f2.1,f2.2]
 ·rw [if_neg (by omega),if_neg (by omega),if_neg (by omega),if_pos p]
  obtain ⟨k,y,m1,m2,m3,m4,m5,m6⟩:=h.mate hi p
  unfold b0n
  rw [m1]
  simp only [List.getD_eq_getElem?_getD,m2,Option.getD_some]
  rw [bA,decide_eq_true_eq,decide_eq_true_eq,q2]
  exact ⟨⟨q1,k0h,m3⟩,m4,m5,m6⟩
theorem Inv.mayM {m:Mp} (h:Inv m):mayM m=true:=by
 unfold Go.Proofs.YtogamdaomdoapaaGreat.mayM
 rw [bA,bA,decide_eq_true_eq,List.all_eq_true]
 refine ⟨⟨h.ver.1,h.ver.2,h.next.1,h.next.2,h.len⟩,fun i hi=>?_,by rw [←k0f];exact h.all⟩
 have hi:i<m.zs.length:=by simpa using hi
 rw [List.getD_eq_getElem?_getD,List.getElem?_eq_getElem hi]
 exact h.d0d (List.getElem?_eq_getElem hi)
open Go.RowKit
structure Wd where
 kind:Int
 zone:Int
 epoch:Int
 index:Int
 size:Int
 off:Int
 host:Int
 err:Int
 sf:ByteArray
 st:ByteArray
 op:Rq
 rep:Rp
 mp:Mp
 ch:Ch
 data:List UInt8
structure Pl where
 zone:Int
 epoch:Int
 index:Int
 size:Int
 off:Int
 host:Int
 err:Int
 sf:ByteArray
 st:ByteArray
 op:Rq
 rep:Rp
 ch:Ch
def rq0:Rq:=⟨0,0,0,e0,e0,e0,e0,0,0,0,false,0⟩
def ch0:Ch:=⟨0,0,0,0,e0⟩
def mp0:Mp:=⟨0,0,[]⟩
def pl0:Pl:=⟨0,0,0,0,0,0,0,e0,e0,rq0,zRp,ch0⟩
def Wd.pl (w:Wd):Pl:=⟨w.zone,w.epoch,w.index,w.size,w.off,w.host,w.err,w.sf,w.st,w.op,w.rep,w.ch⟩
def eqRp (a b:Rp):Bool:=decide (a.err=b.err∧a.id=b.id∧a.i.a=b.i.a∧a.i.b=b.i.b∧a.i.c=b.i.c∧a.i.d=b.i.d)
def eqCh (a b:Ch):Bool:=decide (a.kind=b.kind∧a.zone=b.zone∧a.epoch=b.epoch∧a.tt=b.tt∧a.key.toList=b.key.toList)
def eqPl (a b:Pl):Bool:=decide (a.zone=b.zone∧a.epoch=b.epoch∧a.index=b.index∧a.size=b.size∧a.off=b.off∧a.host=b.host∧a.err=b.err∧a.sf.toList=b.sf.toList∧a.st.toList=b.st.toList)&&eqR a.op b.op&&eqRp a.rep b.rep&&eqCh a.ch b.ch
def numW (n:Int):Bool:=decide (0≤n∧n≤1099511627776)
def e0j (w:Wd):Bool:=decide (1≤w.zone∧w.zone≤1099511627776∧1≤w.epoch∧w.epoch≤1099511627776)&&numW w.index
def n0p (o:Rq):Rq:={ rq0 with kind:=o.kind,client:=o.client,seq:=o.seq }
def ansW (w:Wd):Bool:=eqR w.op (n0p w.op)&&decide (1≤w.op.kind∧w.op.kind≤7∧1≤w.op.client∧w.op.client≤1048576∧1≤w.op.seq∧w.op.seq≤1099511627776∧0≤w.err∧w.err≤19)&&numW w.host&&mayR w.rep&&(decide (w.err=0) || eqRp w.rep zRp)
def u0s (w:Wd):Bool:=e0j w&&decide (1≤w.size∧w.size≤524288∧0≤w.off∧w.off≤w.size∧(w.data.length:Int)≤w.size - w.off∧(w.data.length:Int)≤512)&&isB w.sf w.st
def hasD (k:Int):Bool:=decide (k=1∨k=7∨k=9)
def hasM (k:Int):Bool:=decide (k=3)
def j0x (m:Mp):Bool:=decide (m.ver≠0∨m.next≠0∨m.zs≠[])
def okW (w:Wd):Bool :=
 if w.kind=1 then true else if w.kind=2 then numW w.index else if w.kind=3 then mayM w.mp else if w.kind=4 then mayC w.ch
 else if w.kind=5 then mayO w.op else if w.kind=6 then ansW w else if w.kind=7 then u0s w else if w.kind=8 then e0j w&&numW w.off
 else if w.kind=9 then e0j w else if w.kind=10 then e0j w else false
def a0v (w:Wd):Pl :=
 if w.kind=2 then { pl0 with index:=w.index } else if w.kind=4 then { pl0 with ch:=w.ch } else if w.kind=5 then { pl0 with op:=w.op }
 else if w.kind=6 then { pl0 with op:=w.op,err:=w.err,rep:=w.rep,host:=w.host }
 else if w.kind=7 then { pl0 with zone:=w.zone,epoch:=w.epoch,index:=w.index,size:=w.size,off:=w.off,sf:=w.sf,st:=w.st }
 else if w.kind=8 then { pl0 with zone:=w.zone,epoch:=w.epoch,index:=w.index,off:=w.off }
 else if w.kind=9∨w.kind=10 then { pl0 with zone:=w.zone,epoch:=w.epoch,index:=w.index } else pl0
def mayW (w:Wd):Bool:=okW w&&eqPl w.pl (a0v w)&&(decide (w.data≠[])==hasD w.kind)&&(j0x w.mp==hasM w.kind)&&decide (w.data.length≤131072)
def l0b (w:Wd):Bool:=numW w.zone&&numW w.epoch&&numW w.index&&numW w.size&&numW w.off&&numW w.host&&decide (w.data.length≤131072)
def okD (w:Wd):Bool :=
 if w.kind=1 then decide (w.data≠[]) else if w.kind=2 then true else if w.kind=3 then mayM w.mp else if w.kind=4 then mayC w.ch
 else if w.kind=5 then mayO w.op else if w.kind=6 then eqR w.op (n0p w.op)&&decide (1≤w.op.kind∧w.op.kind≤7∧1≤w.op.client∧w.op.client≤1048576∧1≤w.op.seq∧w.op.seq≤1099511627776∧0≤w.err∧w.err≤19)&&mayR w.rep&&(decide (w.err=0) || eqRp w.rep zRp)
 else if w.kind=7 then decide (0<w.zone∧0<w.epoch∧0<w.size∧w.size≤524288∧w.data≠[]∧(w.data.length:Int)≤512∧w.off≤w.size - (w.data.length:Int))&&isB w.sf w.st
 else if w.kind=8 then decide (0<w.zone∧0<w.epoch) else if w.kind=9 then decide (0<w.zone∧0<w.epoch∧w.data≠[]) else if w.kind=10 then decide (0<w.zone∧0<w.epoch) else false
def e0p (w:Wd):List UInt8:=if hasD w.kind then w.data else []
def mapW (w:Wd):Mp:=if hasM w.kind then w.mp else mp0
def h0m (a b:Mp):Bool:=decide (a.ver=b.ver∧a.next=b.next∧a.zs=b.zs)
def docW (w:Wd):Bool:=okD w&&l0b w&&(eqPl (a0v w) w.pl&&h0m (mapW w) w.mp&&decide (e0p w=w.data))
theorem x0z (a b:Rq):eqR a b=eqR b a:=by
 unfold eqR;congr 1;simp only [eq_iff_iff];constructor<;>(rintro ⟨h1,h2,h3,h4,h5,h6,h7,h8,h9,h10,h11,h12⟩;exact ⟨h1.symm,h2.symm,h3.symm,h4.symm,h5.symm,h6.symm,h7.symm,h8.symm,h9.symm,h10.symm,h11.symm,h12.symm⟩)
theorem y0a (a b:Rp):eqRp a b=eqRp b a:=by
 unfold eqRp;congr 1;simp only [eq_iff_iff];constructor<;>(rintro ⟨h1,h2,h3,h4,h5,h6⟩;exact ⟨h1.symm,h2.symm,h3.symm,h4.symm,h5.symm,h6.symm⟩)
theorem y0d (a b:Ch):eqCh a b=eqCh b a:=by
 unfold eqCh;congr 1;simp only [eq_iff_iff];constructor<;>(rintro ⟨h1,h2,h3,h4,h5⟩;exact ⟨h1.symm,h2.symm,h3.symm,h4.symm,h5.symm⟩)
theorem y0c (a b:Pl):eqPl a b=eqPl b a:=by
 unfold eqPl;rw [x0z,y0a,y0d];congr 3;congr 1;simp only [eq_iff_iff];constructor<;>(rintro ⟨h1,h2,h3,h4,h5,h6,h7,h8,h9⟩;exact ⟨h1.symm,h2.symm,h3.symm,h4.symm,h5.symm,h6.symm,h7.symm,h8.symm,h9.symm⟩)
theorem y0b {a b:Pl} (h:eqPl a b=true):a.zone=b.zone∧a.epoch=b.epoch∧a.index=b.index∧a.size=b.size∧a.off=b.off∧a.host=b.host∧a.err=b.err:=by
 unfold eqPl at h;simp only [bA,decide_eq_true_eq] at h;exact ⟨h.1.1.1.1,h.1.1.1.2.1,h.1.1.1.2.2.1,h.1.1.1.2.2.2.1,h.1.1.1.2.2.2.2.1,h.1.1.1.2.2.2.2.2.1,h.1.1.1.2.2.2.2.2.2.1⟩
theorem x0j {m:Mp} (h:mayM m=true):j0x m=true:=by
 unfold mayM at h;simp only [bA,decide_eq_true_eq] at h;unfold j0x;rw [decide_eq_true_eq];omega
theorem r0b (w:Wd):docW w=mayW w:=by
 unfold docW mayW
 rw [y0c]
 cases hP:eqPl w.pl (a0v w) with
 | false=>simp
 | true =>
  obtain ⟨n1,n2,n3,n4,n5,n6,n7⟩:=y0b hP
  have hm3:=@x0j w.mp
  simp only [Wd.pl] at n1 n2 n3 n4 n5 n6 n7
  have hk:w.kind=1∨w.kind=2∨w.kind=3∨w.kind=4∨w.kind=5∨w.kind=6∨w.kind=7∨w.kind=8∨w.kind=9∨w.kind=10∨(w.kind≠1∧w.kind≠2∧w.kind≠3∧w.kind≠4∧w.kind≠5∧w.kind≠6∧w.kind≠7∧w.kind≠8∧w.kind≠9∧w.kind≠10):=by omega
  have hs:h0m mp0 w.mp=!j0x w.mp:=by
   unfold h0m j0x mp0;rw [Bool.eq_iff_iff];simp only [decide_eq_true_eq,Bool.not_eq_true',decide_eq_false_iff_not]
   constructor
   ·rintro ⟨a,b,c⟩ h;rcases h with h | h | h
    ·exact h a.symm
    ·exact h b.symm
    ·exact h c.symm
   ·intro h;refine ⟨?_,?_,?_⟩
    ·by_cases x:w.mp.ver=0
     ·exact x.symm
     ·exact absurd (.inl x) h
    ·by_cases x:w.mp.next=0
     ·exact x.symm
     ·exact absurd (.inr (.inl x)) h
    ·by_cases x:w.mp.zs=[]
     ·exact x.symm
     ·exact absurd (.inr (.inr x)) h
  have hs2:h0m w.mp w.mp=true:=by unfold h0m;simp
  have hd:decide (([]:List UInt8)=w.data)=!decide (w.data≠[]):=by
   rw [Bool.eq_iff_iff];simp only [decide_eq_true_eq,Bool.not_eq_true',decide_eq_false_iff_not,ne_eq,Classical.not_not];exact eq_comm
  unfold a0v at n1 n2 n3 n4 n5 n6 n7
  unfold okD okW l0b
  rcases hk with k | k | k | k | k | k | k | k | k | k | ⟨k1,k2,k3,k4,k5,k6,k7,k8,k9,k10⟩
  case inr.inr.inr.inr.inr.inr.inr.inr.inr.inr=>simp [k1,k2,k3,k4,k5,k6,k7,k8,k9,k10]
  all_goals
   simp only [k,pl0,Int.reduceEq,if_true,if_false,or_self,or_true,or_false] at n1 n2 n3 n4 n5 n6 n7
   have eD:hasD w.kind=hasD w.kind:=rfl
   have eM:hasM w.kind=hasM w.kind:=rfl
   conv at eD=>rhs;rw [k,hasD]
   conv at eM=>rhs;rw [k,hasM]
   rw [k] at eD eM
   simp only [Int.reduceEq,or_self,or_true,true_or,decide_true,decide_false] at eD eM
   simp only [mapW,e0p,eD,eM,if_true,hs,hs2,k,Int.reduceEq,if_false,Bool.true_and,Bool.and_true,hd,Bool.false_eq_true]
   clear hs hs2 hd eD eM hP k
   rw [Bool.eq_iff_iff]
   simp only [e0j,u0s,ansW,numW,n1,n2,n3,n4,n5,n6,bA,decide_eq_true_eq,Bool.not_eq_true',beq_iff_eq,decide_eq_false_iff_not,ne_eq,Classical.not_not]
   have hl:w.data=[]↔w.data.length=0:=List.length_eq_zero_iff.symm
   generalize j0x w.mp=a at *
   simp only [hl]
   clear hl n7
   revert hm3
   grind
set_option maxRecDepth 20000
open Go.RowKit
theorem s0y (n:Int) (w:World):Calls Tryz.prog 107 #[aI aK n] w fun e w'=>e=.returned (aB (numW n))∧w'=w:=by
 obtain ⟨r,hr⟩:∃ r,r=numW n:=⟨_,rfl⟩
 rw [←hr]
 unfold numW at hr
 go_enter Tryz.func107,Tryz.ntmps107
 by_cases h1:0≤n
 ·go_wp2_with fail
  go_ret
  refine ⟨?_,rfl⟩
  rw [hr]
  by_cases h2:n≤1099511627776<;>simp [h1,h2]
 ·obtain rfl:r=false:=by rw [hr,decide_eq_false_iff_not];omega
  clear hr
  go_wp2_with fail
  go_ret
  exact ⟨rfl,rfl⟩
theorem t0j (d:Wd) (ms ds:Value) (w:World):Calls Tryz.prog 112 #[.agg #[aI aK d.kind,aI aK d.zone,aI aK d.epoch,aI aK d.index,aI aK d.size,aI aK d.off,aI aK d.host,aI aK d.err,aS d.sf,aS d.st,aI aK d.op.kind,aI aK d.op.client,aI aK d.op.seq,aS d.op.key,aS d.op.who,aS d.op.tkey,aS d.op.twho,aI aK d.op.item,aI aK d.op.count,aI aK d.op.price,aB d.op.buy,aI aK d.op.id,aI aK d.rep.err,aI aK d.rep.id,aI aK d.rep.i.a,aI aK d.rep.i.b,aI aK d.rep.i.c,aI aK d.rep.i.d,aI aK d.mp.ver,aI aK d.mp.next,ms,aI aK d.ch.kind,aI aK d.ch.zone,aI aK d.ch.epoch,aI aK d.ch.tt,aS d.ch.key,ds]] w fun e w'=>e=.returned (aB (e0j d))∧Below w.heap.size w w':=by
 go_enter Tryz.func112,Tryz.ntmps112
 go_wp2_with fail
 all_goals try (go_ret;refine ⟨?_,(bg)⟩;unfold e0j;congr 2;simp;omega)
 refine (s0y _ _).mono ?_
 rintro e w' ⟨rfl,rfl⟩
 go_wp2_with fail
 go_ret
 refine ⟨?_,(bg)⟩
 unfold e0j
 congr 2
 simp
 omega
open Go.RowKit
theorem a0a {P:Program} {c1 c2:Code} {Q:Exit→Act→World→Prop} {a:Act} {w:World} (h:∀ C,Hid (C=c2)→(c1.seq C).wp P Q a w):(c1.seq c2).wp P Q a w:=h c2 (uH rfl)
theorem d0m {P:Program} {c:Code} {Q:Exit→Act→World→Prop} {a:Act} {w:World} (h:∀ R,Hid (R=Q)→c.wp P R a w):c.wp P Q a w:=h Q (uH rfl)
theorem a0s {P:Program} {ops:Array Oper} {Q:Exit→Act→World→Prop} {l:List Oper} {a:Act} {w:World} (n:Nat) (h:∀ L,Hid (L=l.drop n)→wpList P ops Q (l.take n++L) a w):wpList P ops Q l a w:=by
 have:=h _ (uH rfl)
 rwa [List.take_append_drop] at this
theorem b0l {P:Program} {ops:Array Oper} {Q:Exit→Act→World→Prop} {l:List Oper} {a:Act} {w:World} (h:∀ w3,w3=w→wpList P ops Q l a w3):wpList P ops Q l a w:=h w rfl
theorem d0x {P:Program} {ev:Operand→Value} {o:Oper} {w:World} (ty:TypeId) (x:Operand) (ho:o.op=.load ty x) (g:Nat) (hx:ev x=.pointer (some ⟨g,0,none⟩)) (t:TypeId) (cs:Array Value) (fr:Nat × Nat) (d:TypeDesc) (hg:w.heap[g]?=some (.cells cs t fr))
 (hu:P.underlying ty=some d) (hd:(match d with | .struct _ | .array _ _=>true | _=>false)=true) (hi:(P.info? ty).map (·.size)=some cs.size):(execOp ev o).run P w=.ok (.value (.agg cs)) w:=by
 unfold execOp
 simp only [ho,hx,Instr.loadAt,Instr.sureAddr,Sem.run_bind,Sem.run_pure,Result.andThen_ok,run_loadVar_row w g t ty cs fr d hg hu hd hi]
end Go.Proofs.YtogamdaomdoapaaGreat