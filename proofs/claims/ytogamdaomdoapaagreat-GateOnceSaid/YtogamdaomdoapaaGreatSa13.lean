/- Texts put together: RAl, Jn, OSa, OSp. -/
import Derived.Test.YtogamdaomdoapaaGreatSa01
import Derived.Test.YtogamdaomdoapaaGreatSa07
import Derived.Test.YtogamdaomdoapaaGreatSa08
import Derived.Test.YtogamdaomdoapaaGreatSa09
namespace Go.Proofs.YtogamdaomdoapaaGreat
open Go.RowKit
def SpanRow (w:World) (b off:Nat) (l:List (ByteArray × ByteArray)):Prop :=
 ∀ i,(h:i<l.length)→w.cell? ⟨b,off+i * 2,none⟩=some (.string l[i].1)∧w.cell? ⟨b,off+i * 2+1,none⟩=some (.string l[i].2)
set_option maxHeartbeats 4000000 in
theorem ref_all_none (ao:Option Addr) (cap:Nat) (w:World) :
 Calls Tryz.prog 64 #[.slice ao 0 cap] w fun e w'=>e=.returned (.bool false)∧Below w.heap.size w w':=by
 go_enter Tryz.func64,Tryz.ntmps64
 go_wp2
 refine wp_loop_rounds 1 ?_
 rw [rounds_succ]
 go_wp2
 go_ret
 exact ⟨rfl,bg⟩
def RSt (l:List Sp) (k:Nat) (e:List UInt8):Prop:=(k=0→e=[])∧(1≤k→rAll l=finR (rGo e (l.drop k)))
theorem RSt_zero (l:List Sp):RSt l 0 []:=⟨fun _=>rfl,fun h=>by omega⟩
theorem RSt_first {l:List Sp} (h:0<l.length) (hi:isB l[0].1 l[0].2=true) (hf:l[0].1.toList=[]):RSt l 1 l[0].2.toList:=by
 refine ⟨fun h=>by omega,fun _=>?_⟩
 cases l with
 | nil=>simp at h
 | cons s r=>simp only [List.getElem_cons_zero] at hi hf;simp [rAll,hi,hf]
theorem rAll_first {l:List Sp} (h:0<l.length) (hb:isB l[0].1 l[0].2=false∨l[0].1.toList≠[]):rAll l=false:=by
 cases l with
 | nil=>simp at h
 | cons s r=>simp only [List.getElem_cons_zero] at hb;rcases hb with hb | hb<;>simp [rAll,hb]
theorem rGo_step (e:List UInt8) (l:List Sp) (k:Nat) (h:k<l.length):rGo e (l.drop k)=if isB l[k].1 l[k].2&&(l[k].1.toList==e)&&!e.isEmpty then rGo l[k].2.toList (l.drop (k+1)) else none:=by
 rw [List.drop_eq_getElem_cons h];rfl
theorem RSt_next {l:List Sp} {k:Nat} {e:List UInt8} (h:k<l.length) (h1:1≤k) (hs:RSt l k e) (hi:isB l[k].1 l[k].2=true) (hf:l[k].1.toList=e) (he:e≠[]):RSt l (k+1) l[k].2.toList :=
 ⟨fun h=>by omega,fun _=>by rw [hs.2 h1,rGo_step e l k h,if_pos (by simp [hi,hf,he])]⟩
theorem rAll_bad {l:List Sp} {k:Nat} {e:List UInt8} (h:k<l.length) (h1:1≤k) (hs:RSt l k e) (hb:isB l[k].1 l[k].2=false∨l[k].1.toList≠e∨e=[]):rAll l=false:=by
 rw [hs.2 h1,rGo_step e l k h,if_neg]
 ·rfl
 ·rcases hb with hb | hb | hb<;>simp [hb]
theorem rAll_end {l:List Sp} {k:Nat} {e:List UInt8} (h:l.length≤k) (h1:1≤k) (hs:RSt l k e):rAll l=e.isEmpty:=by
 rw [hs.2 h1,List.drop_eq_nil_of_le h];rfl
set_option maxHeartbeats 4000000 in
theorem ref_all_some (b off cap:Nat) (l:List Sp) (w:World) (hl:l.length≤9223372036854775807) (hr:SpanRow w b off l) (hpos:0<l.length) (hb:b<w.heap.size) :
 Calls Tryz.prog 64 #[.slice (some ⟨b,off,none⟩) l.length cap] w fun e w'=>e=.returned (.bool (rAll l))∧Below w.heap.size w w':=by
 go_enter Tryz.func64,Tryz.ntmps64
 go_wp2
 go_loopw [3,4] (fun s i wr=>∃ (k:Nat) (e:ByteArray),k≤l.length∧i=.int .i64 k∧s=.string e∧Below w.heap.size w wr∧Hid (RSt l k e.toList)) (fun _ i _=>l.length - (intOf i).toNat)
 case atStart=>exact ⟨0,⟨#[]⟩,Nat.zero_le _,rfl,rfl,bg,by have:=RSt_zero l;simpa [Hid] using this⟩
 case round =>
  obtain ⟨k,e,hk,rfl,rfl,wr_b,hst⟩:=hrel
  by_cases hlt:k<l.length
  ·have h1:wr.cell? ⟨b,off+k * 2,none⟩=some (.string l[k].1):=(wr_b.cell (p:=⟨b,off+k * 2,none⟩) hb).trans (hr k hlt).1
   have h2:wr.cell? ⟨b,off+k * 2+1,none⟩=some (.string l[k].2):=(wr_b.cell (p:=⟨b,off+k * 2+1,none⟩) hb).trans (hr k hlt).2
   clear hr
   cases hi:isB l[k].1 l[k].2<;>have Hi:=Lib.hid hi<;>clear hi
   ·go_wp2_with fail
    refine (satrapyref12_is l[k].1 l[k].2 _).mono ?_
    rw [Hi.out]
    rintro e1 w1 ⟨rfl,w1_h⟩
    go_wp2_with fail
    go_ret
    refine ⟨?_,wr_b.trans (w1_h.mono wr_b.size)⟩
    by_cases h0:k=0
    ·subst h0;rw [rAll_first hpos (.inl Hi.out)];rfl
    ·rw [rAll_bad hlt (by omega) hst.out (.inl Hi.out)];rfl
   ·go_wp2_with fail
    refine (satrapyref12_is l[k].1 l[k].2 _).mono ?_
    rw [Hi.out]
    rintro e1 w1 ⟨rfl,w1_h⟩
    obtain ⟨w1_hc,w1_hf⟩:=bcell w1_h
    have hbw:b<wr.heap.size:=Nat.lt_of_lt_of_le hb wr_b.size
    have w1_b:=wr_b.trans (w1_h.mono wr_b.size)
    clear w1_h
    go_wp2_with fail
    ·go_ret
     exact ⟨by rw [rAll_bad hlt (by omega) hst.out (.inr (.inr (by simpa using ‹e.toList.isEmpty=true›)))];rfl,w1_b⟩
    ·go_roundw
     case rel=>exact ⟨k+1,l[k].2,by omega,by go_num,rfl,w1_b,RSt_next hlt (by omega) hst.out Hi.out ‹_› (by simpa using ‹e.toList.isEmpty=false›)⟩
     case measure=>simp [intOf];omega
    ·obtain rfl:k=0:=by omega
     go_roundw
     case rel=>exact ⟨1,l[0].2,by omega,by go_num,rfl,w1_b,RSt_first hlt Hi.out (by rw [‹l[0].1.toList=e.toList›];exact hst.out.1 rfl)⟩
     case measure=>simp [intOf];omega
    ·go_ret
     refine ⟨?_,w1_b⟩
     by_cases h0:k=0
     ·subst h0;rw [rAll_first hpos (.inr (by rw [←hst.out.1 rfl];assumption))];rfl
     ·rw [rAll_bad hlt (by omega) hst.out (.inr (.inl ‹_›))];rfl
  ·clear hr
   have hkl:(k:Int)=l.length:=by omega
   have Hkl:=Lib.hid hkl;clear hkl
   go_wp2_with fail
   go_ret
   refine ⟨?_,bg⟩
   rw [rAll_end (by omega) (by omega) hst.out];simp;try omega
end Go.Proofs.YtogamdaomdoapaaGreat
namespace Go.Proofs.YtogamdaomdoapaaGreat
open Go.RowKit
set_option maxHeartbeats 1000000 in
theorem span_join (f t f' t':ByteArray) (w:World) :
 Calls Tryz.prog 148 #[.agg #[.string f,.string t],.agg #[.string f',.string t']] w fun e w'=>e=.returned (.tuple #[.agg #[.string (sel (joinOk f t f' t') f),.string (sel (joinOk f t f' t') t')],.bool (joinOk f t f' t')])∧Below w.heap.size w w':=by
 cases h1:isB f t<;>have H1:=Lib.hid h1<;>clear h1
 ·go_enter Tryz.func148,Tryz.ntmps148
  go_wp2_with fail
  (refine calls_name fun wa hwa=>?_;have wa_s0:=sg w.heap.size hwa;have wa_s1:=sg (w.heap.size+1) hwa;have wa_s2:=sg (w.heap.size+2) hwa;obtain ⟨wa_c0,wa_c1,wa_c2,wa_c3,wa_c4,wa_c5⟩:=kk6 hwa w.heap.size 0 (.string f) w.heap.size 1 (.string t) (w.heap.size+1) 0 (.string f') (w.heap.size+1) 1 (.string t') (w.heap.size+2) 0 (.string ⟨#[]⟩) (w.heap.size+2) 1 (.string ⟨#[]⟩);obtain ⟨wa_f4,wa_f5⟩:=ff2 hwa (w.heap.size+2) 0 (w.heap.size+2) 1;have wa_b:Below w.heap.size w wa:=(by rw [hwa];exact bg);clear hwa)
  refine (span_is _ _ _).mono ?_
  rw [H1.out]
  (rintro e w1 ⟨rfl,w1_h⟩;obtain ⟨w1_hc,w1_hf⟩:=bcell w1_h;have w1_z:=w1_h.size;have w1_b:=wa_b.trans (w1_h.mono (by have:=wa_b.size;omega));have w1_le:=w1_b.size;have w1_s0:w.heap.size<w1.heap.size:=(by omega);have w1_s1:w.heap.size+1<w1.heap.size:=(by omega);have w1_s2:w.heap.size+2<w1.heap.size:=(by omega);clear w1_h)
  go_wp2_with fail
  refine bodyPost_ret (v:=.tuple #[.agg #[.string ⟨#[]⟩,.string ⟨#[]⟩],.bool false]) (by simp [results,Tryz.results148,go_sem, *]) rfl ⟨?_,bg⟩
  simp [joinOk,sel,H1.out]
 ·cases h2:isB f' t'<;>have H2:=Lib.hid h2<;>clear h2
  ·go_enter Tryz.func148,Tryz.ntmps148
   go_wp2_with fail
   (refine calls_name fun wa hwa=>?_;have wa_s0:=sg w.heap.size hwa;have wa_s1:=sg (w.heap.size+1) hwa;have wa_s2:=sg (w.heap.size+2) hwa;obtain ⟨wa_c0,wa_c1,wa_c2,wa_c3,wa_c4,wa_c5⟩:=kk6 hwa w.heap.size 0 (.string f) w.heap.size 1 (.string t) (w.heap.size+1) 0 (.string f') (w.heap.size+1) 1 (.string t') (w.heap.size+2) 0 (.string ⟨#[]⟩) (w.heap.size+2) 1 (.string ⟨#[]⟩);obtain ⟨wa_f4,wa_f5⟩:=ff2 hwa (w.heap.size+2) 0 (w.heap.size+2) 1;have wa_b:Below w.heap.size w wa:=(by rw [hwa];exact bg);clear hwa)
   refine (span_is _ _ _).mono ?_
   rw [H1.out]
   (rintro e w1 ⟨rfl,w1_h⟩;obtain ⟨w1_hc,w1_hf⟩:=bcell w1_h;have w1_z:=w1_h.size;have w1_b:=wa_b.trans (w1_h.mono (by have:=wa_b.size;omega));have w1_le:=w1_b.size;have w1_s0:w.heap.size<w1.heap.size:=(by omega);have w1_s1:w.heap.size+1<w1.heap.size:=(by omega);have w1_s2:w.heap.size+2<w1.heap.size:=(by omega);clear w1_h)
   go_wp2_with fail
   (refine calls_name fun wb hwb=>?_;have wb_s0:=sg w.heap.size hwb;have wb_s1:=sg (w.heap.size+1) hwb;have wb_s2:=sg (w.heap.size+2) hwb;obtain ⟨wb_c0,wb_c1,wb_c2,wb_c3,wb_c4,wb_c5⟩:=kk6 hwb w.heap.size 0 (.string f) w.heap.size 1 (.string t) (w.heap.size+1) 0 (.string f') (w.heap.size+1) 1 (.string t') (w.heap.size+2) 0 (.string ⟨#[]⟩) (w.heap.size+2) 1 (.string ⟨#[]⟩);obtain ⟨wb_f4,wb_f5⟩:=ff2 hwb (w.heap.size+2) 0 (w.heap.size+2) 1;have wb_b:Below w.heap.size w wb:=(by rw [hwb];exact bg);clear hwb)
   refine (span_is _ _ _).mono ?_
   rw [H2.out]
   (rintro e w2 ⟨rfl,w2_h⟩;obtain ⟨w2_hc,w2_hf⟩:=bcell w2_h;have w2_z:=w2_h.size;have w2_b:=wb_b.trans (w2_h.mono (by have:=wb_b.size;omega));have w2_le:=w2_b.size;have w2_s0:w.heap.size<w2.heap.size:=(by omega);have w2_s1:w.heap.size+1<w2.heap.size:=(by omega);have w2_s2:w.heap.size+2<w2.heap.size:=(by omega);clear w2_h)
   go_wp2_with fail
   refine bodyPost_ret (v:=.tuple #[.agg #[.string ⟨#[]⟩,.string ⟨#[]⟩],.bool false]) (by simp [results,Tryz.results148,go_sem, *]) rfl ⟨?_,bg⟩
   simp [joinOk,sel,H2.out]
  ·go_enter Tryz.func148,Tryz.ntmps148
   go_wp2_with fail
   (refine calls_name fun wa hwa=>?_;have wa_s0:=sg w.heap.size hwa;have wa_s1:=sg (w.heap.size+1) hwa;have wa_s2:=sg (w.heap.size+2) hwa;obtain ⟨wa_c0,wa_c1,wa_c2,wa_c3,wa_c4,wa_c5⟩:=kk6 hwa w.heap.size 0 (.string f) w.heap.size 1 (.string t) (w.heap.size+1) 0 (.string f') (w.heap.size+1) 1 (.string t') (w.heap.size+2) 0 (.string ⟨#[]⟩) (w.heap.size+2) 1 (.string ⟨#[]⟩);obtain ⟨wa_f4,wa_f5⟩:=ff2 hwa (w.heap.size+2) 0 (w.heap.size+2) 1;have wa_b:Below w.heap.size w wa:=(by rw [hwa];exact bg);clear hwa)
   refine (span_is _ _ _).mono ?_
   rw [H1.out]
   (rintro e w1 ⟨rfl,w1_h⟩;obtain ⟨w1_hc,w1_hf⟩:=bcell w1_h;have w1_z:=w1_h.size;have w1_b:=wa_b.trans (w1_h.mono (by have:=wa_b.size;omega));have w1_le:=w1_b.size;have w1_s0:w.heap.size<w1.heap.size:=(by omega);have w1_s1:w.heap.size+1<w1.heap.size:=(by omega);have w1_s2:w.heap.size+2<w1.heap.size:=(by omega);clear w1_h)
   go_wp2_with fail
   (refine calls_name fun wb hwb=>?_;have wb_s0:=sg w.heap.size hwb;have wb_s1:=sg (w.heap.size+1) hwb;have wb_s2:=sg (w.heap.size+2) hwb;obtain ⟨wb_c0,wb_c1,wb_c2,wb_c3,wb_c4,wb_c5⟩:=kk6 hwb w.heap.size 0 (.string f) w.heap.size 1 (.string t) (w.heap.size+1) 0 (.string f') (w.heap.size+1) 1 (.string t') (w.heap.size+2) 0 (.string ⟨#[]⟩) (w.heap.size+2) 1 (.string ⟨#[]⟩);obtain ⟨wb_f4,wb_f5⟩:=ff2 hwb (w.heap.size+2) 0 (w.heap.size+2) 1;have wb_b:Below w.heap.size w wb:=(by rw [hwb];exact bg);clear hwb)
   refine (span_is _ _ _).mono ?_
   rw [H2.out]
   (rintro e w2 ⟨rfl,w2_h⟩;obtain ⟨w2_hc,w2_hf⟩:=bcell w2_h;have w2_z:=w2_h.size;have w2_b:=wb_b.trans (w2_h.mono (by have:=wb_b.size;omega));have w2_le:=w2_b.size;have w2_s0:w.heap.size<w2.heap.size:=(by omega);have w2_s1:w.heap.size+1<w2.heap.size:=(by omega);have w2_s2:w.heap.size+2<w2.heap.size:=(by omega);clear w2_h)
   go_wp2_with fail
   rotate_left 2
   ·refine bodyPost_ret (v:=.tuple #[.agg #[.string f,.string t'],.bool true]) (by simp [results,Tryz.results148,go_sem, *]) rfl ⟨?_,bg⟩
    simp_all [joinOk,sel,H1.out,H2.out]
   all_goals refine bodyPost_ret (v:=.tuple #[.agg #[.string ⟨#[]⟩,.string ⟨#[]⟩],.bool false]) (by simp [results,Tryz.results148,go_sem, *]) rfl ⟨?_,bg⟩
   ·simp_all [joinOk,sel]
   ·simp_all [joinOk,sel]
end Go.Proofs.YtogamdaomdoapaaGreat
namespace Go.Proofs.YtogamdaomdoapaaGreat.O
open Go.RowKit
set_option maxRecDepth 20000
theorem sGo_step (a:Sp) (l:List Sp) (k:Nat) (h:k<l.length):sGo a (l.drop k)=if joinOk a.1 a.2 l[k].1 l[k].2 then sGo (a.1,l[k].2) (l.drop (k+1)) else none:=by
 rw [List.drop_eq_getElem_cons h];rfl
theorem sAll_none {l:List Sp} {a:Sp} {k:Nat} (hl:0<l.length) (hs:sGo l[0] l.tail=sGo a (l.drop k)) (h:k<l.length) (hj:joinOk a.1 a.2 l[k].1 l[k].2=false):sAll l=false:=by
 rw [sGo_step a l k h,hj] at hs
 cases l with
 | nil=>simp at hl
 | cons s r=>simp only [List.getElem_cons_zero,List.tail_cons] at hs;simp [sAll,hs]
theorem sAll_end {l:List Sp} {a:Sp} {k:Nat} (hl:0<l.length) (hs:sGo l[0] l.tail=sGo a (l.drop k)) (h:l.length≤k):sAll l=endB a:=by
 rw [List.drop_eq_nil_of_le h] at hs
 cases l with
 | nil=>simp at hl
 | cons s r=>simp only [List.getElem_cons_zero,List.tail_cons,sGo] at hs;simp [sAll,hs]
set_option maxHeartbeats 4000000 in
theorem span_all_some (b off cap:Nat) (l:List Sp) (w:World) (hl:l.length≤9223372036854775807) (hr:SpanRow w b off l) (hpos:0<l.length) (hb:b<w.heap.size) :
 Calls Tryz.prog 139 #[.slice (some ⟨b,off,none⟩) l.length cap] w fun e w'=>e=.returned (.bool (sAll l))∧Below w.heap.size w w':=by
 go_enter Tryz.func139,Tryz.ntmps139
 go_wp2
 go_loopw [10] (fun i wr=>∃ (k:Nat) (a:Sp),k≤l.length∧i=.int .i64 k∧Below w.heap.size w wr∧w.heap.size<wr.heap.size∧wr.cell? ⟨w.heap.size,0,none⟩=some (.string a.1)∧wr.cell? ⟨w.heap.size,1,none⟩=some (.string a.2)∧wr.frozen? ⟨w.heap.size,0,none⟩=false∧wr.frozen? ⟨w.heap.size,1,none⟩=false∧Hid ((k=0→a=(⟨#[]⟩,⟨#[]⟩))∧(1≤k→sGo l[0] l.tail=sGo a (l.drop k)))) (fun i _=>l.length - (intOf i).toNat)
 case atStart=>exact ⟨0,(⟨#[]⟩,⟨#[]⟩),Nat.zero_le _,rfl,bg,by simp,by simp [go_sem],by simp [go_sem],by simp [go_sem],by simp [go_sem],⟨fun _=>rfl,fun h=>by omega⟩⟩
 case round =>
  obtain ⟨k,a,hk,rfl,wr_b,hs,ha1,ha2,hf1,hf2,hst⟩:=hrel
  have Hr:=Lib.hid hr
  by_cases hlt:k<l.length
  ·have h1:wr.cell? ⟨b,off+k * 2,none⟩=some (.string l[k].1):=(wr_b.cell (p:=⟨b,off+k * 2,none⟩) hb).trans (hr k hlt).1
   have h2:wr.cell? ⟨b,off+k * 2+1,none⟩=some (.string l[k].2):=(wr_b.cell (p:=⟨b,off+k * 2+1,none⟩) hb).trans (hr k hlt).2
   clear hr
   by_cases h0:k=0
   ·subst h0
    simp only [Nat.zero_mul,Nat.add_zero] at h1 h2
    go_wp2_with fail
    go_roundw
    case rel=>exact ⟨1,l[0],by omega,by go_num,bg,by simp;omega,by go_simp,by go_simp,by go_simp,by go_simp,⟨fun h=>by omega,fun _=>by rw [List.drop_one]⟩⟩
    case measure=>simp [intOf];omega
   ·have hk0:((k:Int)==0)=false:=by simp;omega
    go_wp2_with fail
    (refine calls_name fun wa hwa=>?_;have wa_s0:=sg w.heap.size hwa;have wa_s1:=sg wr.heap.size hwa;obtain ⟨wa_c0,wa_c1,wa_c2,wa_c3⟩:=kk4 hwa w.heap.size 0 (.string a.1) w.heap.size 1 (.string a.2) wr.heap.size 0 (.string l[k].1) wr.heap.size 1 (.string l[k].2);obtain ⟨wa_f0,wa_f1⟩:=ff2 hwa w.heap.size 0 w.heap.size 1;have wa_b:Below w.heap.size w wa:=(by rw [hwa];exact bg);clear hwa)
    refine (span_join a.1 a.2 l[k].1 l[k].2 _).mono ?_
    (rintro e w1 ⟨rfl,w1_h⟩;obtain ⟨w1_hc,w1_hf⟩:=bcell w1_h;have w1_z:=w1_h.size;have w1_b:=wa_b.trans (w1_h.mono (by have:=wa_b.size;omega));have w1_le:=w1_b.size;have w1_s0:w.heap.size<w1.heap.size:=(by omega);have w1_s1:wr.heap.size<w1.heap.size:=(by omega);clear w1_h)
    cases hj:joinOk a.1 a.2 l[k].1 l[k].2
    ·simp only [sel]
     go_wp2_with fail
     go_ret
     exact ⟨by rw [sAll_none hpos (hst.out.2 (by omega)) hlt hj];rfl,bg⟩
    ·simp only [sel,if_true]
     go_wp2_with fail
     go_roundw
     case rel=>exact ⟨k+1,(a.1,l[k].2),by omega,by go_num,bg,by simp;omega,by go_simp,by go_simp,by go_simp,by go_simp,⟨fun h=>by omega,fun _=>by rw [hst.out.2 (by omega),sGo_step a l k hlt,if_pos hj]⟩⟩
     case measure=>simp [intOf];omega
  ·clear hr
   have hkl:(k:Int)=l.length:=by omega
   have Hkl:=Lib.hid hkl;clear hkl
   go_wp2_with fail
   (refine calls_name fun wa hwa=>?_;have wa_s0:=sg w.heap.size hwa;obtain ⟨wa_c0,wa_c1⟩:=kk2 hwa w.heap.size 0 (.string a.1) w.heap.size 1 (.string a.2);have wa_b:Below w.heap.size w wa:=(by rw [hwa];exact bg);clear hwa)
   refine (span_is a.1 a.2 _).mono ?_
   (rintro e w1 ⟨rfl,w1_h⟩;obtain ⟨w1_hc,w1_hf⟩:=bcell w1_h;have w1_z:=w1_h.size;have w1_b:=wa_b.trans (w1_h.mono (by have:=wa_b.size;omega));have w1_le:=w1_b.size;have w1_s0:w.heap.size<w1.heap.size:=(by omega);clear w1_h)
   go_wp2_with fail
   all_goals go_ret
   all_goals (refine ⟨?_,bg⟩;rw [sAll_end hpos (hst.out.2 (by omega)) (by omega)];simp [endB, *])
end Go.Proofs.YtogamdaomdoapaaGreat.O
namespace Go.Proofs.YtogamdaomdoapaaGreat.O
open Go.RowKit
theorem splits_no {m:Mp} {i:Nat} {z:Zn} (h:cutOk z.fr z.to z.key=false∨¬(z.tt=0∧1≤z.nw∧z.nw<m.next)∨(findZ m.zs z.nw).isNone=false∨clashB m.zs i z.nw=true):splitsB m i z=false:=by
 unfold splitsB
 rcases h with h | h | h | h
 ·rw [h];rfl
 ·rw [decide_eq_false h];simp
 ·rw [h];simp
 ·rw [h];simp
set_option maxRecDepth 20000 in
set_option maxHeartbeats 4000000 in
theorem splits_any {g o zc:Nat} {m:Mp} {w:World} (h:ZnO w g o m.zs) (hm:m.zs.length≤1000) (i:Nat) (z:Zn) (hi:m.zs[i]?=some z) :
 Calls Tryz.prog 104 #[.agg #[.int .i64 m.ver,.int .i64 m.next,.slice (some ⟨g,o,none⟩) m.zs.length zc],.int .i64 i] w fun e w'=>e=.returned (.bool (splitsB m i z))∧Below w.heap.size w w':=by
 obtain ⟨hil,hie⟩:=List.getElem?_eq_some_iff.1 hi
 have hg:=h.lt
 obtain ⟨d0,d1,d2,d3,d4,d5,d6,d7,d8⟩:=h.nine i hil z hie.symm
 have Hz:=Lib.hid h
 obtain ⟨k,hk⟩:∃ k,k=fz m.zs z.nw:=⟨_,rfl⟩
 obtain ⟨n,hn⟩:∃ n,n=m.zs.length:=⟨_,rfl⟩
 obtain ⟨nx,hnx⟩:∃ nx,nx=m.next:=⟨_,rfl⟩
 obtain ⟨r,hr⟩:∃ r,r=cutOk z.fr z.to z.key:=⟨_,rfl⟩
 have Hfd:=Lib.hid (fun (w3:World) (hb:Below w.heap.size w w3)=>rfind_any (zc:=zc) (Hz.out.grow hb) hm z.nw)
 have hct:=fun w=>satrapyref12_cut z.fr z.to z.key w
 rw [←hk,←hn] at Hfd
 rw [←hr] at hct
 have Hct:=Lib.hid hct
 rw [←hn] at hil hm ⊢
 rw [←hnx]
 have Hk:=Lib.hid hk
 have Hn:=Lib.hid hn
 have Hnx:=Lib.hid hnx
 have Hr:=Lib.hid hr
 clear hi hie h hk hn hnx hr hct
 cases r with
 | false =>
  have HR:Hid (splitsB m i z=false):=Lib.hid (splits_no (.inl Hr.out.symm))
  ((go_enter Tryz.func104,Tryz.ntmps104;(go_wp2_with fail);(refine calls_name fun wa hwa=>?_;have wa_s0:=sg g hwa;have wa_s1:=sg w.heap.size hwa;have wa_s2:=sg (w.heap.size+1) hwa;obtain ⟨wa_c0,wa_c1,wa_c2,wa_c3⟩:=kk4 hwa w.heap.size 1 (.int .i64 nx) w.heap.size 2 (.slice (some ⟨g,o,none⟩) n zc) (w.heap.size+1) 6 (.int .i64 z.tt) (w.heap.size+1) 8 (.int .i64 z.nw);have wa_b:Below w.heap.size w wa:=(by rw [hwa];exact bg);clear hwa);(refine (Hct.out _).mono ?_);(rintro e w1 ⟨rfl,w1_h⟩;obtain ⟨w1_hc,w1_hf⟩:=bcell w1_h;have w1_z:=w1_h.size;have w1_b:=wa_b.trans (w1_h.mono (by have:=wa_b.size;omega));have w1_le:=w1_b.size;have w1_s0:g<w1.heap.size:=(by omega);have w1_s1:w.heap.size<w1.heap.size:=(by omega);have w1_s2:w.heap.size+1<w1.heap.size:=(by omega);clear w1_h);(go_wp2_with fail));go_ret;exact ⟨by rw [HR.out];rfl,bg⟩)
 | true =>
  by_cases h1:z.tt=0
  ·have e1:(z.tt != 0)=false:=by rw [h1];rfl
   by_cases h2:1≤z.nw
   ·have e2:decide (z.nw<1)=false:=by rw [decide_eq_false_iff_not];omega
    by_cases h3:z.nw<nx
    ·have e3:decide (nx≤z.nw)=false:=by rw [decide_eq_false_iff_not];omega
     cases hf:findZ m.zs z.nw with
     | some k' =>
      obtain rfl:k=(k':Int):=by rw [Hk.out,fz,hf]
      have HR:Hid (splitsB m i z=false):=Lib.hid (splits_no (.inr (.inr (.inl (by rw [hf];rfl)))))
      have e4:decide ((0:Int)≤k')=true:=by rw [decide_eq_true_eq];omega
      clear hf h1
      (go_enter Tryz.func104,Tryz.ntmps104;(go_wp2_with fail);(refine calls_name fun wa hwa=>?_;have wa_s0:=sg g hwa;have wa_s1:=sg w.heap.size hwa;have wa_s2:=sg (w.heap.size+1) hwa;obtain ⟨wa_c0,wa_c1,wa_c2,wa_c3⟩:=kk4 hwa w.heap.size 1 (.int .i64 nx) w.heap.size 2 (.slice (some ⟨g,o,none⟩) n zc) (w.heap.size+1) 6 (.int .i64 z.tt) (w.heap.size+1) 8 (.int .i64 z.nw);have wa_b:Below w.heap.size w wa:=(by rw [hwa];exact bg);clear hwa);(refine (Hct.out _).mono ?_);(rintro e w1 ⟨rfl,w1_h⟩;obtain ⟨w1_hc,w1_hf⟩:=bcell w1_h;have w1_z:=w1_h.size;have w1_b:=wa_b.trans (w1_h.mono (by have:=wa_b.size;omega));have w1_le:=w1_b.size;have w1_s0:g<w1.heap.size:=(by omega);have w1_s1:w.heap.size<w1.heap.size:=(by omega);have w1_s2:w.heap.size+1<w1.heap.size:=(by omega);clear w1_h);(go_wp2_with fail))
      (refine calls_name fun wb hwb=>?_;have wb_s0:=sg g hwb;have wb_s1:=sg w.heap.size hwb;obtain ⟨wb_c0,wb_c1⟩:=kk2 hwb w.heap.size 1 (.int .i64 nx) w.heap.size 2 (.slice (some ⟨g,o,none⟩) n zc);have wb_b:Below w.heap.size w wb:=(by rw [hwb];exact bg);clear hwb)
      refine (Hfd.out _ wb_b).mono ?_
      (rintro e w2 ⟨rfl,w2_h⟩;obtain ⟨w2_hc,w2_hf⟩:=bcell w2_h;have w2_z:=w2_h.size;have w2_b:=wb_b.trans (w2_h.mono (by have:=wb_b.size;omega));have w2_le:=w2_b.size;clear w2_h)
      go_wp2_with fail
      go_ret
      exact ⟨by rw [HR.out];rfl,bg⟩
     | none =>
      obtain rfl:k=-1:=by rw [Hk.out,fz,hf]
      have HM:Hid (splitsB m i z=!clashB m.zs i z.nw):=by
       unfold splitsB
       rw [←Hr.out,hf,decide_eq_true ⟨h1,h2,by rw [←Hnx.out];exact h3⟩]
       exact Lib.hid (by simp)
      clear hf h1
      (go_enter Tryz.func104,Tryz.ntmps104;(go_wp2_with fail);(refine calls_name fun wa hwa=>?_;have wa_s0:=sg g hwa;have wa_s1:=sg w.heap.size hwa;have wa_s2:=sg (w.heap.size+1) hwa;obtain ⟨wa_c0,wa_c1,wa_c2,wa_c3⟩:=kk4 hwa w.heap.size 1 (.int .i64 nx) w.heap.size 2 (.slice (some ⟨g,o,none⟩) n zc) (w.heap.size+1) 6 (.int .i64 z.tt) (w.heap.size+1) 8 (.int .i64 z.nw);have wa_b:Below w.heap.size w wa:=(by rw [hwa];exact bg);clear hwa);(refine (Hct.out _).mono ?_);(rintro e w1 ⟨rfl,w1_h⟩;obtain ⟨w1_hc,w1_hf⟩:=bcell w1_h;have w1_z:=w1_h.size;have w1_b:=wa_b.trans (w1_h.mono (by have:=wa_b.size;omega));have w1_le:=w1_b.size;have w1_s0:g<w1.heap.size:=(by omega);have w1_s1:w.heap.size<w1.heap.size:=(by omega);have w1_s2:w.heap.size+1<w1.heap.size:=(by omega);clear w1_h);(go_wp2_with fail))
      (refine calls_name fun wb hwb=>?_;have wb_s0:=sg g hwb;have wb_s1:=sg w.heap.size hwb;have wb_s2:=sg (w.heap.size+1) hwb;obtain ⟨wb_c0,wb_c1,wb_c2,wb_c3⟩:=kk4 hwb w.heap.size 1 (.int .i64 nx) w.heap.size 2 (.slice (some ⟨g,o,none⟩) n zc) (w.heap.size+1) 6 (.int .i64 z.tt) (w.heap.size+1) 8 (.int .i64 z.nw);have wb_b:Below w.heap.size w wb:=(by rw [hwb];exact bg);clear hwb)
      refine (Hfd.out _ wb_b).mono ?_
      (rintro e w2 ⟨rfl,w2_h⟩;obtain ⟨w2_hc,w2_hf⟩:=bcell w2_h;have w2_z:=w2_h.size;have w2_b:=wb_b.trans (w2_h.mono (by have:=wb_b.size;omega));have w2_le:=w2_b.size;have w2_s0:g<w2.heap.size:=(by omega);have w2_s1:w.heap.size<w2.heap.size:=(by omega);have w2_s2:w.heap.size+1<w2.heap.size:=(by omega);clear w2_h)
      go_wp2_with fail
      (refine wp_name fun wc hwc=>?_;have wc_s0:=sg g hwc;have wc_s1:=sg w.heap.size hwc;have wc_s2:=sg (w.heap.size+1) hwc;obtain ⟨wc_c0,wc_c1,wc_c2,wc_c3⟩:=kk4 hwc w.heap.size 1 (.int .i64 nx) w.heap.size 2 (.slice (some ⟨g,o,none⟩) n zc) (w.heap.size+1) 6 (.int .i64 z.tt) (w.heap.size+1) 8 (.int .i64 z.nw);have wc_b:Below w.heap.size w wc:=(by rw [hwc];exact bg);clear hwc)
      have wc_le:=wc_b.size
      clear w2_hc w2_hf wb_c0 wb_c1 wb_c2 wb_c3 wb_b wb_s0 wb_s1 wb_s2 w1_hc w1_hf wa_c0 wa_c1 wa_c2 wa_c3 wa_b w2_b w1_b d0 d1 d2 d3 d4 d5 d6 d7 d8 w2_s0 w2_s1 w2_s2 w1_s0 w1_s1 w1_s2 wa_s0 wa_s1 wa_s2 e1 e2 e3 w2_le w1_le w2_z w1_z
      go_loopw [9] (fun s wr=>∃ k:Nat,s=.int .i64 k∧k≤n∧Hid (∀ j (hj:j<m.zs.length),j<k→j≠i→m.zs[j].pend=1→m.zs[j].nw≠z.nw)∧Hid (Below wc.heap.size wc wr)) (fun s _=>n - (intOf s).toNat)
      case atStart=>exact ⟨0,rfl,by omega,Lib.hid (fun j _ hj=>by omega),Lib.hid (Below.refl _ _)⟩
      case round =>
       obtain ⟨k,rfl,hk,Hne,Hb⟩:=hrel
       have wr_b:=wc_b.trans (Hb.out.mono wc_le)
       obtain ⟨xc,-⟩:=bcell Hb.out
       have hsr:=Hb.out.size
       have r1:=(xc _ _ wc_s1).trans wc_c0
       have r2:=(xc _ _ wc_s1).trans wc_c1
       have r3:=(xc _ _ wc_s2).trans wc_c2
       have r4:=(xc _ _ wc_s2).trans wc_c3
       have u0:g<wr.heap.size:=by omega
       have u1:w.heap.size<wr.heap.size:=by omega
       have u2:w.heap.size+1<wr.heap.size:=by omega
       clear xc
       by_cases hlt:k<n
       ·have hl1:k<m.zs.length:=by have:=Hn.out;omega
        obtain ⟨y,hy⟩:∃ y,y=m.zs[k]:=⟨_,rfl⟩
        obtain ⟨f0,f1,f2,f3,f4,f5,f6,f7,f8⟩:=(Hz.out.grow wr_b).nine k hl1 y hy
        have Hy:=Lib.hid hy
        clear hy f0 f1 f2 f3 f4 f6 f7
        obtain ⟨wo,rfl⟩:∃ wo:World,wo=wr:=⟨_,rfl⟩
        by_cases q1:k=i
        ·have v1:((k:Int) != (i:Int))=false:=by rw [bne_eq_false_iff_eq];omega
         have Q1:=Lib.hid q1
         clear q1
         ((go_wp2_with fail);(refine wp_region_gr (by kernel_rfl) (by kernel_rfl) ?_;(repeat (go_big_quiet_step (fail)));refine wpQuiet_nil ?_;intro _ hw';obtain ⟨g0,hw''⟩:=hw';subst hw'');(go_wp2_with fail);go_roundw;(case rel=>exact ⟨k+1,(by go_num),(by omega),Lib.hid (fun j hj hjk hji=>(by (by_cases e:j=k);(subst e;exact absurd Q1.out (by omega));(exact Hne.out j hj (by omega) hji))),Lib.hid (Hb.out.trans ((gr_below wo g0).mono (by omega)))⟩);(case measure=>(simp [intOf];omega)))
        ·have v1:((k:Int) != (i:Int))=true:=by rw [bne_iff_ne];omega
         have Q1:=Lib.hid q1
         clear q1
         by_cases q2:y.pend=1
         ·have v2:(y.pend==1)=true:=by rw [beq_iff_eq];exact q2
          by_cases q3:y.nw=z.nw
          ·have v3:(y.nw==z.nw)=true:=by rw [beq_iff_eq];exact q3
           have HF:Hid (splitsB m i z=false):=by rw [HM.out,clash_hit hl1 Q1.out (by rw [←Hy.out];exact q2) (by rw [←Hy.out];exact q3)];rfl
           clear q2 q3
           go_wp2_with fail
           (refine wp_region_gr (by kernel_rfl) (by kernel_rfl) ?_;(repeat (go_big_quiet_step (fail)));refine wpQuiet_nil ?_;intro _ hw';obtain ⟨g0,hw''⟩:=hw';subst hw'')
           go_wp2_with fail
           go_ret
           exact ⟨by rw [HF.out];rfl,wr_b.trans ((gr_below wo g0).mono (by have:=wc_le;omega))⟩
          ·have v3:(y.nw==z.nw)=false:=by rw [beq_eq_false_iff_ne];exact q3
           have Q3:=Lib.hid q3
           clear q2 q3
           ((go_wp2_with fail);(refine wp_region_gr (by kernel_rfl) (by kernel_rfl) ?_;(repeat (go_big_quiet_step (fail)));refine wpQuiet_nil ?_;intro _ hw';obtain ⟨g0,hw''⟩:=hw';subst hw'');(go_wp2_with fail);go_roundw;(case rel=>exact ⟨k+1,(by go_num),(by omega),Lib.hid (fun j hj hjk hji=>(by (by_cases e:j=k);(subst e;rw [←Hy.out];exact fun _=>Q3.out);(exact Hne.out j hj (by omega) hji))),Lib.hid (Hb.out.trans ((gr_below wo g0).mono (by omega)))⟩);(case measure=>(simp [intOf];omega)))
         ·have v2:(y.pend==1)=false:=by rw [beq_eq_false_iff_ne];exact q2
          have Q2:=Lib.hid q2
          clear q2
          ((go_wp2_with fail);(refine wp_region_gr (by kernel_rfl) (by kernel_rfl) ?_;(repeat (go_big_quiet_step (fail)));refine wpQuiet_nil ?_;intro _ hw';obtain ⟨g0,hw''⟩:=hw';subst hw'');(go_wp2_with fail);go_roundw;(case rel=>exact ⟨k+1,(by go_num),(by omega),Lib.hid (fun j hj hjk hji=>(by (by_cases e:j=k);(subst e;rw [←Hy.out];exact fun h=>absurd h Q2.out);(exact Hne.out j hj (by omega) hji))),Lib.hid (Hb.out.trans ((gr_below wo g0).mono (by omega)))⟩);(case measure=>(simp [intOf];omega)))
       ·have HT:Hid (splitsB m i z=true):=by rw [HM.out,clash_end (fun j hj=>Hne.out j hj (by have:=Hn.out;omega))];rfl
        go_wp2_with fail
        go_ret
        exact ⟨by rw [HT.out];rfl,wr_b⟩
    ·have e3:decide (nx≤z.nw)=true:=by rw [decide_eq_true_eq];omega
     have HR:Hid (splitsB m i z=false):=Lib.hid (splits_no (.inr (.inl (by rw [←Hnx.out];rintro ⟨-,-,h⟩;exact h3 h))))
     clear h1 h3
     ((go_enter Tryz.func104,Tryz.ntmps104;(go_wp2_with fail);(refine calls_name fun wa hwa=>?_;have wa_s0:=sg g hwa;have wa_s1:=sg w.heap.size hwa;have wa_s2:=sg (w.heap.size+1) hwa;obtain ⟨wa_c0,wa_c1,wa_c2,wa_c3⟩:=kk4 hwa w.heap.size 1 (.int .i64 nx) w.heap.size 2 (.slice (some ⟨g,o,none⟩) n zc) (w.heap.size+1) 6 (.int .i64 z.tt) (w.heap.size+1) 8 (.int .i64 z.nw);have wa_b:Below w.heap.size w wa:=(by rw [hwa];exact bg);clear hwa);(refine (Hct.out _).mono ?_);(rintro e w1 ⟨rfl,w1_h⟩;obtain ⟨w1_hc,w1_hf⟩:=bcell w1_h;have w1_z:=w1_h.size;have w1_b:=wa_b.trans (w1_h.mono (by have:=wa_b.size;omega));have w1_le:=w1_b.size;have w1_s0:g<w1.heap.size:=(by omega);have w1_s1:w.heap.size<w1.heap.size:=(by omega);have w1_s2:w.heap.size+1<w1.heap.size:=(by omega);clear w1_h);(go_wp2_with fail));go_ret;exact ⟨by rw [HR.out];rfl,bg⟩)
   ·have e2:decide (z.nw<1)=true:=by rw [decide_eq_true_eq];omega
    have HR:Hid (splitsB m i z=false):=Lib.hid (splits_no (.inr (.inl (by rintro ⟨-,h,-⟩;exact h2 h))))
    clear h1 h2
    ((go_enter Tryz.func104,Tryz.ntmps104;(go_wp2_with fail);(refine calls_name fun wa hwa=>?_;have wa_s0:=sg g hwa;have wa_s1:=sg w.heap.size hwa;have wa_s2:=sg (w.heap.size+1) hwa;obtain ⟨wa_c0,wa_c1,wa_c2,wa_c3⟩:=kk4 hwa w.heap.size 1 (.int .i64 nx) w.heap.size 2 (.slice (some ⟨g,o,none⟩) n zc) (w.heap.size+1) 6 (.int .i64 z.tt) (w.heap.size+1) 8 (.int .i64 z.nw);have wa_b:Below w.heap.size w wa:=(by rw [hwa];exact bg);clear hwa);(refine (Hct.out _).mono ?_);(rintro e w1 ⟨rfl,w1_h⟩;obtain ⟨w1_hc,w1_hf⟩:=bcell w1_h;have w1_z:=w1_h.size;have w1_b:=wa_b.trans (w1_h.mono (by have:=wa_b.size;omega));have w1_le:=w1_b.size;have w1_s0:g<w1.heap.size:=(by omega);have w1_s1:w.heap.size<w1.heap.size:=(by omega);have w1_s2:w.heap.size+1<w1.heap.size:=(by omega);clear w1_h);(go_wp2_with fail));go_ret;exact ⟨by rw [HR.out];rfl,bg⟩)
  ·have e1:(z.tt != 0)=true:=by rw [bne_iff_ne];exact h1
   have HR:Hid (splitsB m i z=false):=Lib.hid (splits_no (.inr (.inl (by rintro ⟨h,-,-⟩;exact h1 h))))
   clear h1
   ((go_enter Tryz.func104,Tryz.ntmps104;(go_wp2_with fail);(refine calls_name fun wa hwa=>?_;have wa_s0:=sg g hwa;have wa_s1:=sg w.heap.size hwa;have wa_s2:=sg (w.heap.size+1) hwa;obtain ⟨wa_c0,wa_c1,wa_c2,wa_c3⟩:=kk4 hwa w.heap.size 1 (.int .i64 nx) w.heap.size 2 (.slice (some ⟨g,o,none⟩) n zc) (w.heap.size+1) 6 (.int .i64 z.tt) (w.heap.size+1) 8 (.int .i64 z.nw);have wa_b:Below w.heap.size w wa:=(by rw [hwa];exact bg);clear hwa);(refine (Hct.out _).mono ?_);(rintro e w1 ⟨rfl,w1_h⟩;obtain ⟨w1_hc,w1_hf⟩:=bcell w1_h;have w1_z:=w1_h.size;have w1_b:=wa_b.trans (w1_h.mono (by have:=wa_b.size;omega));have w1_le:=w1_b.size;have w1_s0:g<w1.heap.size:=(by omega);have w1_s1:w.heap.size<w1.heap.size:=(by omega);have w1_s2:w.heap.size+1<w1.heap.size:=(by omega);clear w1_h);(go_wp2_with fail));go_ret;exact ⟨by rw [HR.out];rfl,bg⟩)
end Go.Proofs.YtogamdaomdoapaaGreat.O