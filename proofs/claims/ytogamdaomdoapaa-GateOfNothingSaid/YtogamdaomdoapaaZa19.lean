/- Texts put together: RAl, Jn, OSa, OMy. -/
import Derived.Test.YtogamdaomdoapaaZa01
import Derived.Test.YtogamdaomdoapaaZa10
import Derived.Test.YtogamdaomdoapaaZa14
namespace Go.Proofs.Ytogamdaomdoapaa
open Go.RowKit
def SpanRow (w:World) (b off:Nat) (l:List (ByteArray × ByteArray)):Prop :=
 ∀ i,(h:i<l.length)→w.cell? ⟨b,off+i * 2,none⟩=some (.string l[i].1)∧w.cell? ⟨b,off+i * 2+1,none⟩=some (.string l[i].2)
end Go.Proofs.Ytogamdaomdoapaa
namespace Go.Proofs.Ytogamdaomdoapaa
open Go.RowKit
set_option maxHeartbeats 1000000 in
theorem span_join (f t f' t':ByteArray) (w:World) :
 Calls Try.prog 86 #[.agg #[.string f,.string t],.agg #[.string f',.string t']] w fun e w'=>e=.returned (.tuple #[.agg #[.string (sel (joinOk f t f' t') f),.string (sel (joinOk f t f' t') t')],.bool (joinOk f t f' t')])∧Below w.heap.size w w':=by
 cases h1:isB f t<;>have H1:=Lib.hid h1<;>clear h1
 ·go_enter Try.func86,Try.ntmps86
  go_wp2_with fail
  (refine calls_name fun wa hwa=>?_;have wa_s0:=sg w.heap.size hwa;have wa_s1:=sg (w.heap.size+1) hwa;have wa_s2:=sg (w.heap.size+2) hwa;obtain ⟨wa_c0,wa_c1,wa_c2,wa_c3,wa_c4,wa_c5⟩:=kk6 hwa w.heap.size 0 (.string f) w.heap.size 1 (.string t) (w.heap.size+1) 0 (.string f') (w.heap.size+1) 1 (.string t') (w.heap.size+2) 0 (.string ⟨#[]⟩) (w.heap.size+2) 1 (.string ⟨#[]⟩);obtain ⟨wa_f4,wa_f5⟩:=ff2 hwa (w.heap.size+2) 0 (w.heap.size+2) 1;have wa_b:Below w.heap.size w wa:=(by rw [hwa];exact bg);clear hwa)
  refine (span_is _ _ _).mono ?_
  rw [H1.out]
  (rintro e w1 ⟨rfl,w1_h⟩;obtain ⟨w1_hc,w1_hf⟩:=bcell w1_h;have w1_z:=w1_h.size;have w1_b:=wa_b.trans (w1_h.mono (by have:=wa_b.size;omega));have w1_le:=w1_b.size;have w1_s0:w.heap.size<w1.heap.size:=(by omega);have w1_s1:w.heap.size+1<w1.heap.size:=(by omega);have w1_s2:w.heap.size+2<w1.heap.size:=(by omega);clear w1_h)
  go_wp2_with fail
  refine bodyPost_ret (v:=.tuple #[.agg #[.string ⟨#[]⟩,.string ⟨#[]⟩],.bool false]) (by simp [results,Try.results86,go_sem, *]) rfl ⟨?_,bg⟩
  simp [joinOk,sel,H1.out]
 ·cases h2:isB f' t'<;>have H2:=Lib.hid h2<;>clear h2
  ·go_enter Try.func86,Try.ntmps86
   go_wp2_with fail
   (refine calls_name fun wa hwa=>?_;have wa_s0:=sg w.heap.size hwa;have wa_s1:=sg (w.heap.size+1) hwa;have wa_s2:=sg (w.heap.size+2) hwa;obtain ⟨wa_c0,wa_c1,wa_c2,wa_c3,wa_c4,wa_c5⟩:=kk6 hwa w.heap.size 0 (.string f) w.heap.size 1 (.string t) (w.heap.size+1) 0 (.string f') (w.heap.size+1) 1 (.string t') (w.heap.size+2) 0 (.string ⟨#[]⟩) (w.heap.size+2) 1 (.string ⟨#[]⟩);obtain ⟨wa_f4,wa_f5⟩:=ff2 hwa (w.heap.size+2) 0 (w.heap.size+2) 1;have wa_b:Below w.heap.size w wa:=(by rw [hwa];exact bg);clear hwa)
   refine (span_is _ _ _).mono ?_
   rw [H1.out]
   (rintro e w1 ⟨rfl,w1_h⟩;obtain ⟨w1_hc,w1_hf⟩:=bcell w1_h;have w1_z:=w1_h.size;have w1_b:=wa_b.trans (w1_h.mono (by have:=wa_b.size;omega));have w1_le:=w1_b.size;have w1_s0:w.heap.size<w1.heap.size:=(by omega);have w1_s1:w.heap.size+1<w1.heap.size:=(by omega);have w1_s2:w.heap.size+2<w1.heap.size:=(by omega);clear w1_h)
   go_wp2_with fail
   (refine calls_name fun wb hwb=>?_;have wb_s0:=sg w.heap.size hwb;have wb_s1:=sg (w.heap.size+1) hwb;have wb_s2:=sg (w.heap.size+2) hwb;obtain ⟨wb_c0,wb_c1,wb_c2,wb_c3,wb_c4,wb_c5⟩:=kk6 hwb w.heap.size 0 (.string f) w.heap.size 1 (.string t) (w.heap.size+1) 0 (.string f') (w.heap.size+1) 1 (.string t') (w.heap.size+2) 0 (.string ⟨#[]⟩) (w.heap.size+2) 1 (.string ⟨#[]⟩);obtain ⟨wb_f4,wb_f5⟩:=ff2 hwb (w.heap.size+2) 0 (w.heap.size+2) 1;have wb_b:Below w.heap.size w wb:=(by rw [hwb];exact bg);clear hwb)
   refine (span_is _ _ _).mono ?_
   rw [H2.out]
   (rintro e w2 ⟨rfl,w2_h⟩;obtain ⟨w2_hc,w2_hf⟩:=bcell w2_h;have w2_z:=w2_h.size;have w2_b:=wb_b.trans (w2_h.mono (by have:=wb_b.size;omega));have w2_le:=w2_b.size;have w2_s0:w.heap.size<w2.heap.size:=(by omega);have w2_s1:w.heap.size+1<w2.heap.size:=(by omega);have w2_s2:w.heap.size+2<w2.heap.size:=(by omega);clear w2_h)
   go_wp2_with fail
   refine bodyPost_ret (v:=.tuple #[.agg #[.string ⟨#[]⟩,.string ⟨#[]⟩],.bool false]) (by simp [results,Try.results86,go_sem, *]) rfl ⟨?_,bg⟩
   simp [joinOk,sel,H2.out]
  ·go_enter Try.func86,Try.ntmps86
   go_wp2_with fail
   (refine calls_name fun wa hwa=>?_;have wa_s0:=sg w.heap.size hwa;have wa_s1:=sg (w.heap.size+1) hwa;have wa_s2:=sg (w.heap.size+2) hwa;obtain ⟨wa_c0,wa_c1,wa_c2,wa_c3,wa_c4,wa_c5⟩:=kk6 hwa w.heap.size 0 (.string f) w.heap.size 1 (.string t) (w.heap.size+1) 0 (.string f') (w.heap.size+1) 1 (.string t') (w.heap.size+2) 0 (.string ⟨#[]⟩) (w.heap.size+2) 1 (.string ⟨#[]⟩);obtain ⟨wa_f4,wa_f5⟩:=ff2 hwa (w.heap.size+2) 0 (w.heap.size+2) 1;have wa_b:Below w.heap.size w wa:=(by rw [hwa];exact bg);clear hwa)
   refine (span_is _ _ _).mono ?_
   rw [H1.out]
   (rintro e w1 ⟨rfl,w1_h⟩;obtain ⟨w1_hc,w1_hf⟩:=bcell w1_h;have w1_z:=w1_h.size;have w1_b:=wa_b.trans (w1_h.mono (by have:=wa_b.size;omega));have w1_le:=w1_b.size;have w1_s0:w.heap.size<w1.heap.size:=(by omega);have w1_s1:w.heap.size+1<w1.heap.size:=(by omega);have w1_s2:w.heap.size+2<w1.heap.size:=(by omega);clear w1_h)
   go_wp2_with fail
   (refine calls_name fun wb hwb=>?_;have wb_s0:=sg w.heap.size hwb;have wb_s1:=sg (w.heap.size+1) hwb;have wb_s2:=sg (w.heap.size+2) hwb;obtain ⟨wb_c0,wb_c1,wb_c2,wb_c3,wb_c4,wb_c5⟩:=kk6 hwb w.heap.size 0 (.string f) w.heap.size 1 (.string t) (w.heap.size+1) 0 (.string f') (w.heap.size+1) 1 (.string t') (w.heap.size+2) 0 (.string ⟨#[]⟩) (w.heap.size+2) 1 (.string ⟨#[]⟩);obtain ⟨wb_f4,wb_f5⟩:=ff2 hwb (w.heap.size+2) 0 (w.heap.size+2) 1;have wb_b:Below w.heap.size w wb:=(by rw [hwb];exact bg);clear hwb)
   refine (span_is _ _ _).mono ?_
   rw [H2.out]
   (rintro e w2 ⟨rfl,w2_h⟩;obtain ⟨w2_hc,w2_hf⟩:=bcell w2_h;have w2_z:=w2_h.size;have w2_b:=wb_b.trans (w2_h.mono (by have:=wb_b.size;omega));have w2_le:=w2_b.size;have w2_s0:w.heap.size<w2.heap.size:=(by omega);have w2_s1:w.heap.size+1<w2.heap.size:=(by omega);have w2_s2:w.heap.size+2<w2.heap.size:=(by omega);clear w2_h)
   go_wp2_with fail
   rotate_left 2
   ·refine bodyPost_ret (v:=.tuple #[.agg #[.string f,.string t'],.bool true]) (by simp [results,Try.results86,go_sem, *]) rfl ⟨?_,bg⟩
    simp_all [joinOk,sel,H1.out,H2.out]
   all_goals refine bodyPost_ret (v:=.tuple #[.agg #[.string ⟨#[]⟩,.string ⟨#[]⟩],.bool false]) (by simp [results,Try.results86,go_sem, *]) rfl ⟨?_,bg⟩
   ·simp_all [joinOk,sel]
   ·simp_all [joinOk,sel]
end Go.Proofs.Ytogamdaomdoapaa
namespace Go.Proofs.Ytogamdaomdoapaa.O
open Go.RowKit
set_option maxRecDepth 20000
theorem sGo_step (a:Sp) (l:List Sp) (k:Nat) (h:k<l.length):sGo a (l.drop k)=if joinOk a.1 a.2 l[k].1 l[k].2 then sGo (a.1,l[k].2) (l.drop (k+1)) else none:=by
 rw [List.drop_eq_getElem_cons h];rfl
theorem sAll_none {l:List Sp} {a:Sp} {k:Nat} (hl:0<l.length) (hs:sGo l[0] l.tail=sGo a (l.drop k)) (h:k<l.length) (hj:joinOk a.1 a.2 l[k].1 l[k].2=false):sAll l=false:=by
 rw [sGo_step a l k h,hj] at hs
 cases l with
 | nil=>simp at hl
 | cons s r=>simp only [List.getElem_cons_zero,List.tail_cons] at hs;simp [sAll,hs]
theorem sAll_end {l:List Sp} {a:Sp} {k:Nat} (hl:0<l.length) (hs:sGo l[0] l.tail=sGo a (l.drop k)) (h:l.length≤k):sAll l=endB a:=by
 rw [List.drop_eq_nil_of_le h] at hs
 cases l with
 | nil=>simp at hl
 | cons s r=>simp only [List.getElem_cons_zero,List.tail_cons,sGo] at hs;simp [sAll,hs]
set_option maxHeartbeats 4000000 in
theorem span_all_some (b off cap:Nat) (l:List Sp) (w:World) (hl:l.length≤9223372036854775807) (hr:SpanRow w b off l) (hpos:0<l.length) (hb:b<w.heap.size) :
 Calls Try.prog 78 #[.slice (some ⟨b,off,none⟩) l.length cap] w fun e w'=>e=.returned (.bool (sAll l))∧Below w.heap.size w w':=by
 go_enter Try.func78,Try.ntmps78
 go_wp2
 go_loopw [10] (fun i wr=>∃ (k:Nat) (a:Sp),k≤l.length∧i=.int .i64 k∧Below w.heap.size w wr∧w.heap.size<wr.heap.size∧wr.cell? ⟨w.heap.size,0,none⟩=some (.string a.1)∧wr.cell? ⟨w.heap.size,1,none⟩=some (.string a.2)∧wr.frozen? ⟨w.heap.size,0,none⟩=false∧wr.frozen? ⟨w.heap.size,1,none⟩=false∧Hid ((k=0→a=(⟨#[]⟩,⟨#[]⟩))∧(1≤k→sGo l[0] l.tail=sGo a (l.drop k)))) (fun i _=>l.length - (intOf i).toNat)
 case atStart=>exact ⟨0,(⟨#[]⟩,⟨#[]⟩),Nat.zero_le _,rfl,bg,by simp,by simp [go_sem],by simp [go_sem],by simp [go_sem],by simp [go_sem],⟨fun _=>rfl,fun h=>by omega⟩⟩
 case round =>
  obtain ⟨k,a,hk,rfl,wr_b,hs,ha1,ha2,hf1,hf2,hst⟩:=hrel
  have Hr:=Lib.hid hr
  by_cases hlt:k<l.length
  ·have h1:wr.cell? ⟨b,off+k * 2,none⟩=some (.string l[k].1):=(wr_b.cell (p:=⟨b,off+k * 2,none⟩) hb).trans (hr k hlt).1
   have h2:wr.cell? ⟨b,off+k * 2+1,none⟩=some (.string l[k].2):=(wr_b.cell (p:=⟨b,off+k * 2+1,none⟩) hb).trans (hr k hlt).2
   clear hr
   by_cases h0:k=0
   ·subst h0
    simp only [Nat.zero_mul,Nat.add_zero] at h1 h2
    go_wp2_with fail
    go_roundw
    case rel=>exact ⟨1,l[0],by omega,by go_num,bg,by simp;omega,by go_simp,by go_simp,by go_simp,by go_simp,⟨fun h=>by omega,fun _=>by rw [List.drop_one]⟩⟩
    case measure=>simp [intOf];omega
   ·have hk0:((k:Int)==0)=false:=by simp;omega
    go_wp2_with fail
    (refine calls_name fun wa hwa=>?_;have wa_s0:=sg w.heap.size hwa;have wa_s1:=sg wr.heap.size hwa;obtain ⟨wa_c0,wa_c1,wa_c2,wa_c3⟩:=kk4 hwa w.heap.size 0 (.string a.1) w.heap.size 1 (.string a.2) wr.heap.size 0 (.string l[k].1) wr.heap.size 1 (.string l[k].2);obtain ⟨wa_f0,wa_f1⟩:=ff2 hwa w.heap.size 0 w.heap.size 1;have wa_b:Below w.heap.size w wa:=(by rw [hwa];exact bg);clear hwa)
    refine (span_join a.1 a.2 l[k].1 l[k].2 _).mono ?_
    (rintro e w1 ⟨rfl,w1_h⟩;obtain ⟨w1_hc,w1_hf⟩:=bcell w1_h;have w1_z:=w1_h.size;have w1_b:=wa_b.trans (w1_h.mono (by have:=wa_b.size;omega));have w1_le:=w1_b.size;have w1_s0:w.heap.size<w1.heap.size:=(by omega);have w1_s1:wr.heap.size<w1.heap.size:=(by omega);clear w1_h)
    cases hj:joinOk a.1 a.2 l[k].1 l[k].2
    ·simp only [sel]
     go_wp2_with fail
     go_ret
     exact ⟨by rw [sAll_none hpos (hst.out.2 (by omega)) hlt hj];rfl,bg⟩
    ·simp only [sel,if_true]
     go_wp2_with fail
     go_roundw
     case rel=>exact ⟨k+1,(a.1,l[k].2),by omega,by go_num,bg,by simp;omega,by go_simp,by go_simp,by go_simp,by go_simp,⟨fun h=>by omega,fun _=>by rw [hst.out.2 (by omega),sGo_step a l k hlt,if_pos hj]⟩⟩
     case measure=>simp [intOf];omega
  ·clear hr
   have hkl:(k:Int)=l.length:=by omega
   have Hkl:=Lib.hid hkl;clear hkl
   go_wp2_with fail
   (refine calls_name fun wa hwa=>?_;have wa_s0:=sg w.heap.size hwa;obtain ⟨wa_c0,wa_c1⟩:=kk2 hwa w.heap.size 0 (.string a.1) w.heap.size 1 (.string a.2);have wa_b:Below w.heap.size w wa:=(by rw [hwa];exact bg);clear hwa)
   refine (span_is a.1 a.2 _).mono ?_
   (rintro e w1 ⟨rfl,w1_h⟩;obtain ⟨w1_hc,w1_hf⟩:=bcell w1_h;have w1_z:=w1_h.size;have w1_b:=wa_b.trans (w1_h.mono (by have:=wa_b.size;omega));have w1_le:=w1_b.size;have w1_s0:w.heap.size<w1.heap.size:=(by omega);clear w1_h)
   go_wp2_with fail
   all_goals go_ret
   all_goals (refine ⟨?_,bg⟩;rw [sAll_end hpos (hst.out.2 (by omega)) (by omega)];simp [endB, *])
end Go.Proofs.Ytogamdaomdoapaa.O
namespace Go.Proofs.Ytogamdaomdoapaa.O
open Go.RowKit
def flat (l:List Sp):List Value:=l.flatMap fun s=>[.string s.1,.string s.2]
theorem flat_get (l:List Sp) (i:Nat) (h:i<l.length):(flat l)[i * 2]?=some (.string l[i].1)∧(flat l)[i * 2+1]?=some (.string l[i].2):=by
 induction l generalizing i with
 | nil=>simp at h
 | cons s r ih =>
  cases i with
  | zero=>exact ⟨rfl,rfl⟩
  | succ i =>
   have:=ih i (by simpa using h)
   have e:flat (s::r)=.string s.1::.string s.2::flat r:=rfl
   rw [e,show (i+1) * 2=i * 2+1+1 from by omega]
   simpa using this
theorem owns_row {w:World} {base n:Nat} {v:Value} {l:List Sp} (h:w.ownsRow base 53 2 v n (flat l)) (hn:n=l.length) (hpos:0<l.length) :
 ∃ g cap,v=.slice (some ⟨g,0,none⟩) n cap∧SpanRow w g 0 l∧base≤g∧g<w.heap.size:=by
 rcases h.2 with ⟨-,h0⟩ | ⟨g,cap,cur,rfl,hg,hh,-⟩
 ·omega
 ·refine ⟨g,cap,rfl,fun i hi=>?_,hg,(Array.getElem?_eq_some_iff.1 hh).1⟩
  have g2:=flat_get l i hi
  have c1:=h.cellAt (i * 2) (by omega)
  have c2:=h.cellAt (i * 2+1) (by omega)
  rw [g2.1] at c1;rw [g2.2] at c2
  simpa using ⟨c1,c2⟩
theorem spanInfo:(Try.prog.info? 53).map (fun i=>(i.zero,i.size,i.bytes))=some (some (.agg #[.string ⟨#[]⟩,.string ⟨#[]⟩]),2,32):=by kernel_rfl
theorem flat_append (a b:List Sp):flat (a++b)=flat a++flat b:=by simp [flat]
theorem take_spz {l:List Zn} {sl:List Sp} (hs:sl=l.map spz) {k:Nat} (hk:k<l.length):flat (sl.take (k+1))=flat (sl.take k)++[.string l[k].fr,.string l[k].to]:=by
 subst hs
 rw [List.take_succ_eq_append_getElem (by simpa using hk),flat_append]
 simp [flat,spz]
theorem two_cells (w:World) (n:Nat) (hn:n=w.heap.size) (x y:Value) (t:TypeId):∀ ad,(some ⟨n,0,none⟩:Option Addr)=some ad→∀ (j:Nat) u,[x,y][j]?=some u→(w.alloc (.cells #[x,y] t)).cell? (ad.add j)=some u:=by
 subst hn
 intro ad e j u hu
 obtain rfl:=Option.some.inj e
 rw [add_none,Nat.zero_add,(cells_of_obj (heap_new w _)).1]
 simpa using hu
end Go.Proofs.Ytogamdaomdoapaa.O