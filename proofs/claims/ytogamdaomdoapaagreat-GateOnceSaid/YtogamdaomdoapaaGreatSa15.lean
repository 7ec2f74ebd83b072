/- Texts put together: OZo. -/
import Derived.Test.YtogamdaomdoapaaGreatSa13
import Derived.Test.YtogamdaomdoapaaGreatSa14
namespace Go.Proofs.YtogamdaomdoapaaGreat.O
open Go.RowKit
theorem head_no {m:Mp} {i:Nat} {z:Zn} (h:headB m i z=false):zoneB m i z=false:=by unfold zoneB;rw [h];rfl
theorem head_at {m:Mp} {i:Nat} {z:Zn} (h:headB m i z=true):zoneB m i z=kindB m i z:=by unfold zoneB;rw [h];rfl
theorem kind0 {m:Mp} {i:Nat} {z:Zn} (h:z.pend=0):kindB m i z=((z.tt==0)&&((z.key.toList==[])&&(z.nw==0))):=by
 unfold kindB
 rw [if_pos h,Bool.eq_iff_iff]
 simp
theorem kind3 {m:Mp} {i:Nat} {z:Zn} (h:z.pend=3):kindB m i z=(decide (1≤z.tt)&&(decide (z.tt≤1048576)&&((z.tt != z.owner)&&((z.key.toList==[])&&(z.nw==0))))):=by
 unfold kindB
 rw [if_neg (by omega),if_pos h,Bool.eq_iff_iff]
 simp
set_option maxRecDepth 20000 in
set_option maxHeartbeats 4000000 in
theorem zone_any {g o zc:Nat} {m:Mp} {w:World} (h:ZnO w g o m.zs) (hm:m.zs.length≤1000) (i:Nat) (z:Zn) (hi:m.zs[i]?=some z) :
 Calls Tryz.prog 63 #[.agg #[.int .i64 m.ver,.int .i64 m.next,.slice (some ⟨g,o,none⟩) m.zs.length zc],.int .i64 i] w fun e w'=>e=.returned (.bool (zoneB m i z))∧Below w.heap.size w w':=by
 obtain ⟨hil,hie⟩:=List.getElem?_eq_some_iff.1 hi
 have hg:=h.lt
 obtain ⟨d0,d1,d2,d3,d4,d5,d6,d7,d8⟩:=h.nine i hil z hie.symm
 have Hz:=Lib.hid h
 obtain ⟨k,hk⟩:∃ k,k=fz m.zs z.id:=⟨_,rfl⟩
 obtain ⟨n,hn⟩:∃ n,n=m.zs.length:=⟨_,rfl⟩
 obtain ⟨nx,hnx⟩:∃ nx,nx=m.next:=⟨_,rfl⟩
 have Hfd:=Lib.hid (fun (w3:World) (hb:Below w.heap.size w w3)=>rfind_any (zc:=zc) (Hz.out.grow hb) hm z.id)
 have Hsp:=Lib.hid (fun (w3:World) (hb:Below w.heap.size w w3)=>splits_any (zc:=zc) (Hz.out.grow hb) hm i z hi)
 have Hmg:=Lib.hid (fun (w3:World) (hb:Below w.heap.size w w3)=>merges_any (zc:=zc) (Hz.out.grow hb) hm i z hi)
 rw [←hk,←hn] at Hfd
 rw [←hn,←hnx] at Hsp
 rw [←hn] at Hmg
 rw [←hn] at hil hm ⊢
 rw [←hnx]
 have Hk:=Lib.hid hk
 have Hn:=Lib.hid hn
 have Hnx:=Lib.hid hnx
 have Hi:=Lib.hid hi
 clear hi hie h hk hn hnx
 by_cases h1:1≤z.id
 ·have e1:decide (z.id<1)=false:=by rw [decide_eq_false_iff_not];omega
  by_cases h2:z.id<nx
  ·have e2:decide (nx≤z.id)=false:=by rw [decide_eq_false_iff_not];omega
   by_cases h3:k=i
   ·have hf:findZ m.zs z.id=some i:=by
     have:=Hk.out
     rw [h3,fz] at this
     split at this
     ·omega
     ·rename_i j hj;rw [hj];congr 1;omega
    subst h3
    by_cases h4:1≤z.owner
    ·have e4:decide (z.owner<1)=false:=by rw [decide_eq_false_iff_not];omega
     by_cases h5:z.owner≤1048576
     ·have e5:decide (1048576<z.owner)=false:=by rw [decide_eq_false_iff_not];omega
      by_cases h6:1≤z.epoch
      ·have e6:decide (z.epoch<1)=false:=by rw [decide_eq_false_iff_not];omega
       by_cases h7:z.epoch≤1099511627776
       ·have e7:decide (1099511627776<z.epoch)=false:=by rw [decide_eq_false_iff_not];omega
        have hh:headB m i z=true:=by unfold headB;rw [decide_eq_true_eq];exact ⟨h1,by rw [←Hnx.out];exact h2,hf,h4,h5,h6,h7⟩
        have HM:=Lib.hid (head_at hh)
        clear h1 h2 hf h4 h5 h6 h7 hh
        by_cases p0:z.pend=0
        ·have a0:(z.pend==0)=true:=by rw [p0];rfl
         have HR:Hid (zoneB m i z=((z.tt==0)&&((z.key.toList==[])&&(z.nw==0)))):=Lib.hid (HM.out.trans (kind0 p0))
         clear p0 HM
         (rcases Bool.eq_false_or_eq_true (z.tt==0) with t1 | t1;((rw [t1] at HR);(rcases Bool.eq_false_or_eq_true (z.key.toList==[]) with t2 | t2;((rw [t2] at HR);(have t2':z.key.toList=[]:=(by simpa using t2));(rcases Bool.eq_false_or_eq_true (z.nw==0) with t3 | t3;((rw [t3] at HR);((go_enter Tryz.func63,Tryz.ntmps63;(go_wp2_with fail);(refine calls_name fun wa hwa=>?_;have wa_s0:=sg g hwa;have wa_s1:=sg w.heap.size hwa;have wa_s2:=sg (w.heap.size+1) hwa;obtain ⟨wa_c0,wa_c1,wa_c2⟩:=kz3 hwa w.heap.size (.int .i64 m.ver) (.int .i64 nx) (.slice (some ⟨g,o,none⟩) n zc);obtain ⟨wa_c3,wa_c4,wa_c5,wa_c6,wa_c7,wa_c8,wa_c9⟩:=kb7 hwa (w.heap.size+1) 0 (.int .i64 z.id) 3 (.int .i64 z.owner) 4 (.int .i64 z.epoch) 5 (.int .i64 z.pend) 6 (.int .i64 z.tt) 7 (.string z.key) 8 (.int .i64 z.nw);have wa_b:Below w.heap.size w wa:=(by rw [hwa];exact bg);clear hwa);(refine (Hfd.out _ wa_b).mono ?_);(rintro e w1 ⟨rfl,w1_h⟩;obtain ⟨w1_hc,w1_hf⟩:=bcell w1_h;have w1_z:=w1_h.size;have w1_b:=wa_b.trans (w1_h.mono (by have:=wa_b.size;omega));have w1_le:=w1_b.size;have w1_s0:g<w1.heap.size:=(by omega);have w1_s1:w.heap.size<w1.heap.size:=(by omega);have w1_s2:w.heap.size+1<w1.heap.size:=(by omega);clear w1_h);(go_wp2_with fail));(go_ret;exact ⟨by rw [HR.out];rfl,bg⟩)));((rw [t3] at HR);((go_enter Tryz.func63,Tryz.ntmps63;(go_wp2_with fail);(refine calls_name fun wa hwa=>?_;have wa_s0:=sg g hwa;have wa_s1:=sg w.heap.size hwa;have wa_s2:=sg (w.heap.size+1) hwa;obtain ⟨wa_c0,wa_c1,wa_c2⟩:=kz3 hwa w.heap.size (.int .i64 m.ver) (.int .i64 nx) (.slice (some ⟨g,o,none⟩) n zc);obtain ⟨wa_c3,wa_c4,wa_c5,wa_c6,wa_c7,wa_c8,wa_c9⟩:=kb7 hwa (w.heap.size+1) 0 (.int .i64 z.id) 3 (.int .i64 z.owner) 4 (.int .i64 z.epoch) 5 (.int .i64 z.pend) 6 (.int .i64 z.tt) 7 (.string z.key) 8 (.int .i64 z.nw);have wa_b:Below w.heap.size w wa:=(by rw [hwa];exact bg);clear hwa);(refine (Hfd.out _ wa_b).mono ?_);(rintro e w1 ⟨rfl,w1_h⟩;obtain ⟨w1_hc,w1_hf⟩:=bcell w1_h;have w1_z:=w1_h.size;have w1_b:=wa_b.trans (w1_h.mono (by have:=wa_b.size;omega));have w1_le:=w1_b.size;have w1_s0:g<w1.heap.size:=(by omega);have w1_s1:w.heap.size<w1.heap.size:=(by omega);have w1_s2:w.heap.size+1<w1.heap.size:=(by omega);clear w1_h);(go_wp2_with fail));(go_ret;exact ⟨by rw [HR.out];rfl,bg⟩)))));((rw [t2] at HR);((go_enter Tryz.func63,Tryz.ntmps63;(go_wp2_with fail);(refine calls_name fun wa hwa=>?_;have wa_s0:=sg g hwa;have wa_s1:=sg w.heap.size hwa;have wa_s2:=sg (w.heap.size+1) hwa;obtain ⟨wa_c0,wa_c1,wa_c2⟩:=kz3 hwa w.heap.size (.int .i64 m.ver) (.int .i64 nx) (.slice (some ⟨g,o,none⟩) n zc);obtain ⟨wa_c3,wa_c4,wa_c5,wa_c6,wa_c7,wa_c8,wa_c9⟩:=kb7 hwa (w.heap.size+1) 0 (.int .i64 z.id) 3 (.int .i64 z.owner) 4 (.int .i64 z.epoch) 5 (.int .i64 z.pend) 6 (.int .i64 z.tt) 7 (.string z.key) 8 (.int .i64 z.nw);have wa_b:Below w.heap.size w wa:=(by rw [hwa];exact bg);clear hwa);(refine (Hfd.out _ wa_b).mono ?_);(rintro e w1 ⟨rfl,w1_h⟩;obtain ⟨w1_hc,w1_hf⟩:=bcell w1_h;have w1_z:=w1_h.size;have w1_b:=wa_b.trans (w1_h.mono (by have:=wa_b.size;omega));have w1_le:=w1_b.size;have w1_s0:g<w1.heap.size:=(by omega);have w1_s1:w.heap.size<w1.heap.size:=(by omega);have w1_s2:w.heap.size+1<w1.heap.size:=(by omega);clear w1_h);(go_wp2_with fail));(go_ret;exact ⟨by rw [HR.out];rfl,bg⟩)))));((rw [t1] at HR);((go_enter Tryz.func63,Tryz.ntmps63;(go_wp2_with fail);(refine calls_name fun wa hwa=>?_;have wa_s0:=sg g hwa;have wa_s1:=sg w.heap.size hwa;have wa_s2:=sg (w.heap.size+1) hwa;obtain ⟨wa_c0,wa_c1,wa_c2⟩:=kz3 hwa w.heap.size (.int .i64 m.ver) (.int .i64 nx) (.slice (some ⟨g,o,none⟩) n zc);obtain ⟨wa_c3,wa_c4,wa_c5,wa_c6,wa_c7,wa_c8,wa_c9⟩:=kb7 hwa (w.heap.size+1) 0 (.int .i64 z.id) 3 (.int .i64 z.owner) 4 (.int .i64 z.epoch) 5 (.int .i64 z.pend) 6 (.int .i64 z.tt) 7 (.string z.key) 8 (.int .i64 z.nw);have wa_b:Below w.heap.size w wa:=(by rw [hwa];exact bg);clear hwa);(refine (Hfd.out _ wa_b).mono ?_);(rintro e w1 ⟨rfl,w1_h⟩;obtain ⟨w1_hc,w1_hf⟩:=bcell w1_h;have w1_z:=w1_h.size;have w1_b:=wa_b.trans (w1_h.mono (by have:=wa_b.size;omega));have w1_le:=w1_b.size;have w1_s0:g<w1.heap.size:=(by omega);have w1_s1:w.heap.size<w1.heap.size:=(by omega);have w1_s2:w.heap.size+1<w1.heap.size:=(by omega);clear w1_h);(go_wp2_with fail));(go_ret;exact ⟨by rw [HR.out];rfl,bg⟩))))
        ·have a0:(z.pend==0)=false:=by rw [beq_eq_false_iff_ne];exact p0
         by_cases p3:z.pend=3
         ·have a3:(z.pend==3)=true:=by rw [p3];rfl
          have HR:Hid (zoneB m i z=(decide (1≤z.tt)&&(decide (z.tt≤1048576)&&((z.tt != z.owner)&&((z.key.toList==[])&&(z.nw==0)))))):=Lib.hid (HM.out.trans (kind3 p3))
          clear p0 p3 HM
          (rcases Bool.eq_false_or_eq_true (decide (1≤z.tt)) with t1 | t1;((rw [t1] at HR);(rcases Bool.eq_false_or_eq_true (decide (z.tt≤1048576)) with t2 | t2;((rw [t2] at HR);(rcases Bool.eq_false_or_eq_true (z.tt != z.owner) with t3 | t3;((rw [t3] at HR);(rcases Bool.eq_false_or_eq_true (z.key.toList==[]) with t4 | t4;((rw [t4] at HR);(have t4':z.key.toList=[]:=(by simpa using t4));(rcases Bool.eq_false_or_eq_true (z.nw==0) with t5 | t5;((rw [t5] at HR);((go_enter Tryz.func63,Tryz.ntmps63;(go_wp2_with fail);(refine calls_name fun wa hwa=>?_;have wa_s0:=sg g hwa;have wa_s1:=sg w.heap.size hwa;have wa_s2:=sg (w.heap.size+1) hwa;obtain ⟨wa_c0,wa_c1,wa_c2⟩:=kz3 hwa w.heap.size (.int .i64 m.ver) (.int .i64 nx) (.slice (some ⟨g,o,none⟩) n zc);obtain ⟨wa_c3,wa_c4,wa_c5,wa_c6,wa_c7,wa_c8,wa_c9⟩:=kb7 hwa (w.heap.size+1) 0 (.int .i64 z.id) 3 (.int .i64 z.owner) 4 (.int .i64 z.epoch) 5 (.int .i64 z.pend) 6 (.int .i64 z.tt) 7 (.string z.key) 8 (.int .i64 z.nw);have wa_b:Below w.heap.size w wa:=(by rw [hwa];exact bg);clear hwa);(refine (Hfd.out _ wa_b).mono ?_);(rintro e w1 ⟨rfl,w1_h⟩;obtain ⟨w1_hc,w1_hf⟩:=bcell w1_h;have w1_z:=w1_h.size;have w1_b:=wa_b.trans (w1_h.mono (by have:=wa_b.size;omega));have w1_le:=w1_b.size;have w1_s0:g<w1.heap.size:=(by omega);have w1_s1:w.heap.size<w1.heap.size:=(by omega);have w1_s2:w.heap.size+1<w1.heap.size:=(by omega);clear w1_h);(go_wp2_with fail));(go_ret;exact ⟨by rw [HR.out];rfl,bg⟩)));((rw [t5] at HR);((go_enter Tryz.func63,Tryz.ntmps63;(go_wp2_with fail);(refine calls_name fun wa hwa=>?_;have wa_s0:=sg g hwa;have wa_s1:=sg w.heap.size hwa;have wa_s2:=sg (w.heap.size+1) hwa;obtain ⟨wa_c0,wa_c1,wa_c2⟩:=kz3 hwa w.heap.size (.int .i64 m.ver) (.int .i64 nx) (.slice (some ⟨g,o,none⟩) n zc);obtain ⟨wa_c3,wa_c4,wa_c5,wa_c6,wa_c7,wa_c8,wa_c9⟩:=kb7 hwa (w.heap.size+1) 0 (.int .i64 z.id) 3 (.int .i64 z.owner) 4 (.int .i64 z.epoch) 5 (.int .i64 z.pend) 6 (.int .i64 z.tt) 7 (.string z.key) 8 (.int .i64 z.nw);have wa_b:Below w.heap.size w wa:=(by rw [hwa];exact bg);clear hwa);(refine (Hfd.out _ wa_b).mono ?_);(rintro e w1 ⟨rfl,w1_h⟩;obtain ⟨w1_hc,w1_hf⟩:=bcell w1_h;have w1_z:=w1_h.size;have w1_b:=wa_b.trans (w1_h.mono (by have:=wa_b.size;omega));have w1_le:=w1_b.size;have w1_s0:g<w1.heap.size:=(by omega);have w1_s1:w.heap.size<w1.heap.size:=(by omega);have w1_s2:w.heap.size+1<w1.heap.size:=(by omega);clear w1_h);(go_wp2_with fail));(go_ret;exact ⟨by rw [HR.out];rfl,bg⟩)))));((rw [t4] at HR);((go_enter Tryz.func63,Tryz.ntmps63;(go_wp2_with fail);(refine calls_name fun wa hwa=>?_;have wa_s0:=sg g hwa;have wa_s1:=sg w.heap.size hwa;have wa_s2:=sg (w.heap.size+1) hwa;obtain ⟨wa_c0,wa_c1,wa_c2⟩:=kz3 hwa w.heap.size (.int .i64 m.ver) (.int .i64 nx) (.slice (some ⟨g,o,none⟩) n zc);obtain ⟨wa_c3,wa_c4,wa_c5,wa_c6,wa_c7,wa_c8,wa_c9⟩:=kb7 hwa (w.heap.size+1) 0 (.int .i64 z.id) 3 (.int .i64 z.owner) 4 (.int .i64 z.epoch) 5 (.int .i64 z.pend) 6 (.int .i64 z.tt) 7 (.string z.key) 8 (.int .i64 z.nw);have wa_b:Below w.heap.size w wa:=(by rw [hwa];exact bg);clear hwa);(refine (Hfd.out _ wa_b).mono ?_);(rintro e w1 ⟨rfl,w1_h⟩;obtain ⟨w1_hc,w1_hf⟩:=bcell w1_h;have w1_z:=w1_h.size;have w1_b:=wa_b.trans (w1_h.mono (by have:=wa_b.size;omega));have w1_le:=w1_b.size;have w1_s0:g<w1.heap.size:=(by omega);have w1_s1:w.heap.size<w1.heap.size:=(by omega);have w1_s2:w.heap.size+1<w1.heap.size:=(by omega);clear w1_h);(go_wp2_with fail));(go_ret;exact ⟨by rw [HR.out];rfl,bg⟩)))));((rw [t3] at HR);((go_enter Tryz.func63,Tryz.ntmps63;(go_wp2_with fail);(refine calls_name fun wa hwa=>?_;have wa_s0:=sg g hwa;have wa_s1:=sg w.heap.size hwa;have wa_s2:=sg (w.heap.size+1) hwa;obtain ⟨wa_c0,wa_c1,wa_c2⟩:=kz3 hwa w.heap.size (.int .i64 m.ver) (.int .i64 nx) (.slice (some ⟨g,o,none⟩) n zc);obtain ⟨wa_c3,wa_c4,wa_c5,wa_c6,wa_c7,wa_c8,wa_c9⟩:=kb7 hwa (w.heap.size+1) 0 (.int .i64 z.id) 3 (.int .i64 z.owner) 4 (.int .i64 z.epoch) 5 (.int .i64 z.pend) 6 (.int .i64 z.tt) 7 (.string z.key) 8 (.int .i64 z.nw);have wa_b:Below w.heap.size w wa:=(by rw [hwa];exact bg);clear hwa);(refine (Hfd.out _ wa_b).mono ?_);(rintro e w1 ⟨rfl,w1_h⟩;obtain ⟨w1_hc,w1_hf⟩:=bcell w1_h;have w1_z:=w1_h.size;have w1_b:=wa_b.trans (w1_h.mono (by have:=wa_b.size;omega));have w1_le:=w1_b.size;have w1_s0:g<w1.heap.size:=(by omega);have w1_s1:w.heap.size<w1.heap.size:=(by omega);have w1_s2:w.heap.size+1<w1.heap.size:=(by omega);clear w1_h);(go_wp2_with fail));(go_ret;exact ⟨by rw [HR.out];rfl,bg⟩)))));((rw [t2] at HR);((go_enter Tryz.func63,Tryz.ntmps63;(go_wp2_with fail);(refine calls_name fun wa hwa=>?_;have wa_s0:=sg g hwa;have wa_s1:=sg w.heap.size hwa;have wa_s2:=sg (w.heap.size+1) hwa;obtain ⟨wa_c0,wa_c1,wa_c2⟩:=kz3 hwa w.heap.size (.int .i64 m.ver) (.int .i64 nx) (.slice (some ⟨g,o,none⟩) n zc);obtain ⟨wa_c3,wa_c4,wa_c5,wa_c6,wa_c7,wa_c8,wa_c9⟩:=kb7 hwa (w.heap.size+1) 0 (.int .i64 z.id) 3 (.int .i64 z.owner) 4 (.int .i64 z.epoch) 5 (.int .i64 z.pend) 6 (.int .i64 z.tt) 7 (.string z.key) 8 (.int .i64 z.nw);have wa_b:Below w.heap.size w wa:=(by rw [hwa];exact bg);clear hwa);(refine (Hfd.out _ wa_b).mono ?_);(rintro e w1 ⟨rfl,w1_h⟩;obtain ⟨w1_hc,w1_hf⟩:=bcell w1_h;have w1_z:=w1_h.size;have w1_b:=wa_b.trans (w1_h.mono (by have:=wa_b.size;omega));have w1_le:=w1_b.size;have w1_s0:g<w1.heap.size:=(by omega);have w1_s1:w.heap.size<w1.heap.size:=(by omega);have w1_s2:w.heap.size+1<w1.heap.size:=(by omega);clear w1_h);(go_wp2_with fail));(go_ret;exact ⟨by rw [HR.out];rfl,bg⟩)))));((rw [t1] at HR);((go_enter Tryz.func63,Tryz.ntmps63;(go_wp2_with fail);(refine calls_name fun wa hwa=>?_;have wa_s0:=sg g hwa;have wa_s1:=sg w.heap.size hwa;have wa_s2:=sg (w.heap.size+1) hwa;obtain ⟨wa_c0,wa_c1,wa_c2⟩:=kz3 hwa w.heap.size (.int .i64 m.ver) (.int .i64 nx) (.slice (some ⟨g,o,none⟩) n zc);obtain ⟨wa_c3,wa_c4,wa_c5,wa_c6,wa_c7,wa_c8,wa_c9⟩:=kb7 hwa (w.heap.size+1) 0 (.int .i64 z.id) 3 (.int .i64 z.owner) 4 (.int .i64 z.epoch) 5 (.int .i64 z.pend) 6 (.int .i64 z.tt) 7 (.string z.key) 8 (.int .i64 z.nw);have wa_b:Below w.heap.size w wa:=(by rw [hwa];exact bg);clear hwa);(refine (Hfd.out _ wa_b).mono ?_);(rintro e w1 ⟨rfl,w1_h⟩;obtain ⟨w1_hc,w1_hf⟩:=bcell w1_h;have w1_z:=w1_h.size;have w1_b:=wa_b.trans (w1_h.mono (by have:=wa_b.size;omega));have w1_le:=w1_b.size;have w1_s0:g<w1.heap.size:=(by omega);have w1_s1:w.heap.size<w1.heap.size:=(by omega);have w1_s2:w.heap.size+1<w1.heap.size:=(by omega);clear w1_h);(go_wp2_with fail));(go_ret;exact ⟨by rw [HR.out];rfl,bg⟩))))
         ·have a3:(z.pend==3)=false:=by rw [beq_eq_false_iff_ne];exact p3
          by_cases p1:z.pend=1
          ·have a1:(z.pend==1)=true:=by rw [p1];rfl
           obtain ⟨r,hr⟩:∃ r,r=splitsB m i z:=⟨_,rfl⟩
           have HR:Hid (zoneB m i z=r):=by rw [HM.out,hr];unfold kindB;rw [if_neg p0,if_neg p3,if_pos p1];rfl
           rw [←hr] at Hsp
           clear p0 p3 p1 HM hr
           (go_enter Tryz.func63,Tryz.ntmps63;(go_wp2_with fail);(refine calls_name fun wa hwa=>?_;have wa_s0:=sg g hwa;have wa_s1:=sg w.heap.size hwa;have wa_s2:=sg (w.heap.size+1) hwa;obtain ⟨wa_c0,wa_c1,wa_c2⟩:=kz3 hwa w.heap.size (.int .i64 m.ver) (.int .i64 nx) (.slice (some ⟨g,o,none⟩) n zc);obtain ⟨wa_c3,wa_c4,wa_c5,wa_c6,wa_c7,wa_c8,wa_c9⟩:=kb7 hwa (w.heap.size+1) 0 (.int .i64 z.id) 3 (.int .i64 z.owner) 4 (.int .i64 z.epoch) 5 (.int .i64 z.pend) 6 (.int .i64 z.tt) 7 (.string z.key) 8 (.int .i64 z.nw);have wa_b:Below w.heap.size w wa:=(by rw [hwa];exact bg);clear hwa);(refine (Hfd.out _ wa_b).mono ?_);(rintro e w1 ⟨rfl,w1_h⟩;obtain ⟨w1_hc,w1_hf⟩:=bcell w1_h;have w1_z:=w1_h.size;have w1_b:=wa_b.trans (w1_h.mono (by have:=wa_b.size;omega));have w1_le:=w1_b.size;have w1_s0:g<w1.heap.size:=(by omega);have w1_s1:w.heap.size<w1.heap.size:=(by omega);have w1_s2:w.heap.size+1<w1.heap.size:=(by omega);clear w1_h);(go_wp2_with fail))
           refine (Hsp.out _ w1_b).mono ?_
           rintro e w2 ⟨rfl,w2_h⟩
           have w2_b:=w1_b.trans (w2_h.mono w1_b.size)
           clear w2_h
           go_wp2_with fail
           (go_ret;exact ⟨by rw [HR.out];rfl,bg⟩)
          ·have a1:(z.pend==1)=false:=by rw [beq_eq_false_iff_ne];exact p1
           by_cases p2:z.pend=2
           ·have a2:(z.pend==2)=true:=by rw [p2];rfl
            obtain ⟨r,hr⟩:∃ r,r=mergesB m.zs i z:=⟨_,rfl⟩
            have HR:Hid (zoneB m i z=r):=by rw [HM.out,hr];unfold kindB;rw [if_neg p0,if_neg p3,if_neg p1,if_pos p2];rfl
            rw [←hr] at Hmg
            clear p0 p3 p1 p2 HM hr
            (go_enter Tryz.func63,Tryz.ntmps63;(go_wp2_with fail);(refine calls_name fun wa hwa=>?_;have wa_s0:=sg g hwa;have wa_s1:=sg w.heap.size hwa;have wa_s2:=sg (w.heap.size+1) hwa;obtain ⟨wa_c0,wa_c1,wa_c2⟩:=kz3 hwa w.heap.size (.int .i64 m.ver) (.int .i64 nx) (.slice (some ⟨g,o,none⟩) n zc);obtain ⟨wa_c3,wa_c4,wa_c5,wa_c6,wa_c7,wa_c8,wa_c9⟩:=kb7 hwa (w.heap.size+1) 0 (.int .i64 z.id) 3 (.int .i64 z.owner) 4 (.int .i64 z.epoch) 5 (.int .i64 z.pend) 6 (.int .i64 z.tt) 7 (.string z.key) 8 (.int .i64 z.nw);have wa_b:Below w.heap.size w wa:=(by rw [hwa];exact bg);clear hwa);(refine (Hfd.out _ wa_b).mono ?_);(rintro e w1 ⟨rfl,w1_h⟩;obtain ⟨w1_hc,w1_hf⟩:=bcell w1_h;have w1_z:=w1_h.size;have w1_b:=wa_b.trans (w1_h.mono (by have:=wa_b.size;omega));have w1_le:=w1_b.size;have w1_s0:g<w1.heap.size:=(by omega);have w1_s1:w.heap.size<w1.heap.size:=(by omega);have w1_s2:w.heap.size+1<w1.heap.size:=(by omega);clear w1_h);(go_wp2_with fail))
            refine (Hmg.out _ w1_b).mono ?_
            rintro e w2 ⟨rfl,w2_h⟩
            have w2_b:=w1_b.trans (w2_h.mono w1_b.size)
            clear w2_h
            go_wp2_with fail
            (go_ret;exact ⟨by rw [HR.out];rfl,bg⟩)
           ·have a2:(z.pend==2)=false:=by rw [beq_eq_false_iff_ne];exact p2
            have HR:Hid (zoneB m i z=false):=by rw [HM.out];unfold kindB;rw [if_neg p0,if_neg p3,if_neg p1,if_neg p2];rfl
            clear p0 p3 p1 p2 HM
            ((go_enter Tryz.func63,Tryz.ntmps63;(go_wp2_with fail);(refine calls_name fun wa hwa=>?_;have wa_s0:=sg g hwa;have wa_s1:=sg w.heap.size hwa;have wa_s2:=sg (w.heap.size+1) hwa;obtain ⟨wa_c0,wa_c1,wa_c2⟩:=kz3 hwa w.heap.size (.int .i64 m.ver) (.int .i64 nx) (.slice (some ⟨g,o,none⟩) n zc);obtain ⟨wa_c3,wa_c4,wa_c5,wa_c6,wa_c7,wa_c8,wa_c9⟩:=kb7 hwa (w.heap.size+1) 0 (.int .i64 z.id) 3 (.int .i64 z.owner) 4 (.int .i64 z.epoch) 5 (.int .i64 z.pend) 6 (.int .i64 z.tt) 7 (.string z.key) 8 (.int .i64 z.nw);have wa_b:Below w.heap.size w wa:=(by rw [hwa];exact bg);clear hwa);(refine (Hfd.out _ wa_b).mono ?_);(rintro e w1 ⟨rfl,w1_h⟩;obtain ⟨w1_hc,w1_hf⟩:=bcell w1_h;have w1_z:=w1_h.size;have w1_b:=wa_b.trans (w1_h.mono (by have:=wa_b.size;omega));have w1_le:=w1_b.size;have w1_s0:g<w1.heap.size:=(by omega);have w1_s1:w.heap.size<w1.heap.size:=(by omega);have w1_s2:w.heap.size+1<w1.heap.size:=(by omega);clear w1_h);(go_wp2_with fail));(go_ret;exact ⟨by rw [HR.out];rfl,bg⟩))
       ·have e7:decide (1099511627776<z.epoch)=true:=by rw [decide_eq_true_eq];omega
        have HR:Hid (zoneB m i z=false):=Lib.hid (head_no (by unfold headB;rw [decide_eq_false_iff_not];rintro ⟨-,-,-,-,-,-,h⟩;exact h7 h))
        clear h1 h2 hf h4 h5 h6 h7
        ((go_enter Tryz.func63,Tryz.ntmps63;(go_wp2_with fail);(refine calls_name fun wa hwa=>?_;have wa_s0:=sg g hwa;have wa_s1:=sg w.heap.size hwa;have wa_s2:=sg (w.heap.size+1) hwa;obtain ⟨wa_c0,wa_c1,wa_c2⟩:=kz3 hwa w.heap.size (.int .i64 m.ver) (.int .i64 nx) (.slice (some ⟨g,o,none⟩) n zc);obtain ⟨wa_c3,wa_c4,wa_c5,wa_c6,wa_c7,wa_c8,wa_c9⟩:=kb7 hwa (w.heap.size+1) 0 (.int .i64 z.id) 3 (.int .i64 z.owner) 4 (.int .i64 z.epoch) 5 (.int .i64 z.pend) 6 (.int .i64 z.tt) 7 (.string z.key) 8 (.int .i64 z.nw);have wa_b:Below w.heap.size w wa:=(by rw [hwa];exact bg);clear hwa);(refine (Hfd.out _ wa_b).mono ?_);(rintro e w1 ⟨rfl,w1_h⟩;obtain ⟨w1_hc,w1_hf⟩:=bcell w1_h;have w1_z:=w1_h.size;have w1_b:=wa_b.trans (w1_h.mono (by have:=wa_b.size;omega));have w1_le:=w1_b.size;have w1_s0:g<w1.heap.size:=(by omega);have w1_s1:w.heap.size<w1.heap.size:=(by omega);have w1_s2:w.heap.size+1<w1.heap.size:=(by omega);clear w1_h);(go_wp2_with fail));(go_ret;exact ⟨by rw [HR.out];rfl,bg⟩))
      ·have e6:decide (z.epoch<1)=true:=by rw [decide_eq_true_eq];omega
       have HR:Hid (zoneB m i z=false):=Lib.hid (head_no (by unfold headB;rw [decide_eq_false_iff_not];rintro ⟨-,-,-,-,-,h,-⟩;exact h6 h))
       clear h1 h2 hf h4 h5 h6
       ((go_enter Tryz.func63,Tryz.ntmps63;(go_wp2_with fail);(refine calls_name fun wa hwa=>?_;have wa_s0:=sg g hwa;have wa_s1:=sg w.heap.size hwa;have wa_s2:=sg (w.heap.size+1) hwa;obtain ⟨wa_c0,wa_c1,wa_c2⟩:=kz3 hwa w.heap.size (.int .i64 m.ver) (.int .i64 nx) (.slice (some ⟨g,o,none⟩) n zc);obtain ⟨wa_c3,wa_c4,wa_c5,wa_c6,wa_c7,wa_c8,wa_c9⟩:=kb7 hwa (w.heap.size+1) 0 (.int .i64 z.id) 3 (.int .i64 z.owner) 4 (.int .i64 z.epoch) 5 (.int .i64 z.pend) 6 (.int .i64 z.tt) 7 (.string z.key) 8 (.int .i64 z.nw);have wa_b:Below w.heap.size w wa:=(by rw [hwa];exact bg);clear hwa);(refine (Hfd.out _ wa_b).mono ?_);(rintro e w1 ⟨rfl,w1_h⟩;obtain ⟨w1_hc,w1_hf⟩:=bcell w1_h;have w1_z:=w1_h.size;have w1_b:=wa_b.trans (w1_h.mono (by have:=wa_b.size;omega));have w1_le:=w1_b.size;have w1_s0:g<w1.heap.size:=(by omega);have w1_s1:w.heap.size<w1.heap.size:=(by omega);have w1_s2:w.heap.size+1<w1.heap.size:=(by omega);clear w1_h);(go_wp2_with fail));(go_ret;exact ⟨by rw [HR.out];rfl,bg⟩))
     ·have e5:decide (1048576<z.owner)=true:=by rw [decide_eq_true_eq];omega
      have HR:Hid (zoneB m i z=false):=Lib.hid (head_no (by unfold headB;rw [decide_eq_false_iff_not];rintro ⟨-,-,-,-,h,-,-⟩;exact h5 h))
      clear h1 h2 hf h4 h5
      ((go_enter Tryz.func63,Tryz.ntmps63;(go_wp2_with fail);(refine calls_name fun wa hwa=>?_;have wa_s0:=sg g hwa;have wa_s1:=sg w.heap.size hwa;have wa_s2:=sg (w.heap.size+1) hwa;obtain ⟨wa_c0,wa_c1,wa_c2⟩:=kz3 hwa w.heap.size (.int .i64 m.ver) (.int .i64 nx) (.slice (some ⟨g,o,none⟩) n zc);obtain ⟨wa_c3,wa_c4,wa_c5,wa_c6,wa_c7,wa_c8,wa_c9⟩:=kb7 hwa (w.heap.size+1) 0 (.int .i64 z.id) 3 (.int .i64 z.owner) 4 (.int .i64 z.epoch) 5 (.int .i64 z.pend) 6 (.int .i64 z.tt) 7 (.string z.key) 8 (.int .i64 z.nw);have wa_b:Below w.heap.size w wa:=(by rw [hwa];exact bg);clear hwa);(refine (Hfd.out _ wa_b).mono ?_);(rintro e w1 ⟨rfl,w1_h⟩;obtain ⟨w1_hc,w1_hf⟩:=bcell w1_h;have w1_z:=w1_h.size;have w1_b:=wa_b.trans (w1_h.mono (by have:=wa_b.size;omega));have w1_le:=w1_b.size;have w1_s0:g<w1.heap.size:=(by omega);have w1_s1:w.heap.size<w1.heap.size:=(by omega);have w1_s2:w.heap.size+1<w1.heap.size:=(by omega);clear w1_h);(go_wp2_with fail));(go_ret;exact ⟨by rw [HR.out];rfl,bg⟩))
    ·have e4:decide (z.owner<1)=true:=by rw [decide_eq_true_eq];omega
     have HR:Hid (zoneB m i z=false):=Lib.hid (head_no (by unfold headB;rw [decide_eq_false_iff_not];rintro ⟨-,-,-,h,-,-,-⟩;exact h4 h))
     clear h1 h2 hf h4
     ((go_enter Tryz.func63,Tryz.ntmps63;(go_wp2_with fail);(refine calls_name fun wa hwa=>?_;have wa_s0:=sg g hwa;have wa_s1:=sg w.heap.size hwa;have wa_s2:=sg (w.heap.size+1) hwa;obtain ⟨wa_c0,wa_c1,wa_c2⟩:=kz3 hwa w.heap.size (.int .i64 m.ver) (.int .i64 nx) (.slice (some ⟨g,o,none⟩) n zc);obtain ⟨wa_c3,wa_c4,wa_c5,wa_c6,wa_c7,wa_c8,wa_c9⟩:=kb7 hwa (w.heap.size+1) 0 (.int .i64 z.id) 3 (.int .i64 z.owner) 4 (.int .i64 z.epoch) 5 (.int .i64 z.pend) 6 (.int .i64 z.tt) 7 (.string z.key) 8 (.int .i64 z.nw);have wa_b:Below w.heap.size w wa:=(by rw [hwa];exact bg);clear hwa);(refine (Hfd.out _ wa_b).mono ?_);(rintro e w1 ⟨rfl,w1_h⟩;obtain ⟨w1_hc,w1_hf⟩:=bcell w1_h;have w1_z:=w1_h.size;have w1_b:=wa_b.trans (w1_h.mono (by have:=wa_b.size;omega));have w1_le:=w1_b.size;have w1_s0:g<w1.heap.size:=(by omega);have w1_s1:w.heap.size<w1.heap.size:=(by omega);have w1_s2:w.heap.size+1<w1.heap.size:=(by omega);clear w1_h);(go_wp2_with fail));(go_ret;exact ⟨by rw [HR.out];rfl,bg⟩))
   ·have e3:(k != (i:Int))=true:=by rw [bne_iff_ne];exact h3
    have HR:Hid (zoneB m i z=false):=Lib.hid (head_no (by
     unfold headB;rw [decide_eq_false_iff_not];rintro ⟨-,-,h,-,-,-,-⟩
     exact h3 (by rw [Hk.out,fz,h])))
    clear h1 h2 h3
    ((go_enter Tryz.func63,Tryz.ntmps63;(go_wp2_with fail);(refine calls_name fun wa hwa=>?_;have wa_s0:=sg g hwa;have wa_s1:=sg w.heap.size hwa;have wa_s2:=sg (w.heap.size+1) hwa;obtain ⟨wa_c0,wa_c1,wa_c2⟩:=kz3 hwa w.heap.size (.int .i64 m.ver) (.int .i64 nx) (.slice (some ⟨g,o,none⟩) n zc);obtain ⟨wa_c3,wa_c4,wa_c5,wa_c6,wa_c7,wa_c8,wa_c9⟩:=kb7 hwa (w.heap.size+1) 0 (.int .i64 z.id) 3 (.int .i64 z.owner) 4 (.int .i64 z.epoch) 5 (.int .i64 z.pend) 6 (.int .i64 z.tt) 7 (.string z.key) 8 (.int .i64 z.nw);have wa_b:Below w.heap.size w wa:=(by rw [hwa];exact bg);clear hwa);(refine (Hfd.out _ wa_b).mono ?_);(rintro e w1 ⟨rfl,w1_h⟩;obtain ⟨w1_hc,w1_hf⟩:=bcell w1_h;have w1_z:=w1_h.size;have w1_b:=wa_b.trans (w1_h.mono (by have:=wa_b.size;omega));have w1_le:=w1_b.size;have w1_s0:g<w1.heap.size:=(by omega);have w1_s1:w.heap.size<w1.heap.size:=(by omega);have w1_s2:w.heap.size+1<w1.heap.size:=(by omega);clear w1_h);(go_wp2_with fail));(go_ret;exact ⟨by rw [HR.out];rfl,bg⟩))
  ·have e2:decide (nx≤z.id)=true:=by rw [decide_eq_true_eq];omega
   have HR:Hid (zoneB m i z=false):=Lib.hid (head_no (by unfold headB;rw [decide_eq_false_iff_not];rintro ⟨-,h,-,-,-,-,-⟩;exact h2 (by rw [Hnx.out];exact h)))
   clear h1 h2
   go_enter Tryz.func63,Tryz.ntmps63
   go_wp2_with fail
   (go_ret;exact ⟨by rw [HR.out];rfl,bg⟩)
 ·have e1:decide (z.id<1)=true:=by rw [decide_eq_true_eq];omega
  have HR:Hid (zoneB m i z=false):=Lib.hid (head_no (by unfold headB;rw [decide_eq_false_iff_not];rintro ⟨h,-,-,-,-,-,-⟩;exact h1 h))
  clear h1
  go_enter Tryz.func63,Tryz.ntmps63
  go_wp2_with fail
  (go_ret;exact ⟨by rw [HR.out];rfl,bg⟩)
end Go.Proofs.YtogamdaomdoapaaGreat.O