/- Texts put together: OZo, OMy. -/
import Derived.Test.YtogamdaomdoapaaGreatGa10
import Derived.Test.YtogamdaomdoapaaGreatGa11
namespace Go.Proofs.YtogamdaomdoapaaGreat.O
open Go.Value renaming int→aI,string→aS
open Go.IntKind renaming i64→aK
open Bool renaming eq_false_or_eq_true→bE
open Go.Lib renaming hid→uH
open Go.RowKit
theorem h0x {m:Mp} {i:Nat} {z:Zn} (h:b0x m i z=false):d0d m i z=false:=by unfold d0d;rw [h];rfl
theorem head_at {m:Mp} {i:Nat} {z:Zn} (h:b0x m i z=true):d0d m i z=g0k m i z:=by unfold d0d;rw [h];rfl
theorem kind0 {m:Mp} {i:Nat} {z:Zn} (h:z.pend=0):g0k m i z=((z.tt==0)&&((z.key.toList==[])&&(z.nw==0))):=by
 unfold g0k
 rw [if_pos h,Bool.eq_iff_iff]
 simp
theorem kind3 {m:Mp} {i:Nat} {z:Zn} (h:z.pend=3):g0k m i z=(decide (1≤z.tt)&&(decide (z.tt≤1048576)&&((z.tt != z.owner)&&((z.key.toList==[])&&(z.nw==0))))):=by
 unfold g0k
 rw [if_neg (by omega),if_pos h,Bool.eq_iff_iff]
 simp
set_option maxRecDepth 20000 in
set_option maxHeartbeats 4000000 in
theorem zone_any {g o zc:Nat} {m:Mp} {w:World} (h:ZnO w g o m.zs) (hm:m.zs.length≤1000) (i:Nat) (z:Zn) (hi:m.zs[i]?=some z) :
 Calls Tryz.prog 63 #[.agg #[aI aK m.ver,aI aK m.next,.slice (some ⟨g,o,none⟩) m.zs.length zc],aI aK i] w fun e w'=>e=.returned (.bool (d0d m i z))∧Below w.heap.size w w':=by
 obtain ⟨hil,hie⟩:=List.getElem?_eq_some_iff.1 hi
 have hg:=h.lt
 obtain ⟨d0,d1,d2,d3,d4,d5,d6,d7,d8⟩:=h.nine i hil z hie.symm
 have Hz:=uH h
 obtain ⟨k,hk⟩:∃ k,k=fz m.zs z.id:=⟨_,rfl⟩
 obtain ⟨n,hn⟩:∃ n,n=m.zs.length:=⟨_,rfl⟩
 obtain ⟨nx,hnx⟩:∃ nx,nx=m.next:=⟨_,rfl⟩
 have Hfd:=uH (fun (w3:World) (hb:Below w.heap.size w w3)=>k0r (zc:=zc) (Hz.out.grow hb) hm z.id)
 have Hsp:=uH (fun (w3:World) (hb:Below w.heap.size w w3)=>t0p (zc:=zc) (Hz.out.grow hb) hm i z hi)
 have Hmg:=uH (fun (w3:World) (hb:Below w.heap.size w w3)=>u0a (zc:=zc) (Hz.out.grow hb) hm i z hi)
 rw [←hk,←hn] at Hfd
 rw [←hn,←hnx] at Hsp
 rw [←hn] at Hmg
 rw [←hn] at hil hm ⊢
 rw [←hnx]
 have Hk:=uH hk
 have Hn:=uH hn
 have Hnx:=uH hnx
 have Hi:=uH hi
 clear hi hie h hk hn hnx
 by_cases h1:1≤z.id
 ·have e1:decide (z.id<1)=false:=by rw [decide_eq_false_iff_not];omega
  by_cases h2:z.id<nx
  ·have e2:decide (nx≤z.id)=false:=by rw [decide_eq_false_iff_not];omega
   by_cases h3:k=i
   ·have hf:c0w m.zs z.id=some i:=by
     have:=Hk.out
     rw [h3,fz] at this
     split at this
     ·omega
     ·rename_i j hj;rw [hj];congr 1;omega
    subst h3
    by_cases h4:1≤z.owner
    ·have e4:decide (z.owner<1)=false:=by rw [decide_eq_false_iff_not];omega
     by_cases h5:z.owner≤1048576
     ·have e5:decide (1048576<z.owner)=false:=by rw [decide_eq_false_iff_not];omega
      by_cases h6:1≤z.epoch
      ·have e6:decide (z.epoch<1)=false:=by rw [decide_eq_false_iff_not];omega
       by_cases h7:z.epoch≤1099511627776
       ·have e7:decide (1099511627776<z.epoch)=false:=by rw [decide_eq_false_iff_not];omega
        have hh:b0x m i z=true:=by unfold b0x;rw [decide_eq_true_eq];exact ⟨h1,by rw [←Hnx.out];exact h2,hf,h4,h5,h6,h7⟩
        have HM:=uH (head_at hh)
        clear h1 h2 hf h4 h5 h6 h7 hh
        by_cases p0:z.pend=0
        ·have a0:(z.pend==0)=true:=by rw [p0];rfl
         have HR:Hid (d0d m i z=((z.tt==0)&&((z.key.toList==[])&&(z.nw==0)))):=uH (HM.out.trans (kind0 p0))
         clear p0 HM
         (rcases bE (z.tt==0) with t1 | t1;((rw [t1] at HR);(rcases bE (z.key.toList==[]) with t2 | t2;((rw [t2] at HR);(have t2':z.key.toList=[]:=(by simpa using t2));(rcases bE (z.nw==0) with t3 | t3;((rw [t3] at HR);((go_enter Tryz.func63,Tryz.ntmps63;(go_wp2_with fail);(refine a0e fun wa hwa=>?_;have wa_s0:=sg g hwa;have wa_s1:=sg w.heap.size hwa;have wa_s2:=sg (w.heap.size+1) hwa;obtain ⟨wa_c0,wa_c1,wa_c2⟩:=kz3 hwa w.heap.size (aI aK m.ver) (aI aK nx) (.slice (some ⟨g,o,none⟩) n zc);obtain ⟨wa_c3,wa_c4,wa_c5,wa_c6,wa_c7,wa_c8,wa_c9⟩:=kb7 hwa (w.heap.size+1) 0 (aI aK z.id) 3 (aI aK z.owner) 4 (aI aK z.epoch) 5 (aI aK z.pend) 6 (aI aK z.tt) 7 (aS z.key) 8 (aI aK z.nw);have wa_b:Below w.heap.size w wa:=(by rw [hwa];exact bg);clear hwa);(refine (Hfd.out _ wa_b).mono ?_);(rintro e w1 ⟨rfl,w1_h⟩;obtain ⟨w1_hc,w1_hf⟩:=a0w w1_h;have w1_z:=w1_h.size;have w1_b:=wa_b.trans (w1_h.mono (by have:=wa_b.size;omega));have w1_le:=w1_b.size;have w1_s0:g<w1.heap.size:=(by omega);have w1_s1:w.heap.size<w1.heap.size:=(by omega);have w1_s2:w.heap.size+1<w1.heap.size:=(by omega);clear w1_h);(go_wp2_with fail));(go_ret;exact ⟨by rw [HR.out];rfl,bg⟩)));((rw [t3] at HR);((go_enter Tryz.func63,Tryz.ntmps63;(go_wp2_with fail);(refine a0e fun wa hwa=>?_;have wa_s0:=sg g hwa;have wa_s1:=sg w.heap.size hwa;have wa_s2:=sg (w.heap.size+1) hwa;obtain ⟨wa_c0,wa_c1,wa_c2⟩:=kz3 hwa w.heap.size (aI aK m.ver) (aI aK nx) (.slice (some ⟨g,o,none⟩) n zc);obtain ⟨wa_c3,wa_c4,wa_c5,wa_c6,wa_c7,wa_c8,wa_c9⟩:=kb7 hwa (w.heap.size+1) 0 (aI aK z.id) 3 (aI aK z.owner) 4 (aI aK z.epoch) 5 (aI aK z.pend) 6 (aI aK z.tt) 7 (aS z.key) 8 (aI aK z.nw);have wa_b:Below w.heap.size w wa:=(by rw [hwa];exact bg);clear hwa);(refine (Hfd.out _ wa_b).mono ?_);(rintro e w1 ⟨rfl,w1_h⟩;obtain ⟨w1_hc,w1_hf⟩:=a0w w1_h;have w1_z:=w1_h.size;have w1_b:=wa_b.trans (w1_h.mono (by have:=wa_b.size;omega));have w1_le:=w1_b.size;have w1_s0:g<w1.heap.size:=(by omega);have w1_s1:w.heap.size<w1.heap.size:=(by omega);have w1_s2:w.heap.size+1<w1.heap.size:=(by omega);clear w1_h);(go_wp2_with fail));(go_ret;exact ⟨by rw [HR.out];rfl,bg⟩)))));((rw [t2] at HR);((go_enter Tryz.func63,Tryz.ntmps63;(go_wp2_with fail);(refine a0e fun wa hwa=>?_;have wa_s0:=sg g hwa;have wa_s1:=sg w.heap.size hwa;have wa_s2:=sg (w.heap.size+1) hwa;obtain ⟨wa_c0,wa_c1,wa_c2⟩:=kz3 hwa w.heap.size (aI aK m.ver) (aI aK nx) (.slice (some ⟨g,o,none⟩) n zc);obtain ⟨wa_c3,wa_c4,wa_c5,wa_c6,wa_c7,wa_c8,wa_c9⟩:=kb7 hwa (w.heap.size+1) 0 (aI aK z.id) 3 (aI aK z.owner) 4 (aI aK z.epoch) 5 (aI aK z.pend) 6 (aI aK z.tt) 7 (aS z.key) 8 (aI aK z.nw);have wa_b:Below w.heap.size w wa:=(by rw [hwa];exact bg);clear hwa);(refine (Hfd.out _ wa_b).mono ?_);(rintro e w1 ⟨rfl,w1_h⟩;obtain ⟨w1_hc,w1_hf⟩:=a0w w1_h;have w1_z:=w1_h.size;have w1_b:=wa_b.trans (w1_h.mono (by have:=wa_b.size;omega));have w1_le:=w1_b.size;have w1_s0:g<w1.heap.size:=(by omega);have w1_s1:w.heap.size<w1.heap.size:=(by omega);have w1_s2:w.heap.size+1<w1.heap.size:=(by omega);clear w1_h);(go_wp2_with fail));(go_ret;exact ⟨by rw [HR.out];rfl,bg⟩)))));((rw [t1] at HR);((go_enter Tryz.func63,Tryz.ntmps63;(go_wp2_with fail);(refine a0e fun wa hwa=>?_;have wa_s0:=sg g hwa;have wa_s1:=sg w.heap.size hwa;have wa_s2:=sg (w.heap.size+1) hwa;obtain ⟨wa_c0,wa_c1,wa_c2⟩:=kz3 hwa w.heap.size (aI aK m.ver) (aI aK nx) (.slice (some ⟨g,o,none⟩) n zc);obtain ⟨wa_c3,wa_c4,wa_c5,wa_c6,wa_c7,wa_c8,wa_c9⟩:=kb7 hwa (w.heap.size+1) 0 (aI aK z.id) 3 (aI aK z.owner) 4 (aI aK z.epoch) 5 (aI aK z.pend) 6 (aI aK z.tt) 7 (aS z.key) 8 (aI aK z.nw);have wa_b:Below w.heap.size w wa:=(by rw [hwa];exact bg);clear hwa);(refine (Hfd.out _ wa_b).mono ?_);(rintro e w1 ⟨rfl,w1_h⟩;obtain ⟨w1_hc,w1_hf⟩:=a0w w1_h;have w1_z:=w1_h.size;have w1_b:=wa_b.trans (w1_h.mono (by have:=wa_b.size;omega));have w1_le:=w1_b.size;have w1_s0:g<w1.heap.size:=(by omega);have w1_s1:w.heap.size<w1.heap.size:=(by omega);have w1_s2:w.heap.size+1<w1.heap.size:=(by omega);clear w1_h);(go_wp2_with fail));(go_ret;exact ⟨by rw [HR.out];rfl,bg⟩))))
        ·have a0:(z.pend==0)=false:=by rw [beq_eq_false_iff_ne];exact p0
         by_cases p3:z.pend=3
         ·have a3:(z.pend==3)=true:=by rw [p3];rfl
          have HR:Hid (d0d m i z=(decide (1≤z.tt)&&(decide (z.tt≤1048576)&&((z.tt != z.owner)&&((z.key.toList==[])&&(z.nw==0)))))):=uH (HM.out.trans (kind3 p3))
          clear p0 p3 HM
          (rcases bE (decide (1≤z.tt)) with t1 | t1;((rw [t1] at HR);(rcases bE (decide (z.tt≤1048576)) with t2 | t2;((rw [t2] at HR);(rcases bE (z.tt != z.owner) with t3 | t3;((rw [t3] at HR);(rcases bE (z.key.toList==[]) with t4 | t4;((rw [t4] at HR);(have t4':z.key.toList=[]:=(by simpa using t4));(rcases bE (z.nw==0) with t5 | t5;((rw [t5] at HR);((go_enter Tryz.func63,Tryz.ntmps63;(go_wp2_with fail);(refine a0e fun wa hwa=>?_;have wa_s0:=sg g hwa;have wa_s1:=sg w.heap.size hwa;have wa_s2:=sg (w.heap.size+1) hwa;obtain ⟨wa_c0,wa_c1,wa_c2⟩:=kz3 hwa w.heap.size (aI aK m.ver) (aI aK nx) (.slice (some ⟨g,o,none⟩) n zc);obtain ⟨wa_c3,wa_c4,wa_c5,wa_c6,wa_c7,wa_c8,wa_c9⟩:=kb7 hwa (w.heap.size+1) 0 (aI aK z.id) 3 (aI aK z.owner) 4 (aI aK z.epoch) 5 (aI aK z.pend) 6 (aI aK z.tt) 7 (aS z.key) 8 (aI aK z.nw);have wa_b:Below w.heap.size w wa:=(by rw [hwa];exact bg);clear hwa);(refine (Hfd.out _ wa_b).mono ?_);(rintro e w1 ⟨rfl,w1_h⟩;obtain ⟨w1_hc,w1_hf⟩:=a0w w1_h;have w1_z:=w1_h.size;have w1_b:=wa_b.trans (w1_h.mono (by have:=wa_b.size;omega));have w1_le:=w1_b.size;have w1_s0:g<w1.heap.size:=(by omega);have w1_s1:w.heap.size<w1.heap.size:=(by omega);have w1_s2:w.heap.size+1<w1.heap.size:=(by omega);clear w1_h);(go_wp2_with fail));(go_ret;exact ⟨by rw [HR.out];rfl,bg⟩)));((rw [t5] at HR);((go_enter Tryz.func63,Tryz.ntmps63;(go_wp2_with fail);(refine a0e fun wa hwa=>?_;have wa_s0:=sg g hwa;have wa_s1:=sg w.heap.size hwa;have wa_s2:=sg (w.heap.size+1) hwa;obtain ⟨wa_c0,wa_c1,wa_c2⟩:=kz3 hwa w.heap.size (aI aK m.ver) (aI aK nx) (.slice (some ⟨g,o,none⟩) n zc);obtain ⟨wa_c3,wa_c4,wa_c5,wa_c6,wa_c7,wa_c8,wa_c9⟩:=kb7 hwa (w.heap.size+1) 0 (aI aK z.id) 3 (aI aK z.owner) 4 (aI aK z.epoch) 5 (aI aK z.pend) 6 (aI aK z.tt) 7 (aS z.key) 8 (aI aK z.nw);have wa_b:Below w.heap.size w wa:=(by rw [hwa];exact bg);clear hwa);(refine (Hfd.out _ wa_b).mono ?_);(rintro e w1 ⟨rfl,w1_h⟩;obtain ⟨w1_hc,w1_hf⟩:=a0w w1_h;have w1_z:=w1_h.size;have w1_b:=wa_b.trans (w1_h.mono (by have:=wa_b.size;omega));have w1_le:=w1_b.size;have w1_s0:g<w1.heap.size:=(by omega);have w1_s1:w.heap.size<w1.heap.size:=(by omega);have w1_s2:w.heap.size+1<w1.heap.size:=(by omega);clear w1_h);(go_wp2_with fail));(go_ret;exact ⟨by rw [HR.out];rfl,bg⟩)))));((rw [t4] at HR);((go_enter Tryz.func63,Tryz.ntmps63;(go_wp2_with fail);(refine a0e fun wa hwa=>?_;have wa_s0:=sg g hwa;have wa_s1:=sg w.heap.size hwa;have wa_s2:=sg (w.heap.size+1) hwa;obtain ⟨wa_c0,wa_c1,wa_c2⟩:=kz3 hwa w.heap.size (aI aK m.ver) (aI aK nx) (.slice (some ⟨g,o,none⟩) n zc);obtain ⟨wa_c3,wa_c4,wa_c5,wa_c6,wa_c7,wa_c8,wa_c9⟩:=kb7 hwa (w.heap.size+1) 0 (aI aK z.id) 3 (aI aK z.owner) 4 (aI aK z.epoch) 5 (aI aK z.pend) 6 (aI aK z.tt) 7 (aS z.key) 8 (aI aK z.nw);have wa_b:Below w.heap.size w wa:=(by rw [hwa];exact bg);clear hwa);(refine (Hfd.out _ wa_b).mono ?_);(rintro e w1 ⟨rfl,w1_h⟩;obtain ⟨w1_hc,w1_hf⟩:=a0w w1_h;have w1_z:=w1_h.size;have w1_b:=wa_b.trans (w1_h.mono (by have:=wa_b.size;omega));have w1_le:=w1_b.size;have w1_s0:g<w1.heap.size:=(by omega);have w1_s1:w.heap.size<w1.heap.size:=(by omega);have w1_s2:w.heap.size+1<w1.heap.size:=(by omega);clear w1_h);(go_wp2_with fail));(go_ret;exact ⟨by rw [HR.out];rfl,bg⟩)))));((rw [t3] at HR);((go_enter Tryz.func63,Tryz.ntmps63;(go_wp2_with fail);(refine a0e fun wa hwa=>?_;have wa_s0:=sg g hwa;have wa_s1:=sg w.heap.size hwa;have wa_s2:=sg (w.heap.size+1) hwa;obtain ⟨wa_c0,wa_c1,wa_c2⟩:=kz3 hwa w.heap.size (aI aK m.ver) (aI aK nx) (.slice (some ⟨g,o,none⟩) n zc);obtain ⟨wa_c3,wa_c4,wa_c5,wa_c6,wa_c7,wa_c8,wa_c9⟩:=kb7 hwa (w.heap.size+1) 0 (aI aK z.id) 3 (aI aK z.owner) 4 (aI aK z.epoch) 5 (aI aK z.pend) 6 (aI aK z.tt) 7 (aS z.key) 8 (aI aK z.nw);have wa_b:Below w.heap.size w wa:=(by rw [hwa];exact bg);clear hwa);(refine (Hfd.out _ wa_b).mono ?_);(rintro e w1 ⟨rfl,w1_h⟩;obtain ⟨w1_hc,w1_hf⟩:=a0w w1_h;have w1_z:=w1_h.size;have w1_b:=wa_b.trans (w1_h.mono (by have:=wa_b.size;omega));have w1_le:=w1_b.size;have w1_s0:g<w1.heap.size:=(by omega);have w1_s1:w.heap.size<w1.heap.size:=(by omega);have w1_s2:w.heap.size+1<w1.heap.size:=(by omega);clear w1_h);(go_wp2_with fail));(go_ret;exact ⟨by rw [HR.out];rfl,bg⟩)))));((rw [t2] at HR);((go_enter Tryz.func63,Tryz.ntmps63;(go_wp2_with fail);(refine a0e fun wa hwa=>?_;have wa_s0:=sg g hwa;have wa_s1:=sg w.heap.size hwa;have wa_s2:=sg (w.heap.size+1) hwa;obtain ⟨wa_c0,wa_c1,wa_c2⟩:=kz3 hwa w.heap.size (aI aK m.ver) (aI aK nx) (.slice (some ⟨g,o,none⟩) n zc);obtain ⟨wa_c3,wa_c4,wa_c5,wa_c6,wa_c7,wa_c8,wa_c9⟩:=kb7 hwa (w.heap.size+1) 0 (aI aK z.id) 3 (aI aK z.owner) 4 (aI aK z.epoch) 5 (aI aK z.pend) 6 (aI aK z.tt) 7 (aS z.key) 8 (aI aK z.nw);have wa_b:Below w.heap.size w wa:=(by rw [hwa];exact bg);clear hwa);(refine (Hfd.out _ wa_b).mono ?_);(rintro e w1 ⟨rfl,w1_h⟩;obtain ⟨w1_hc,w1_hf⟩:=a0w w1_h;have w1_z:=w1_h.size;have w1_b:=wa_b.trans (w1_h.mono (by have:=wa_b.size;omega));have w1_le:=w1_b.size;have w1_s0:g<w1.heap.size:=(by omega);have w1_s1:w.heap.size<w1.heap.size:=(by omega);have w1_s2:w.heap.size+1<w1.heap.size:=(by omega);clear w1_h);(go_wp2_with fail));(go_ret;exact ⟨by rw [HR.out];rfl,bg⟩)))));((rw [t1] at HR);((go_enter Tryz.func63,Tryz.ntmps63;(go_wp2_with fail);(refine a0e fun wa hwa=>?_;have wa_s0:=sg g hwa;have wa_s1:=sg w.heap.size hwa;have wa_s2:=sg (w.heap.size+1) hwa;obtain ⟨wa_c0,wa_c1,wa_c2⟩:=kz3 hwa w.heap.size (aI aK m.ver) (aI aK nx) (.slice (some ⟨g,o,none⟩) n zc);obtain ⟨wa_c3,wa_c4,wa_c5,wa_c6,wa_c7,wa_c8,wa_c9⟩:=kb7 hwa (w.heap.size+1) 0 (aI aK z.id) 3 (aI aK z.owner) 4 (aI aK z.epoch) 5 (aI aK z.pend) 6 (aI aK z.tt) 7 (aS z.key) 8 (aI aK z.nw);have wa_b:Below w.heap.size w wa:=(by rw [hwa];exact bg);clear hwa);(refine (Hfd.out _ wa_b).mono ?_);(rintro e w1 ⟨rfl,w1_h⟩;obtain ⟨w1_hc,w1_hf⟩:=a0w w1_h;have w1_z:=w1_h.size;have w1_b:=wa_b.trans (w1_h.mono (by have:=wa_b.size;omega));have w1_le:=w1_b.size;have w1_s0:g<w1.heap.size:=(by omega);have w1_s1:w.heap.size<w1.heap.size:=(by omega);have w1_s2:w.heap.size+1<w1.heap.size:=(by omega);clear w1_h);(go_wp2_with fail));(go_ret;exact ⟨by rw [HR.out];rfl,bg⟩))))
         ·have a3:(z.pend==3)=false:=by rw [beq_eq_false_iff_ne];exact p3
          by_cases p1:z.pend=1
          ·have a1:(z.pend==1)=true:=by rw [p1];rfl
           obtain ⟨r,hr⟩:∃ r,r=c0c m i z:=⟨_,rfl⟩
           have HR:Hid (d0d m i z=r):=by rw [HM.out,hr];unfold g0k;rw [if_neg p0,if_neg p3,if_pos p1];rfl
           rw [←hr] at Hsp
           clear p0 p3 p1 HM hr
           (go_enter Tryz.func63,Tryz.ntmps63;(go_wp2_with fail);(refine a0e fun wa hwa=>?_;have wa_s0:=sg g hwa;have wa_s1:=sg w.heap.size hwa;have wa_s2:=sg (w.heap.size+1) hwa;obtain ⟨wa_c0,wa_c1,wa_c2⟩:=kz3 hwa w.heap.size (aI aK m.ver) (aI aK nx) (.slice (some ⟨g,o,none⟩) n zc);obtain ⟨wa_c3,wa_c4,wa_c5,wa_c6,wa_c7,wa_c8,wa_c9⟩:=kb7 hwa (w.heap.size+1) 0 (aI aK z.id) 3 (aI aK z.owner) 4 (aI aK z.epoch) 5 (aI aK z.pend) 6 (aI aK z.tt) 7 (aS z.key) 8 (aI aK z.nw);have wa_b:Below w.heap.size w wa:=(by rw [hwa];exact bg);clear hwa);(refine (Hfd.out _ wa_b).mono ?_);(rintro e w1 ⟨rfl,w1_h⟩;obtain ⟨w1_hc,w1_hf⟩:=a0w w1_h;have w1_z:=w1_h.size;have w1_b:=wa_b.trans (w1_h.mono (by have:=wa_b.size;omega));have w1_le:=w1_b.size;have w1_s0:g<w1.heap.size:=(by omega);have w1_s1:w.heap.size<w1.heap.size:=(by omega);have w1_s2:w.heap.size+1<w1.heap.size:=(by omega);clear w1_h);(go_wp2_with fail))
           refine (Hsp.out _ w1_b).mono ?_
           rintro e w2 ⟨rfl,w2_h⟩
           have w2_b:=w1_b.trans (w2_h.mono w1_b.size)
           clear w2_h
           go_wp2_with fail
           (go_ret;exact ⟨by rw [HR.out];rfl,bg⟩)
          ·have a1:(z.pend==1)=false:=by rw [beq_eq_false_iff_ne];exact p1
           by_cases p2:z.pend=2
           ·have a2:(z.pend==2)=true:=by rw [p2];rfl
            obtain ⟨r,hr⟩:∃ r,r=b0n m.zs i z:=⟨_,rfl⟩
            have HR:Hid (d0d m i z=r):=by rw [HM.out,hr];unfold g0k;rw [if_neg p0,if_neg p3,if_neg p1,if_pos p2];rfl
            rw [←hr] at Hmg
            clear p0 p3 p1 p2 HM hr
            (go_enter Tryz.func63,Tryz.ntmps63;(go_wp2_with fail);(refine a0e fun wa hwa=>?_;have wa_s0:=sg g hwa;have wa_s1:=sg w.heap.size hwa;have wa_s2:=sg (w.heap.size+1) hwa;obtain ⟨wa_c0,wa_c1,wa_c2⟩:=kz3 hwa w.heap.size (aI aK m.ver) (aI aK nx) (.slice (some ⟨g,o,none⟩) n zc);obtain ⟨wa_c3,wa_c4,wa_c5,wa_c6,wa_c7,wa_c8,wa_c9⟩:=kb7 hwa (w.heap.size+1) 0 (aI aK z.id) 3 (aI aK z.owner) 4 (aI aK z.epoch) 5 (aI aK z.pend) 6 (aI aK z.tt) 7 (aS z.key) 8 (aI aK z.nw);have wa_b:Below w.heap.size w wa:=(by rw [hwa];exact bg);clear hwa);(refine (Hfd.out _ wa_b).mono ?_);(rintro e w1 ⟨rfl,w1_h⟩;obtain ⟨w1_hc,w1_hf⟩:=a0w w1_h;have w1_z:=w1_h.size;have w1_b:=wa_b.trans (w1_h.mono (by have:=wa_b.size;omega));have w1_le:=w1_b.size;have w1_s0:g<w1.heap.size:=(by omega);have w1_s1:w.heap.size<w1.heap.size:=(by omega);have w1_s2:w.heap.size+1<w1.heap.size:=(by omega);clear w1_h);(go_wp2_with fail))
            refine (Hmg.out _ w1_b).mono ?_
            rintro e w2 ⟨rfl,w2_h⟩
            have w2_b:=w1_b.trans (w2_h.mono w1_b.size)
            clear w2_h
            go_wp2_with fail
            (go_ret;exact ⟨by rw [HR.out];rfl,bg⟩)
           ·have a2:(z.pend==2)=false:=by rw [beq_eq_false_iff_ne];exact p2
            have HR:Hid (d0d m i z=false):=by rw [HM.out];unfold g0k;rw [if_neg p0,if_neg p3,if_neg p1,if_neg p2];rfl
            clear p0 p3 p1 p2 HM
            ((go_enter Tryz.func63,Tryz.ntmps63;(go_wp2_with fail);(refine a0e fun wa hwa=>?_;have wa_s0:=sg g hwa;have wa_s1:=sg w.heap.size hwa;have wa_s2:=sg (w.heap.size+1) hwa;obtain ⟨wa_c0,wa_c1,wa_c2⟩:=kz3 hwa w.heap.size (aI aK m.ver) (aI aK nx) (.slice (some ⟨g,o,none⟩) n zc);obtain ⟨wa_c3,wa_c4,wa_c5,wa_c6,wa_c7,wa_c8,wa_c9⟩:=kb7 hwa (w.heap.size+1) 0 (aI aK z.id) 3 (aI aK z.owner) 4 (aI aK z.epoch) 5 (aI aK z.pend) 6 (aI aK z.tt) 7 (aS z.key) 8 (aI aK z.nw);have wa_b:Below w.heap.size w wa:=(by rw [hwa];exact bg);clear hwa);(refine (Hfd.out _ wa_b).mono ?_);(rintro e w1 ⟨rfl,w1_h⟩;obtain ⟨w1_hc,w1_hf⟩:=a0w w1_h;have w1_z:=w1_h.size;have w1_b:=wa_b.trans (w1_h.mono (by have:=wa_b.size;omega));have w1_le:=w1_b.size;have w1_s0:g<w1.heap.size:=(by omega);have w1_s1:w.heap.size<w1.heap.size:=(by omega);have w1_s2:w.heap.size+1<w1.heap.size:=(by omega);clear w1_h);(go_wp2_with fail));(go_ret;exact ⟨by rw [HR.out];rfl,bg⟩))
       ·have e7:decide (1099511627776<z.epoch)=true:=by rw [decide_eq_true_eq];omega
        have HR:Hid (d0d m i z=false):=uH (h0x (by unfold b0x;rw [decide_eq_false_iff_not];rintro ⟨-,-,-,-,-,-,h⟩;exact h7 h))
        clear h1 h2 hf h4 h5 h6 h7
        ((go_enter Tryz.func63,Tryz.ntmps63;(go_wp2_with fail);(refine a0e fun wa hwa=>?_;have wa_s0:=sg g hwa;have wa_s1:=sg w.heap.size hwa;have wa_s2:=sg (w.heap.size+1) hwa;obtain ⟨wa_c0,wa_c1,wa_c2⟩:=kz3 hwa w.heap.size (aI aK m.ver) (aI aK nx) (.slice (some ⟨g,o,none⟩) n zc);obtain ⟨wa_c3,wa_c4,wa_c5,wa_c6,wa_c7,wa_c8,wa_c9⟩:=kb7 hwa (w.heap.size+1) 0 (aI aK z.id) 3 (aI aK z.owner) 4 (aI aK z.epoch) 5 (aI aK z.pend) 6 (aI aK z.tt) 7 (aS z.key) 8 (aI aK z.nw);have wa_b:Below w.heap.size w wa:=(by rw [hwa];exact bg);clear hwa);(refine (Hfd.out _ wa_b).mono ?_);(rintro e w1 ⟨rfl,w1_h⟩;obtain ⟨w1_hc,w1_hf⟩:=a0w w1_h;have w1_z:=w1_h.size;have w1_b:=wa_b.trans (w1_h.mono (by have:=wa_b.size;omega));have w1_le:=w1_b.size;have w1_s0:g<w1.heap.size:=(by omega);have w1_s1:w.heap.size<w1.heap.size:=(by omega);have w1_s2:w.heap.size+1<w1.heap.size:=(by omega);clear w1_h);(go_wp2_with fail));(go_ret;exact ⟨by rw [HR.out];rfl,bg⟩))
      ·have e6:decide (z.epoch<1)=true:=by rw [decide_eq_true_eq];omega
       have HR:Hid (d0d m i z=false):=uH (h0x (by unfold b0x;rw [decide_eq_false_iff_not];rintro ⟨-,-,-,-,-,h,-⟩;exact h6 h))
       clear h1 h2 hf h4 h5 h6
       ((go_enter Tryz.func63,Tryz.ntmps63;(go_wp2_with fail);(refine a0e fun wa hwa=>?_;have wa_s0:=sg g hwa;have wa_s1:=sg w.heap.size hwa;have wa_s2:=sg (w.heap.size+1) hwa;obtain ⟨wa_c0,wa_c1,wa_c2⟩:=kz3 hwa w.heap.size (aI aK m.ver) (aI aK nx) (.slice (some ⟨g,o,none⟩) n zc);obtain ⟨wa_c3,wa_c4,wa_c5,wa_c6,wa_c7,wa_c8,wa_c9⟩:=kb7 hwa (w.heap.size+1) 0 (aI aK z.id) 3 (aI aK z.owner) 4 (aI aK z.epoch) 5 (aI aK z.pend) 6 (aI aK z.tt) 7 (aS z.key) 8 (aI aK z.nw);have wa_b:Below w.heap.size w wa:=(by rw [hwa];exact bg);clear hwa);(refine (Hfd.out _ wa_b).mono ?_);(rintro e w1 ⟨rfl,w1_h⟩;obtain ⟨w1_hc,w1_hf⟩:=a0w w1_h;have w1_z:=w1_h.size;have w1_b:=wa_b.trans (w1_h.mono (by have:=wa_b.size;omega));have w1_le:=w1_b.size;have w1_s0:g<w1.heap.size:=(by omega);have w1_s1:w.heap.size<w1.heap.size:=(by omega);have w1_s2:w.heap.size+1<w1.heap.size:=(by omega);clear w1_h);(go_wp2_with fail));(go_ret;exact ⟨by rw [HR.out];rfl,bg⟩))
     ·have e5:decide (1048576<z.owner)=true:=by rw [decide_eq_true_eq];omega
      have HR:Hid (d0d m i z=false):=uH (h0x (by unfold b0x;rw [decide_eq_false_iff_not];rintro ⟨-,-,-,-,h,-,-⟩;exact h5 h))
      clear h1 h2 hf h4 h5
      ((go_enter Tryz.func63,Tryz.ntmps63;(go_wp2_with fail);(refine a0e fun wa hwa=>?_;have wa_s0:=sg g hwa;have wa_s1:=sg w.heap.size hwa;have wa_s2:=sg (w.heap.size+1) hwa;obtain ⟨wa_c0,wa_c1,wa_c2⟩:=kz3 hwa w.heap.size (aI aK m.ver) (aI aK nx) (.slice (some ⟨g,o,none⟩) n zc);obtain ⟨wa_c3,wa_c4,wa_c5,wa_c6,wa_c7,wa_c8,wa_c9⟩:=kb7 hwa (w.heap.size+1) 0 (aI aK z.id) 3 (aI aK z.owner) 4 (aI aK z.epoch) 5 (aI aK z.pend) 6 (aI aK z.tt) 7 (aS z.key) 8 (aI aK z.nw);have wa_b:Below w.heap.size w wa:=(by rw [hwa];exact bg);clear hwa);(refine (Hfd.out _ wa_b).mono ?_);(rintro e w1 ⟨rfl,w1_h⟩;obtain ⟨w1_hc,w1_hf⟩:=a0w w1_h;have w1_z:=w1_h.size;have w1_b:=wa_b.trans (w1_h.mono (by have:=wa_b.size;omega));have w1_le:=w1_b.size;have w1_s0:g<w1.heap.size:=(by omega);have w1_s1:w.heap.size<w1.heap.size:=(by omega);have w1_s2:w.heap.size+1<w1.heap.size:=(by omega);clear w1_h);(go_wp2_with fail));(go_ret;exact ⟨by rw [HR.out];rfl,bg⟩))
    ·have e4:decide (z.owner<1)=true:=by rw [decide_eq_true_eq];omega
     have HR:Hid (d0d m i z=false):=uH (h0x (by unfold b0x;rw [decide_eq_false_iff_not];rintro ⟨-,-,-,h,-,-,-⟩;exact h4 h))
     clear h1 h2 hf h4
     ((go_enter Tryz.func63,Tryz.ntmps63;(go_wp2_with fail);(refine a0e fun wa hwa=>?_;have wa_s0:=sg g hwa;have wa_s1:=sg w.heap.size hwa;have wa_s2:=sg (w.heap.size+1) hwa;obtain ⟨wa_c0,wa_c1,wa_c2⟩:=kz3 hwa w.heap.size (aI aK m.ver) (aI aK nx) (.slice (some ⟨g,o,none⟩) n zc);obtain ⟨wa_c3,wa_c4,wa_c5,wa_c6,wa_c7,wa_c8,wa_c9⟩:=kb7 hwa (w.heap.size+1) 0 (aI aK z.id) 3 (aI aK z.owner) 4 (aI aK z.epoch) 5 (aI aK z.pend) 6 (aI aK z.tt) 7 (aS z.key) 8 (aI aK z.nw);have wa_b:Below w.heap.size w wa:=(by rw [hwa];exact bg);clear hwa);(refine (Hfd.out _ wa_b).mono ?_);(rintro e w1 ⟨rfl,w1_h⟩;obtain ⟨w1_hc,w1_hf⟩:=a0w w1_h;have w1_z:=w1_h.size;have w1_b:=wa_b.trans (w1_h.mono (by have:=wa_b.size;omega));have w1_le:=w1_b.size;have w1_s0:g<w1.heap.size:=(by omega);have w1_s1:w.heap.size<w1.heap.size:=(by omega);have w1_s2:w.heap.size+1<w1.heap.size:=(by omega);clear w1_h);(go_wp2_with fail));(go_ret;exact ⟨by rw [HR.out];rfl,bg⟩))
   ·have e3:(k != (i:Int))=true:=by rw [bne_iff_ne];exact h3
    have HR:Hid (d0d m i z=false):=uH (h0x (by
     unfold b0x;rw [decide_eq_false_iff_not];rintro ⟨-,-,h,-,-,-,-⟩
     exact h3 (by rw [Hk.out,fz,h])))
    clear h1 h2 h3
    ((go_enter Tryz.func63,Tryz.ntmps63;(go_wp2_with fail);(refine a0e fun wa hwa=>?_;have wa_s0:=sg g hwa;have wa_s1:=sg w.heap.size hwa;have wa_s2:=sg (w.heap.size+1) hwa;obtain ⟨wa_c0,wa_c1,wa_c2⟩:=kz3 hwa w.heap.size (aI aK m.ver) (aI aK nx) (.slice (some ⟨g,o,none⟩) n zc);obtain ⟨wa_c3,wa_c4,wa_c5,wa_c6,wa_c7,wa_c8,wa_c9⟩:=kb7 hwa (w.heap.size+1) 0 (aI aK z.id) 3 (aI aK z.owner) 4 (aI aK z.epoch) 5 (aI aK z.pend) 6 (aI aK z.tt) 7 (aS z.key) 8 (aI aK z.nw);have wa_b:Below w.heap.size w wa:=(by rw [hwa];exact bg);clear hwa);(refine (Hfd.out _ wa_b).mono ?_);(rintro e w1 ⟨rfl,w1_h⟩;obtain ⟨w1_hc,w1_hf⟩:=a0w w1_h;have w1_z:=w1_h.size;have w1_b:=wa_b.trans (w1_h.mono (by have:=wa_b.size;omega));have w1_le:=w1_b.size;have w1_s0:g<w1.heap.size:=(by omega);have w1_s1:w.heap.size<w1.heap.size:=(by omega);have w1_s2:w.heap.size+1<w1.heap.size:=(by omega);clear w1_h);(go_wp2_with fail));(go_ret;exact ⟨by rw [HR.out];rfl,bg⟩))
  ·have e2:decide (nx≤z.id)=true:=by rw [decide_eq_true_eq];omega
   have HR:Hid (d0d m i z=false):=uH (h0x (by unfold b0x;rw [decide_eq_false_iff_not];rintro ⟨-,h,-,-,-,-,-⟩;exact h2 (by rw [Hnx.out];exact h)))
   clear h1 h2
   go_enter Tryz.func63,Tryz.ntmps63
   go_wp2_with fail
   (go_ret;exact ⟨by rw [HR.out];rfl,bg⟩)
 ·have e1:decide (z.id<1)=true:=by rw [decide_eq_true_eq];omega
  have HR:Hid (d0d m i z=false):=uH (h0x (by unfold b0x;rw [decide_eq_false_iff_not];rintro ⟨h,-,-,-,-,-,-⟩;exact h1 h))
  clear h1
  go_enter Tryz.func63,Tryz.ntmps63
  go_wp2_with fail
  (go_ret;exact ⟨by rw [HR.out];rfl,bg⟩)
end Go.Proofs.YtogamdaomdoapaaGreat.O
namespace Go.Proofs.YtogamdaomdoapaaGreat.O
open Go.Value renaming int→aI,string→aS
open Go.IntKind renaming i64→aK
open Bool renaming eq_false_or_eq_true→bE
open Go.Lib renaming hid→uH
open Go.RowKit
def flat (l:List Sp):List Value:=l.flatMap fun s=>[aS s.1,aS s.2]
theorem flat_get (l:List Sp) (i:Nat) (h:i<l.length):(flat l)[i * 2]?=some (aS l[i].1)∧(flat l)[i * 2+1]?=some (aS l[i].2):=by
 induction l generalizing i with
 | nil=>simp at h
 | cons s r ih =>
  cases i with
  | zero=>exact ⟨rfl,rfl⟩
  | succ i =>
   have:=ih i (by simpa using h)
   have e:flat (s::r)=aS s.1::aS s.2::flat r:=rfl
   rw [e,show (i+1) * 2=i * 2+1+1 from by omega]
   simpa using this
theorem s0p {w:World} {base n:Nat} {v:Value} {l:List Sp} (h:w.ownsRow base 37 2 v n (flat l)) (hn:n=l.length) (hpos:0<l.length) :
 ∃ g cap,v=.slice (some ⟨g,0,none⟩) n cap∧r0n w g 0 l∧base≤g∧g<w.heap.size:=by
 rcases h.2 with ⟨-,h0⟩ | ⟨g,cap,cur,rfl,hg,hh,-⟩
 ·omega
 ·refine ⟨g,cap,rfl,fun i hi=>?_,hg,(Array.getElem?_eq_some_iff.1 hh).1⟩
  have g2:=flat_get l i hi
  have c1:=h.cellAt (i * 2) (by omega)
  have c2:=h.cellAt (i * 2+1) (by omega)
  rw [g2.1] at c1;rw [g2.2] at c2
  simpa using ⟨c1,c2⟩
theorem r0v:(Tryz.prog.info? 37).map (fun i=>(i.zero,i.size,i.bytes))=some (some (.agg #[aS ⟨#[]⟩,aS ⟨#[]⟩]),2,32):=by kernel_rfl
theorem q0u (a b:List Sp):flat (a++b)=flat a++flat b:=by simp [flat]
theorem p0d {m:Mp} (h:¬(1≤m.ver∧m.ver≤1099511627776∧1≤m.next∧m.next≤1099511627776∧m.zs.length≤16)):mayM m=false:=by
 unfold mayM;rw [decide_eq_false h];rfl
theorem may_zone {m:Mp} {k:Nat} (hk:k<m.zs.length) (h:d0d m k m.zs[k]=false):mayM m=false:=by
 unfold mayM
 rw [Bool.and_eq_false_iff,Bool.and_eq_false_iff]
 refine .inr (.inl ?_)
 rw [List.all_eq_false]
 exact ⟨k,by simpa using hk,by rw [List.getD_eq_getElem?_getD,List.getElem?_eq_getElem hk];simp [h]⟩
theorem may_at {m:Mp} (h:1≤m.ver∧m.ver≤1099511627776∧1≤m.next∧m.next≤1099511627776∧m.zs.length≤16) (hz:∀ j (hj:j<m.zs.length),d0d m j m.zs[j]=true):mayM m=rAll (m.zs.map spz):=by
 unfold mayM
 rw [decide_eq_true h,Bool.true_and,List.all_eq_true.2,Bool.true_and]
 intro j hj
 have hj:j<m.zs.length:=by simpa using hj
 rw [List.getD_eq_getElem?_getD,List.getElem?_eq_getElem hj]
 exact hz j hj
theorem r0s {l:List Zn} {sl:List Sp} (hs:sl=l.map spz) {k:Nat} (hk:k<l.length):flat (sl.take (k+1))=flat (sl.take k)++[aS l[k].fr,aS l[k].to]:=by
 subst hs
 rw [List.take_succ_eq_append_getElem (by simpa using hk),q0u]
 simp [flat,spz]
theorem o0e (w:World) (n:Nat) (hn:n=w.heap.size) (x y:Value) (t:TypeId):∀ ad,(some ⟨n,0,none⟩:Option Addr)=some ad→∀ (j:Nat) u,[x,y][j]?=some u→(w.alloc (.cells #[x,y] t)).cell? (ad.add j)=some u:=by
 subst hn
 intro ad e j u hu
 obtain rfl:=Option.some.inj e
 rw [c0q,Nat.zero_add,(b0b (b0r w _)).1]
 simpa using hu
set_option maxRecDepth 20000 in
set_option maxHeartbeats 4000000 in
theorem h0t {g o zc:Nat} {m:Mp} {w:World} (h:ZnO w g o m.zs) (hm:m.zs.length≤1000) :
 Calls Tryz.prog 34 #[.agg #[aI aK m.ver,aI aK m.next,.slice (some ⟨g,o,none⟩) m.zs.length zc]] w fun e w'=>e=.returned (.bool (mayM m))∧Below w.heap.size w w':=by
 have hg:=h.lt
 have Hz:=uH h
 obtain ⟨n,hn⟩:∃ n,n=m.zs.length:=⟨_,rfl⟩
 obtain ⟨nx,hnx⟩:∃ nx,nx=m.next:=⟨_,rfl⟩
 obtain ⟨ver,hver⟩:∃ ver,ver=m.ver:=⟨_,rfl⟩
 have Hzo:=uH (fun (w3:World) (hb:Below w.heap.size w w3) (i:Nat) (z:Zn) (hi:m.zs[i]?=some z)=>zone_any (zc:=zc) (Hz.out.grow hb) hm i z hi)
 rw [←hn,←hnx,←hver] at Hzo
 rw [←hn] at hm ⊢
 rw [←hnx,←hver]
 have Hn:=uH hn
 have Hnx:=uH hnx
 have Hver:=uH hver
 clear h hn hnx hver
 by_cases h1:1≤ver
 ·have e1:decide (ver<1)=false:=by rw [decide_eq_false_iff_not];omega
  by_cases h2:ver≤1099511627776
  ·have e2:decide (1099511627776<ver)=false:=by rw [decide_eq_false_iff_not];omega
   by_cases h3:1≤nx
   ·have e3:decide (nx<1)=false:=by rw [decide_eq_false_iff_not];omega
    by_cases h4:nx≤1099511627776
    ·have e4:decide (1099511627776<nx)=false:=by rw [decide_eq_false_iff_not];omega
     by_cases h5:n≤16
     ·have e5:decide ((16:Int)<n)=false:=by rw [decide_eq_false_iff_not];omega
      have HM:Hid ((∀ j (hj:j<m.zs.length),d0d m j m.zs[j]=true)→mayM m=rAll (m.zs.map spz)):=uH (may_at ⟨by rw [←Hver.out];exact h1,by rw [←Hver.out];exact h2,by rw [←Hnx.out];exact h3,by rw [←Hnx.out];exact h4,by rw [←Hn.out];exact h5⟩)
      obtain ⟨i0,hi,hz0,hz1,hz2⟩:=info_parts r0v
      obtain ⟨sl,hsl⟩:∃ sl,sl=m.zs.map spz:=⟨_,rfl⟩
      rw [←hsl] at HM
      have Hsl:=uH hsl
      clear h1 h2 h3 h4 hsl
      go_enter Tryz.func34,Tryz.ntmps34
      go_wp2_with fail
      (refine a0d fun wa hwa=>?_;have wa_s0:=sg g hwa;have wa_s1:=sg w.heap.size hwa;obtain ⟨wa_c0,wa_c1,wa_c2⟩:=kz3 hwa w.heap.size (aI aK ver) (aI aK nx) (.slice (some ⟨g,o,none⟩) n zc);have wa_b:Below w.heap.size w wa:=(by rw [hwa];exact bg);clear hwa)
      have wa_le:=wa_b.size
      go_loopw [3,4] (fun s3 s4 wr=>∃ (k:Nat) (ao:Option Addr) (cap:Nat),s4=aI aK k∧s3=.slice ao k cap∧k≤n∧Hid (∀ j (hj:j<m.zs.length),j<k→d0d m j m.zs[j]=true)∧Hid (wr.ownsRow wa.heap.size 37 2 (.slice ao k cap) k (flat (sl.take k)))∧Hid (Below wa.heap.size wa wr)) (fun _ s4 _=>n - (intOf s4).toNat)
      case atStart=>exact ⟨0,none,0,rfl,rfl,by omega,uH (fun j _ hj=>by omega),uH (World.ownsRow_nil _ _ _ _),uH (Below.refl _ _)⟩
      case round =>
       obtain ⟨k,ao,cap,rfl,rfl,hk,Hok,Hown,Hb⟩:=hrel
       have wr_b:=wa_b.trans (Hb.out.mono wa_le)
       obtain ⟨xc,-⟩:=a0w Hb.out
       have hsr:=Hb.out.size
       have r0:=(xc _ _ wa_s1).trans wa_c0
       have r1:=(xc _ _ wa_s1).trans wa_c1
       have r2:=(xc _ _ wa_s1).trans wa_c2
       have u0:g<wr.heap.size:=by omega
       have u1:w.heap.size<wr.heap.size:=by omega
       clear xc
       by_cases hlt:k<n
       ·have hl1:k<m.zs.length:=by have:=Hn.out;omega
        obtain ⟨y,hy⟩:∃ y,y=m.zs[k]:=⟨_,rfl⟩
        obtain ⟨b,hb⟩:∃ b,b=d0d m k y:=⟨_,rfl⟩
        have hcall:=Hzo.out wr wr_b k y (by rw [hy];exact List.getElem?_eq_getElem hl1)
        rw [←hb] at hcall
        have Hcall:=uH hcall
        have Hy:=uH hy
        have Hbb:=uH hb
        clear hy hb hcall
        go_wp2_with fail
        refine Hcall.out.mono ?_
        rintro e w1 ⟨rfl,w1_h⟩
        have w1_b:=wr_b.trans (w1_h.mono wr_b.size)
        have w1_a:=Hb.out.trans (w1_h.mono hsr)
        have hs1:=w1_h.size
        have v0:g<w1.heap.size:=by omega
        have v1:w.heap.size<w1.heap.size:=by omega
        have q2:=(w1_h.cell (p:=⟨w.heap.size,2,none⟩) u1).trans r2
        have Hown1:Hid (w1.ownsRow wa.heap.size 37 2 (.slice ao k cap) k (flat (sl.take k))):=uH ((c0f wa.heap.size 37 2 ao k cap _).stay Hown.out (f0v w1_h (fun _=>False)) (fun _ _ h=>h))
        obtain ⟨f0,f1,f2,f3,f4,f5,f6,f7,f8⟩:=(Hz.out.grow w1_b).nine k hl1 y Hy.out
        clear w1_h r0 r1 r2 f0 f3 f4 f5 f6 f7 f8
        cases b
        ·have HF:Hid (mayM m=false):=uH (may_zone hl1 (by rw [←Hy.out];exact Hbb.out.symm))
         go_wp2_with fail
         go_ret
         exact ⟨by rw [HF.out];rfl,w1_b⟩
        ·go_wp2_with (at_builtin;go_must (refine a0h _ rfl (.tmp 40) (.tmp 47) 122 rfl wa.heap.size 37 i0 (.agg #[aS ⟨#[]⟩,aS ⟨#[]⟩]) 2 32 Tryz.underlying122 hi hz0 hz1 hz2 rfl (by decide) ao k cap _ rfl (Hown1.out.alloc _) (some ⟨w1.heap.size,0,none⟩) 1 1 [aS y.fr,aS y.to] rfl (fun h=>by cases h) rfl (o0e _ _ rfl _ _ _) (by intro u hu;simp only [List.mem_cons,List.not_mem_nil,or_false] at hu;rcases hu with rfl | rfl<;>rfl) (by unfold maxLen;omega) (by omega) (by simp;omega) ?_))
         intro co c' w2 hown hgrow _
         have hb2:Below wa.heap.size wa w2:=below_grown (w1_a.alloc (by omega) _) (by simp;omega) hgrow (fun _ hk=>b0o Hown1.out hk)
         have Hown2:Hid (w2.ownsRow wa.heap.size 37 2 (.slice co (k+1) c') (k+1) (flat (sl.take (k+1)))):=by rw [r0s Hsl.out hl1,←Hy.out];exact uH hown
         have Hb2:=uH hb2
         clear hown hgrow hb2
         go_wp2_with fail
         go_roundw
         case rel=>exact ⟨k+1,co,c',by go_num,by first | rfl | go_num,by omega,uH (fun j hj hjk=>by
          by_cases e:j=k
          ·subst e;rw [←Hy.out];exact Hbb.out.symm
          ·exact Hok.out j hj (by omega)),Hown2,Hb2⟩
         case measure=>simp [intOf];omega
       ·have hR:=HM.out (fun j hj=>Hok.out j hj (by have:=Hn.out;omega))
        have HR:=uH hR
        have hkn:k=n:=by omega
        have hsln:sl.length=n:=by rw [Hsl.out,List.length_map,←Hn.out]
        subst hkn
        clear hR
        go_wp2_with fail
        by_cases hp:0<k
        ·obtain ⟨gb,cap',hv,hrow,-,hgl⟩:=s0p (l:=sl.take k) Hown.out (by rw [List.length_take];omega) (by rw [List.length_take];omega)
         rw [List.take_of_length_le (by omega)] at hrow
         rw [hv]
         have hall:=o0m gb 0 cap' sl wr (by omega) hrow (by omega) hgl
         rw [hsln] at hall
         refine hall.mono ?_
         rintro e w2 ⟨rfl,w2_h⟩
         have w2_b:=wr_b.trans (w2_h.mono wr_b.size)
         clear hall hrow w2_h
         go_wp2_with fail
         go_ret
         exact ⟨by rw [HR.out];rfl,w2_b⟩
        ·obtain rfl:k=0:=by omega
         refine (j0p ao cap wr).mono ?_
         rintro e w2 ⟨rfl,w2_h⟩
         have w2_b:=wr_b.trans (w2_h.mono wr_b.size)
         have hrn:rAll sl=false:=by
          cases sl with
          | nil=>rfl
          | cons a r=>simp at hsln
         go_wp2_with fail
         go_ret
         exact ⟨by rw [HR.out,hrn];rfl,w2_b⟩
     ·have e5:decide ((16:Int)<n)=true:=by rw [decide_eq_true_eq];omega
      have HR:Hid (mayM m=false):=uH (p0d (by rintro ⟨-,-,-,-,h⟩;rw [←Hn.out] at h;exact h5 h))
      clear h1 h2 h3 h4 h5
      (go_enter Tryz.func34,Tryz.ntmps34;(go_wp2_with fail);go_ret;exact ⟨by rw [HR.out];rfl,bg⟩)
    ·have e4:decide (1099511627776<nx)=true:=by rw [decide_eq_true_eq];omega
     have HR:Hid (mayM m=false):=uH (p0d (by rintro ⟨-,-,-,h,-⟩;rw [←Hnx.out] at h;exact h4 h))
     clear h1 h2 h3 h4
     (go_enter Tryz.func34,Tryz.ntmps34;(go_wp2_with fail);go_ret;exact ⟨by rw [HR.out];rfl,bg⟩)
   ·have e3:decide (nx<1)=true:=by rw [decide_eq_true_eq];omega
    have HR:Hid (mayM m=false):=uH (p0d (by rintro ⟨-,-,h,-,-⟩;rw [←Hnx.out] at h;exact h3 h))
    clear h1 h2 h3
    (go_enter Tryz.func34,Tryz.ntmps34;(go_wp2_with fail);go_ret;exact ⟨by rw [HR.out];rfl,bg⟩)
  ·have e2:decide (1099511627776<ver)=true:=by rw [decide_eq_true_eq];omega
   have HR:Hid (mayM m=false):=uH (p0d (by rintro ⟨-,h,-,-,-⟩;rw [←Hver.out] at h;exact h2 h))
   clear h1 h2
   (go_enter Tryz.func34,Tryz.ntmps34;(go_wp2_with fail);go_ret;exact ⟨by rw [HR.out];rfl,bg⟩)
 ·have e1:decide (ver<1)=true:=by rw [decide_eq_true_eq];omega
  have HR:Hid (mayM m=false):=uH (p0d (by rintro ⟨h,-,-,-,-⟩;rw [←Hver.out] at h;exact h1 h))
  clear h1
  (go_enter Tryz.func34,Tryz.ntmps34;(go_wp2_with fail);go_ret;exact ⟨by rw [HR.out];rfl,bg⟩)
end Go.Proofs.YtogamdaomdoapaaGreat.O