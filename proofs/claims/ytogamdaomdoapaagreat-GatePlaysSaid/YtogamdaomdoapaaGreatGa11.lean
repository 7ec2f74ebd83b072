/- Texts put together: OSp, OMg. -/
import Derived.Test.YtogamdaomdoapaaGreatGa06
import Derived.Test.YtogamdaomdoapaaGreatGa08
namespace Go.Proofs.YtogamdaomdoapaaGreat.O
open Go.Value renaming int→aI,string→aS
open Go.IntKind renaming i64→aK
open Go.Lib renaming hid→uH
open Go.RowKit
theorem g0f {m:Mp} {i:Nat} {z:Zn} (h:e0y z.fr z.to z.key=false∨¬(z.tt=0∧1≤z.nw∧z.nw<m.next)∨(c0w m.zs z.nw).isNone=false∨l0p m.zs i z.nw=true):c0c m i z=false:=by
 unfold c0c
 rcases h with h | h | h | h
 ·rw [h];rfl
 ·rw [decide_eq_false h];simp
 ·rw [h];simp
 ·rw [h];simp
set_option maxRecDepth 20000 in
set_option maxHeartbeats 4000000 in
theorem t0p {g o zc:Nat} {m:Mp} {w:World} (h:ZnO w g o m.zs) (hm:m.zs.length≤1000) (i:Nat) (z:Zn) (hi:m.zs[i]?=some z) :
 Calls Tryz.prog 104 #[.agg #[aI aK m.ver,aI aK m.next,.slice (some ⟨g,o,none⟩) m.zs.length zc],aI aK i] w fun e w'=>e=.returned (.bool (c0c m i z))∧Below w.heap.size w w':=by
 obtain ⟨hil,hie⟩:=List.getElem?_eq_some_iff.1 hi
 have hg:=h.lt
 obtain ⟨d0,d1,d2,d3,d4,d5,d6,d7,d8⟩:=h.nine i hil z hie.symm
 have Hz:=uH h
 obtain ⟨k,hk⟩:∃ k,k=fz m.zs z.nw:=⟨_,rfl⟩
 obtain ⟨n,hn⟩:∃ n,n=m.zs.length:=⟨_,rfl⟩
 obtain ⟨nx,hnx⟩:∃ nx,nx=m.next:=⟨_,rfl⟩
 obtain ⟨r,hr⟩:∃ r,r=e0y z.fr z.to z.key:=⟨_,rfl⟩
 have Hfd:=uH (fun (w3:World) (hb:Below w.heap.size w w3)=>k0r (zc:=zc) (Hz.out.grow hb) hm z.nw)
 have hct:=fun w=>j0w z.fr z.to z.key w
 rw [←hk,←hn] at Hfd
 rw [←hr] at hct
 have Hct:=uH hct
 rw [←hn] at hil hm ⊢
 rw [←hnx]
 have Hk:=uH hk
 have Hn:=uH hn
 have Hnx:=uH hnx
 have Hr:=uH hr
 clear hi hie h hk hn hnx hr hct
 cases r with
 | false =>
  have HR:Hid (c0c m i z=false):=uH (g0f (.inl Hr.out.symm))
  ((go_enter Tryz.func104,Tryz.ntmps104;(go_wp2_with fail);(refine a0e fun wa hwa=>?_;have wa_s0:=sg g hwa;have wa_s1:=sg w.heap.size hwa;have wa_s2:=sg (w.heap.size+1) hwa;obtain ⟨wa_c0,wa_c1,wa_c2,wa_c3⟩:=kk4 hwa w.heap.size 1 (aI aK nx) w.heap.size 2 (.slice (some ⟨g,o,none⟩) n zc) (w.heap.size+1) 6 (aI aK z.tt) (w.heap.size+1) 8 (aI aK z.nw);have wa_b:Below w.heap.size w wa:=(by rw [hwa];exact bg);clear hwa);(refine (Hct.out _).mono ?_);(rintro e w1 ⟨rfl,w1_h⟩;obtain ⟨w1_hc,w1_hf⟩:=a0w w1_h;have w1_z:=w1_h.size;have w1_b:=wa_b.trans (w1_h.mono (by have:=wa_b.size;omega));have w1_le:=w1_b.size;have w1_s0:g<w1.heap.size:=(by omega);have w1_s1:w.heap.size<w1.heap.size:=(by omega);have w1_s2:w.heap.size+1<w1.heap.size:=(by omega);clear w1_h);(go_wp2_with fail));go_ret;exact ⟨by rw [HR.out];rfl,bg⟩)
 | true =>
  by_cases h1:z.tt=0
  ·have e1:(z.tt != 0)=false:=by rw [h1];rfl
   by_cases h2:1≤z.nw
   ·have e2:decide (z.nw<1)=false:=by rw [decide_eq_false_iff_not];omega
    by_cases h3:z.nw<nx
    ·have e3:decide (nx≤z.nw)=false:=by rw [decide_eq_false_iff_not];omega
     cases hf:c0w m.zs z.nw with
     | some k' =>
      obtain rfl:k=(k':Int):=by rw [Hk.out,fz,hf]
      have HR:Hid (c0c m i z=false):=uH (g0f (.inr (.inr (.inl (by rw [hf];rfl)))))
      have e4:decide ((0:Int)≤k')=true:=by rw [decide_eq_true_eq];omega
      clear hf h1
      (go_enter Tryz.func104,Tryz.ntmps104;(go_wp2_with fail);(refine a0e fun wa hwa=>?_;have wa_s0:=sg g hwa;have wa_s1:=sg w.heap.size hwa;have wa_s2:=sg (w.heap.size+1) hwa;obtain ⟨wa_c0,wa_c1,wa_c2,wa_c3⟩:=kk4 hwa w.heap.size 1 (aI aK nx) w.heap.size 2 (.slice (some ⟨g,o,none⟩) n zc) (w.heap.size+1) 6 (aI aK z.tt) (w.heap.size+1) 8 (aI aK z.nw);have wa_b:Below w.heap.size w wa:=(by rw [hwa];exact bg);clear hwa);(refine (Hct.out _).mono ?_);(rintro e w1 ⟨rfl,w1_h⟩;obtain ⟨w1_hc,w1_hf⟩:=a0w w1_h;have w1_z:=w1_h.size;have w1_b:=wa_b.trans (w1_h.mono (by have:=wa_b.size;omega));have w1_le:=w1_b.size;have w1_s0:g<w1.heap.size:=(by omega);have w1_s1:w.heap.size<w1.heap.size:=(by omega);have w1_s2:w.heap.size+1<w1.heap.size:=(by omega);clear w1_h);(go_wp2_with fail))
      (refine a0e fun wb hwb=>?_;have wb_s0:=sg g hwb;have wb_s1:=sg w.heap.size hwb;obtain ⟨wb_c0,wb_c1⟩:=kk2 hwb w.heap.size 1 (aI aK nx) w.heap.size 2 (.slice (some ⟨g,o,none⟩) n zc);have wb_b:Below w.heap.size w wb:=(by rw [hwb];exact bg);clear hwb)
      refine (Hfd.out _ wb_b).mono ?_
      (rintro e w2 ⟨rfl,w2_h⟩;obtain ⟨w2_hc,w2_hf⟩:=a0w w2_h;have w2_z:=w2_h.size;have w2_b:=wb_b.trans (w2_h.mono (by have:=wb_b.size;omega));have w2_le:=w2_b.size;clear w2_h)
      go_wp2_with fail
      go_ret
      exact ⟨by rw [HR.out];rfl,bg⟩
     | none =>
      obtain rfl:k=-1:=by rw [Hk.out,fz,hf]
      have HM:Hid (c0c m i z=!l0p m.zs i z.nw):=by
       unfold c0c
       rw [←Hr.out,hf,decide_eq_true ⟨h1,h2,by rw [←Hnx.out];exact h3⟩]
       exact uH (by simp)
      clear hf h1
      (go_enter Tryz.func104,Tryz.ntmps104;(go_wp2_with fail);(refine a0e fun wa hwa=>?_;have wa_s0:=sg g hwa;have wa_s1:=sg w.heap.size hwa;have wa_s2:=sg (w.heap.size+1) hwa;obtain ⟨wa_c0,wa_c1,wa_c2,wa_c3⟩:=kk4 hwa w.heap.size 1 (aI aK nx) w.heap.size 2 (.slice (some ⟨g,o,none⟩) n zc) (w.heap.size+1) 6 (aI aK z.tt) (w.heap.size+1) 8 (aI aK z.nw);have wa_b:Below w.heap.size w wa:=(by rw [hwa];exact bg);clear hwa);(refine (Hct.out _).mono ?_);(rintro e w1 ⟨rfl,w1_h⟩;obtain ⟨w1_hc,w1_hf⟩:=a0w w1_h;have w1_z:=w1_h.size;have w1_b:=wa_b.trans (w1_h.mono (by have:=wa_b.size;omega));have w1_le:=w1_b.size;have w1_s0:g<w1.heap.size:=(by omega);have w1_s1:w.heap.size<w1.heap.size:=(by omega);have w1_s2:w.heap.size+1<w1.heap.size:=(by omega);clear w1_h);(go_wp2_with fail))
      (refine a0e fun wb hwb=>?_;have wb_s0:=sg g hwb;have wb_s1:=sg w.heap.size hwb;have wb_s2:=sg (w.heap.size+1) hwb;obtain ⟨wb_c0,wb_c1,wb_c2,wb_c3⟩:=kk4 hwb w.heap.size 1 (aI aK nx) w.heap.size 2 (.slice (some ⟨g,o,none⟩) n zc) (w.heap.size+1) 6 (aI aK z.tt) (w.heap.size+1) 8 (aI aK z.nw);have wb_b:Below w.heap.size w wb:=(by rw [hwb];exact bg);clear hwb)
      refine (Hfd.out _ wb_b).mono ?_
      (rintro e w2 ⟨rfl,w2_h⟩;obtain ⟨w2_hc,w2_hf⟩:=a0w w2_h;have w2_z:=w2_h.size;have w2_b:=wb_b.trans (w2_h.mono (by have:=wb_b.size;omega));have w2_le:=w2_b.size;have w2_s0:g<w2.heap.size:=(by omega);have w2_s1:w.heap.size<w2.heap.size:=(by omega);have w2_s2:w.heap.size+1<w2.heap.size:=(by omega);clear w2_h)
      go_wp2_with fail
      (refine a0d fun wc hwc=>?_;have wc_s0:=sg g hwc;have wc_s1:=sg w.heap.size hwc;have wc_s2:=sg (w.heap.size+1) hwc;obtain ⟨wc_c0,wc_c1,wc_c2,wc_c3⟩:=kk4 hwc w.heap.size 1 (aI aK nx) w.heap.size 2 (.slice (some ⟨g,o,none⟩) n zc) (w.heap.size+1) 6 (aI aK z.tt) (w.heap.size+1) 8 (aI aK z.nw);have wc_b:Below w.heap.size w wc:=(by rw [hwc];exact bg);clear hwc)
      have wc_le:=wc_b.size
      clear w2_hc w2_hf wb_c0 wb_c1 wb_c2 wb_c3 wb_b wb_s0 wb_s1 wb_s2 w1_hc w1_hf wa_c0 wa_c1 wa_c2 wa_c3 wa_b w2_b w1_b d0 d1 d2 d3 d4 d5 d6 d7 d8 w2_s0 w2_s1 w2_s2 w1_s0 w1_s1 w1_s2 wa_s0 wa_s1 wa_s2 e1 e2 e3 w2_le w1_le w2_z w1_z
      go_loopw [9] (fun s wr=>∃ k:Nat,s=aI aK k∧k≤n∧Hid (∀ j (hj:j<m.zs.length),j<k→j≠i→m.zs[j].pend=1→m.zs[j].nw≠z.nw)∧Hid (Below wc.heap.size wc wr)) (fun s _=>n - (intOf s).toNat)
      case atStart=>exact ⟨0,rfl,by omega,uH (fun j _ hj=>by omega),uH (Below.refl _ _)⟩
      case round =>
       obtain ⟨k,rfl,hk,Hne,Hb⟩:=hrel
       have wr_b:=wc_b.trans (Hb.out.mono wc_le)
       obtain ⟨xc,-⟩:=a0w Hb.out
       have hsr:=Hb.out.size
       have r1:=(xc _ _ wc_s1).trans wc_c0
       have r2:=(xc _ _ wc_s1).trans wc_c1
       have r3:=(xc _ _ wc_s2).trans wc_c2
       have r4:=(xc _ _ wc_s2).trans wc_c3
       have u0:g<wr.heap.size:=by omega
       have u1:w.heap.size<wr.heap.size:=by omega
       have u2:w.heap.size+1<wr.heap.size:=by omega
       clear xc
       by_cases hlt:k<n
       ·have hl1:k<m.zs.length:=by have:=Hn.out;omega
        obtain ⟨y,hy⟩:∃ y,y=m.zs[k]:=⟨_,rfl⟩
        obtain ⟨f0,f1,f2,f3,f4,f5,f6,f7,f8⟩:=(Hz.out.grow wr_b).nine k hl1 y hy
        have Hy:=uH hy
        clear hy f0 f1 f2 f3 f4 f6 f7
        obtain ⟨wo,rfl⟩:∃ wo:World,wo=wr:=⟨_,rfl⟩
        by_cases q1:k=i
        ·have v1:((k:Int) != (i:Int))=false:=by rw [bne_eq_false_iff_eq];omega
         have Q1:=uH q1
         clear q1
         ((go_wp2_with fail);(refine grA ?_;(repeat (go_big_quiet_step (fail)));refine grN fun g0=>?_);(go_wp2_with fail);go_roundw;(case rel=>exact ⟨k+1,(by go_num),(by omega),uH (fun j hj hjk hji=>(by (by_cases e:j=k);(subst e;exact absurd Q1.out (by omega));(exact Hne.out j hj (by omega) hji))),uH (Hb.out.trans ((a0f wo g0).mono (by omega)))⟩);(case measure=>(simp [intOf];omega)))
        ·have v1:((k:Int) != (i:Int))=true:=by rw [bne_iff_ne];omega
         have Q1:=uH q1
         clear q1
         by_cases q2:y.pend=1
         ·have v2:(y.pend==1)=true:=by rw [beq_iff_eq];exact q2
          by_cases q3:y.nw=z.nw
          ·have v3:(y.nw==z.nw)=true:=by rw [beq_iff_eq];exact q3
           have HF:Hid (c0c m i z=false):=by rw [HM.out,p0s hl1 Q1.out (by rw [←Hy.out];exact q2) (by rw [←Hy.out];exact q3)];rfl
           clear q2 q3
           go_wp2_with fail
           (refine grA ?_;(repeat (go_big_quiet_step (fail)));refine grN fun g0=>?_)
           go_wp2_with fail
           go_ret
           exact ⟨by rw [HF.out];rfl,wr_b.trans ((a0f wo g0).mono (by have:=wc_le;omega))⟩
          ·have v3:(y.nw==z.nw)=false:=by rw [beq_eq_false_iff_ne];exact q3
           have Q3:=uH q3
           clear q2 q3
           ((go_wp2_with fail);(refine grA ?_;(repeat (go_big_quiet_step (fail)));refine grN fun g0=>?_);(go_wp2_with fail);go_roundw;(case rel=>exact ⟨k+1,(by go_num),(by omega),uH (fun j hj hjk hji=>(by (by_cases e:j=k);(subst e;rw [←Hy.out];exact fun _=>Q3.out);(exact Hne.out j hj (by omega) hji))),uH (Hb.out.trans ((a0f wo g0).mono (by omega)))⟩);(case measure=>(simp [intOf];omega)))
         ·have v2:(y.pend==1)=false:=by rw [beq_eq_false_iff_ne];exact q2
          have Q2:=uH q2
          clear q2
          ((go_wp2_with fail);(refine grA ?_;(repeat (go_big_quiet_step (fail)));refine grN fun g0=>?_);(go_wp2_with fail);go_roundw;(case rel=>exact ⟨k+1,(by go_num),(by omega),uH (fun j hj hjk hji=>(by (by_cases e:j=k);(subst e;rw [←Hy.out];exact fun h=>absurd h Q2.out);(exact Hne.out j hj (by omega) hji))),uH (Hb.out.trans ((a0f wo g0).mono (by omega)))⟩);(case measure=>(simp [intOf];omega)))
       ·have HT:Hid (c0c m i z=true):=by rw [HM.out,l0o (fun j hj=>Hne.out j hj (by have:=Hn.out;omega))];rfl
        go_wp2_with fail
        go_ret
        exact ⟨by rw [HT.out];rfl,wr_b⟩
    ·have e3:decide (nx≤z.nw)=true:=by rw [decide_eq_true_eq];omega
     have HR:Hid (c0c m i z=false):=uH (g0f (.inr (.inl (by rw [←Hnx.out];rintro ⟨-,-,h⟩;exact h3 h))))
     clear h1 h3
     ((go_enter Tryz.func104,Tryz.ntmps104;(go_wp2_with fail);(refine a0e fun wa hwa=>?_;have wa_s0:=sg g hwa;have wa_s1:=sg w.heap.size hwa;have wa_s2:=sg (w.heap.size+1) hwa;obtain ⟨wa_c0,wa_c1,wa_c2,wa_c3⟩:=kk4 hwa w.heap.size 1 (aI aK nx) w.heap.size 2 (.slice (some ⟨g,o,none⟩) n zc) (w.heap.size+1) 6 (aI aK z.tt) (w.heap.size+1) 8 (aI aK z.nw);have wa_b:Below w.heap.size w wa:=(by rw [hwa];exact bg);clear hwa);(refine (Hct.out _).mono ?_);(rintro e w1 ⟨rfl,w1_h⟩;obtain ⟨w1_hc,w1_hf⟩:=a0w w1_h;have w1_z:=w1_h.size;have w1_b:=wa_b.trans (w1_h.mono (by have:=wa_b.size;omega));have w1_le:=w1_b.size;have w1_s0:g<w1.heap.size:=(by omega);have w1_s1:w.heap.size<w1.heap.size:=(by omega);have w1_s2:w.heap.size+1<w1.heap.size:=(by omega);clear w1_h);(go_wp2_with fail));go_ret;exact ⟨by rw [HR.out];rfl,bg⟩)
   ·have e2:decide (z.nw<1)=true:=by rw [decide_eq_true_eq];omega
    have HR:Hid (c0c m i z=false):=uH (g0f (.inr (.inl (by rintro ⟨-,h,-⟩;exact h2 h))))
    clear h1 h2
    ((go_enter Tryz.func104,Tryz.ntmps104;(go_wp2_with fail);(refine a0e fun wa hwa=>?_;have wa_s0:=sg g hwa;have wa_s1:=sg w.heap.size hwa;have wa_s2:=sg (w.heap.size+1) hwa;obtain ⟨wa_c0,wa_c1,wa_c2,wa_c3⟩:=kk4 hwa w.heap.size 1 (aI aK nx) w.heap.size 2 (.slice (some ⟨g,o,none⟩) n zc) (w.heap.size+1) 6 (aI aK z.tt) (w.heap.size+1) 8 (aI aK z.nw);have wa_b:Below w.heap.size w wa:=(by rw [hwa];exact bg);clear hwa);(refine (Hct.out _).mono ?_);(rintro e w1 ⟨rfl,w1_h⟩;obtain ⟨w1_hc,w1_hf⟩:=a0w w1_h;have w1_z:=w1_h.size;have w1_b:=wa_b.trans (w1_h.mono (by have:=wa_b.size;omega));have w1_le:=w1_b.size;have w1_s0:g<w1.heap.size:=(by omega);have w1_s1:w.heap.size<w1.heap.size:=(by omega);have w1_s2:w.heap.size+1<w1.heap.size:=(by omega);clear w1_h);(go_wp2_with fail));go_ret;exact ⟨by rw [HR.out];rfl,bg⟩)
  ·have e1:(z.tt != 0)=true:=by rw [bne_iff_ne];exact h1
   have HR:Hid (c0c m i z=false):=uH (g0f (.inr (.inl (by rintro ⟨h,-,-⟩;exact h1 h))))
   clear h1
   ((go_enter Tryz.func104,Tryz.ntmps104;(go_wp2_with fail);(refine a0e fun wa hwa=>?_;have wa_s0:=sg g hwa;have wa_s1:=sg w.heap.size hwa;have wa_s2:=sg (w.heap.size+1) hwa;obtain ⟨wa_c0,wa_c1,wa_c2,wa_c3⟩:=kk4 hwa w.heap.size 1 (aI aK nx) w.heap.size 2 (.slice (some ⟨g,o,none⟩) n zc) (w.heap.size+1) 6 (aI aK z.tt) (w.heap.size+1) 8 (aI aK z.nw);have wa_b:Below w.heap.size w wa:=(by rw [hwa];exact bg);clear hwa);(refine (Hct.out _).mono ?_);(rintro e w1 ⟨rfl,w1_h⟩;obtain ⟨w1_hc,w1_hf⟩:=a0w w1_h;have w1_z:=w1_h.size;have w1_b:=wa_b.trans (w1_h.mono (by have:=wa_b.size;omega));have w1_le:=w1_b.size;have w1_s0:g<w1.heap.size:=(by omega);have w1_s1:w.heap.size<w1.heap.size:=(by omega);have w1_s2:w.heap.size+1<w1.heap.size:=(by omega);clear w1_h);(go_wp2_with fail));go_ret;exact ⟨by rw [HR.out];rfl,bg⟩)
end Go.Proofs.YtogamdaomdoapaaGreat.O
namespace Go.Proofs.YtogamdaomdoapaaGreat.O
open Go.Value renaming int→aI,string→aS
open Go.IntKind renaming i64→aK
open Go.Lib renaming hid→uH
open Go.RowKit
theorem p0c {l:List Zn} {i:Nat} {z:Zn} (h:z.tt≠0∨z.key.toList≠[]):b0n l i z=false:=by
 unfold b0n
 split
 ·rfl
 ·rw [Bool.and_eq_false_iff];left;rw [decide_eq_false_iff_not];rintro ⟨h1,h2,-⟩;rcases h with h | h<;>contradiction
theorem x0h {l:List Zn} {i k:Nat} {z y:Zn} (h1:z.tt=0) (h2:z.key.toList=[]) (hf:c0w l z.nw=some k) (hy:l[k]?=some y):b0n l i z=(decide (k=i+1∨k+1=i)&&decide (y.pend=2∧y.nw=z.id∧y.owner=z.owner)):=by
 unfold b0n
 rw [hf]
 simp [h1,h2,hy]
set_option maxRecDepth 20000 in
set_option maxHeartbeats 4000000 in
theorem u0a {g o zc:Nat} {l:List Zn} {w:World} (h:ZnO w g o l) (hm:l.length≤1000) (i:Nat) (z:Zn) (hi:l[i]?=some z) :
 Calls Tryz.prog 105 #[.slice (some ⟨g,o,none⟩) l.length zc,aI aK i] w fun e w'=>e=.returned (.bool (b0n l i z))∧Below w.heap.size w w':=by
 obtain ⟨hil,hie⟩:=List.getElem?_eq_some_iff.1 hi
 have hg:=h.lt
 obtain ⟨d0,d1,d2,d3,d4,d5,d6,d7,d8⟩:=h.nine i hil z hie.symm
 have Hz:=uH h
 obtain ⟨k,hk⟩:∃ k,k=fz l z.nw:=⟨_,rfl⟩
 obtain ⟨n,hn⟩:∃ n,n=l.length:=⟨_,rfl⟩
 have Hfd:=uH (fun (w3:World) (hb:Below w.heap.size w w3)=>k0r (zc:=zc) (Hz.out.grow hb) hm z.nw)
 rw [←hk,←hn] at Hfd
 rw [←hn] at hil hm ⊢
 have Hk:=uH hk
 have Hn:=uH hn
 clear hi hie h hk hn
 by_cases h1:z.tt=0
 ·have e1:(z.tt != 0)=false:=by rw [h1];rfl
  cases h2:z.key.toList.isEmpty with
  | false =>
   have HR:Hid (b0n l i z=false):=uH (p0c (.inr (by intro e;rw [e] at h2;cases h2)))
   have e2:(z.key.toList==[])=false:=by rw [beq_eq_false_iff_ne];intro e;rw [e] at h2;cases h2
   clear h1
   (go_enter Tryz.func105,Tryz.ntmps105;(go_wp2_with fail);(refine a0e fun wa hwa=>?_;have wa_s0:=sg g hwa;have wa_s1:=sg w.heap.size hwa;obtain ⟨wa_c0,wa_c1,wa_c2,wa_c3⟩:=kb4 hwa w.heap.size 0 (aI aK z.id) 3 (aI aK z.owner) 6 (aI aK z.tt) 7 (aS z.key);have wa_b:Below w.heap.size w wa:=(by rw [hwa];exact bg);clear hwa);(refine (Hfd.out _ wa_b).mono ?_);(rintro e w1 ⟨rfl,w1_h⟩;obtain ⟨w1_hc,w1_hf⟩:=a0w w1_h;have w1_z:=w1_h.size;have w1_b:=wa_b.trans (w1_h.mono (by have:=wa_b.size;omega));have w1_le:=w1_b.size;have w1_s0:g<w1.heap.size:=(by omega);have w1_s1:w.heap.size<w1.heap.size:=(by omega);clear w1_h);(go_wp2_with fail);(refine a0d fun wb hwb=>?_;have wb_s0:=sg g hwb;have wb_s1:=sg w.heap.size hwb;obtain ⟨wb_c0,wb_c1,wb_c2,wb_c3⟩:=kb4 hwb w.heap.size 0 (aI aK z.id) 3 (aI aK z.owner) 6 (aI aK z.tt) 7 (aS z.key);have wb_b:Below w.heap.size w wb:=(by rw [hwb];exact bg);clear hwb);(refine grA ?_;(repeat (go_big_quiet_step (fail)));refine grN fun g1=>?_);(go_wp2_with fail);go_ret;exact ⟨by rw [HR.out];rfl,wb_b.trans ((a0f wb g1).mono (by omega))⟩)
  | true =>
   have e2:z.key.toList=[]:=by simpa using h2
   cases hf:c0w l z.nw with
   | none =>
    obtain rfl:k=-1:=by rw [Hk.out,fz,hf]
    have HR:Hid (b0n l i z=false):=uH (by unfold b0n;rw [hf])
    clear h1 hf
    (go_enter Tryz.func105,Tryz.ntmps105;(go_wp2_with fail);(refine a0e fun wa hwa=>?_;have wa_s0:=sg g hwa;have wa_s1:=sg w.heap.size hwa;obtain ⟨wa_c0,wa_c1,wa_c2,wa_c3⟩:=kb4 hwa w.heap.size 0 (aI aK z.id) 3 (aI aK z.owner) 6 (aI aK z.tt) 7 (aS z.key);have wa_b:Below w.heap.size w wa:=(by rw [hwa];exact bg);clear hwa);(refine (Hfd.out _ wa_b).mono ?_);(rintro e w1 ⟨rfl,w1_h⟩;obtain ⟨w1_hc,w1_hf⟩:=a0w w1_h;have w1_z:=w1_h.size;have w1_b:=wa_b.trans (w1_h.mono (by have:=wa_b.size;omega));have w1_le:=w1_b.size;have w1_s0:g<w1.heap.size:=(by omega);have w1_s1:w.heap.size<w1.heap.size:=(by omega);clear w1_h);(go_wp2_with fail);(refine a0d fun wb hwb=>?_;have wb_s0:=sg g hwb;have wb_s1:=sg w.heap.size hwb;obtain ⟨wb_c0,wb_c1,wb_c2,wb_c3⟩:=kb4 hwb w.heap.size 0 (aI aK z.id) 3 (aI aK z.owner) 6 (aI aK z.tt) 7 (aS z.key);have wb_b:Below w.heap.size w wb:=(by rw [hwb];exact bg);clear hwb);(refine grA ?_;(repeat (go_big_quiet_step (fail)));refine grN fun g1=>?_);(go_wp2_with fail);go_ret;exact ⟨by rw [HR.out];rfl,wb_b.trans ((a0f wb g1).mono (by omega))⟩)
   | some k' =>
    obtain rfl:k=(k':Int):=by rw [Hk.out,fz,hf]
    obtain ⟨y,hy,-,-⟩:=g0o hf
    obtain ⟨hkl,hke⟩:=List.getElem?_eq_some_iff.1 hy
    have HM:=uH (x0h (i:=i) h1 e2 hf hy)
    obtain ⟨r0,r1,r2,r3,r4,r5,r6,r7,r8⟩:=Hz.out.nine k' hkl y hke.symm
    have hkn:k'<n:=by rw [Hn.out];exact hkl
    have e3:decide ((k':Int)<0)=false:=by rw [decide_eq_false_iff_not];omega
    clear h1 hf hy hkl hke
    have z1:IntKind.i64.wrap ((i:Int)+1)=(i:Int)+1:=by rw [IntKind.wrap_i64];omega
    have z2:IntKind.i64.wrap ((i:Int) - 1)=(i:Int) - 1:=by rw [IntKind.wrap_i64];omega
    by_cases q1:k'=i+1∨k'+1=i
    ·have hq:(k':Int)=(i:Int)+1∨(¬(k':Int)=(i:Int)+1∧(k':Int)=(i:Int) - 1):=by omega
     rw [decide_eq_true q1,Bool.true_and] at HM
     by_cases q2:y.pend=2
     ·have u2:(y.pend != 2)=false:=by rw [q2];rfl
      by_cases q3:y.nw=z.id
      ·have u3:(y.nw != z.id)=false:=by rw [bne_eq_false_iff_eq];exact q3
       by_cases q4:y.owner=z.owner
       ·have u4:(y.owner != z.owner)=false:=by rw [bne_eq_false_iff_eq];exact q4
        have HR:Hid (b0n l i z=true):=by rw [HM.out,decide_eq_true ⟨q2,q3,q4⟩];rfl
        clear q1 q2 q3 q4
        (rcases hq with hq | ⟨hq1,hq2⟩;(have v1:((k':Int) != (i:Int)+1)=false:=(by rw [bne_eq_false_iff_eq];exact hq);clear hq;(go_enter Tryz.func105,Tryz.ntmps105;(go_wp2_with fail);(refine a0e fun wa hwa=>?_;have wa_s0:=sg g hwa;have wa_s1:=sg w.heap.size hwa;obtain ⟨wa_c0,wa_c1,wa_c2⟩:=kb3 hwa g (o+k' * 9+3) (aI aK y.owner) (o+k' * 9+5) (aI aK y.pend) (o+k' * 9+8) (aI aK y.nw);obtain ⟨wa_c3,wa_c4,wa_c5,wa_c6⟩:=kb4 hwa w.heap.size 0 (aI aK z.id) 3 (aI aK z.owner) 6 (aI aK z.tt) 7 (aS z.key);have wa_b:Below w.heap.size w wa:=(by rw [hwa];exact bg);clear hwa);(refine (Hfd.out _ wa_b).mono ?_);(rintro e w1 ⟨rfl,w1_h⟩;obtain ⟨w1_hc,w1_hf⟩:=a0w w1_h;have w1_z:=w1_h.size;have w1_b:=wa_b.trans (w1_h.mono (by have:=wa_b.size;omega));have w1_le:=w1_b.size;have w1_s0:g<w1.heap.size:=(by omega);have w1_s1:w.heap.size<w1.heap.size:=(by omega);clear w1_h);(go_wp2_with fail);(refine a0d fun wb hwb=>?_;have wb_s0:=sg g hwb;have wb_s1:=sg w.heap.size hwb;obtain ⟨wb_c0,wb_c1,wb_c2⟩:=kb3 hwb g (o+k' * 9+3) (aI aK y.owner) (o+k' * 9+5) (aI aK y.pend) (o+k' * 9+8) (aI aK y.nw);obtain ⟨wb_c3,wb_c4,wb_c5,wb_c6⟩:=kb4 hwb w.heap.size 0 (aI aK z.id) 3 (aI aK z.owner) 6 (aI aK z.tt) 7 (aS z.key);have wb_b:Below w.heap.size w wb:=(by rw [hwb];exact bg);clear hwb);(refine grA ?_;(repeat (go_big_quiet_step (fail)));refine grN fun g1=>?_);(go_wp2_with fail);go_ret;exact ⟨by rw [HR.out];rfl,wb_b.trans ((a0f wb g1).mono (by omega))⟩));(have v1:((k':Int) != (i:Int)+1)=true:=(by rw [bne_iff_ne];exact hq1);have v2:((k':Int) != (i:Int) - 1)=false:=(by rw [bne_eq_false_iff_eq];exact hq2);clear hq1 hq2;(go_enter Tryz.func105,Tryz.ntmps105;(go_wp2_with fail);(refine a0e fun wa hwa=>?_;have wa_s0:=sg g hwa;have wa_s1:=sg w.heap.size hwa;obtain ⟨wa_c0,wa_c1,wa_c2⟩:=kb3 hwa g (o+k' * 9+3) (aI aK y.owner) (o+k' * 9+5) (aI aK y.pend) (o+k' * 9+8) (aI aK y.nw);obtain ⟨wa_c3,wa_c4,wa_c5,wa_c6⟩:=kb4 hwa w.heap.size 0 (aI aK z.id) 3 (aI aK z.owner) 6 (aI aK z.tt) 7 (aS z.key);have wa_b:Below w.heap.size w wa:=(by rw [hwa];exact bg);clear hwa);(refine (Hfd.out _ wa_b).mono ?_);(rintro e w1 ⟨rfl,w1_h⟩;obtain ⟨w1_hc,w1_hf⟩:=a0w w1_h;have w1_z:=w1_h.size;have w1_b:=wa_b.trans (w1_h.mono (by have:=wa_b.size;omega));have w1_le:=w1_b.size;have w1_s0:g<w1.heap.size:=(by omega);have w1_s1:w.heap.size<w1.heap.size:=(by omega);clear w1_h);(go_wp2_with fail);(refine a0d fun wb hwb=>?_;have wb_s0:=sg g hwb;have wb_s1:=sg w.heap.size hwb;obtain ⟨wb_c0,wb_c1,wb_c2⟩:=kb3 hwb g (o+k' * 9+3) (aI aK y.owner) (o+k' * 9+5) (aI aK y.pend) (o+k' * 9+8) (aI aK y.nw);obtain ⟨wb_c3,wb_c4,wb_c5,wb_c6⟩:=kb4 hwb w.heap.size 0 (aI aK z.id) 3 (aI aK z.owner) 6 (aI aK z.tt) 7 (aS z.key);have wb_b:Below w.heap.size w wb:=(by rw [hwb];exact bg);clear hwb);(refine grA ?_;(repeat (go_big_quiet_step (fail)));refine grN fun g1=>?_);(go_wp2_with fail);go_ret;exact ⟨by rw [HR.out];rfl,wb_b.trans ((a0f wb g1).mono (by omega))⟩)))
       ·have u4:(y.owner != z.owner)=true:=by rw [bne_iff_ne];exact q4
        have HR:Hid (b0n l i z=false):=by rw [HM.out,decide_eq_false (fun h=>q4 h.2.2)];rfl
        clear q1 q2 q3 q4
        (rcases hq with hq | ⟨hq1,hq2⟩;(have v1:((k':Int) != (i:Int)+1)=false:=(by rw [bne_eq_false_iff_eq];exact hq);clear hq;(go_enter Tryz.func105,Tryz.ntmps105;(go_wp2_with fail);(refine a0e fun wa hwa=>?_;have wa_s0:=sg g hwa;have wa_s1:=sg w.heap.size hwa;obtain ⟨wa_c0,wa_c1,wa_c2⟩:=kb3 hwa g (o+k' * 9+3) (aI aK y.owner) (o+k' * 9+5) (aI aK y.pend) (o+k' * 9+8) (aI aK y.nw);obtain ⟨wa_c3,wa_c4,wa_c5,wa_c6⟩:=kb4 hwa w.heap.size 0 (aI aK z.id) 3 (aI aK z.owner) 6 (aI aK z.tt) 7 (aS z.key);have wa_b:Below w.heap.size w wa:=(by rw [hwa];exact bg);clear hwa);(refine (Hfd.out _ wa_b).mono ?_);(rintro e w1 ⟨rfl,w1_h⟩;obtain ⟨w1_hc,w1_hf⟩:=a0w w1_h;have w1_z:=w1_h.size;have w1_b:=wa_b.trans (w1_h.mono (by have:=wa_b.size;omega));have w1_le:=w1_b.size;have w1_s0:g<w1.heap.size:=(by omega);have w1_s1:w.heap.size<w1.heap.size:=(by omega);clear w1_h);(go_wp2_with fail);(refine a0d fun wb hwb=>?_;have wb_s0:=sg g hwb;have wb_s1:=sg w.heap.size hwb;obtain ⟨wb_c0,wb_c1,wb_c2⟩:=kb3 hwb g (o+k' * 9+3) (aI aK y.owner) (o+k' * 9+5) (aI aK y.pend) (o+k' * 9+8) (aI aK y.nw);obtain ⟨wb_c3,wb_c4,wb_c5,wb_c6⟩:=kb4 hwb w.heap.size 0 (aI aK z.id) 3 (aI aK z.owner) 6 (aI aK z.tt) 7 (aS z.key);have wb_b:Below w.heap.size w wb:=(by rw [hwb];exact bg);clear hwb);(refine grA ?_;(repeat (go_big_quiet_step (fail)));refine grN fun g1=>?_);(go_wp2_with fail);go_ret;exact ⟨by rw [HR.out];rfl,wb_b.trans ((a0f wb g1).mono (by omega))⟩));(have v1:((k':Int) != (i:Int)+1)=true:=(by rw [bne_iff_ne];exact hq1);have v2:((k':Int) != (i:Int) - 1)=false:=(by rw [bne_eq_false_iff_eq];exact hq2);clear hq1 hq2;(go_enter Tryz.func105,Tryz.ntmps105;(go_wp2_with fail);(refine a0e fun wa hwa=>?_;have wa_s0:=sg g hwa;have wa_s1:=sg w.heap.size hwa;obtain ⟨wa_c0,wa_c1,wa_c2⟩:=kb3 hwa g (o+k' * 9+3) (aI aK y.owner) (o+k' * 9+5) (aI aK y.pend) (o+k' * 9+8) (aI aK y.nw);obtain ⟨wa_c3,wa_c4,wa_c5,wa_c6⟩:=kb4 hwa w.heap.size 0 (aI aK z.id) 3 (aI aK z.owner) 6 (aI aK z.tt) 7 (aS z.key);have wa_b:Below w.heap.size w wa:=(by rw [hwa];exact bg);clear hwa);(refine (Hfd.out _ wa_b).mono ?_);(rintro e w1 ⟨rfl,w1_h⟩;obtain ⟨w1_hc,w1_hf⟩:=a0w w1_h;have w1_z:=w1_h.size;have w1_b:=wa_b.trans (w1_h.mono (by have:=wa_b.size;omega));have w1_le:=w1_b.size;have w1_s0:g<w1.heap.size:=(by omega);have w1_s1:w.heap.size<w1.heap.size:=(by omega);clear w1_h);(go_wp2_with fail);(refine a0d fun wb hwb=>?_;have wb_s0:=sg g hwb;have wb_s1:=sg w.heap.size hwb;obtain ⟨wb_c0,wb_c1,wb_c2⟩:=kb3 hwb g (o+k' * 9+3) (aI aK y.owner) (o+k' * 9+5) (aI aK y.pend) (o+k' * 9+8) (aI aK y.nw);obtain ⟨wb_c3,wb_c4,wb_c5,wb_c6⟩:=kb4 hwb w.heap.size 0 (aI aK z.id) 3 (aI aK z.owner) 6 (aI aK z.tt) 7 (aS z.key);have wb_b:Below w.heap.size w wb:=(by rw [hwb];exact bg);clear hwb);(refine grA ?_;(repeat (go_big_quiet_step (fail)));refine grN fun g1=>?_);(go_wp2_with fail);go_ret;exact ⟨by rw [HR.out];rfl,wb_b.trans ((a0f wb g1).mono (by omega))⟩)))
      ·have u3:(y.nw != z.id)=true:=by rw [bne_iff_ne];exact q3
       have HR:Hid (b0n l i z=false):=by rw [HM.out,decide_eq_false (fun h=>q3 h.2.1)];rfl
       clear q1 q2 q3
       (rcases hq with hq | ⟨hq1,hq2⟩;(have v1:((k':Int) != (i:Int)+1)=false:=(by rw [bne_eq_false_iff_eq];exact hq);clear hq;(go_enter Tryz.func105,Tryz.ntmps105;(go_wp2_with fail);(refine a0e fun wa hwa=>?_;have wa_s0:=sg g hwa;have wa_s1:=sg w.heap.size hwa;obtain ⟨wa_c0,wa_c1,wa_c2⟩:=kb3 hwa g (o+k' * 9+3) (aI aK y.owner) (o+k' * 9+5) (aI aK y.pend) (o+k' * 9+8) (aI aK y.nw);obtain ⟨wa_c3,wa_c4,wa_c5,wa_c6⟩:=kb4 hwa w.heap.size 0 (aI aK z.id) 3 (aI aK z.owner) 6 (aI aK z.tt) 7 (aS z.key);have wa_b:Below w.heap.size w wa:=(by rw [hwa];exact bg);clear hwa);(refine (Hfd.out _ wa_b).mono ?_);(rintro e w1 ⟨rfl,w1_h⟩;obtain ⟨w1_hc,w1_hf⟩:=a0w w1_h;have w1_z:=w1_h.size;have w1_b:=wa_b.trans (w1_h.mono (by have:=wa_b.size;omega));have w1_le:=w1_b.size;have w1_s0:g<w1.heap.size:=(by omega);have w1_s1:w.heap.size<w1.heap.size:=(by omega);clear w1_h);(go_wp2_with fail);(refine a0d fun wb hwb=>?_;have wb_s0:=sg g hwb;have wb_s1:=sg w.heap.size hwb;obtain ⟨wb_c0,wb_c1,wb_c2⟩:=kb3 hwb g (o+k' * 9+3) (aI aK y.owner) (o+k' * 9+5) (aI aK y.pend) (o+k' * 9+8) (aI aK y.nw);obtain ⟨wb_c3,wb_c4,wb_c5,wb_c6⟩:=kb4 hwb w.heap.size 0 (aI aK z.id) 3 (aI aK z.owner) 6 (aI aK z.tt) 7 (aS z.key);have wb_b:Below w.heap.size w wb:=(by rw [hwb];exact bg);clear hwb);(refine grA ?_;(repeat (go_big_quiet_step (fail)));refine grN fun g1=>?_);(go_wp2_with fail);go_ret;exact ⟨by rw [HR.out];rfl,wb_b.trans ((a0f wb g1).mono (by omega))⟩));(have v1:((k':Int) != (i:Int)+1)=true:=(by rw [bne_iff_ne];exact hq1);have v2:((k':Int) != (i:Int) - 1)=false:=(by rw [bne_eq_false_iff_eq];exact hq2);clear hq1 hq2;(go_enter Tryz.func105,Tryz.ntmps105;(go_wp2_with fail);(refine a0e fun wa hwa=>?_;have wa_s0:=sg g hwa;have wa_s1:=sg w.heap.size hwa;obtain ⟨wa_c0,wa_c1,wa_c2⟩:=kb3 hwa g (o+k' * 9+3) (aI aK y.owner) (o+k' * 9+5) (aI aK y.pend) (o+k' * 9+8) (aI aK y.nw);obtain ⟨wa_c3,wa_c4,wa_c5,wa_c6⟩:=kb4 hwa w.heap.size 0 (aI aK z.id) 3 (aI aK z.owner) 6 (aI aK z.tt) 7 (aS z.key);have wa_b:Below w.heap.size w wa:=(by rw [hwa];exact bg);clear hwa);(refine (Hfd.out _ wa_b).mono ?_);(rintro e w1 ⟨rfl,w1_h⟩;obtain ⟨w1_hc,w1_hf⟩:=a0w w1_h;have w1_z:=w1_h.size;have w1_b:=wa_b.trans (w1_h.mono (by have:=wa_b.size;omega));have w1_le:=w1_b.size;have w1_s0:g<w1.heap.size:=(by omega);have w1_s1:w.heap.size<w1.heap.size:=(by omega);clear w1_h);(go_wp2_with fail);(refine a0d fun wb hwb=>?_;have wb_s0:=sg g hwb;have wb_s1:=sg w.heap.size hwb;obtain ⟨wb_c0,wb_c1,wb_c2⟩:=kb3 hwb g (o+k' * 9+3) (aI aK y.owner) (o+k' * 9+5) (aI aK y.pend) (o+k' * 9+8) (aI aK y.nw);obtain ⟨wb_c3,wb_c4,wb_c5,wb_c6⟩:=kb4 hwb w.heap.size 0 (aI aK z.id) 3 (aI aK z.owner) 6 (aI aK z.tt) 7 (aS z.key);have wb_b:Below w.heap.size w wb:=(by rw [hwb];exact bg);clear hwb);(refine grA ?_;(repeat (go_big_quiet_step (fail)));refine grN fun g1=>?_);(go_wp2_with fail);go_ret;exact ⟨by rw [HR.out];rfl,wb_b.trans ((a0f wb g1).mono (by omega))⟩)))
     ·have u2:(y.pend != 2)=true:=by rw [bne_iff_ne];exact q2
      have HR:Hid (b0n l i z=false):=by rw [HM.out,decide_eq_false (fun h=>q2 h.1)];rfl
      clear q1 q2
      (rcases hq with hq | ⟨hq1,hq2⟩;(have v1:((k':Int) != (i:Int)+1)=false:=(by rw [bne_eq_false_iff_eq];exact hq);clear hq;(go_enter Tryz.func105,Tryz.ntmps105;(go_wp2_with fail);(refine a0e fun wa hwa=>?_;have wa_s0:=sg g hwa;have wa_s1:=sg w.heap.size hwa;obtain ⟨wa_c0,wa_c1,wa_c2⟩:=kb3 hwa g (o+k' * 9+3) (aI aK y.owner) (o+k' * 9+5) (aI aK y.pend) (o+k' * 9+8) (aI aK y.nw);obtain ⟨wa_c3,wa_c4,wa_c5,wa_c6⟩:=kb4 hwa w.heap.size 0 (aI aK z.id) 3 (aI aK z.owner) 6 (aI aK z.tt) 7 (aS z.key);have wa_b:Below w.heap.size w wa:=(by rw [hwa];exact bg);clear hwa);(refine (Hfd.out _ wa_b).mono ?_);(rintro e w1 ⟨rfl,w1_h⟩;obtain ⟨w1_hc,w1_hf⟩:=a0w w1_h;have w1_z:=w1_h.size;have w1_b:=wa_b.trans (w1_h.mono (by have:=wa_b.size;omega));have w1_le:=w1_b.size;have w1_s0:g<w1.heap.size:=(by omega);have w1_s1:w.heap.size<w1.heap.size:=(by omega);clear w1_h);(go_wp2_with fail);(refine a0d fun wb hwb=>?_;have wb_s0:=sg g hwb;have wb_s1:=sg w.heap.size hwb;obtain ⟨wb_c0,wb_c1,wb_c2⟩:=kb3 hwb g (o+k' * 9+3) (aI aK y.owner) (o+k' * 9+5) (aI aK y.pend) (o+k' * 9+8) (aI aK y.nw);obtain ⟨wb_c3,wb_c4,wb_c5,wb_c6⟩:=kb4 hwb w.heap.size 0 (aI aK z.id) 3 (aI aK z.owner) 6 (aI aK z.tt) 7 (aS z.key);have wb_b:Below w.heap.size w wb:=(by rw [hwb];exact bg);clear hwb);(refine grA ?_;(repeat (go_big_quiet_step (fail)));refine grN fun g1=>?_);(go_wp2_with fail);go_ret;exact ⟨by rw [HR.out];rfl,wb_b.trans ((a0f wb g1).mono (by omega))⟩));(have v1:((k':Int) != (i:Int)+1)=true:=(by rw [bne_iff_ne];exact hq1);have v2:((k':Int) != (i:Int) - 1)=false:=(by rw [bne_eq_false_iff_eq];exact hq2);clear hq1 hq2;(go_enter Tryz.func105,Tryz.ntmps105;(go_wp2_with fail);(refine a0e fun wa hwa=>?_;have wa_s0:=sg g hwa;have wa_s1:=sg w.heap.size hwa;obtain ⟨wa_c0,wa_c1,wa_c2⟩:=kb3 hwa g (o+k' * 9+3) (aI aK y.owner) (o+k' * 9+5) (aI aK y.pend) (o+k' * 9+8) (aI aK y.nw);obtain ⟨wa_c3,wa_c4,wa_c5,wa_c6⟩:=kb4 hwa w.heap.size 0 (aI aK z.id) 3 (aI aK z.owner) 6 (aI aK z.tt) 7 (aS z.key);have wa_b:Below w.heap.size w wa:=(by rw [hwa];exact bg);clear hwa);(refine (Hfd.out _ wa_b).mono ?_);(rintro e w1 ⟨rfl,w1_h⟩;obtain ⟨w1_hc,w1_hf⟩:=a0w w1_h;have w1_z:=w1_h.size;have w1_b:=wa_b.trans (w1_h.mono (by have:=wa_b.size;omega));have w1_le:=w1_b.size;have w1_s0:g<w1.heap.size:=(by omega);have w1_s1:w.heap.size<w1.heap.size:=(by omega);clear w1_h);(go_wp2_with fail);(refine a0d fun wb hwb=>?_;have wb_s0:=sg g hwb;have wb_s1:=sg w.heap.size hwb;obtain ⟨wb_c0,wb_c1,wb_c2⟩:=kb3 hwb g (o+k' * 9+3) (aI aK y.owner) (o+k' * 9+5) (aI aK y.pend) (o+k' * 9+8) (aI aK y.nw);obtain ⟨wb_c3,wb_c4,wb_c5,wb_c6⟩:=kb4 hwb w.heap.size 0 (aI aK z.id) 3 (aI aK z.owner) 6 (aI aK z.tt) 7 (aS z.key);have wb_b:Below w.heap.size w wb:=(by rw [hwb];exact bg);clear hwb);(refine grA ?_;(repeat (go_big_quiet_step (fail)));refine grN fun g1=>?_);(go_wp2_with fail);go_ret;exact ⟨by rw [HR.out];rfl,wb_b.trans ((a0f wb g1).mono (by omega))⟩)))
    ·have v1:((k':Int) != (i:Int)+1)=true:=by rw [bne_iff_ne];omega
     have v2:((k':Int) != (i:Int) - 1)=true:=by rw [bne_iff_ne];omega
     have HR:Hid (b0n l i z=false):=by rw [HM.out,decide_eq_false q1];rfl
     clear q1
     (go_enter Tryz.func105,Tryz.ntmps105;(go_wp2_with fail);(refine a0e fun wa hwa=>?_;have wa_s0:=sg g hwa;have wa_s1:=sg w.heap.size hwa;obtain ⟨wa_c0,wa_c1,wa_c2⟩:=kb3 hwa g (o+k' * 9+3) (aI aK y.owner) (o+k' * 9+5) (aI aK y.pend) (o+k' * 9+8) (aI aK y.nw);obtain ⟨wa_c3,wa_c4,wa_c5,wa_c6⟩:=kb4 hwa w.heap.size 0 (aI aK z.id) 3 (aI aK z.owner) 6 (aI aK z.tt) 7 (aS z.key);have wa_b:Below w.heap.size w wa:=(by rw [hwa];exact bg);clear hwa);(refine (Hfd.out _ wa_b).mono ?_);(rintro e w1 ⟨rfl,w1_h⟩;obtain ⟨w1_hc,w1_hf⟩:=a0w w1_h;have w1_z:=w1_h.size;have w1_b:=wa_b.trans (w1_h.mono (by have:=wa_b.size;omega));have w1_le:=w1_b.size;have w1_s0:g<w1.heap.size:=(by omega);have w1_s1:w.heap.size<w1.heap.size:=(by omega);clear w1_h);(go_wp2_with fail);(refine a0d fun wb hwb=>?_;have wb_s0:=sg g hwb;have wb_s1:=sg w.heap.size hwb;obtain ⟨wb_c0,wb_c1,wb_c2⟩:=kb3 hwb g (o+k' * 9+3) (aI aK y.owner) (o+k' * 9+5) (aI aK y.pend) (o+k' * 9+8) (aI aK y.nw);obtain ⟨wb_c3,wb_c4,wb_c5,wb_c6⟩:=kb4 hwb w.heap.size 0 (aI aK z.id) 3 (aI aK z.owner) 6 (aI aK z.tt) 7 (aS z.key);have wb_b:Below w.heap.size w wb:=(by rw [hwb];exact bg);clear hwb);(refine grA ?_;(repeat (go_big_quiet_step (fail)));refine grN fun g1=>?_);(go_wp2_with fail);go_ret;exact ⟨by rw [HR.out];rfl,wb_b.trans ((a0f wb g1).mono (by omega))⟩)
 ·have e1:(z.tt != 0)=true:=by rw [bne_iff_ne];exact h1
  have HR:Hid (b0n l i z=false):=uH (p0c (.inl h1))
  clear h1
  (go_enter Tryz.func105,Tryz.ntmps105;(go_wp2_with fail);(refine a0e fun wa hwa=>?_;have wa_s0:=sg g hwa;have wa_s1:=sg w.heap.size hwa;obtain ⟨wa_c0,wa_c1,wa_c2,wa_c3⟩:=kb4 hwa w.heap.size 0 (aI aK z.id) 3 (aI aK z.owner) 6 (aI aK z.tt) 7 (aS z.key);have wa_b:Below w.heap.size w wa:=(by rw [hwa];exact bg);clear hwa);(refine (Hfd.out _ wa_b).mono ?_);(rintro e w1 ⟨rfl,w1_h⟩;obtain ⟨w1_hc,w1_hf⟩:=a0w w1_h;have w1_z:=w1_h.size;have w1_b:=wa_b.trans (w1_h.mono (by have:=wa_b.size;omega));have w1_le:=w1_b.size;have w1_s0:g<w1.heap.size:=(by omega);have w1_s1:w.heap.size<w1.heap.size:=(by omega);clear w1_h);(go_wp2_with fail);(refine a0d fun wb hwb=>?_;have wb_s0:=sg g hwb;have wb_s1:=sg w.heap.size hwb;obtain ⟨wb_c0,wb_c1,wb_c2,wb_c3⟩:=kb4 hwb w.heap.size 0 (aI aK z.id) 3 (aI aK z.owner) 6 (aI aK z.tt) 7 (aS z.key);have wb_b:Below w.heap.size w wb:=(by rw [hwb];exact bg);clear hwb);(refine grA ?_;(repeat (go_big_quiet_step (fail)));refine grN fun g1=>?_);(go_wp2_with fail);go_ret;exact ⟨by rw [HR.out];rfl,wb_b.trans ((a0f wb g1).mono (by omega))⟩)
end Go.Proofs.YtogamdaomdoapaaGreat.O