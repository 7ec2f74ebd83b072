/- Texts put together: OMy, Four. -/
import Derived.Test.YtogamdaomdoapaaGreatSa01
import Derived.Test.YtogamdaomdoapaaGreatSa13
import Derived.Test.YtogamdaomdoapaaGreatSa15
import Derived.OrdersHeld
namespace Go.Proofs.YtogamdaomdoapaaGreat.O
open Go.RowKit
def flat (l:List Sp):List Value:=l.flatMap fun s=>[.string s.1,.string s.2]
theorem flat_get (l:List Sp) (i:Nat) (h:i<l.length):(flat l)[i * 2]?=some (.string l[i].1)∧(flat l)[i * 2+1]?=some (.string l[i].2):=by
 induction l generalizing i with
 | nil=>simp at h
 | cons s r ih =>
  cases i with
  | zero=>exact ⟨rfl,rfl⟩
  | succ i =>
   have:=ih i (by simpa using h)
   have e:flat (s::r)=.string s.1::.string s.2::flat r:=rfl
   rw [e,show (i+1) * 2=i * 2+1+1 from by omega]
   simpa using this
theorem owns_row {w:World} {base n:Nat} {v:Value} {l:List Sp} (h:w.ownsRow base 37 2 v n (flat l)) (hn:n=l.length) (hpos:0<l.length) :
 ∃ g cap,v=.slice (some ⟨g,0,none⟩) n cap∧SpanRow w g 0 l∧base≤g∧g<w.heap.size:=by
 rcases h.2 with ⟨-,h0⟩ | ⟨g,cap,cur,rfl,hg,hh,-⟩
 ·omega
 ·refine ⟨g,cap,rfl,fun i hi=>?_,hg,(Array.getElem?_eq_some_iff.1 hh).1⟩
  have g2:=flat_get l i hi
  have c1:=h.cellAt (i * 2) (by omega)
  have c2:=h.cellAt (i * 2+1) (by omega)
  rw [g2.1] at c1;rw [g2.2] at c2
  simpa using ⟨c1,c2⟩
theorem spanInfo:(Tryz.prog.info? 37).map (fun i=>(i.zero,i.size,i.bytes))=some (some (.agg #[.string ⟨#[]⟩,.string ⟨#[]⟩]),2,32):=by kernel_rfl
theorem flat_append (a b:List Sp):flat (a++b)=flat a++flat b:=by simp [flat]
theorem may_no {m:Mp} (h:¬(1≤m.ver∧m.ver≤1099511627776∧1≤m.next∧m.next≤1099511627776∧m.zs.length≤16)):mayM m=false:=by
 unfold mayM;rw [decide_eq_false h];rfl
theorem may_zone {m:Mp} {k:Nat} (hk:k<m.zs.length) (h:zoneB m k m.zs[k]=false):mayM m=false:=by
 unfold mayM
 rw [Bool.and_eq_false_iff,Bool.and_eq_false_iff]
 refine .inr (.inl ?_)
 rw [List.all_eq_false]
 exact ⟨k,by simpa using hk,by rw [List.getD_eq_getElem?_getD,List.getElem?_eq_getElem hk];simp [h]⟩
theorem may_at {m:Mp} (h:1≤m.ver∧m.ver≤1099511627776∧1≤m.next∧m.next≤1099511627776∧m.zs.length≤16) (hz:∀ j (hj:j<m.zs.length),zoneB m j m.zs[j]=true):mayM m=rAll (m.zs.map spz):=by
 unfold mayM
 rw [decide_eq_true h,Bool.true_and,List.all_eq_true.2,Bool.true_and]
 intro j hj
 have hj:j<m.zs.length:=by simpa using hj
 rw [List.getD_eq_getElem?_getD,List.getElem?_eq_getElem hj]
 exact hz j hj
theorem take_spz {l:List Zn} {sl:List Sp} (hs:sl=l.map spz) {k:Nat} (hk:k<l.length):flat (sl.take (k+1))=flat (sl.take k)++[.string l[k].fr,.string l[k].to]:=by
 subst hs
 rw [List.take_succ_eq_append_getElem (by simpa using hk),flat_append]
 simp [flat,spz]
theorem two_cells (w:World) (n:Nat) (hn:n=w.heap.size) (x y:Value) (t:TypeId):∀ ad,(some ⟨n,0,none⟩:Option Addr)=some ad→∀ (j:Nat) u,[x,y][j]?=some u→(w.alloc (.cells #[x,y] t)).cell? (ad.add j)=some u:=by
 subst hn
 intro ad e j u hu
 obtain rfl:=Option.some.inj e
 rw [add_none,Nat.zero_add,(cells_of_obj (heap_new w _)).1]
 simpa using hu
set_option maxRecDepth 20000 in
set_option maxHeartbeats 4000000 in
theorem may_any {g o zc:Nat} {m:Mp} {w:World} (h:ZnO w g o m.zs) (hm:m.zs.length≤1000) :
 Calls Tryz.prog 34 #[.agg #[.int .i64 m.ver,.int .i64 m.next,.slice (some ⟨g,o,none⟩) m.zs.length zc]] w fun e w'=>e=.returned (.bool (mayM m))∧Below w.heap.size w w':=by
 have hg:=h.lt
 have Hz:=Lib.hid h
 obtain ⟨n,hn⟩:∃ n,n=m.zs.length:=⟨_,rfl⟩
 obtain ⟨nx,hnx⟩:∃ nx,nx=m.next:=⟨_,rfl⟩
 obtain ⟨ver,hver⟩:∃ ver,ver=m.ver:=⟨_,rfl⟩
 have Hzo:=Lib.hid (fun (w3:World) (hb:Below w.heap.size w w3) (i:Nat) (z:Zn) (hi:m.zs[i]?=some z)=>zone_any (zc:=zc) (Hz.out.grow hb) hm i z hi)
 rw [←hn,←hnx,←hver] at Hzo
 rw [←hn] at hm ⊢
 rw [←hnx,←hver]
 have Hn:=Lib.hid hn
 have Hnx:=Lib.hid hnx
 have Hver:=Lib.hid hver
 clear h hn hnx hver
 by_cases h1:1≤ver
 ·have e1:decide (ver<1)=false:=by rw [decide_eq_false_iff_not];omega
  by_cases h2:ver≤1099511627776
  ·have e2:decide (1099511627776<ver)=false:=by rw [decide_eq_false_iff_not];omega
   by_cases h3:1≤nx
   ·have e3:decide (nx<1)=false:=by rw [decide_eq_false_iff_not];omega
    by_cases h4:nx≤1099511627776
    ·have e4:decide (1099511627776<nx)=false:=by rw [decide_eq_false_iff_not];omega
     by_cases h5:n≤16
     ·have e5:decide ((16:Int)<n)=false:=by rw [decide_eq_false_iff_not];omega
      have HM:Hid ((∀ j (hj:j<m.zs.length),zoneB m j m.zs[j]=true)→mayM m=rAll (m.zs.map spz)):=Lib.hid (may_at ⟨by rw [←Hver.out];exact h1,by rw [←Hver.out];exact h2,by rw [←Hnx.out];exact h3,by rw [←Hnx.out];exact h4,by rw [←Hn.out];exact h5⟩)
      obtain ⟨i0,hi,hz0,hz1,hz2⟩:=info_parts spanInfo
      obtain ⟨sl,hsl⟩:∃ sl,sl=m.zs.map spz:=⟨_,rfl⟩
      rw [←hsl] at HM
      have Hsl:=Lib.hid hsl
      clear h1 h2 h3 h4 hsl
      go_enter Tryz.func34,Tryz.ntmps34
      go_wp2_with fail
      (refine wp_name fun wa hwa=>?_;have wa_s0:=sg g hwa;have wa_s1:=sg w.heap.size hwa;obtain ⟨wa_c0,wa_c1,wa_c2⟩:=kz3 hwa w.heap.size (.int .i64 ver) (.int .i64 nx) (.slice (some ⟨g,o,none⟩) n zc);have wa_b:Below w.heap.size w wa:=(by rw [hwa];exact bg);clear hwa)
      have wa_le:=wa_b.size
      go_loopw [3,4] (fun s3 s4 wr=>∃ (k:Nat) (ao:Option Addr) (cap:Nat),s4=.int .i64 k∧s3=.slice ao k cap∧k≤n∧Hid (∀ j (hj:j<m.zs.length),j<k→zoneB m j m.zs[j]=true)∧Hid (wr.ownsRow wa.heap.size 37 2 (.slice ao k cap) k (flat (sl.take k)))∧Hid (Below wa.heap.size wa wr)) (fun _ s4 _=>n - (intOf s4).toNat)
      case atStart=>exact ⟨0,none,0,rfl,rfl,by omega,Lib.hid (fun j _ hj=>by omega),Lib.hid (World.ownsRow_nil _ _ _ _),Lib.hid (Below.refl _ _)⟩
      case round =>
       obtain ⟨k,ao,cap,rfl,rfl,hk,Hok,Hown,Hb⟩:=hrel
       have wr_b:=wa_b.trans (Hb.out.mono wa_le)
       obtain ⟨xc,-⟩:=bcell Hb.out
       have hsr:=Hb.out.size
       have r0:=(xc _ _ wa_s1).trans wa_c0
       have r1:=(xc _ _ wa_s1).trans wa_c1
       have r2:=(xc _ _ wa_s1).trans wa_c2
       have u0:g<wr.heap.size:=by omega
       have u1:w.heap.size<wr.heap.size:=by omega
       clear xc
       by_cases hlt:k<n
       ·have hl1:k<m.zs.length:=by have:=Hn.out;omega
        obtain ⟨y,hy⟩:∃ y,y=m.zs[k]:=⟨_,rfl⟩
        obtain ⟨b,hb⟩:∃ b,b=zoneB m k y:=⟨_,rfl⟩
        have hcall:=Hzo.out wr wr_b k y (by rw [hy];exact List.getElem?_eq_getElem hl1)
        rw [←hb] at hcall
        have Hcall:=Lib.hid hcall
        have Hy:=Lib.hid hy
        have Hbb:=Lib.hid hb
        clear hy hb hcall
        go_wp2_with fail
        refine Hcall.out.mono ?_
        rintro e w1 ⟨rfl,w1_h⟩
        have w1_b:=wr_b.trans (w1_h.mono wr_b.size)
        have w1_a:=Hb.out.trans (w1_h.mono hsr)
        have hs1:=w1_h.size
        have v0:g<w1.heap.size:=by omega
        have v1:w.heap.size<w1.heap.size:=by omega
        have q2:=(w1_h.cell (p:=⟨w.heap.size,2,none⟩) u1).trans r2
        have Hown1:Hid (w1.ownsRow wa.heap.size 37 2 (.slice ao k cap) k (flat (sl.take k))):=Lib.hid ((thRow wa.heap.size 37 2 ao k cap _).stay Hown.out (keeps_same0 w1_h (fun _=>False)) (fun _ _ h=>h))
        obtain ⟨f0,f1,f2,f3,f4,f5,f6,f7,f8⟩:=(Hz.out.grow w1_b).nine k hl1 y Hy.out
        clear w1_h r0 r1 r2 f0 f3 f4 f5 f6 f7 f8
        cases b
        ·have HF:Hid (mayM m=false):=Lib.hid (may_zone hl1 (by rw [←Hy.out];exact Hbb.out.symm))
         go_wp2_with fail
         go_ret
         exact ⟨by rw [HF.out];rfl,w1_b⟩
        ·go_wp2_with (at_builtin;go_must (refine wpList_append_foot _ rfl (.tmp 40) (.tmp 47) 122 rfl wa.heap.size 37 i0 (.agg #[.string ⟨#[]⟩,.string ⟨#[]⟩]) 2 32 Tryz.underlying122 hi hz0 hz1 hz2 rfl (by decide) ao k cap _ rfl (Hown1.out.alloc _) (some ⟨w1.heap.size,0,none⟩) 1 1 [.string y.fr,.string y.to] rfl (fun h=>by cases h) rfl (two_cells _ _ rfl _ _ _) (by intro u hu;simp only [List.mem_cons,List.not_mem_nil,or_false] at hu;rcases hu with rfl | rfl<;>rfl) (by unfold maxLen;omega) (by omega) (by simp;omega) ?_))
         intro co c' w2 hown hgrow _
         have hb2:Below wa.heap.size wa w2:=below_grown (w1_a.alloc (by omega) _) (by simp;omega) hgrow (fun _ hk=>own_block Hown1.out hk)
         have Hown2:Hid (w2.ownsRow wa.heap.size 37 2 (.slice co (k+1) c') (k+1) (flat (sl.take (k+1)))):=by rw [take_spz Hsl.out hl1,←Hy.out];exact Lib.hid hown
         have Hb2:=Lib.hid hb2
         clear hown hgrow hb2
         go_wp2_with fail
         go_roundw
         case rel=>exact ⟨k+1,co,c',by go_num,by first | rfl | go_num,by omega,Lib.hid (fun j hj hjk=>by
          by_cases e:j=k
          ·subst e;rw [←Hy.out];exact Hbb.out.symm
          ·exact Hok.out j hj (by omega)),Hown2,Hb2⟩
         case measure=>simp [intOf];omega
       ·have hR:=HM.out (fun j hj=>Hok.out j hj (by have:=Hn.out;omega))
        have HR:=Lib.hid hR
        have hkn:k=n:=by omega
        have hsln:sl.length=n:=by rw [Hsl.out,List.length_map,←Hn.out]
        subst hkn
        clear hR
        go_wp2_with fail
        by_cases hp:0<k
        ·obtain ⟨gb,cap',hv,hrow,-,hgl⟩:=owns_row (l:=sl.take k) Hown.out (by rw [List.length_take];omega) (by rw [List.length_take];omega)
         rw [List.take_of_length_le (by omega)] at hrow
         rw [hv]
         have hall:=ref_all_some gb 0 cap' sl wr (by omega) hrow (by omega) hgl
         rw [hsln] at hall
         refine hall.mono ?_
         rintro e w2 ⟨rfl,w2_h⟩
         have w2_b:=wr_b.trans (w2_h.mono wr_b.size)
         clear hall hrow w2_h
         go_wp2_with fail
         go_ret
         exact ⟨by rw [HR.out];rfl,w2_b⟩
        ·obtain rfl:k=0:=by omega
         refine (ref_all_none ao cap wr).mono ?_
         rintro e w2 ⟨rfl,w2_h⟩
         have w2_b:=wr_b.trans (w2_h.mono wr_b.size)
         have hrn:rAll sl=false:=by
          cases sl with
          | nil=>rfl
          | cons a r=>simp at hsln
         go_wp2_with fail
         go_ret
         exact ⟨by rw [HR.out,hrn];rfl,w2_b⟩
     ·have e5:decide ((16:Int)<n)=true:=by rw [decide_eq_true_eq];omega
      have HR:Hid (mayM m=false):=Lib.hid (may_no (by rintro ⟨-,-,-,-,h⟩;rw [←Hn.out] at h;exact h5 h))
      clear h1 h2 h3 h4 h5
      (go_enter Tryz.func34,Tryz.ntmps34;(go_wp2_with fail);go_ret;exact ⟨by rw [HR.out];rfl,bg⟩)
    ·have e4:decide (1099511627776<nx)=true:=by rw [decide_eq_true_eq];omega
     have HR:Hid (mayM m=false):=Lib.hid (may_no (by rintro ⟨-,-,-,h,-⟩;rw [←Hnx.out] at h;exact h4 h))
     clear h1 h2 h3 h4
     (go_enter Tryz.func34,Tryz.ntmps34;(go_wp2_with fail);go_ret;exact ⟨by rw [HR.out];rfl,bg⟩)
   ·have e3:decide (nx<1)=true:=by rw [decide_eq_true_eq];omega
    have HR:Hid (mayM m=false):=Lib.hid (may_no (by rintro ⟨-,-,h,-,-⟩;rw [←Hnx.out] at h;exact h3 h))
    clear h1 h2 h3
    (go_enter Tryz.func34,Tryz.ntmps34;(go_wp2_with fail);go_ret;exact ⟨by rw [HR.out];rfl,bg⟩)
  ·have e2:decide (1099511627776<ver)=true:=by rw [decide_eq_true_eq];omega
   have HR:Hid (mayM m=false):=Lib.hid (may_no (by rintro ⟨-,h,-,-,-⟩;rw [←Hver.out] at h;exact h2 h))
   clear h1 h2
   (go_enter Tryz.func34,Tryz.ntmps34;(go_wp2_with fail);go_ret;exact ⟨by rw [HR.out];rfl,bg⟩)
 ·have e1:decide (ver<1)=true:=by rw [decide_eq_true_eq];omega
  have HR:Hid (mayM m=false):=Lib.hid (may_no (by rintro ⟨h,-,-,-,-⟩;rw [←Hver.out] at h;exact h1 h))
  clear h1
  (go_enter Tryz.func34,Tryz.ntmps34;(go_wp2_with fail);go_ret;exact ⟨by rw [HR.out];rfl,bg⟩)
end Go.Proofs.YtogamdaomdoapaaGreat.O
namespace Go.Proofs.YtogamdaomdoapaaGreat
open Go.RowKit
def nnO (v:Option Value):Nat:=if v.isSome then 0 else 1
theorem four_any {P:Program} {md:Region.Mode} {ops:Array Oper} {Q:Exit→Act→World→Prop} {S:World→Prop} {n:Nat} (M:Bool→Bool→Bool→Bool→Array Bool) (Fr:Option Value→Option Value→Option Value→Option Value→Act) (I:Option Value→Option Value→Option Value→Option Value→World→Prop) (i4 i9 i10 i11:Nat)
 (hr:∀ b4 b9 b10 b11,(b9=true→b4=true)→(b4&&b9&&b10&&b11)=false→Region.ready md ops (M b4 b9 b10 b11)=(if b4 then (if b9 then [] else [i9]) else [i4])++(if b10 then [] else [i10])++(if b11 then [] else [i11]))
 (m4:∀ b10 b11,(M false false b10 b11).setIfInBounds i4 true=M true false b10 b11)
 (m9:∀ b10 b11,(M true false b10 b11).setIfInBounds i9 true=M true true b10 b11)
 (m10:∀ b4 b9 b11,(M b4 b9 false b11).setIfInBounds i10 true=M b4 b9 true b11)
 (m11:∀ b4 b9 b10,(M b4 b9 b10 false).setIfInBounds i11 true=M b4 b9 b10 true)
 (h4:∀ v10 v11 w,I none none v10 v11 w→∀ K:Act→World→Prop,(∀ v w',S w'→I (some v) none v10 v11 w'→K (Fr (some v) none v10 v11) w')→wpOp P ops Q i4 K (Fr none none v10 v11) w)
 (h9:∀ v4 v10 v11 w,I (some v4) none v10 v11 w→∀ K:Act→World→Prop,(∀ v w',S w'→I (some v4) (some v) v10 v11 w'→K (Fr (some v4) (some v) v10 v11) w')→wpOp P ops Q i9 K (Fr (some v4) none v10 v11) w)
 (h10:∀ v4 v9 v11 w,(v9.isSome=true→v4.isSome=true)→I v4 v9 none v11 w→∀ K:Act→World→Prop,(∀ v w',S w'→I v4 v9 (some v) v11 w'→K (Fr v4 v9 (some v) v11) w')→wpOp P ops Q i10 K (Fr v4 v9 none v11) w)
 (h11:∀ v4 v9 v10 w,(v9.isSome=true→v4.isSome=true)→I v4 v9 v10 none w→∀ K:Act→World→Prop,(∀ v w',S w'→I v4 v9 v10 (some v) w'→K (Fr v4 v9 v10 (some v)) w')→wpOp P ops Q i11 K (Fr v4 v9 v10 none) w)
 (hend:∀ v4 v9 v10 v11 w,I (some v4) (some v9) (some v10) (some v11) w→wpAnyH P md ops Q S n (M true true true true) (Fr (some v4) (some v9) (some v10) (some v11)) w) :
 ∀ (k:Nat) v4 v9 v10 v11 w,nnO v4+nnO v9+nnO v10+nnO v11=k→(v9.isSome=true→v4.isSome=true)→I v4 v9 v10 v11 w→wpAnyH P md ops Q S (n+k) (M v4.isSome v9.isSome v10.isSome v11.isSome) (Fr v4 v9 v10 v11) w:=by
 intro k
 induction k with
 | zero =>
  intro v4 v9 v10 v11 w hk h94 hI
  cases v4 with
  | none=>simp [nnO] at hk
  | some v4=>cases v9 with
   | none=>simp [nnO] at hk
   | some v9=>cases v10 with
    | none=>simp [nnO] at hk
    | some v10=>cases v11 with
     | none=>simp [nnO] at hk
     | some v11=>exact hend _ _ _ _ _ hI
 | succ k ih =>
  intro v4 v9 v10 v11 w hk h94 hI
  cases v4 with
  | none=>cases v9 with
   | none=>cases v10 with
    | none=>cases v11 with
     | none =>
      refine wpAnyH_all (hr false false false false (by simp) (by simp)) (by simp) (fun i hi=>?_)
      simp at hi
      rcases hi with rfl | rfl | rfl
      ·exact h4 _ _ w hI _ (fun v w' hS hI'=>⟨hS,(m4 false false).symm▸ih (some v) none none none w' (by simp [nnO] at hk ⊢;omega) (by simp) hI'⟩)
      ·exact h10 _ _ _ w (by simp) hI _ (fun v w' hS hI'=>⟨hS,(m10 false false false).symm▸ih none none (some v) none w' (by simp [nnO] at hk ⊢;omega) (by simp) hI'⟩)
      ·exact h11 _ _ _ w (by simp) hI _ (fun v w' hS hI'=>⟨hS,(m11 false false false).symm▸ih none none none (some v) w' (by simp [nnO] at hk ⊢;omega) (by simp) hI'⟩)
     | some v11 =>
      refine wpAnyH_all (hr false false false true (by simp) (by simp)) (by simp) (fun i hi=>?_)
      simp at hi
      rcases hi with rfl | rfl
      ·exact h4 _ _ w hI _ (fun v w' hS hI'=>⟨hS,(m4 false true).symm▸ih (some v) none none (some v11) w' (by simp [nnO] at hk ⊢;omega) (by simp) hI'⟩)
      ·exact h10 _ _ _ w (by simp) hI _ (fun v w' hS hI'=>⟨hS,(m10 false false true).symm▸ih none none (some v) (some v11) w' (by simp [nnO] at hk ⊢;omega) (by simp) hI'⟩)
    | some v10=>cases v11 with
     | none =>
      refine wpAnyH_all (hr false false true false (by simp) (by simp)) (by simp) (fun i hi=>?_)
      simp at hi
      rcases hi with rfl | rfl
      ·exact h4 _ _ w hI _ (fun v w' hS hI'=>⟨hS,(m4 true false).symm▸ih (some v) none (some v10) none w' (by simp [nnO] at hk ⊢;omega) (by simp) hI'⟩)
      ·exact h11 _ _ _ w (by simp) hI _ (fun v w' hS hI'=>⟨hS,(m11 false false true).symm▸ih none none (some v10) (some v) w' (by simp [nnO] at hk ⊢;omega) (by simp) hI'⟩)
     | some v11 =>
      refine wpAnyH_all (hr false false true true (by simp) (by simp)) (by simp) (fun i hi=>?_)
      simp at hi
      subst hi
      exact h4 _ _ w hI _ (fun v w' hS hI'=>⟨hS,(m4 true true).symm▸ih (some v) none (some v10) (some v11) w' (by simp [nnO] at hk ⊢;omega) (by simp) hI'⟩)
   | some v9=>simp at h94
  | some v4=>cases v9 with
   | none=>cases v10 with
    | none=>cases v11 with
     | none =>
      refine wpAnyH_all (hr true false false false (by simp) (by simp)) (by simp) (fun i hi=>?_)
      simp at hi
      rcases hi with rfl | rfl | rfl
      ·exact h9 _ _ _ w hI _ (fun v w' hS hI'=>⟨hS,(m9 false false).symm▸ih (some v4) (some v) none none w' (by simp [nnO] at hk ⊢;omega) (by simp) hI'⟩)
      ·exact h10 _ _ _ w (by simp) hI _ (fun v w' hS hI'=>⟨hS,(m10 true false false).symm▸ih (some v4) none (some v) none w' (by simp [nnO] at hk ⊢;omega) (by simp) hI'⟩)
      ·exact h11 _ _ _ w (by simp) hI _ (fun v w' hS hI'=>⟨hS,(m11 true false false).symm▸ih (some v4) none none (some v) w' (by simp [nnO] at hk ⊢;omega) (by simp) hI'⟩)
     | some v11 =>
      refine wpAnyH_all (hr true false false true (by simp) (by simp)) (by simp) (fun i hi=>?_)
      simp at hi
      rcases hi with rfl | rfl
      ·exact h9 _ _ _ w hI _ (fun v w' hS hI'=>⟨hS,(m9 false true).symm▸ih (some v4) (some v) none (some v11) w' (by simp [nnO] at hk ⊢;omega) (by simp) hI'⟩)
      ·exact h10 _ _ _ w (by simp) hI _ (fun v w' hS hI'=>⟨hS,(m10 true false true).symm▸ih (some v4) none (some v) (some v11) w' (by simp [nnO] at hk ⊢;omega) (by simp) hI'⟩)
    | some v10=>cases v11 with
     | none =>
      refine wpAnyH_all (hr true false true false (by simp) (by simp)) (by simp) (fun i hi=>?_)
      simp at hi
      rcases hi with rfl | rfl
      ·exact h9 _ _ _ w hI _ (fun v w' hS hI'=>⟨hS,(m9 true false).symm▸ih (some v4) (some v) (some v10) none w' (by simp [nnO] at hk ⊢;omega) (by simp) hI'⟩)
      ·exact h11 _ _ _ w (by simp) hI _ (fun v w' hS hI'=>⟨hS,(m11 true false true).symm▸ih (some v4) none (some v10) (some v) w' (by simp [nnO] at hk ⊢;omega) (by simp) hI'⟩)
     | some v11 =>
      refine wpAnyH_all (hr true false true true (by simp) (by simp)) (by simp) (fun i hi=>?_)
      simp at hi
      subst hi
      exact h9 _ _ _ w hI _ (fun v w' hS hI'=>⟨hS,(m9 true true).symm▸ih (some v4) (some v) (some v10) (some v11) w' (by simp [nnO] at hk ⊢;omega) (by simp) hI'⟩)
   | some v9=>cases v10 with
    | none=>cases v11 with
     | none =>
      refine wpAnyH_all (hr true true false false (by simp) (by simp)) (by simp) (fun i hi=>?_)
      simp at hi
      rcases hi with rfl | rfl
      ·exact h10 _ _ _ w (by simp) hI _ (fun v w' hS hI'=>⟨hS,(m10 true true false).symm▸ih (some v4) (some v9) (some v) none w' (by simp [nnO] at hk ⊢;omega) (by simp) hI'⟩)
      ·exact h11 _ _ _ w (by simp) hI _ (fun v w' hS hI'=>⟨hS,(m11 true true false).symm▸ih (some v4) (some v9) none (some v) w' (by simp [nnO] at hk ⊢;omega) (by simp) hI'⟩)
     | some v11 =>
      refine wpAnyH_all (hr true true false true (by simp) (by simp)) (by simp) (fun i hi=>?_)
      simp at hi
      subst hi
      exact h10 _ _ _ w (by simp) hI _ (fun v w' hS hI'=>⟨hS,(m10 true true true).symm▸ih (some v4) (some v9) (some v) (some v11) w' (by simp [nnO] at hk ⊢;omega) (by simp) hI'⟩)
    | some v10=>cases v11 with
     | none =>
      refine wpAnyH_all (hr true true true false (by simp) (by simp)) (by simp) (fun i hi=>?_)
      simp at hi
      subst hi
      exact h11 _ _ _ w (by simp) hI _ (fun v w' hS hI'=>⟨hS,(m11 true true true).symm▸ih (some v4) (some v9) (some v10) (some v) w' (by simp [nnO] at hk ⊢;omega) (by simp) hI'⟩)
     | some v11 =>
      simp [nnO] at hk
theorem takeD {P:Program} {md:Region.Mode} {ops:Array Oper} {Q:Exit→Act→World→Prop} {S:World→Prop} {i:Nat} {oi:Oper} {v:Value} {fuel:Nat} {listed:Array Bool} {a:Act} {w:World} (s:Tmp) (hi:ops[i]?=some oi) (hd:oi.dst=some s)
 (hs:Region.noSelect ops=true) (hf:Region.free md ops listed i=true) (hr:(Region.ready md ops listed).contains i=true)
 (hQ:∀ c a w,Q (.panic c) (a.put oi.dst v) w→Q (.panic c) a w) (hy:YieldsIf P ops S oi v a) (hS:S w)
 (h:wpAnyH P md ops Q S fuel (listed.setIfInBounds i true) (a.put (some s) v) w):wpAnyH P md ops Q S (fuel+1) listed a w :=
 wpAnyH_take hi hs hf hr hQ hy hS (by rw [hd];exact h)
def putO (a:Act) (s:Tmp):Option Value→Act
 | none=>a
 | some v=>a.put (some s) v
def frO (a:Act) (s4 s9 s10 s11:Tmp) (v4 v9 v10 v11:Option Value):Act:=putO (putO (putO (putO a s4 v4) s9 v9) s10 v10) s11 v11
theorem four_at {P:Program} {md:Region.Mode} {ops:Array Oper} {Q:Exit→Act→World→Prop} {S:World→Prop} {n:Nat} {a:Act} {w0:World} (s4 s9 s10 s11:Tmp) (M:Bool→Bool→Bool→Bool→Array Bool) (I:Option Value→Option Value→Option Value→Option Value→World→Prop) (i4 i9 i10 i11:Nat)
 (hr:∀ b4 b9 b10 b11,(b9=true→b4=true)→(b4&&b9&&b10&&b11)=false→Region.ready md ops (M b4 b9 b10 b11)=(if b4 then (if b9 then [] else [i9]) else [i4])++(if b10 then [] else [i10])++(if b11 then [] else [i11]))
 (m4:∀ b10 b11,(M false false b10 b11).setIfInBounds i4 true=M true false b10 b11)
 (m9:∀ b10 b11,(M true false b10 b11).setIfInBounds i9 true=M true true b10 b11)
 (m10:∀ b4 b9 b11,(M b4 b9 false b11).setIfInBounds i10 true=M b4 b9 true b11)
 (m11:∀ b4 b9 b10,(M b4 b9 b10 false).setIfInBounds i11 true=M b4 b9 b10 true)
 (h0:I none none none none w0)
 (h4:∀ v10 v11 w,I none none v10 v11 w→∀ K:Act→World→Prop,(∀ v w',S w'→I (some v) none v10 v11 w'→K (frO a s4 s9 s10 s11 (some v) none v10 v11) w')→wpOp P ops Q i4 K (frO a s4 s9 s10 s11 none none v10 v11) w)
 (h9:∀ v4 v10 v11 w,I (some v4) none v10 v11 w→∀ K:Act→World→Prop,(∀ v w',S w'→I (some v4) (some v) v10 v11 w'→K (frO a s4 s9 s10 s11 (some v4) (some v) v10 v11) w')→wpOp P ops Q i9 K (frO a s4 s9 s10 s11 (some v4) none v10 v11) w)
 (h10:∀ v4 v9 v11 w,(v9.isSome=true→v4.isSome=true)→I v4 v9 none v11 w→∀ K:Act→World→Prop,(∀ v w',S w'→I v4 v9 (some v) v11 w'→K (frO a s4 s9 s10 s11 v4 v9 (some v) v11) w')→wpOp P ops Q i10 K (frO a s4 s9 s10 s11 v4 v9 none v11) w)
 (h11:∀ v4 v9 v10 w,(v9.isSome=true→v4.isSome=true)→I v4 v9 v10 none w→∀ K:Act→World→Prop,(∀ v w',S w'→I v4 v9 v10 (some v) w'→K (frO a s4 s9 s10 s11 v4 v9 v10 (some v)) w')→wpOp P ops Q i11 K (frO a s4 s9 s10 s11 v4 v9 v10 none) w)
 (hend:∀ v4 v9 v10 v11 w,I (some v4) (some v9) (some v10) (some v11) w→wpAnyH P md ops Q S n (M true true true true) (frO a s4 s9 s10 s11 (some v4) (some v9) (some v10) (some v11)) w) :
 wpAnyH P md ops Q S (n+4) (M false false false false) a w0 :=
 four_any M (frO a s4 s9 s10 s11) I i4 i9 i10 i11 hr m4 m9 m10 m11 h4 h9 h10 h11 hend 4 none none none none w0 rfl (by simp) h0
end Go.Proofs.YtogamdaomdoapaaGreat