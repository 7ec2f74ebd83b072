/- Texts put together: OMay. -/
import Derived.Test.YtogamdaomdoapaaGreatGa10
import Derived.Test.YtogamdaomdoapaaGreatGa12
import Derived.Test.YtogamdaomdoapaaGreatGa13
import Derived.Laws.EntriesVeiled
namespace Go.Proofs.YtogamdaomdoapaaGreat.O
open Go.Value renaming int→aI,string→aS,bool→aB
open Go.IntKind renaming i64→aK
open List renaming setIfInBounds_toArray→lA,set_cons_zero→lZ,set_cons_succ→lS
open Bool renaming eq_false_or_eq_true→bE
open Go.Lib renaming hid→uH
open Go.RowKit Go.Maps
set_option maxRecDepth 20000
theorem x0x {l:List Zn} {k:Nat} (hk:k<l.length) (hz:l[k].nw≠0) (x:Int):(if x=l[k].nw then fcnt (l.take k) l[k].nw+1 else fcnt (l.take k) x)=fcnt (l.take (k+1)) x:=by
 unfold fcnt
 rw [List.take_succ_eq_append_getElem hk,h0d]
 by_cases e:x=l[k].nw
 ·subst e
  rw [if_pos rfl,if_neg hz,if_neg hz]
  simp [cntN]
 ·rw [if_neg e]
  by_cases h0:x=0
  ·rw [if_pos h0,if_pos h0]
  ·rw [if_neg h0,if_neg h0]
   have:cntN [l[k]] x=0:=k0e fun z hz=>by
    obtain rfl:=List.mem_singleton.1 hz
    exact fun h=>e h.symm
   rw [this];simp
theorem x0w {l:List Zn} {k:Nat} (hk:k<l.length) (hz:l[k].nw=0) (x:Int):fcnt (l.take k) x=fcnt (l.take (k+1)) x:=by
 unfold fcnt
 rw [List.take_succ_eq_append_getElem hk,h0d]
 by_cases h0:x=0
 ·rw [if_pos h0,if_pos h0]
 ·rw [if_neg h0,if_neg h0]
  have:cntN [l[k]] x=0:=k0e fun z hz=>by
   obtain rfl:=List.mem_singleton.1 hz
   omega
  rw [this];simp
theorem fcnt_le (l:List Zn) (x:Int):0≤fcnt l x∧fcnt l x≤l.length:=by
 unfold fcnt
 split
 ·omega
 ·have:cntN l x≤l.length:=List.length_filter_le _ _
  omega
theorem m0t {n:Int} (h0:0≤n) (h1:n≤4611686018427387904):(Lit.int .i64 n).wf=true:=WalkArith.wf_i64 (by omega)
set_option maxHeartbeats 4000000 in
theorem w0p (ao:Option Addr) (zc:Nat) (m:Mp) (w:World) (hm:m.zs.length≤1000000) (h:o0x m=false) :
 Calls Tryz.prog 125 #[.agg #[aI aK m.ver,aI aK m.next,.slice ao m.zs.length zc]] w fun e w'=>e=.returned (aB (pMay m))∧Below w.heap.size w w':=by
 have HR:Hid (pMay m=false):=by unfold pMay;rw [h];exact uH rfl
 obtain ⟨n,hn⟩:∃ n,n=m.zs.length:=⟨_,rfl⟩
 obtain ⟨nx,hnx⟩:∃ nx,nx=m.next:=⟨_,rfl⟩
 obtain ⟨ver,hver⟩:∃ ver,ver=m.ver:=⟨_,rfl⟩
 obtain ⟨bv,hbv⟩:∃ b,decide (1≤ver∧ver≤1099511627776)=b:=⟨_,rfl⟩
 obtain ⟨bn,hbn⟩:∃ b,decide (1≤nx∧nx≤1099511627776)=b:=⟨_,rfl⟩
 have Hv:=uH (fun w=>d0v ver w bv hbv)
 have Hnx:=uH (fun w=>d0v nx w bn hbn)
 have hh:(bv&&(bn&&(!decide ((n:Int)<1)&&!decide ((16:Int)<n))))=false:=by
  rw [←hbv,←hbn,←h,Bool.eq_iff_iff]
  unfold o0x
  rw [←hn,←hnx,←hver]
  simp only [Bool.and_eq_true,Bool.not_eq_true',decide_eq_true_eq,decide_eq_false_iff_not]
  omega
 rw [←hn] at hm ⊢
 rw [←hnx,←hver]
 clear hn hnx hver hbv hbn h
 cases bv with
 | false=>(go_enter Tryz.func125,Tryz.ntmps125;(go_wp2_with fail);(refine (Hv.out _).mono ?_);(rintro e w1 ⟨rfl,rfl⟩);(go_wp2_with fail); go_ret;exact ⟨by rw [HR.out];rfl,bg⟩)
 | true =>
  cases bn with
  | false=>(go_enter Tryz.func125,Tryz.ntmps125;(go_wp2_with fail);(refine (Hv.out _).mono ?_);(rintro e w1 ⟨rfl,rfl⟩);(go_wp2_with fail);(refine (Hnx.out _).mono ?_);(rintro e w1 ⟨rfl,rfl⟩);(go_wp2_with fail);go_ret;exact ⟨by rw [HR.out];rfl,bg⟩)
  | true =>
   rcases bE (decide ((n:Int)<1)) with t1 | t1
   ·clear hh
    (go_enter Tryz.func125,Tryz.ntmps125;(go_wp2_with fail);(refine (Hv.out _).mono ?_);(rintro e w1 ⟨rfl,rfl⟩);(go_wp2_with fail);(refine (Hnx.out _).mono ?_);(rintro e w1 ⟨rfl,rfl⟩);(go_wp2_with fail);go_ret;exact ⟨by rw [HR.out];rfl,bg⟩)
   ·rcases bE (decide ((16:Int)<n)) with t2 | t2
    ·clear hh
     (go_enter Tryz.func125,Tryz.ntmps125;(go_wp2_with fail);(refine (Hv.out _).mono ?_);(rintro e w1 ⟨rfl,rfl⟩);(go_wp2_with fail);(refine (Hnx.out _).mono ?_);(rintro e w1 ⟨rfl,rfl⟩);(go_wp2_with fail);go_ret;exact ⟨by rw [HR.out];rfl,bg⟩)
    ·rw [t1,t2] at hh;cases hh
theorem zone_no {m:Mp} {i:Nat} (hi:i<m.zs.length) (h:j0a m i m.zs[i]=false):pAll m=false:=by
 unfold pAll
 rw [List.all_eq_false]
 exact ⟨i,by simpa using hi,by rw [getD_at hi,h];simp⟩
theorem okNext {m:Mp} {i:Nat} (hi:i<m.zs.length) (h:∀ j (hj:j<m.zs.length),j<i→j0a m j m.zs[j]=true) (hz:j0a m i m.zs[i]=true):∀ j (hj:j<m.zs.length),j<i+1→j0a m j m.zs[j]=true:=fun j hj hji=>by
 by_cases e:j=i
 ·subst e;exact hz
 ·exact h j hj (by omega)
set_option maxHeartbeats 4000000 in
theorem w0o {g o zc:Nat} {m:Mp} {w:World} (h:ZnO w g o m.zs) (hp:o0x m=true) (hw:∀ z∈m.zs,0≤z.nw∧z.nw≤4611686018427387904) :
 Calls Tryz.prog 125 #[.agg #[aI aK m.ver,aI aK m.next,.slice (some ⟨g,o,none⟩) m.zs.length zc]] w fun e w'=>e=.returned (aB (pMay m))∧Below w.heap.size w w':=by
 have hg:=h.lt
 have Hz:=uH h
 obtain ⟨i0,hii,hz0,hz1,hz2⟩:=info_parts r0v
 obtain ⟨n,hn⟩:∃ n,n=m.zs.length:=⟨_,rfl⟩
 obtain ⟨nx,hnx⟩:∃ nx,nx=m.next:=⟨_,rfl⟩
 obtain ⟨ver,hver⟩:∃ ver,ver=m.ver:=⟨_,rfl⟩
 have hpp:=hp
 unfold o0x at hpp
 rw [decide_eq_true_eq,←hn,←hnx,←hver] at hpp
 obtain ⟨p1,p2,p3,p4,p5,p6⟩:=hpp
 have hv:=fun w=>d0v ver w true (by rw [decide_eq_true_eq];exact ⟨p1,p2⟩)
 have hnm:=fun w=>d0v nx w true (by rw [decide_eq_true_eq];exact ⟨p3,p4⟩)
 obtain ⟨sl,hsl⟩:∃ sl,sl=m.zs.map spz:=⟨_,rfl⟩
 have Hv:=uH hv
 have Hnm:=uH hnm
 have e1:decide ((n:Int)<1)=false:=by rw [decide_eq_false_iff_not];omega
 have e2:decide ((16:Int)<n)=false:=by rw [decide_eq_false_iff_not];omega
 rw [←hn,←hnx,←hver]
 have Hn:=uH hn
 have Hx:=uH hnx
 have Hver:=uH hver
 have Hsl:=uH hsl
 have Hw:=uH hw
 have Hp:=uH hp
 have hmm:=@run_makeMap Tryz.prog
 clear h hn hnx hver hv hnm hsl hp hw p1 p2 p3 p4
 go_enter Tryz.func125,Tryz.ntmps125
 go_wp2_with fail
 refine (Hv.out _).mono ?_
 rintro e w1 ⟨rfl,rfl⟩
 go_wp2_with fail
 refine (Hnm.out _).mono ?_
 rintro e w1 ⟨rfl,rfl⟩
 go_wp2_with fail
 refine a0d fun wa hwa=>?_
 have SA:Hid (St w wa [c0f w.heap.size 37 2 none (0) 0 (flat (sl.take (0))),l0r (w.heap.size+1) (0) (fcnt (m.zs.take (0))),a0c (w.heap.size+1+1) (.cells #[aI aK ver,aI aK nx,.slice (some ⟨g,o,none⟩) n zc,.map (some (w.heap.size+1))] 197),a0c w.heap.size (.cells #[aI aK ver,aI aK nx,.slice (some ⟨g,o,none⟩) n zc] 44)]):=by
  rw [hwa]
  have s0:=(St.start w).objN (.cells #[aI aK ver,aI aK nx,.slice (some ⟨g,o,none⟩) n zc] 44) w.heap.size rfl
  have s1:=s0.new (a0p _ (.map #[] 0)) (l0r (w.heap.size+1) 0 (fcnt (m.zs.take 0))) (by
   have:=e0i.new (w.alloc (.cells #[aI aK ver,aI aK nx,.slice (some ⟨g,o,none⟩) n zc] 44))
   rw [show (w.alloc (.cells #[aI aK ver,aI aK nx,.slice (some ⟨g,o,none⟩) n zc] 44)).heap.size=w.heap.size+1 from by simp] at this
   exact this.congr fun x=>by simp [fcnt,cntN]) (fun x hx=>by
    have hx:x=w.heap.size+1:=hx
    rw [hx];simp)
  have s2:=s1.objN (.cells #[aI aK ver,aI aK nx,.slice (some ⟨g,o,none⟩) n zc,.map (some (w.heap.size+1))] 197) (w.heap.size+1+1) (by simp)
  exact uH ((s2.perm (List.Perm.swap _ _ _)).m0h _ _)
 clear hwa
 go_loopw [4,39] (fun s4 s39 wr=>∃ (k:Nat) (ao:Option Addr) (cap:Nat),s39=aI aK k∧s4=.slice ao k cap∧k≤n∧Hid (St w wr [c0f w.heap.size 37 2 ao (k) cap (flat (sl.take (k))),l0r (w.heap.size+1) (k) (fcnt (m.zs.take (k))),a0c (w.heap.size+1+1) (.cells #[aI aK ver,aI aK nx,.slice (some ⟨g,o,none⟩) n zc,.map (some (w.heap.size+1))] 197),a0c w.heap.size (.cells #[aI aK ver,aI aK nx,.slice (some ⟨g,o,none⟩) n zc] 44)])) (fun _ s39 _=>n - (intOf s39).toNat)
 case atStart=>exact ⟨0,none,0,rfl,rfl,by omega,SA⟩
 case round =>
  obtain ⟨k,ao,cap,rfl,rfl,hk,S1⟩:=hrel
  clear SA
  by_cases hlt:k<n
  ·have hl1:k<m.zs.length:=by have:=Hn.out;omega
   obtain ⟨z,hy⟩:∃ z,z=m.zs[k]:=⟨_,rfl⟩
   have hzw:=Hw.out z (by rw [hy];exact List.getElem_mem hl1)
   have hgr:g<wr.heap.size:=Nat.lt_of_lt_of_le hg S1.out.b.size
   obtain ⟨f0,f1,f2,f3,f4,f5,f6,f7,f8⟩:=(Hz.out.grow S1.out.b).nine k hl1 z hy
   have Hy:=uH hy
   have hrow:wr.ownsRow w.heap.size 37 2 (.slice ao k cap) k (flat (sl.take k)):=S1.out.head
   have hws:=S1.out.b.size
   clear hy
   go_wp2_with (at_builtin;go_must (refine a0h _ rfl (.tmp 43) (.tmp 46) 122 rfl w.heap.size 37 i0 (.agg #[aS ⟨#[]⟩,aS ⟨#[]⟩]) 2 32 Tryz.underlying122 hii hz0 hz1 hz2 rfl (by decide) ao k cap _ rfl ((hrow.alloc _).alloc _) (some ⟨wr.heap.size+1,0,none⟩) 1 1 [aS z.fr,aS z.to] rfl (fun h=>by cases h) rfl (o0e _ _ (by simp) _ _ _) (by intro u hu;simp only [List.mem_cons,List.not_mem_nil,or_false] at hu;rcases hu with rfl | rfl<;>rfl) (by unfold maxLen;omega) (by omega) (by simp;omega) ?_))
   intro co c' w2 hown hgrow hco
   obtain ⟨bx,hbx⟩:∃ bx,bx=wr.heap.size:=⟨_,rfl⟩
   have S2:Hid (St w w2 [a0c bx (.cells #[aI aK z.id,aS z.fr,aS z.to,aI aK z.owner,aI aK z.epoch,aI aK z.pend,aI aK z.tt,aS z.key,aI aK z.nw] 125),l0r (w.heap.size+1) k (fcnt (m.zs.take k)),c0f w.heap.size 37 2 co (k+1) c' (flat (sl.take (k+1))),a0c (w.heap.size+1+1) (.cells #[aI aK ver,aI aK nx,.slice (some ⟨g,o,none⟩) n zc,.map (some (w.heap.size+1))] 197),a0c w.heap.size (.cells #[aI aK ver,aI aK nx,.slice (some ⟨g,o,none⟩) n zc] 44)]):=by
    have s1:=S1.out.objN (.cells #[aI aK z.id,aS z.fr,aS z.to,aI aK z.owner,aI aK z.epoch,aI aK z.pend,aI aK z.tt,aS z.key,aI aK z.nw] 125) bx hbx
    have s2:=s1.objN (.cells #[aS z.fr,aS z.to] 37) (wr.heap.size+1) (by simp)
    have s4:=(s2.pull (A:=[_,_])).g0a (m:=1) hown hgrow (fun a ha=>(hco a ha).imp id (fun h=>by simp;omega))
    rw [r0s Hsl.out hl1,←Hy.out]
    exact uH ((s4.pull (A:=[_])).drop.perm (by
     refine (List.Perm.swap _ _ _).trans (List.Perm.cons _ (List.Perm.swap _ _ _))))
   obtain ⟨hb1,hb2,-⟩:=S2.out.cells (t:=125) (b:=bx) (cur:=#[aI aK z.id,aS z.fr,aS z.to,aI aK z.owner,aI aK z.epoch,aI aK z.pend,aI aK z.tt,aS z.key,aI aK z.nw]) (by simp)
   obtain ⟨hk1,hk2,-⟩:=S2.out.cells (t:=197) (b:=w.heap.size+1+1) (cur:=#[aI aK ver,aI aK nx,.slice (some ⟨g,o,none⟩) n zc,.map (some (w.heap.size+1))]) (by simp)
   have hbxl:w.heap.size+1+1<bx:=by rw [hbx];exact (S1.out.cells (t:=197) (b:=w.heap.size+1+1) (cur:=#[aI aK ver,aI aK nx,.slice (some ⟨g,o,none⟩) n zc,.map (some (w.heap.size+1))]) (by simp)).1
   rw [←hbx]
   clear hown hgrow hco S1 hrow f0 f1 f2 f3 f4 f5 f6 f7 f8 hgr hbx
   by_cases h0:z.nw=0
   ·have e3:(z.nw != 0)=false:=by rw [h0];rfl
    have S3:Hid (St w w2 [c0f w.heap.size 37 2 co (k+1) c' (flat (sl.take (k+1))),l0r (w.heap.size+1) (k+1) (fcnt (m.zs.take (k+1))),a0c (w.heap.size+1+1) (.cells #[aI aK ver,aI aK nx,.slice (some ⟨g,o,none⟩) n zc,.map (some (w.heap.size+1))] 197),a0c w.heap.size (.cells #[aI aK ver,aI aK nx,.slice (some ⟨g,o,none⟩) n zc] 44)]):=by
     have s1:=(S2.out.drop.step (Keeps.refl w2 _) (l0r (w.heap.size+1) (k+1) (fcnt (m.zs.take (k+1)))) ((show e0i _ _ _ _ from S2.out.drop.head).congr (fun x=>x0w hl1 (by rw [←Hy.out];exact h0) x) |>.mono (Nat.le_succ _)) (fun x hx=>.inl hx))
     exact uH (s1.perm (List.Perm.swap _ _ _))
    clear h0 S2
    go_wp2_with fail
    go_roundw
    case rel=>exact ⟨k+1,co,c',by go_num,rfl,by omega,S3⟩
    case measure=>simp [intOf];omega
   ·have e3:(z.nw != 0)=true:=by rw [bne_iff_ne];exact h0
    go_wp2_with fail
    refine a0d fun wb hwb=>?_
    subst hwb
    have S3:=uH (S2.out.grow (w':=wb.drew) (Below.refl _ _).drew)
    have HC:Hid ((fun W:World=>W.cell? ⟨bx,8,none⟩=some (aI aK z.nw)∧W.cell? ⟨w.heap.size+1+1,3,none⟩=some (.map (some (w.heap.size+1)))∧bx<W.heap.size∧w.heap.size+1+1<W.heap.size) wb.drew):=uH ⟨hb2 8,hk2 3,hb1,hk1⟩
    have hcn:e0i wb.drew (w.heap.size+1) k (fcnt (m.zs.take k)):=S3.out.drop.head
    have hwf:=m0t hzw.1 hzw.2
    have hlk:=hcn.look z.nw hwf
    obtain ⟨hc0,hc1⟩:=fcnt_le (m.zs.take k) z.nw
    have hlt2:(m.zs.take k).length≤n:=by rw [List.length_take,Hn.out];omega
    have hadd:IntKind.i64.wrap (fcnt (m.zs.take k) z.nw+1)=fcnt (m.zs.take k) z.nw+1:=by rw [IntKind.wrap_i64];omega
    obtain ⟨w3,hrun,hcn3,hkp⟩:=hcn.put (by omega) z.nw (fcnt (m.zs.take k) z.nw+1) hwf (m0t (by omega) (by omega))
    obtain ⟨cv,hcv⟩:∃ cv,cv=fcnt (m.zs.take k) z.nw:=⟨_,rfl⟩
    rw [←hcv] at hlk hrun hadd
    have S4:Hid (St w w3 [c0f w.heap.size 37 2 co (k+1) c' (flat (sl.take (k+1))),l0r (w.heap.size+1) (k+1) (fcnt (m.zs.take (k+1))),a0c (w.heap.size+1+1) (.cells #[aI aK ver,aI aK nx,.slice (some ⟨g,o,none⟩) n zc,.map (some (w.heap.size+1))] 197),a0c w.heap.size (.cells #[aI aK ver,aI aK nx,.slice (some ⟨g,o,none⟩) n zc] 44)]):=by
     have hcn4:e0i w3 (w.heap.size+1) (k+1) (fcnt (m.zs.take (k+1))):=hcn3.congr fun x=>by
      have:=x0x hl1 (by rw [←Hy.out];exact h0) x
      rw [←Hy.out] at this
      exact this
     have s1:=S3.out.drop.step hkp (l0r (w.heap.size+1) (k+1) (fcnt (m.zs.take (k+1)))) hcn4 (fun x hx=>.inl hx)
     exact uH (s1.perm (List.Perm.swap _ _ _))
    have HC3:Hid ((fun W:World=>W.cell? ⟨bx,8,none⟩=some (aI aK z.nw)∧W.cell? ⟨w.heap.size+1+1,3,none⟩=some (.map (some (w.heap.size+1)))∧bx<W.heap.size∧w.heap.size+1+1<W.heap.size) w3):=uH ⟨(hkp.cell (p:=⟨bx,8,none⟩) hb1 (fun e=>by have:=e;simp only at this;omega)).trans (hb2 8),(hkp.cell (p:=⟨w.heap.size+1+1,3,none⟩) hk1 (fun e=>by simp only at e;omega)).trans (hk2 3),Nat.lt_of_lt_of_le hb1 hkp.size,Nat.lt_of_lt_of_le hk1 hkp.size⟩
    clear S2 S3 hcn hcn3 hkp hc0 hc1 hlt2 hwf hcv hb2 hk2 hzw
    refine wp_region_noPanic ?_
    refine wp_region_held (S:=(fun W:World=>W.cell? ⟨bx,8,none⟩=some (aI aK z.nw)∧W.cell? ⟨w.heap.size+1+1,3,none⟩=some (.map (some (w.heap.size+1)))∧bx<W.heap.size∧w.heap.size+1+1<W.heap.size)) (by kernel_rfl) ?_
    change wpAnyH _ _ _ _ _ _ _ _ (World.drew _)
    (refine takeD (i:=0) (v:=?v0x51) 51 rfl rfl (by kernel_rfl) (by kernel_rfl) (by kernel_rfl) (fun _ _ _ h=>h) (Or.inl ⟨by rfl,?hy0x51⟩) HC.out ?rest0x51;(case hy0x51=>(intro w hSw;(obtain ⟨t0,t1,t2,t3⟩:=hSw);go_simp;(try with_reducible rfl)));(try simp only [Act.put,lA,lZ,lS]))
    (refine takeD (i:=4) (v:=?v4x55) 55 rfl rfl (by kernel_rfl) (by kernel_rfl) (by kernel_rfl) (fun _ _ _ h=>h) (Or.inl ⟨by rfl,?hy4x55⟩) HC.out ?rest4x55;(case hy4x55=>(intro w hSw;(obtain ⟨t0,t1,t2,t3⟩:=hSw);go_simp;(try with_reducible rfl)));(try simp only [Act.put,lA,lZ,lS]))
    (refine takeD (i:=5) (v:=?v5x56) 56 rfl rfl (by kernel_rfl) (by kernel_rfl) (by kernel_rfl) (fun _ _ _ h=>h) (Or.inl ⟨by rfl,?hy5x56⟩) HC.out ?rest5x56;(case hy5x56=>(intro w hSw;(obtain ⟨t0,t1,t2,t3⟩:=hSw);go_simp;(try with_reducible rfl)));(try simp only [Act.put,lA,lZ,lS]))
    (refine oneD 1 rfl (fun K' hK'=>?_))
    go_simp
    refine hK' _ _ ⟨HC.out,?_⟩
    clear hK' K'
    try simp only [Act.put,lA,lZ,lS]
    (refine takeD (i:=2) (v:=?v2x53) 53 rfl rfl (by kernel_rfl) (by kernel_rfl) (by kernel_rfl) (fun _ _ _ h=>h) (Or.inl ⟨by rfl,?hy2x53⟩) HC.out ?rest2x53;(case hy2x53=>(intro w hSw;(obtain ⟨t0,t1,t2,t3⟩:=hSw);go_simp;(try with_reducible rfl)));(try simp only [Act.put,lA,lZ,lS]))
    (refine takeD (i:=3) (v:=?v3x54) 54 rfl rfl (by kernel_rfl) (by kernel_rfl) (by kernel_rfl) (fun _ _ _ h=>h) (Or.inl ⟨by rfl,?hy3x54⟩) HC.out ?rest3x54;(case hy3x54=>(intro w hSw;(obtain ⟨t0,t1,t2,t3⟩:=hSw);go_simp;(try with_reducible rfl)));(try simp only [Act.put,lA,lZ,lS]))
    (refine oneD 6 rfl (fun K' hK'=>?_))
    go_simp
    refine hK' _ _ ⟨HC.out,?_⟩
    clear hK' K'
    try simp only [Act.put,lA,lZ,lS]
    (refine takeD (i:=7) (v:=?v7x58) 58 rfl rfl (by kernel_rfl) (by kernel_rfl) (by kernel_rfl) (fun _ _ _ h=>h) (Or.inl ⟨by rfl,?hy7x58⟩) HC.out ?rest7x58;(case hy7x58=>(intro w hSw;(obtain ⟨t0,t1,t2,t3⟩:=hSw);go_simp;(try with_reducible rfl)));(try simp only [Act.put,lA,lZ,lS]))
    (refine oneD 8 rfl (fun K' hK'=>?_))
    go_simp
    refine hK' _ _ ⟨HC3.out,?_⟩
    clear hK' K'
    refine wpAnyH_done (by kernel_rfl) ?_ _
    refine NoPanic.normal ?_
    go_wp2_with fail
    go_roundw
    case rel=>exact ⟨k+1,co,c',by go_num,rfl,by omega,S4⟩
    case measure=>simp [intOf];omega
  ·obtain rfl:n=k:=by omega
   have hsln:sl.length=n:=by rw [Hsl.out,List.length_map,Hn.out]
   have hrow:wr.ownsRow w.heap.size 37 2 (.slice ao n cap) n (flat sl):=by
    have:wr.ownsRow w.heap.size 37 2 (.slice ao n cap) n (flat (sl.take n)):=S1.out.head
    rwa [←hsln,List.take_length,hsln] at this
   obtain ⟨gg,cc,hv,hsr,hbg,hgl⟩:=s0p hrow hsln.symm (by omega)
   simp only [Value.slice.injEq,true_and] at hv
   obtain ⟨rfl,rfl⟩:=hv
   obtain ⟨hb1,hb2,-⟩:=S1.out.cells (t:=44) (b:=w.heap.size) (cur:=#[aI aK ver,aI aK nx,.slice (some ⟨g,o,none⟩) n zc]) (by simp)
   have hall:=m0v gg 0 cap sl wr (by omega) hsr (by omega) hgl
   obtain ⟨q,hq⟩:∃ q,q=sAll sl:=⟨_,rfl⟩
   rw [hsln,←hq] at hall
   have Hq:=uH hq
   clear hrow hsr hbg hgl hq hsln
   go_wp2_with fail
   refine hall.mono ?_
   rintro e w2 ⟨rfl,hb3⟩
   have S2:=uH (S1.out.grow hb3)
   clear hall hb3 S1 hb1 hb2
   cases q with
   | false =>
    have HR:Hid (pMay m=false):=by unfold pMay;rw [←Hsl.out,←Hq.out];simp [Hid]
    go_wp2_with fail
    go_ret
    exact ⟨by rw [HR.out];rfl,S2.out.b⟩
   | true =>
    have HR:Hid (pMay m=pAll m):=by unfold pMay;rw [←Hsl.out,←Hq.out,Hp.out];simp [Hid]
    obtain ⟨hb1,hb2,-⟩:=S2.out.cells (t:=44) (b:=w.heap.size) (cur:=#[aI aK ver,aI aK nx,.slice (some ⟨g,o,none⟩) n zc]) (by simp)
    go_wp2_with fail
    refine a0d fun wa2 hwa2=>?_
    have S3:Hid (St w wa2 (a0c w2.heap.size (.cells #[.func (.func 140) #[] #[],.func (.func 141) #[] #[],.func (.func 142) #[] #[],.func (.func 143) #[] #[]] 200)::[c0f w.heap.size 37 2 (some ⟨gg,0,none⟩) (n) cap (flat (sl.take (n))),l0r (w.heap.size+1) (n) (fcnt (m.zs.take (n))),a0c (w.heap.size+1+1) (.cells #[aI aK ver,aI aK nx,.slice (some ⟨g,o,none⟩) n zc,.map (some (w.heap.size+1))] 197),a0c w.heap.size (.cells #[aI aK ver,aI aK nx,.slice (some ⟨g,o,none⟩) n zc] 44)])):=by
     rw [hwa2]
     exact uH (S2.out.objN _ _ rfl)
    obtain ⟨F,hF⟩:∃ F,F=w2.heap.size:=⟨_,rfl⟩
    rw [←hF] at S3 ⊢
    clear hwa2 hF S2 hb1 hb2 hmm hg
    have hck:CkAt wa2 (w.heap.size+1+1) (w.heap.size+1) g o zc m (fcnt m.zs):=by
     obtain ⟨q1,q2,-⟩:=S3.out.cells (t:=197) (b:=w.heap.size+1+1) (cur:=#[aI aK ver,aI aK nx,.slice (some ⟨g,o,none⟩) n zc,.map (some (w.heap.size+1))]) (by simp)
     have q3:e0i wa2 (w.heap.size+1) n (fcnt (m.zs.take n)):=S3.out.mem (t:=l0r (w.heap.size+1) n (fcnt (m.zs.take n))) (by simp)
     rw [Hn.out,List.take_length] at q3
     refine ⟨by rw [←Hver.out];exact q2 0,by rw [←Hx.out];exact q2 1,by rw [←Hn.out];exact q2 2,q2 3,q1,q3.mono (by rw [←Hn.out];omega),Hz.out.grow S3.out.b⟩
    have Hck:=uH hck
    obtain ⟨u0,u1,-⟩:=S3.out.cells (t:=44) (b:=w.heap.size) (cur:=#[aI aK ver,aI aK nx,.slice (some ⟨g,o,none⟩) n zc]) (by simp)
    obtain ⟨v0,v1,-⟩:=S3.out.cells (t:=200) (b:=F) (cur:=#[.func (.func 140) #[] #[],.func (.func 141) #[] #[],.func (.func 142) #[] #[],.func (.func 143) #[] #[]]) (by simp)
    have Hc:=uH (⟨⟨u0,u1 0,u1 1,u1 2⟩,v0,v1 0,v1 1,v1 2,v1 3⟩:(w.heap.size<wa2.heap.size∧_∧_∧_)∧F<wa2.heap.size∧_∧_∧_∧_)
    have Hwa:=uH S3.out.b
    clear hck u0 u1 v0 v1 S3
    go_loopw [67] (fun s67 wr=>∃ i:Nat,s67=aI aK i∧i≤n∧Hid (∀ j (hj:j<m.zs.length),j<i→j0a m j m.zs[j]=true)∧Hid (Below wa2.heap.size wa2 wr)) (fun s67 _=>n - (intOf s67).toNat)
    case atStart=>exact ⟨0,rfl,by omega,uH (fun j _ hj=>by omega),uH (Below.refl _ _)⟩
    case round =>
     obtain ⟨i,rfl,hi,Hok,Hb⟩:=hrel
     have wr_b:=Hwa.out.trans (Hb.out.mono Hwa.out.size)
     by_cases hlt:i<n
     ·have hl1:i<m.zs.length:=by have:=Hn.out;omega
      have hzw:=Hw.out m.zs[i] (List.getElem_mem hl1)
      have hpz:=fun (h:j0a m i m.zs[i]=false)=>zone_no (m:=m) hl1 h
      have hpo:=fun (h:j0a m i m.zs[i]=true)=>okNext hl1 Hok.out h
      obtain ⟨f0,f1,f2,f3,f4,f5,f6,f7,f8⟩:=(Hz.out.grow wr_b).nine i hl1 _ rfl
      obtain ⟨zid,fr,to,owner,epoch,pend,tt,key,nw,hz⟩:∃ zid fr to owner epoch pend tt key nw,m.zs[i]=(⟨zid,fr,to,owner,epoch,pend,tt,key,nw⟩:Zn):=⟨_,_,_,_,_,_,_,_,_,rfl⟩
      rw [hz] at hzw hpz hpo f0 f1 f2 f3 f4 f5 f6 f7 f8
      dsimp only at hzw f0 f1 f2 f3 f4 f5 f6 f7 f8
      have hwf:=m0t hzw.1 hzw.2
      have hgr:g<wr.heap.size:=Nat.lt_of_lt_of_le Hz.out.lt wr_b.size
      obtain ⟨xc,-⟩:=a0w Hb.out
      obtain ⟨⟨u0,u1,u2,u3⟩,v0,v1,v2,v3,v4⟩:=Hc.out
      have q1:=(xc _ _ u0).trans u1
      have q2:=(xc _ _ u0).trans u2
      have q3:=(xc _ _ u0).trans u3
      have s0:=(xc _ _ v0).trans v1
      have s1:=(xc _ _ v0).trans v2
      have s2:=(xc _ _ v0).trans v3
      have s3:=(xc _ _ v0).trans v4
      have w0:w.heap.size<wr.heap.size:=Nat.lt_of_lt_of_le u0 Hb.out.size
      have w4:F<wr.heap.size:=Nat.lt_of_lt_of_le v0 Hb.out.size
      obtain ⟨k,hk⟩:∃ k,k=fz m.zs zid:=⟨_,rfl⟩
      obtain ⟨be,hbe⟩:∃ b,decide (1≤epoch∧epoch≤1099511627776)=b:=⟨_,rfl⟩
      have hfd:=fun (w3:World) (hb:Below w.heap.size w w3)=>n0s (zc:=zc) (Hz.out.grow hb) (by rw [←Hn.out];omega) ver nx zid
      rw [←hk,←Hn.out] at hfd
      have hen:∀ w3:World,Calls Tryz.prog 138 #[aI aK epoch] w3 fun e w'=>e=.returned (aB be)∧Below w3.heap.size w3 w':=fun w3=>(d0v epoch w3 be hbe).mono (by rintro e w' ⟨rfl,rfl⟩;exact ⟨rfl,Below.refl _ _⟩)
      obtain ⟨kk,hkk⟩:∃ kk,kk=o0w m i ⟨zid,fr,to,owner,epoch,pend,tt,key,nw⟩:=⟨_,rfl⟩
      have HZ:Hid (j0a m i ⟨zid,fr,to,owner,epoch,pend,tt,key,nw⟩=(!decide (zid<1)&&(!decide (nx≤zid)&&(!(k != (i:Int))&&(!decide (owner<1)&&(!decide (1048576<owner)&&(be&&kk))))))):=by
       unfold j0a b0x
       rw [←hkk,←hbe,hk,Hx.out]
       refine uH ?_
       have e:(fz m.zs zid==(i:Int))=decide (c0w m.zs zid=some i):=by
        unfold fz
        cases c0w m.zs zid with
        | none=>rw [Bool.eq_iff_iff];simp
        | some j=>rw [Bool.eq_iff_iff];simp;omega
       have e2:(fz m.zs zid != (i:Int))=!decide (c0w m.zs zid=some i):=by rw [bne,e]
       rw [e2,Bool.eq_iff_iff]
       simp only [Bool.and_eq_true,decide_eq_true_eq,Bool.not_eq_true',decide_eq_false_iff_not,Bool.not_not]
       constructor
       ·rintro ⟨⟨a,b,c,d,e,f,g⟩,h⟩;exact ⟨by omega,by omega,c,by omega,by omega,⟨f,g⟩,h⟩
       ·rintro ⟨a,b,c,d,e,⟨f,g⟩,h⟩;exact ⟨⟨by omega,by omega,c,by omega,by omega,f,g⟩,h⟩
      have Hfd:=uH hfd
      have Hen:=uH hen
      have Hpz:=uH hpz
      have Hpo:=uH hpo
      have Hkk:=uH hkk
      have hbs:=Hb.out.size
      clear xc u0 u1 u2 u3 v0 v1 v2 v3 v4 hk hbe hfd hen hpz hpo hkk hzw hz
      rcases bE (decide (zid<1)) with t1 | t1<;>rw [t1] at HZ
      ·((go_wp2_with fail);(refine a0d fun wb hwb=>?_;have wb_s0:=sg w.heap.size hwb;have wb_s1:=sg F hwb;have wb_s2:=sg wr.heap.size hwb;obtain ⟨wb_c0,wb_c1,wb_c2⟩:=kz3 hwb w.heap.size (aI aK ver) (aI aK nx) (.slice (some ⟨g,o,none⟩) n zc);obtain ⟨wb_c3,wb_c4,wb_c5,wb_c6⟩:=kz4 hwb F (.func (.func 140) #[] #[]) (.func (.func 141) #[] #[]) (.func (.func 142) #[] #[]) (.func (.func 143) #[] #[]);obtain ⟨wb_c7,wb_c8,wb_c9,wb_c10,wb_c11,wb_c12,wb_c13,wb_c14,wb_c15⟩:=kz9 hwb wr.heap.size (aI aK zid) (aS fr) (aS to) (aI aK owner) (aI aK epoch) (aI aK pend) (aI aK tt) (aS key) (aI aK nw);have wb_b:Below w.heap.size w wb:=(by rw [hwb];exact bg);have wb_a:Below wa2.heap.size wa2 wb:=(by rw [hwb];exact Hb.out.alloc (by omega) _);clear hwb);(have hfd:=fun g':Gr wb=>Hfd.out (gr wb g') (wb_b.trans ((a0f wb g').mono (by omega))));(have hen:=fun g':Gr wb=>Hen.out (gr wb g'));skip;(refine grA ?_;(repeat (go_big_quiet_step (first | (go_at_call 144;exact a0i (hfd _)) | (go_at_call 138;exact a0i (hen _)) | fail | fail)));refine grN fun gz=>?_);(go_wp2_with fail);go_ret;exact ⟨by rw [HR.out,Hpz.out (HZ.out.trans rfl)];rfl,wb_b.trans ((a0f wb gz).mono (by omega))⟩)
      rcases bE (decide (nx≤zid)) with t2 | t2<;>rw [t2] at HZ
      ·((go_wp2_with fail);(refine a0d fun wb hwb=>?_;have wb_s0:=sg w.heap.size hwb;have wb_s1:=sg F hwb;have wb_s2:=sg wr.heap.size hwb;obtain ⟨wb_c0,wb_c1,wb_c2⟩:=kz3 hwb w.heap.size (aI aK ver) (aI aK nx) (.slice (some ⟨g,o,none⟩) n zc);obtain ⟨wb_c3,wb_c4,wb_c5,wb_c6⟩:=kz4 hwb F (.func (.func 140) #[] #[]) (.func (.func 141) #[] #[]) (.func (.func 142) #[] #[]) (.func (.func 143) #[] #[]);obtain ⟨wb_c7,wb_c8,wb_c9,wb_c10,wb_c11,wb_c12,wb_c13,wb_c14,wb_c15⟩:=kz9 hwb wr.heap.size (aI aK zid) (aS fr) (aS to) (aI aK owner) (aI aK epoch) (aI aK pend) (aI aK tt) (aS key) (aI aK nw);have wb_b:Below w.heap.size w wb:=(by rw [hwb];exact bg);have wb_a:Below wa2.heap.size wa2 wb:=(by rw [hwb];exact Hb.out.alloc (by omega) _);clear hwb);(have hfd:=fun g':Gr wb=>Hfd.out (gr wb g') (wb_b.trans ((a0f wb g').mono (by omega))));(have hen:=fun g':Gr wb=>Hen.out (gr wb g'));skip;(refine grA ?_;(repeat (go_big_quiet_step (first | (go_at_call 144;exact a0i (hfd _)) | (go_at_call 138;exact a0i (hen _)) | fail | fail)));refine grN fun gz=>?_);(go_wp2_with fail);go_ret;exact ⟨by rw [HR.out,Hpz.out (HZ.out.trans rfl)];rfl,wb_b.trans ((a0f wb gz).mono (by omega))⟩)
      rcases bE (k != (i:Int)) with t3 | t3<;>rw [t3] at HZ
      ·((go_wp2_with fail);(refine a0d fun wb hwb=>?_;have wb_s0:=sg w.heap.size hwb;have wb_s1:=sg F hwb;have wb_s2:=sg wr.heap.size hwb;obtain ⟨wb_c0,wb_c1,wb_c2⟩:=kz3 hwb w.heap.size (aI aK ver) (aI aK nx) (.slice (some ⟨g,o,none⟩) n zc);obtain ⟨wb_c3,wb_c4,wb_c5,wb_c6⟩:=kz4 hwb F (.func (.func 140) #[] #[]) (.func (.func 141) #[] #[]) (.func (.func 142) #[] #[]) (.func (.func 143) #[] #[]);obtain ⟨wb_c7,wb_c8,wb_c9,wb_c10,wb_c11,wb_c12,wb_c13,wb_c14,wb_c15⟩:=kz9 hwb wr.heap.size (aI aK zid) (aS fr) (aS to) (aI aK owner) (aI aK epoch) (aI aK pend) (aI aK tt) (aS key) (aI aK nw);have wb_b:Below w.heap.size w wb:=(by rw [hwb];exact bg);have wb_a:Below wa2.heap.size wa2 wb:=(by rw [hwb];exact Hb.out.alloc (by omega) _);clear hwb);(have hfd:=fun g':Gr wb=>Hfd.out (gr wb g') (wb_b.trans ((a0f wb g').mono (by omega))));(have hen:=fun g':Gr wb=>Hen.out (gr wb g'));skip;(refine grA ?_;(repeat (go_big_quiet_step (first | (go_at_call 144;exact a0i (hfd _)) | (go_at_call 138;exact a0i (hen _)) | fail | fail)));refine grN fun gz=>?_);(go_wp2_with fail);go_ret;exact ⟨by rw [HR.out,Hpz.out (HZ.out.trans rfl)];rfl,wb_b.trans ((a0f wb gz).mono (by omega))⟩)
      rcases bE (decide (owner<1)) with t4 | t4<;>rw [t4] at HZ
      ·((go_wp2_with fail);(refine a0d fun wb hwb=>?_;have wb_s0:=sg w.heap.size hwb;have wb_s1:=sg F hwb;have wb_s2:=sg wr.heap.size hwb;obtain ⟨wb_c0,wb_c1,wb_c2⟩:=kz3 hwb w.heap.size (aI aK ver) (aI aK nx) (.slice (some ⟨g,o,none⟩) n zc);obtain ⟨wb_c3,wb_c4,wb_c5,wb_c6⟩:=kz4 hwb F (.func (.func 140) #[] #[]) (.func (.func 141) #[] #[]) (.func (.func 142) #[] #[]) (.func (.func 143) #[] #[]);obtain ⟨wb_c7,wb_c8,wb_c9,wb_c10,wb_c11,wb_c12,wb_c13,wb_c14,wb_c15⟩:=kz9 hwb wr.heap.size (aI aK zid) (aS fr) (aS to) (aI aK owner) (aI aK epoch) (aI aK pend) (aI aK tt) (aS key) (aI aK nw);have wb_b:Below w.heap.size w wb:=(by rw [hwb];exact bg);have wb_a:Below wa2.heap.size wa2 wb:=(by rw [hwb];exact Hb.out.alloc (by omega) _);clear hwb);(have hfd:=fun g':Gr wb=>Hfd.out (gr wb g') (wb_b.trans ((a0f wb g').mono (by omega))));(have hen:=fun g':Gr wb=>Hen.out (gr wb g'));skip;(refine grA ?_;(repeat (go_big_quiet_step (first | (go_at_call 144;exact a0i (hfd _)) | (go_at_call 138;exact a0i (hen _)) | fail | fail)));refine grN fun gz=>?_);(go_wp2_with fail);go_ret;exact ⟨by rw [HR.out,Hpz.out (HZ.out.trans rfl)];rfl,wb_b.trans ((a0f wb gz).mono (by omega))⟩)
      rcases bE (decide (1048576<owner)) with t5 | t5<;>rw [t5] at HZ
      ·((go_wp2_with fail);(refine a0d fun wb hwb=>?_;have wb_s0:=sg w.heap.size hwb;have wb_s1:=sg F hwb;have wb_s2:=sg wr.heap.size hwb;obtain ⟨wb_c0,wb_c1,wb_c2⟩:=kz3 hwb w.heap.size (aI aK ver) (aI aK nx) (.slice (some ⟨g,o,none⟩) n zc);obtain ⟨wb_c3,wb_c4,wb_c5,wb_c6⟩:=kz4 hwb F (.func (.func 140) #[] #[]) (.func (.func 141) #[] #[]) (.func (.func 142) #[] #[]) (.func (.func 143) #[] #[]);obtain ⟨wb_c7,wb_c8,wb_c9,wb_c10,wb_c11,wb_c12,wb_c13,wb_c14,wb_c15⟩:=kz9 hwb wr.heap.size (aI aK zid) (aS fr) (aS to) (aI aK owner) (aI aK epoch) (aI aK pend) (aI aK tt) (aS key) (aI aK nw);have wb_b:Below w.heap.size w wb:=(by rw [hwb];exact bg);have wb_a:Below wa2.heap.size wa2 wb:=(by rw [hwb];exact Hb.out.alloc (by omega) _);clear hwb);(have hfd:=fun g':Gr wb=>Hfd.out (gr wb g') (wb_b.trans ((a0f wb g').mono (by omega))));(have hen:=fun g':Gr wb=>Hen.out (gr wb g'));skip;(refine grA ?_;(repeat (go_big_quiet_step (first | (go_at_call 144;exact a0i (hfd _)) | (go_at_call 138;exact a0i (hen _)) | fail | fail)));refine grN fun gz=>?_);(go_wp2_with fail);go_ret;exact ⟨by rw [HR.out,Hpz.out (HZ.out.trans rfl)];rfl,wb_b.trans ((a0f wb gz).mono (by omega))⟩)
      cases be with
      | false=>((go_wp2_with fail);(refine a0d fun wb hwb=>?_;have wb_s0:=sg w.heap.size hwb;have wb_s1:=sg F hwb;have wb_s2:=sg wr.heap.size hwb;obtain ⟨wb_c0,wb_c1,wb_c2⟩:=kz3 hwb w.heap.size (aI aK ver) (aI aK nx) (.slice (some ⟨g,o,none⟩) n zc);obtain ⟨wb_c3,wb_c4,wb_c5,wb_c6⟩:=kz4 hwb F (.func (.func 140) #[] #[]) (.func (.func 141) #[] #[]) (.func (.func 142) #[] #[]) (.func (.func 143) #[] #[]);obtain ⟨wb_c7,wb_c8,wb_c9,wb_c10,wb_c11,wb_c12,wb_c13,wb_c14,wb_c15⟩:=kz9 hwb wr.heap.size (aI aK zid) (aS fr) (aS to) (aI aK owner) (aI aK epoch) (aI aK pend) (aI aK tt) (aS key) (aI aK nw);have wb_b:Below w.heap.size w wb:=(by rw [hwb];exact bg);have wb_a:Below wa2.heap.size wa2 wb:=(by rw [hwb];exact Hb.out.alloc (by omega) _);clear hwb);(have hfd:=fun g':Gr wb=>Hfd.out (gr wb g') (wb_b.trans ((a0f wb g').mono (by omega))));(have hen:=fun g':Gr wb=>Hen.out (gr wb g'));skip;(refine grA ?_;(repeat (go_big_quiet_step (first | (go_at_call 144;exact a0i (hfd _)) | (go_at_call 138;exact a0i (hen _)) | fail | fail)));refine grN fun gz=>?_);(go_wp2_with fail);go_ret;exact ⟨by rw [HR.out,Hpz.out (HZ.out.trans rfl)];rfl,wb_b.trans ((a0f wb gz).mono (by omega))⟩)
      | true =>
       have HZ:Hid (j0a m i ⟨zid,fr,to,owner,epoch,pend,tt,key,nw⟩=kk):=HZ
       rcases bE (decide (pend<0)) with t6 | t6
       ·have hf:kk=false:=by
         rw [Hkk.out];unfold o0w
         rw [decide_eq_true_eq] at t6
         rw [if_neg (by simp only;omega),if_neg (by simp only;omega),if_neg (by simp only;omega),if_neg (by simp only;omega)]
        rw [hf] at HZ
        clear hf
        ((go_wp2_with fail);(refine a0d fun wb hwb=>?_;have wb_s0:=sg w.heap.size hwb;have wb_s1:=sg F hwb;have wb_s2:=sg wr.heap.size hwb;obtain ⟨wb_c0,wb_c1,wb_c2⟩:=kz3 hwb w.heap.size (aI aK ver) (aI aK nx) (.slice (some ⟨g,o,none⟩) n zc);obtain ⟨wb_c3,wb_c4,wb_c5,wb_c6⟩:=kz4 hwb F (.func (.func 140) #[] #[]) (.func (.func 141) #[] #[]) (.func (.func 142) #[] #[]) (.func (.func 143) #[] #[]);obtain ⟨wb_c7,wb_c8,wb_c9,wb_c10,wb_c11,wb_c12,wb_c13,wb_c14,wb_c15⟩:=kz9 hwb wr.heap.size (aI aK zid) (aS fr) (aS to) (aI aK owner) (aI aK epoch) (aI aK pend) (aI aK tt) (aS key) (aI aK nw);have wb_b:Below w.heap.size w wb:=(by rw [hwb];exact bg);have wb_a:Below wa2.heap.size wa2 wb:=(by rw [hwb];exact Hb.out.alloc (by omega) _);clear hwb);(have hfd:=fun g':Gr wb=>Hfd.out (gr wb g') (wb_b.trans ((a0f wb g').mono (by omega))));(have hen:=fun g':Gr wb=>Hen.out (gr wb g'));skip;(refine grA ?_;(repeat (go_big_quiet_step (first | (go_at_call 144;exact a0i (hfd _)) | (go_at_call 138;exact a0i (hen _)) | fail | fail)));refine grN fun gz=>?_);(go_wp2_with fail);go_ret;exact ⟨by rw [HR.out,Hpz.out (HZ.out.trans rfl)];rfl,wb_b.trans ((a0f wb gz).mono (by omega))⟩)
       ·rcases bE (decide (4≤pend)) with t7 | t7
        ·have hf:kk=false:=by
          rw [Hkk.out];unfold o0w
          rw [decide_eq_true_eq] at t7
          rw [if_neg (by simp only;omega),if_neg (by simp only;omega),if_neg (by simp only;omega),if_neg (by simp only;omega)]
         rw [hf] at HZ
         clear hf
         ((go_wp2_with fail);(refine a0d fun wb hwb=>?_;have wb_s0:=sg w.heap.size hwb;have wb_s1:=sg F hwb;have wb_s2:=sg wr.heap.size hwb;obtain ⟨wb_c0,wb_c1,wb_c2⟩:=kz3 hwb w.heap.size (aI aK ver) (aI aK nx) (.slice (some ⟨g,o,none⟩) n zc);obtain ⟨wb_c3,wb_c4,wb_c5,wb_c6⟩:=kz4 hwb F (.func (.func 140) #[] #[]) (.func (.func 141) #[] #[]) (.func (.func 142) #[] #[]) (.func (.func 143) #[] #[]);obtain ⟨wb_c7,wb_c8,wb_c9,wb_c10,wb_c11,wb_c12,wb_c13,wb_c14,wb_c15⟩:=kz9 hwb wr.heap.size (aI aK zid) (aS fr) (aS to) (aI aK owner) (aI aK epoch) (aI aK pend) (aI aK tt) (aS key) (aI aK nw);have wb_b:Below w.heap.size w wb:=(by rw [hwb];exact bg);have wb_a:Below wa2.heap.size wa2 wb:=(by rw [hwb];exact Hb.out.alloc (by omega) _);clear hwb);(have hfd:=fun g':Gr wb=>Hfd.out (gr wb g') (wb_b.trans ((a0f wb g').mono (by omega))));(have hen:=fun g':Gr wb=>Hen.out (gr wb g'));skip;(refine grA ?_;(repeat (go_big_quiet_step (first | (go_at_call 144;exact a0i (hfd _)) | (go_at_call 138;exact a0i (hen _)) | fail | fail)));refine grN fun gz=>?_);(go_wp2_with fail);go_ret;exact ⟨by rw [HR.out,Hpz.out (HZ.out.trans rfl)];rfl,wb_b.trans ((a0f wb gz).mono (by omega))⟩)
        ·have hpp:pend=0∨pend=3∨pend=1∨pend=2:=by
          rw [decide_eq_false_iff_not] at t6 t7;omega
         clear t6 t7
         rcases hpp with rfl | rfl | rfl | rfl
         ·have hkind:=fun (w3:World)=>u0g ⟨zid,fr,to,owner,epoch,0,tt,key,nw⟩ (.pointer (some ⟨w.heap.size+1+1,0,none⟩)) i w3 kk (by rw [Hkk.out];rfl)
          dsimp only at hkind
          have Hkind:=uH hkind
          clear hkind
          (cases kk;(focus ((go_wp2_with fail);(refine a0d fun wb hwb=>?_;have wb_s0:=sg w.heap.size hwb;have wb_s1:=sg F hwb;have wb_s2:=sg wr.heap.size hwb;obtain ⟨wb_c0,wb_c1,wb_c2⟩:=kz3 hwb w.heap.size (aI aK ver) (aI aK nx) (.slice (some ⟨g,o,none⟩) n zc);obtain ⟨wb_c3,wb_c4,wb_c5,wb_c6⟩:=kz4 hwb F (.func (.func 140) #[] #[]) (.func (.func 141) #[] #[]) (.func (.func 142) #[] #[]) (.func (.func 143) #[] #[]);obtain ⟨wb_c7,wb_c8,wb_c9,wb_c10,wb_c11,wb_c12,wb_c13,wb_c14,wb_c15⟩:=kz9 hwb wr.heap.size (aI aK zid) (aS fr) (aS to) (aI aK owner) (aI aK epoch) (aI aK 0) (aI aK tt) (aS key) (aI aK nw);have wb_b:Below w.heap.size w wb:=(by rw [hwb];exact bg);have wb_a:Below wa2.heap.size wa2 wb:=(by rw [hwb];exact Hb.out.alloc (by omega) _);clear hwb);(have hfd:=fun g':Gr wb=>Hfd.out (gr wb g') (wb_b.trans ((a0f wb g').mono (by omega))));(have hen:=fun g':Gr wb=>Hen.out (gr wb g'));(have hki:=fun g':Gr wb=>Hkind.out (gr wb g'));(refine grA ?_;(repeat (go_big_quiet_step (first | (go_at_call 144;exact a0i (hfd _)) | (go_at_call 138;exact a0i (hen _)) | (go_at_call 140;exact a0i (hki _)) | fail)));refine grN fun gz=>?_);(go_wp2_with fail);go_ret;exact ⟨by rw [HR.out,Hpz.out (HZ.out.trans rfl)];rfl,wb_b.trans ((a0f wb gz).mono (by omega))⟩));(focus ((go_wp2_with fail);(refine a0d fun wb hwb=>?_;have wb_s0:=sg w.heap.size hwb;have wb_s1:=sg F hwb;have wb_s2:=sg wr.heap.size hwb;obtain ⟨wb_c0,wb_c1,wb_c2⟩:=kz3 hwb w.heap.size (aI aK ver) (aI aK nx) (.slice (some ⟨g,o,none⟩) n zc);obtain ⟨wb_c3,wb_c4,wb_c5,wb_c6⟩:=kz4 hwb F (.func (.func 140) #[] #[]) (.func (.func 141) #[] #[]) (.func (.func 142) #[] #[]) (.func (.func 143) #[] #[]);obtain ⟨wb_c7,wb_c8,wb_c9,wb_c10,wb_c11,wb_c12,wb_c13,wb_c14,wb_c15⟩:=kz9 hwb wr.heap.size (aI aK zid) (aS fr) (aS to) (aI aK owner) (aI aK epoch) (aI aK 0) (aI aK tt) (aS key) (aI aK nw);have wb_b:Below w.heap.size w wb:=(by rw [hwb];exact bg);have wb_a:Below wa2.heap.size wa2 wb:=(by rw [hwb];exact Hb.out.alloc (by omega) _);clear hwb);(have hfd:=fun g':Gr wb=>Hfd.out (gr wb g') (wb_b.trans ((a0f wb g').mono (by omega))));(have hen:=fun g':Gr wb=>Hen.out (gr wb g'));(have hki:=fun g':Gr wb=>Hkind.out (gr wb g'));(refine grA ?_;(repeat (go_big_quiet_step (first | (go_at_call 144;exact a0i (hfd _)) | (go_at_call 138;exact a0i (hen _)) | (go_at_call 140;exact a0i (hki _)) | fail)));refine grN fun gz=>?_);(go_wp2_with fail);go_roundw;(case rel=>exact ⟨i+1,(by go_num),(by omega),uH (Hpo.out HZ.out),uH (wb_a.trans ((a0f wb gz).mono wb_a.size))⟩);(case measure=>(simp [intOf];omega)))))
         ·have hkind:=fun (w3:World)=>u0f ⟨zid,fr,to,owner,epoch,3,tt,key,nw⟩ (.pointer (some ⟨w.heap.size+1+1,0,none⟩)) i w3 kk (by rw [Hkk.out];rfl)
          dsimp only at hkind
          have Hkind:=uH hkind
          clear hkind
          (cases kk;(focus ((go_wp2_with fail);(refine a0d fun wb hwb=>?_;have wb_s0:=sg w.heap.size hwb;have wb_s1:=sg F hwb;have wb_s2:=sg wr.heap.size hwb;obtain ⟨wb_c0,wb_c1,wb_c2⟩:=kz3 hwb w.heap.size (aI aK ver) (aI aK nx) (.slice (some ⟨g,o,none⟩) n zc);obtain ⟨wb_c3,wb_c4,wb_c5,wb_c6⟩:=kz4 hwb F (.func (.func 140) #[] #[]) (.func (.func 141) #[] #[]) (.func (.func 142) #[] #[]) (.func (.func 143) #[] #[]);obtain ⟨wb_c7,wb_c8,wb_c9,wb_c10,wb_c11,wb_c12,wb_c13,wb_c14,wb_c15⟩:=kz9 hwb wr.heap.size (aI aK zid) (aS fr) (aS to) (aI aK owner) (aI aK epoch) (aI aK 3) (aI aK tt) (aS key) (aI aK nw);have wb_b:Below w.heap.size w wb:=(by rw [hwb];exact bg);have wb_a:Below wa2.heap.size wa2 wb:=(by rw [hwb];exact Hb.out.alloc (by omega) _);clear hwb);(have hfd:=fun g':Gr wb=>Hfd.out (gr wb g') (wb_b.trans ((a0f wb g').mono (by omega))));(have hen:=fun g':Gr wb=>Hen.out (gr wb g'));(have hki:=fun g':Gr wb=>Hkind.out (gr wb g'));(refine grA ?_;(repeat (go_big_quiet_step (first | (go_at_call 144;exact a0i (hfd _)) | (go_at_call 138;exact a0i (hen _)) | (go_at_call 143;exact a0i (hki _)) | fail)));refine grN fun gz=>?_);(go_wp2_with fail);go_ret;exact ⟨by rw [HR.out,Hpz.out (HZ.out.trans rfl)];rfl,wb_b.trans ((a0f wb gz).mono (by omega))⟩));(focus ((go_wp2_with fail);(refine a0d fun wb hwb=>?_;have wb_s0:=sg w.heap.size hwb;have wb_s1:=sg F hwb;have wb_s2:=sg wr.heap.size hwb;obtain ⟨wb_c0,wb_c1,wb_c2⟩:=kz3 hwb w.heap.size (aI aK ver) (aI aK nx) (.slice (some ⟨g,o,none⟩) n zc);obtain ⟨wb_c3,wb_c4,wb_c5,wb_c6⟩:=kz4 hwb F (.func (.func 140) #[] #[]) (.func (.func 141) #[] #[]) (.func (.func 142) #[] #[]) (.func (.func 143) #[] #[]);obtain ⟨wb_c7,wb_c8,wb_c9,wb_c10,wb_c11,wb_c12,wb_c13,wb_c14,wb_c15⟩:=kz9 hwb wr.heap.size (aI aK zid) (aS fr) (aS to) (aI aK owner) (aI aK epoch) (aI aK 3) (aI aK tt) (aS key) (aI aK nw);have wb_b:Below w.heap.size w wb:=(by rw [hwb];exact bg);have wb_a:Below wa2.heap.size wa2 wb:=(by rw [hwb];exact Hb.out.alloc (by omega) _);clear hwb);(have hfd:=fun g':Gr wb=>Hfd.out (gr wb g') (wb_b.trans ((a0f wb g').mono (by omega))));(have hen:=fun g':Gr wb=>Hen.out (gr wb g'));(have hki:=fun g':Gr wb=>Hkind.out (gr wb g'));(refine grA ?_;(repeat (go_big_quiet_step (first | (go_at_call 144;exact a0i (hfd _)) | (go_at_call 138;exact a0i (hen _)) | (go_at_call 143;exact a0i (hki _)) | fail)));refine grN fun gz=>?_);(go_wp2_with fail);go_roundw;(case rel=>exact ⟨i+1,(by go_num),(by omega),uH (Hpo.out HZ.out),uH (wb_a.trans ((a0f wb gz).mono wb_a.size))⟩);(case measure=>(simp [intOf];omega)))))
         ·have hsp:kk=m0e m ⟨zid,fr,to,owner,epoch,1,tt,key,nw⟩:=by rw [Hkk.out];rfl
          have hkind:=fun (w3:World) (hb:Below wa2.heap.size wa2 w3)=>q0q (Hck.out.grow hb) (by rw [←Hn.out];omega) ⟨zid,fr,to,owner,epoch,1,tt,key,nw⟩ i hwf rfl kk hsp
          dsimp only at hkind
          have Hkind:=uH hkind
          clear hkind hsp
          (cases kk;(focus ((go_wp2_with fail);(refine a0d fun wb hwb=>?_;have wb_s0:=sg w.heap.size hwb;have wb_s1:=sg F hwb;have wb_s2:=sg wr.heap.size hwb;obtain ⟨wb_c0,wb_c1,wb_c2⟩:=kz3 hwb w.heap.size (aI aK ver) (aI aK nx) (.slice (some ⟨g,o,none⟩) n zc);obtain ⟨wb_c3,wb_c4,wb_c5,wb_c6⟩:=kz4 hwb F (.func (.func 140) #[] #[]) (.func (.func 141) #[] #[]) (.func (.func 142) #[] #[]) (.func (.func 143) #[] #[]);obtain ⟨wb_c7,wb_c8,wb_c9,wb_c10,wb_c11,wb_c12,wb_c13,wb_c14,wb_c15⟩:=kz9 hwb wr.heap.size (aI aK zid) (aS fr) (aS to) (aI aK owner) (aI aK epoch) (aI aK 1) (aI aK tt) (aS key) (aI aK nw);have wb_b:Below w.heap.size w wb:=(by rw [hwb];exact bg);have wb_a:Below wa2.heap.size wa2 wb:=(by rw [hwb];exact Hb.out.alloc (by omega) _);clear hwb);(have hfd:=fun g':Gr wb=>Hfd.out (gr wb g') (wb_b.trans ((a0f wb g').mono (by omega))));(have hen:=fun g':Gr wb=>Hen.out (gr wb g'));(have hki:=fun g':Gr wb=>Hkind.out (gr wb g') (wb_a.trans ((a0f wb g').mono wb_a.size)));(refine grA ?_;(repeat (go_big_quiet_step (first | (go_at_call 144;exact a0i (hfd _)) | (go_at_call 138;exact a0i (hen _)) | (go_at_call 141;exact a0i (hki _)) | fail)));refine grN fun gz=>?_);(go_wp2_with fail);go_ret;exact ⟨by rw [HR.out,Hpz.out (HZ.out.trans rfl)];rfl,wb_b.trans ((a0f wb gz).mono (by omega))⟩));(focus ((go_wp2_with fail);(refine a0d fun wb hwb=>?_;have wb_s0:=sg w.heap.size hwb;have wb_s1:=sg F hwb;have wb_s2:=sg wr.heap.size hwb;obtain ⟨wb_c0,wb_c1,wb_c2⟩:=kz3 hwb w.heap.size (aI aK ver) (aI aK nx) (.slice (some ⟨g,o,none⟩) n zc);obtain ⟨wb_c3,wb_c4,wb_c5,wb_c6⟩:=kz4 hwb F (.func (.func 140) #[] #[]) (.func (.func 141) #[] #[]) (.func (.func 142) #[] #[]) (.func (.func 143) #[] #[]);obtain ⟨wb_c7,wb_c8,wb_c9,wb_c10,wb_c11,wb_c12,wb_c13,wb_c14,wb_c15⟩:=kz9 hwb wr.heap.size (aI aK zid) (aS fr) (aS to) (aI aK owner) (aI aK epoch) (aI aK 1) (aI aK tt) (aS key) (aI aK nw);have wb_b:Below w.heap.size w wb:=(by rw [hwb];exact bg);have wb_a:Below wa2.heap.size wa2 wb:=(by rw [hwb];exact Hb.out.alloc (by omega) _);clear hwb);(have hfd:=fun g':Gr wb=>Hfd.out (gr wb g') (wb_b.trans ((a0f wb g').mono (by omega))));(have hen:=fun g':Gr wb=>Hen.out (gr wb g'));(have hki:=fun g':Gr wb=>Hkind.out (gr wb g') (wb_a.trans ((a0f wb g').mono wb_a.size)));(refine grA ?_;(repeat (go_big_quiet_step (first | (go_at_call 144;exact a0i (hfd _)) | (go_at_call 138;exact a0i (hen _)) | (go_at_call 141;exact a0i (hki _)) | fail)));refine grN fun gz=>?_);(go_wp2_with fail);go_roundw;(case rel=>exact ⟨i+1,(by go_num),(by omega),uH (Hpo.out HZ.out),uH (wb_a.trans ((a0f wb gz).mono wb_a.size))⟩);(case measure=>(simp [intOf];omega)))))
         ·have hsp:kk=(b0n m.zs i ⟨zid,fr,to,owner,epoch,2,tt,key,nw⟩&&decide (fcnt m.zs nw=1)):=by rw [Hkk.out];rfl
          have hkind:=fun (w3:World) (hb:Below wa2.heap.size wa2 w3)=>q0r (Hck.out.grow hb) (by rw [←Hn.out];omega) ⟨zid,fr,to,owner,epoch,2,tt,key,nw⟩ i hl1 hwf rfl kk hsp
          dsimp only at hkind
          have Hkind:=uH hkind
          clear hkind hsp
          (cases kk;(focus ((go_wp2_with fail);(refine a0d fun wb hwb=>?_;have wb_s0:=sg w.heap.size hwb;have wb_s1:=sg F hwb;have wb_s2:=sg wr.heap.size hwb;obtain ⟨wb_c0,wb_c1,wb_c2⟩:=kz3 hwb w.heap.size (aI aK ver) (aI aK nx) (.slice (some ⟨g,o,none⟩) n zc);obtain ⟨wb_c3,wb_c4,wb_c5,wb_c6⟩:=kz4 hwb F (.func (.func 140) #[] #[]) (.func (.func 141) #[] #[]) (.func (.func 142) #[] #[]) (.func (.func 143) #[] #[]);obtain ⟨wb_c7,wb_c8,wb_c9,wb_c10,wb_c11,wb_c12,wb_c13,wb_c14,wb_c15⟩:=kz9 hwb wr.heap.size (aI aK zid) (aS fr) (aS to) (aI aK owner) (aI aK epoch) (aI aK 2) (aI aK tt) (aS key) (aI aK nw);have wb_b:Below w.heap.size w wb:=(by rw [hwb];exact bg);have wb_a:Below wa2.heap.size wa2 wb:=(by rw [hwb];exact Hb.out.alloc (by omega) _);clear hwb);(have hfd:=fun g':Gr wb=>Hfd.out (gr wb g') (wb_b.trans ((a0f wb g').mono (by omega))));(have hen:=fun g':Gr wb=>Hen.out (gr wb g'));(have hki:=fun g':Gr wb=>Hkind.out (gr wb g') (wb_a.trans ((a0f wb g').mono wb_a.size)));(refine grA ?_;(repeat (go_big_quiet_step (first | (go_at_call 144;exact a0i (hfd _)) | (go_at_call 138;exact a0i (hen _)) | (go_at_call 142;exact a0i (hki _)) | fail)));refine grN fun gz=>?_);(go_wp2_with fail);go_ret;exact ⟨by rw [HR.out,Hpz.out (HZ.out.trans rfl)];rfl,wb_b.trans ((a0f wb gz).mono (by omega))⟩));(focus ((go_wp2_with fail);(refine a0d fun wb hwb=>?_;have wb_s0:=sg w.heap.size hwb;have wb_s1:=sg F hwb;have wb_s2:=sg wr.heap.size hwb;obtain ⟨wb_c0,wb_c1,wb_c2⟩:=kz3 hwb w.heap.size (aI aK ver) (aI aK nx) (.slice (some ⟨g,o,none⟩) n zc);obtain ⟨wb_c3,wb_c4,wb_c5,wb_c6⟩:=kz4 hwb F (.func (.func 140) #[] #[]) (.func (.func 141) #[] #[]) (.func (.func 142) #[] #[]) (.func (.func 143) #[] #[]);obtain ⟨wb_c7,wb_c8,wb_c9,wb_c10,wb_c11,wb_c12,wb_c13,wb_c14,wb_c15⟩:=kz9 hwb wr.heap.size (aI aK zid) (aS fr) (aS to) (aI aK owner) (aI aK epoch) (aI aK 2) (aI aK tt) (aS key) (aI aK nw);have wb_b:Below w.heap.size w wb:=(by rw [hwb];exact bg);have wb_a:Below wa2.heap.size wa2 wb:=(by rw [hwb];exact Hb.out.alloc (by omega) _);clear hwb);(have hfd:=fun g':Gr wb=>Hfd.out (gr wb g') (wb_b.trans ((a0f wb g').mono (by omega))));(have hen:=fun g':Gr wb=>Hen.out (gr wb g'));(have hki:=fun g':Gr wb=>Hkind.out (gr wb g') (wb_a.trans ((a0f wb g').mono wb_a.size)));(refine grA ?_;(repeat (go_big_quiet_step (first | (go_at_call 144;exact a0i (hfd _)) | (go_at_call 138;exact a0i (hen _)) | (go_at_call 142;exact a0i (hki _)) | fail)));refine grN fun gz=>?_);(go_wp2_with fail);go_roundw;(case rel=>exact ⟨i+1,(by go_num),(by omega),uH (Hpo.out HZ.out),uH (wb_a.trans ((a0f wb gz).mono wb_a.size))⟩);(case measure=>(simp [intOf];omega)))))
     ·have HT:Hid (pMay m=true):=by
       rw [HR.out]
       refine uH ?_
       unfold pAll
       rw [List.all_eq_true]
       intro j hj
       have hj2:j<m.zs.length:=by simpa using hj
       rw [getD_at hj2]
       exact Hok.out j hj2 (by have:=Hn.out;omega)
      go_wp2_with fail
      go_ret
      exact ⟨by rw [HT.out];rfl,wr_b⟩
theorem pmay_any (ao:Option Addr) (zc:Nat) (m:Mp) (w:World) (hm:m.zs.length≤1000000) (h:0<m.zs.length→∃ g o,ao=some ⟨g,o,none⟩∧ZnO w g o m.zs) (hw:∀ z∈m.zs,0≤z.nw∧z.nw≤4611686018427387904) :
 Calls Tryz.prog 125 #[.agg #[aI aK m.ver,aI aK m.next,.slice ao m.zs.length zc]] w fun e w'=>e=.returned (aB (mayM m))∧Below w.heap.size w w':=by
 rw [←pMay_eq]
 cases hp:o0x m with
 | false=>exact w0p ao zc m w hm hp
 | true =>
  have h1:0<m.zs.length:=by
   unfold o0x at hp
   rw [decide_eq_true_eq] at hp
   omega
  obtain ⟨g,o,rfl,hz⟩:=h h1
  exact w0o hz hp hw
end Go.Proofs.YtogamdaomdoapaaGreat.O