/- Texts put together: FrRef. -/
import Derived.Test.YthlcmjgdilebeaaGreatQa02
import Derived.Test.YthlcmjgdilebeaaGreatQa32
import Derived.IntWalk
namespace Go.Proofs.YthlcmjgdilebeaaGreat.F
set_option maxRecDepth 20000
open Go.RowKit
theorem four_at (b off cap:Nat) (l:List UInt8) (w:World) (hb:b<w.heap.size) (hr:BRow w b off l) (m n:Nat) (hn:n=l.length - m) (hm:m+4≤l.length) :
 Calls Tryz.prog 111 #[.slice (some ⟨b,off+m,none⟩) n cap] w fun e w'=>e=.returned (.int .u32 (unFour (l.drop m):Nat))∧∃ n,w'=w.drewN n:=by
 have hat:BAt w (some ⟨b,off+m,none⟩) (l.drop m):=by
  have:=bat_cut hb hr m (l.length - m)
  rwa [List.take_of_length_le (by rw [List.length_drop];omega)] at this
 have:=qsatrapyref1.FromFour_any (some ⟨b,off+m,none⟩) cap (l.drop m) w hat (by rw [List.length_drop];omega)
 rw [List.length_drop,←hn] at this
 exact this
theorem sum_at (b off cap:Nat) (l:List UInt8) (w:World) (hb:b<w.heap.size) (hr:BRow w b off l) (n:Nat) (hn:n≤l.length) (hm:l.length≤140737488351232) :
 Calls Tryz.prog 67 #[.slice (some ⟨b,off,none⟩) n cap] w fun e w'=>e=.returned (.int .u32 (sumOf (l.take n):Nat))∧w'=w:=by
 have hat:BAt w (some ⟨b,off,none⟩) (l.take n):=by have:=bat_cut hb hr 0 n;simpa using this
 have hl:(l.take n).length=n:=by rw [List.length_take];omega
 have:=refSum_any (some ⟨b,off,none⟩) cap (l.take n) w hat (by omega)
 rw [hl] at this
 exact this
set_option maxHeartbeats 4000000 in
theorem refDecode_any (ao:Option Addr) (cap:Nat) (l:List UInt8) (w:World) (h:Sl w ao cap l) (hm:l.length≤140737488351232) :
 Calls Tryz.prog 88 #[.slice ao l.length cap] w (DecPost w (decB l)):=by
 by_cases h8:(l.length:Int)<8
 ·have hd:decB l=([],0,2):=by unfold decB;rw [if_pos (by omega)]
  rw [hd]
  clear hd h
  go_enter Tryz.func88,Tryz.ntmps88
  go_wp2_with fail
  go_ret3
  exact ⟨none,0,rfl,own_none _ _,bg⟩
 obtain ⟨i0,hi,hz0,hz1,hz2⟩:=info_parts byteInfo
 obtain ⟨b,off,rfl,hb,hr⟩:=h.at_ (by omega)
 have hlc:=h.le
 have hcm:=h.cm
 have hul:=unFour_lt l
 have Hr:=Lib.hid hr
 obtain ⟨u,hu⟩:∃ u,u=unFour l:=⟨_,rfl⟩
 rw [←hu] at hul
 have hchk:=head_check (l:=l) (by omega)
 obtain ⟨s,hs⟩:∃ s,s=unFour (l.drop 4):=⟨_,rfl⟩
 obtain ⟨t,ht⟩:∃ t,t=sumOf (l.take 4):=⟨_,rfl⟩
 rw [←hs,←ht,←hu] at hchk
 have F4:=Lib.hid (fun W (hW:Below w.heap.size w W)=>four_at b off (cap - 4) l W (Nat.lt_of_lt_of_le hb hW.size) (hr.below hb hW) 4 (l.length - 4) rfl (by omega))
 have F0:=Lib.hid (fun W (hW:Below w.heap.size w W)=>qsatrapyref1.FromFour_any (some ⟨b,off,none⟩) cap l W (h.at_.below hW) (by omega))
 have G4:=Lib.hid (fun W (hW:Below w.heap.size w W)=>sum_at b off cap l W (Nat.lt_of_lt_of_le hb hW.size) (hr.below hb hW) 4 (by omega) hm)
 rw [←hs] at F4
 rw [←hu] at F0
 rw [←ht] at G4
 have hdec:decB l=if s≠t then ([],0,4) else if 1048576<u then ([],0,5) else if l.length<12+u then ([],0,2) else if unFour (l.drop (8+u))≠sumOf (l.take (8+u)) then ([],0,4) else ((l.drop 8).take u,12+u,0):=by
  unfold decB
  rw [if_neg (by omega),←hu]
  by_cases e:s=t
  ·rw [if_neg (show ¬l.take 8≠headB u from fun hh=>hh (hchk.2 e)),if_neg (show ¬s≠t from fun hh=>hh e)]
  ·rw [if_pos (show l.take 8≠headB u from fun hh=>e (hchk.1 hh)),if_pos (show s≠t from e)]
 have Hdec:=Lib.hid hdec
 clear hu hr h hs ht hchk hdec
 have hc4:4≤cap:=by omega
 have hc4i:(4:Int)≤cap:=by omega
 have hl4:(4:Int)≤l.length:=by omega
 by_cases hst:s=t
 ·subst hst
  have hd1:decB l=if 1048576<u then ([],0,5) else if l.length<12+u then ([],0,2) else if unFour (l.drop (8+u))≠sumOf (l.take (8+u)) then ([],0,4) else ((l.drop 8).take u,12+u,0):=by rw [Hdec.out,if_neg (by simp)]
  have Hd1:=Lib.hid hd1
  clear hd1 Hdec
  go_enter Tryz.func88,Tryz.ntmps88
  go_wp2_with fail
  go_quiet (first | (go_at_call 111;exact Calls.quiet_of (F4.out _ (below_drawn (Below.refl _ _)))) | (go_at_call 67;exact Calls.quiet_of_same (G4.out _ (below_drawn (Below.refl _ _)))))
  go_wp2_with fail
  refine (F0.out _ (below_drawn (Below.refl _ _))).mono ?_
  rintro e w1 ⟨rfl,n1,rfl⟩
  by_cases hbig:(1048576:Int)<u
  ·have hd:decB l=([],0,5):=by rw [Hd1.out,if_pos (by omega)]
   have Hd:=Lib.hid hd
   clear hd
   go_wp2_with fail
   go_ret3
   rw [Hd.out]
   exact ⟨none,0,rfl,own_none _ _,below_drawn (Below.refl _ _)⟩
  by_cases hsh:(l.length:Int)<12+u
  ·have hd:decB l=([],0,2):=by rw [Hd1.out,if_neg (by omega),if_pos (by omega)]
   have Hd:=Lib.hid hd
   clear hd
   go_wp2_with fail
   go_ret3
   rw [Hd.out]
   exact ⟨none,0,rfl,own_none _ _,below_drawn (Below.refl _ _)⟩
  obtain ⟨x,hx⟩:∃ x,x=unFour (l.drop (8+u)):=⟨_,rfl⟩
  obtain ⟨y,hy⟩:∃ y,y=sumOf (l.take (8+u)):=⟨_,rfl⟩
  have hd1:decB l=if x≠y then ([],0,4) else ((l.drop 8).take u,12+u,0):=by rw [Hd1.out,if_neg (by omega),if_neg (by omega),hx,hy]
  have FX:=Lib.hid (fun W (hW:Below w.heap.size w W)=>four_at b off (cap - (8+u)) l W (Nat.lt_of_lt_of_le hb hW.size) (Hr.out.below hb hW) (8+u) (l.length - (8+u)) rfl (by omega))
  have GX:=Lib.hid (fun W (hW:Below w.heap.size w W)=>sum_at b off cap l W (Nat.lt_of_lt_of_le hb hW.size) (Hr.out.below hb hW) (8+u) (by omega) hm)
  rw [←hx] at FX
  rw [←hy] at GX
  have Hd2:=Lib.hid hd1
  have hk1:8+u≤cap:=by omega
  have hk2:(8:Int)+u≤cap:=by omega
  have hk3:8+u≤l.length:=by omega
  have hk4:(8:Int)+u≤l.length:=by omega
  have hk0:(0:Int)≤8+u:=by omega
  have hwr:IntKind.i64.wrap (8+(u:Int))=8+(u:Int):=IntWalk.i64_in _ (by omega)
  clear hx hy hd1 Hd1
  by_cases hxy:x=y
  ·subst hxy
   have hd:decB l=((l.drop 8).take u,12+u,0):=by rw [Hd2.out,if_neg (by simp)]
   have Hd:=Lib.hid hd
   clear hd Hd2
   go_wp2_with fail
   refine wp_name fun wa hwa=>?_
   have wab:Below w.heap.size w wa:=by rw [hwa];exact below_drawn (Below.refl _ _)
   have was:=wab.size
   clear hwa
   go_quiet (first | (go_at_call 111;exact Calls.quiet_of (FX.out _ (below_drawn wab))) | (go_at_call 67;exact Calls.quiet_of_same (GX.out _ (below_drawn wab))))
   clear hwr
   have hl3:((l.drop 8).take u).length=u:=by rw [List.length_take,List.length_drop];omega
   have hat3:BAt wa (some ⟨b,off+8,none⟩) ((l.drop 8).take u):=bat_cut (Nat.lt_of_lt_of_le hb was) (Hr.out.below hb wab) 8 u
   have Hl3:=Lib.hid hl3
   have Hat3:=Lib.hid hat3
   clear hl3 hat3
   go_wp2_with (at_builtin;go_must (refine wpList_append_any _ rfl (.tmp 37) (.tmp 41) 38 rfl wa.heap.size 5 i0 (.int .u8 0) 1 1 Tryz.underlying38 hi hz0 hz1 hz2 rfl (by decide) _ 0 [] rfl (owns_emptyAt _ wa.heap.size rfl wa.heap.size (Nat.le_refl _) 5 1) (some ⟨b,off+8,none⟩) (8+u - 8) (cap - 8) (bytV ((l.drop 8).take u)) rfl (fun h=>(nomatch h)) (by rw [bytV_length,Hl3.out];omega) (Hat3.out.below ((below_drawn (Below.refl _ _)).alloc (Nat.le_refl _) _)).cells (bytV_one _) (by unfold maxLen;omega) (by omega) (by simp) ?_))
   intro v w3 hown hgrow
   have hb3:Below wa.heap.size wa w3:=below_grown ((below_drawn (Below.refl _ _)).alloc (Nat.le_refl _) _) (by simp) hgrow (fun k hk=>by simp [Value.ownBlock] at hk;omega)
   obtain ⟨bo,c,hv,ho⟩:=owned_bytes (l:=(l.drop 8).take u) hown (by rw [Hl3.out])
   rw [Hl3.out] at hv
   have HO:=Lib.hid (own_weak ho was)
   have HB:=Lib.hid (wab.trans (hb3.mono was))
   rw [hv]
   clear ho hb3 hown hgrow hv
   go_wp2_with fail
   go_ret3
   rw [Hd.out]
   exact ⟨bo,c,(show Ending.returned (.tuple #[.slice bo u c,.int .i64 (12+(u:Int)),.int .i64 0])=_ from by rw [show (12+(u:Int))=((12+u:Nat):Int) from by omega];simp only [Hl3.out];rfl),HO.out,HB.out⟩
  ·have hd:decB l=([],0,4):=by rw [Hd2.out,if_pos hxy]
   have Hd:=Lib.hid hd
   have hne:((x:Int) != y)=true:=by simp;omega
   clear hd Hd2 hxy
   go_wp2_with fail
   refine wp_name fun wa hwa=>?_
   have wab:Below w.heap.size w wa:=by rw [hwa];exact below_drawn (Below.refl _ _)
   have was:=wab.size
   clear hwa
   go_quiet (first | (go_at_call 111;exact Calls.quiet_of (FX.out _ (below_drawn wab))) | (go_at_call 67;exact Calls.quiet_of_same (GX.out _ (below_drawn wab))))
   clear hwr
   go_wp2_with fail
   go_ret3
   rw [Hd.out]
   exact ⟨none,0,rfl,own_none _ _,below_drawn wab⟩
 ·have hd:decB l=([],0,4):=by rw [Hdec.out,if_pos hst]
  have Hd:=Lib.hid hd
  have hne:((s:Int) != t)=true:=by simp;omega
  clear hd Hdec hst
  go_enter Tryz.func88,Tryz.ntmps88
  go_wp2_with fail
  go_quiet (first | (go_at_call 111;exact Calls.quiet_of (F4.out _ (below_drawn (Below.refl _ _)))) | (go_at_call 67;exact Calls.quiet_of_same (G4.out _ (below_drawn (Below.refl _ _)))))
  go_wp2_with fail
  go_ret3
  rw [Hd.out]
  exact ⟨none,0,rfl,own_none _ _,below_drawn (Below.refl _ _)⟩
theorem refOne_any (ao:Option Addr) (cap:Nat) (l:List UInt8) (w:World) (h:Sl w ao cap l) (hm:l.length≤140737488351232) :
 Calls Tryz.prog 45 #[.slice ao l.length cap] w (OnePost w (oneB l)):=by
 have H:=Lib.hid (refDecode_any ao cap l w h hm)
 obtain ⟨d,n,c,hd⟩:∃ d n c,decB l=(d,n,c):=⟨_,_,_,rfl⟩
 have h1:oneB l=if c=0∧n≠l.length then ([],3) else (d,c):=by unfold oneB;rw [hd]
 have he:c≠0→d=[]:=fun h=>by have:=(dec_err (l:=l) (by rw [hd];exact h)).1;rw [hd] at this;exact this
 have H1:=Lib.hid h1
 have He:=Lib.hid he
 rw [hd] at H
 clear h h1 hd he
 by_cases hc:c=0
 ·subst hc
  by_cases hn:n=l.length
  all_goals
   (first | (have hb:((n:Int) != l.length)=false:=by simp;omega) | (have hb:((n:Int) != l.length)=true:=by simp;omega))
   have Hn:=Lib.hid hn
   clear hn
   go_enter Tryz.func45,Tryz.ntmps45
   go_wp2_with fail
   refine H.out.mono ?_
   rintro e w1 ⟨ro,rc,rfl,ho,hb1⟩
   have HO:=Lib.hid ho
   have HB:=Lib.hid hb1
   clear ho hb1
   simp only
   go_wp2_with fail
   go_ret2
  ·rw [H1.out,if_neg (by simp [Hn.out])]
   exact ⟨ro,rc,by first | rfl | trivial,HO.out,HB.out⟩
  ·rw [H1.out,if_pos ⟨by first | rfl | trivial,Hn.out⟩]
   exact ⟨none,0,by first | rfl | trivial,own_none _ _,HB.out⟩
 ·have hc0:((c:Int)==0)=false:=by rw [beq_eq_false_iff_ne];omega
  have hc1:((c:Int) != 0)=true:=by simp;omega
  obtain rfl:=He.out hc
  go_enter Tryz.func45,Tryz.ntmps45
  go_wp2_with fail
  refine H.out.mono ?_
  rintro e w1 ⟨ro,rc,rfl,ho,hb1⟩
  have HB:=Lib.hid hb1
  clear ho hb1
  simp only
  go_wp2_with fail
  go_ret2
  rw [H1.out,if_neg (by simp [hc])]
  exact ⟨none,0,by first | rfl | trivial,own_none _ _,HB.out⟩
end Go.Proofs.YthlcmjgdilebeaaGreat.F