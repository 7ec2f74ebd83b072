/- Texts put together: WRy, FrRef. -/
import Derived.Test.YtogamdaomdoapaaGreatGa02
import Derived.Test.YtogamdaomdoapaaGreatGa23
import Derived.Test.YtogamdaomdoapaaGreatGa27
import Derived.Test.YtogamdaomdoapaaGreatGa34
import Derived.Test.YtogamdaomdoapaaGreatGa35
import Derived.Test.YtogamdaomdoapaaGreatGa36
import Derived.IntWalk
namespace Go.Proofs.YtogamdaomdoapaaGreat
open Go.Value renaming int→aI,string→aS,bool→aB
open Go.IntKind renaming i64→aK
open Go.Lib renaming hid→uH
set_option maxRecDepth 20000
open Go.RowKit
theorem St.setRow {W w:World} {L:List Th} {b:Nat} {cur:Array Value} {t:TypeId} (h:St W w (a0c b (.cells cur t (0,0))::L)) (cs:Array Value) (_:cs.size=37):St W (w.setRow b cs) (a0c b (.cells cs t (0,0))::L) :=
 h.step (w':=w.setRow b cs) ⟨rfl,rfl,rfl,by simp,fun k _ hn=>setRow_other w b k cs (fun e=>hn e)⟩ _ (setRow_heap w b cur cs t (0,0) h.head) (fun _ hx=>.inl hx)
set_option maxHeartbeats 4000000 in
theorem o0k {d:Wd} {ms ds:Value} {V:Array Value} (hV:V=wdV d ms ds) (ao dl:Option Addr) (zc dc:Nat) (hms:ms=.slice ao d.mp.zs.length zc) (hds:ds=.slice dl d.data.length dc) (w:World) (hz:O.ZsAt w ao d.mp.zs) (hbd:BAt w dl d.data) (hl:d.mp.zs.length≤1000):Calls Tryz.prog 23 #[.agg V] w fun e w'=>e=.returned (aB (docW d))∧Below w.heap.size w w':=by
 have HV:=uH hV
 have Hz:=uH hz
 have Hbd:=uH hbd
 have Hms:=uH hms
 have Hds:=uH hds
 obtain ⟨r,hr⟩:∃ r,r=docW d:=⟨_,rfl⟩
 rw [←hr]
 have Hr:=uH hr
 clear hV hz hbd hms hds hr
 go_enter Tryz.func23,Tryz.ntmps23
 refine d0m fun R HR=>?_
 refine a0a fun C HC=>?_
 go_wp2_with fail
 refine a0d fun wa hwa=>?_
 obtain ⟨B,hB⟩:∃ B,B=w.heap.size:=⟨_,rfl⟩
 have S:Hid (St w wa [a0c B (.cells V 49 (0,0))]):=by rw [hwa];exact uH ((St.start w).objN _ B hB)
 rw [←hB]
 clear hwa hB
 (have hC:=HC.out);clear HC;subst hC
 refine a0a fun C HC=>?_
 obtain ⟨c0,c1,c2,c3,c4,c5,c6,c7,c8,c9,c10,c11,c12,c13,c14,c15,c16,c17,c18,c19,c20,c21,c22,c23,c24,c25,c26,c27,c28,c29,c30,c31,c32,c33,c34,c35,c36⟩:=a0r (show wa.heap[B]?=some (.cells (wdV d ms ds) 49 (0,0)) from (by rw [←HV.out];exact S.out.head))
 have sB:=(S.out.a0b 0 rfl).1
 clear c1 c2 c3 c4 c5 c6 c7 c8 c9 c10 c11 c12 c13 c14 c15 c16 c17 c18 c19 c20 c21 c22 c23 c24 c25 c26 c27 c28 c29 c30 c31 c32 c33 c34 c35 c36
 refine wp_seq ?_
 refine wp_region_lit ?_
 refine a0s 4 fun L HLL=>?_
 simp only [List.take_succ_cons,List.take_zero,List.cons_append,List.nil_append]
 go_wp2_with fail
 refine b0l fun w1 hw1=>?_
 obtain ⟨P,hP⟩:∃ P,P=wa.heap.size:=⟨_,rfl⟩
 have S1:Hid (St w w1 [a0c P (.cells #[aI aK 0,aI aK 0,aI aK 0,aI aK 0,aI aK 0,aI aK 0,aI aK 0,aI aK 0,aS ⟨#[]⟩,aS ⟨#[]⟩,aI aK 0,aI aK 0,aI aK 0,aS ⟨#[]⟩,aS ⟨#[]⟩,aS ⟨#[]⟩,aS ⟨#[]⟩,aI aK 0,aI aK 0,aI aK 0,aB false,aI aK 0,aI aK 0,aI aK 0,aI aK 0,aI aK 0,aI aK 0,aI aK 0,aI aK 0,aI aK 0,.slice none 0 0,aI aK 0,aI aK 0,aI aK 0,aI aK 0,aS ⟨#[]⟩,.slice none 0 0] 49 (0,0)),a0c B (.cells V 49 (0,0))]):=by rw [hw1];exact uH (S.out.objN _ P hP)
 rw [←hP]
 clear hw1 hP S c0 sB
 (have hL:=HLL.out);clear HLL;subst hL
 simp only [List.drop_succ_cons,List.drop_zero]
 refine wpList_store_row rfl 49 _ _ rfl P #[aI aK d.kind,aI aK 0,aI aK 0,aI aK 0,aI aK 0,aI aK 0,aI aK 0,aI aK 0,aS ⟨#[]⟩,aS ⟨#[]⟩,aI aK 0,aI aK 0,aI aK 0,aS ⟨#[]⟩,aS ⟨#[]⟩,aS ⟨#[]⟩,aS ⟨#[]⟩,aI aK 0,aI aK 0,aI aK 0,aB false,aI aK 0,aI aK 0,aI aK 0,aI aK 0,aI aK 0,aI aK 0,aI aK 0,aI aK 0,aI aK 0,.slice none 0 0,aI aK 0,aI aK 0,aI aK 0,aI aK 0,aS ⟨#[]⟩,.slice none 0 0] rfl rfl 49 _ S1.out.head (by kernel_rfl) rfl (by simp [Value.oneCell']) ?_
 have S2:=uH (S1.out.setRow #[aI aK d.kind,aI aK 0,aI aK 0,aI aK 0,aI aK 0,aI aK 0,aI aK 0,aI aK 0,aS ⟨#[]⟩,aS ⟨#[]⟩,aI aK 0,aI aK 0,aI aK 0,aS ⟨#[]⟩,aS ⟨#[]⟩,aS ⟨#[]⟩,aS ⟨#[]⟩,aI aK 0,aI aK 0,aI aK 0,aB false,aI aK 0,aI aK 0,aI aK 0,aI aK 0,aI aK 0,aI aK 0,aI aK 0,aI aK 0,aI aK 0,.slice none 0 0,aI aK 0,aI aK 0,aI aK 0,aI aK 0,aS ⟨#[]⟩,.slice none 0 0] rfl)
 clear S1
 refine b0l fun w2 hw2=>?_
 rw [←hw2] at S2
 clear hw2
 go_wp2_with fail
 (have hC:=HC.out);clear HC;subst hC
 refine a0a fun C HC=>?_
 go_wp2_with fail
 (have hC:=HC.out);clear HC;subst hC
 refine wp_seq_k fun K2 hK2=>?_
 have hT:e0h K2 w V B P r d:=by
  intro w3 X aX dX kX cX ok j5 j6 j7 j8 j9 j10 j11 j12 j13 j14 j15 j16 j17 j18 j19 j20 j21 j22 j23 j24 j25 j26 j27 j28 j29 j30 j31 j32 j33 j34 j35 j36 j37 j38 j39 j40 j41 j42 j43 j44 j45 j46 j47 j48 j49 j50 j51 j52 j53 j54 j55 j56 j57 j58 j59 j60 j61 j62 j63 j64 j65 j66 j67 j68 j69 j70 j71 j72 j73 j74 j75 j76 j77 j78 j79 j80 j81 j82 j83 j84 j85 j86 j87 j88 j89 j90 j91 j92 j93 j94 j95 j96 j97 j98 j99 j100 j101 j102 j103 j104 j105 j106 j107 j108 j109 j110 j111 j112 j113 j114 j115 j116 j117 j118 j119 j120 j121 j122 j123 j124 j125 j126 j127 j128 j129 j130 j131 j132 j133 j134 j135 j136 j137 j138 j139 j140 j141 j142 j143 j144 j145 j146 j147 j148 j149 j150 j151 j152 j153 j154 j155 j156 j157 j158 j159 j160 j161 j162 j163 j164 j165 j166 j167 j168 j169 j170 j171 j172 j173 j174 j175 j176 j177 j178 j179 j180 j181 j182 j183 j184 j185 j186 j187 j188 j189 j190 j191 j192 j193 j194 j195 j196 j197 j198 j199 j200 j201 S3 hzX hbX hmX hr3
  refine hK2 _ _ ?_
  rw [HR.out]
  exact x0i rfl HV.out rfl ao dl aX dX zc dc kX cX Hms.out Hds.out rfl rfl w w3 Hz.out hzX Hbd.out hbX hmX B P ok (uH S3) r hr3
 clear hK2
 rw [HR.out]
 clear HR
 by_cases k1:d.kind=1
 ·exact (may_q1 rfl HV.out ao dl zc dc Hms.out Hds.out w w2 Hz.out Hbd.out hl B P k1 S2 r Hr.out hT) _ _ _
 by_cases k2:d.kind=2
 ·exact (may_q2 rfl HV.out ao dl zc dc Hms.out Hds.out w w2 Hz.out Hbd.out hl B P k2 S2 r Hr.out hT) _ _ _
 by_cases k3:d.kind=3
 ·exact (may_q3 rfl HV.out ao dl zc dc Hms.out Hds.out w w2 Hz.out Hbd.out hl B P k3 S2 r Hr.out hT) _ _ _
 by_cases k4:d.kind=4
 ·exact (may_q4 rfl HV.out ao dl zc dc Hms.out Hds.out w w2 Hz.out Hbd.out hl B P k4 S2 r Hr.out hT) _ _ _
 by_cases k5:d.kind=5
 ·exact (may_q5 rfl HV.out ao dl zc dc Hms.out Hds.out w w2 Hz.out Hbd.out hl B P k5 S2 r Hr.out hT) _ _ _
 by_cases k6:d.kind=6
 ·exact (may_q6 rfl HV.out ao dl zc dc Hms.out Hds.out w w2 Hz.out Hbd.out hl B P k6 S2 r Hr.out hT) _ _ _
 by_cases k7:d.kind=7
 ·exact (may_q7 rfl HV.out ao dl zc dc Hms.out Hds.out w w2 Hz.out Hbd.out hl B P k7 S2 r Hr.out hT) _ _ _
 by_cases k8:d.kind=8
 ·exact (may_q8 rfl HV.out ao dl zc dc Hms.out Hds.out w w2 Hz.out Hbd.out hl B P k8 S2 r Hr.out hT) _ _ _
 by_cases k9:d.kind=9
 ·exact (may_q9 rfl HV.out ao dl zc dc Hms.out Hds.out w w2 Hz.out Hbd.out hl B P k9 S2 r Hr.out hT) _ _ _
 by_cases k10:d.kind=10
 ·exact (may_q10 rfl HV.out ao dl zc dc Hms.out Hds.out w w2 Hz.out Hbd.out hl B P k10 S2 r Hr.out hT) _ _ _
 exact (may_q0 rfl HV.out ao dl zc dc Hms.out Hds.out w w2 Hz.out Hbd.out hl B P ⟨k1,k2,k3,k4,k5,k6,k7,k8,k9,k10⟩ S2 r Hr.out hT) _ _ _
end Go.Proofs.YtogamdaomdoapaaGreat
namespace Go.Proofs.YtogamdaomdoapaaGreat.F
open Go.Value renaming int→aI,string→aS,bool→aB
open Go.IntKind renaming i64→aK
open Go.Lib renaming hid→uH
set_option maxRecDepth 20000
open Go.RowKit
theorem j0g (b off cap:Nat) (l:List UInt8) (w:World) (hb:b<w.heap.size) (hr:BRow w b off l) (m n:Nat) (hn:n=l.length - m) (hm:m+4≤l.length) :
 Calls Tryz.prog 131 #[.slice (some ⟨b,off+m,none⟩) n cap] w fun e w'=>e=.returned (.int .u32 (b0e (l.drop m):Nat))∧∃ n,w'=w.drewN n:=by
 have hat:BAt w (some ⟨b,off+m,none⟩) (l.drop m):=by
  have:=i0a hb hr m (l.length - m)
  rwa [List.take_of_length_le (by rw [List.length_drop];omega)] at this
 have:=qsatrapyref1.j0v (some ⟨b,off+m,none⟩) cap (l.drop m) w hat (by rw [List.length_drop];omega)
 rw [List.length_drop,←hn] at this
 exact this
theorem sum_at (b off cap:Nat) (l:List UInt8) (w:World) (hb:b<w.heap.size) (hr:BRow w b off l) (n:Nat) (hn:n≤l.length) (hm:l.length≤140737488351232) :
 Calls Tryz.prog 90 #[.slice (some ⟨b,off,none⟩) n cap] w fun e w'=>e=.returned (.int .u32 (sumOf (l.take n):Nat))∧w'=w:=by
 have hat:BAt w (some ⟨b,off,none⟩) (l.take n):=by have:=i0a hb hr 0 n;simpa using this
 have hl:(l.take n).length=n:=by rw [List.length_take];omega
 have:=i0y (some ⟨b,off,none⟩) cap (l.take n) w hat (by omega)
 rw [hl] at this
 exact this
set_option maxHeartbeats 4000000 in
theorem n0b (ao:Option Addr) (cap:Nat) (l:List UInt8) (w:World) (h:Sl w ao cap l) (hm:l.length≤140737488351232) :
 Calls Tryz.prog 95 #[.slice ao l.length cap] w (j0m w (decB l)):=by
 by_cases h8:(l.length:Int)<8
 ·have hd:decB l=([],0,2):=by unfold decB;rw [if_pos (by omega)]
  rw [hd]
  clear hd h
  go_enter Tryz.func95,Tryz.ntmps95
  go_wp2_with fail
  go_ret3
  exact ⟨none,0,rfl,c0z _ _,bg⟩
 obtain ⟨i0,hi,hz0,hz1,hz2⟩:=info_parts c0h
 obtain ⟨b,off,rfl,hb,hr⟩:=h.at_ (by omega)
 have hlc:=h.le
 have hcm:=h.cm
 have hul:=k0i l
 have Hr:=uH hr
 obtain ⟨u,hu⟩:∃ u,u=b0e l:=⟨_,rfl⟩
 rw [←hu] at hul
 have hchk:=u0i (l:=l) (by omega)
 obtain ⟨s,hs⟩:∃ s,s=b0e (l.drop 4):=⟨_,rfl⟩
 obtain ⟨t,ht⟩:∃ t,t=sumOf (l.take 4):=⟨_,rfl⟩
 rw [←hs,←ht,←hu] at hchk
 have F4:=uH (fun W (hW:Below w.heap.size w W)=>j0g b off (cap - 4) l W (Nat.lt_of_lt_of_le hb hW.size) (hr.below hb hW) 4 (l.length - 4) rfl (by omega))
 have F0:=uH (fun W (hW:Below w.heap.size w W)=>qsatrapyref1.j0v (some ⟨b,off,none⟩) cap l W (h.at_.below hW) (by omega))
 have G4:=uH (fun W (hW:Below w.heap.size w W)=>sum_at b off cap l W (Nat.lt_of_lt_of_le hb hW.size) (hr.below hb hW) 4 (by omega) hm)
 rw [←hs] at F4
 rw [←hu] at F0
 rw [←ht] at G4
 have hdec:decB l=if s≠t then ([],0,4) else if 1048576<u then ([],0,5) else if l.length<12+u then ([],0,2) else if b0e (l.drop (8+u))≠sumOf (l.take (8+u)) then ([],0,4) else ((l.drop 8).take u,12+u,0):=by
  unfold decB
  rw [if_neg (by omega),←hu]
  by_cases e:s=t
  ·rw [if_neg (show ¬l.take 8≠b0x u from fun hh=>hh (hchk.2 e)),if_neg (show ¬s≠t from fun hh=>hh e)]
  ·rw [if_pos (show l.take 8≠b0x u from fun hh=>e (hchk.1 hh)),if_pos (show s≠t from e)]
 have Hdec:=uH hdec
 clear hu hr h hs ht hchk hdec
 have hc4:4≤cap:=by omega
 have hc4i:(4:Int)≤cap:=by omega
 have hl4:(4:Int)≤l.length:=by omega
 by_cases hst:s=t
 ·subst hst
  have hd1:decB l=if 1048576<u then ([],0,5) else if l.length<12+u then ([],0,2) else if b0e (l.drop (8+u))≠sumOf (l.take (8+u)) then ([],0,4) else ((l.drop 8).take u,12+u,0):=by rw [Hdec.out,if_neg (by simp)]
  have Hd1:=uH hd1
  clear hd1 Hdec
  go_enter Tryz.func95,Tryz.ntmps95
  go_wp2_with fail
  go_quiet (first | (go_at_call 131;exact Calls.quiet_of (F4.out _ (a0z (Below.refl _ _)))) | (go_at_call 90;exact Calls.quiet_of_same (G4.out _ (a0z (Below.refl _ _)))))
  go_wp2_with fail
  refine (F0.out _ (a0z (Below.refl _ _))).mono ?_
  rintro e w1 ⟨rfl,n1,rfl⟩
  by_cases hbig:(1048576:Int)<u
  ·have hd:decB l=([],0,5):=by rw [Hd1.out,if_pos (by omega)]
   have Hd:=uH hd
   clear hd
   go_wp2_with fail
   go_ret3
   rw [Hd.out]
   exact ⟨none,0,rfl,c0z _ _,a0z (Below.refl _ _)⟩
  by_cases hsh:(l.length:Int)<12+u
  ·have hd:decB l=([],0,2):=by rw [Hd1.out,if_neg (by omega),if_pos (by omega)]
   have Hd:=uH hd
   clear hd
   go_wp2_with fail
   go_ret3
   rw [Hd.out]
   exact ⟨none,0,rfl,c0z _ _,a0z (Below.refl _ _)⟩
  obtain ⟨x,hx⟩:∃ x,x=b0e (l.drop (8+u)):=⟨_,rfl⟩
  obtain ⟨y,hy⟩:∃ y,y=sumOf (l.take (8+u)):=⟨_,rfl⟩
  have hd1:decB l=if x≠y then ([],0,4) else ((l.drop 8).take u,12+u,0):=by rw [Hd1.out,if_neg (by omega),if_neg (by omega),hx,hy]
  have FX:=uH (fun W (hW:Below w.heap.size w W)=>j0g b off (cap - (8+u)) l W (Nat.lt_of_lt_of_le hb hW.size) (Hr.out.below hb hW) (8+u) (l.length - (8+u)) rfl (by omega))
  have GX:=uH (fun W (hW:Below w.heap.size w W)=>sum_at b off cap l W (Nat.lt_of_lt_of_le hb hW.size) (Hr.out.below hb hW) (8+u) (by omega) hm)
  rw [←hx] at FX
  rw [←hy] at GX
  have Hd2:=uH hd1
  have hk1:8+u≤cap:=by omega
  have hk2:(8:Int)+u≤cap:=by omega
  have hk3:8+u≤l.length:=by omega
  have hk4:(8:Int)+u≤l.length:=by omega
  have hk0:(0:Int)≤8+u:=by omega
  have hwr:IntKind.i64.wrap (8+(u:Int))=8+(u:Int):=IntWalk.i64_in _ (by omega)
  clear hx hy hd1 Hd1
  by_cases hxy:x=y
  ·subst hxy
   have hd:decB l=((l.drop 8).take u,12+u,0):=by rw [Hd2.out,if_neg (by simp)]
   have Hd:=uH hd
   clear hd Hd2
   go_wp2_with fail
   refine a0d fun wa hwa=>?_
   have wab:Below w.heap.size w wa:=by rw [hwa];exact a0z (Below.refl _ _)
   have was:=wab.size
   clear hwa
   go_quiet (first | (go_at_call 131;exact Calls.quiet_of (FX.out _ (a0z wab))) | (go_at_call 90;exact Calls.quiet_of_same (GX.out _ (a0z wab))))
   clear hwr
   have hl3:((l.drop 8).take u).length=u:=by rw [List.length_take,List.length_drop];omega
   have hat3:BAt wa (some ⟨b,off+8,none⟩) ((l.drop 8).take u):=i0a (Nat.lt_of_lt_of_le hb was) (Hr.out.below hb wab) 8 u
   have Hl3:=uH hl3
   have Hat3:=uH hat3
   clear hl3 hat3
   go_wp2_with (at_builtin;go_must (refine c0i _ rfl (.tmp 37) (.tmp 41) 47 rfl wa.heap.size 5 i0 (aI .u8 0) 1 1 Tryz.underlying47 hi hz0 hz1 hz2 rfl (by decide) _ 0 [] rfl (f0c _ wa.heap.size rfl wa.heap.size (Nat.le_refl _) 5 1) (some ⟨b,off+8,none⟩) (8+u - 8) (cap - 8) (bytV ((l.drop 8).take u)) rfl (fun h=>(nomatch h)) (by rw [a0u,Hl3.out];omega) (Hat3.out.below ((a0z (Below.refl _ _)).alloc (Nat.le_refl _) _)).cells (a0x _) (by unfold maxLen;omega) (by omega) (by simp) ?_))
   intro v w3 hown hgrow
   have hb3:Below wa.heap.size wa w3:=below_grown ((a0z (Below.refl _ _)).alloc (Nat.le_refl _) _) (by simp) hgrow (fun k hk=>by simp [Value.ownBlock] at hk;omega)
   obtain ⟨bo,c,hv,ho⟩:=c0n (l:=(l.drop 8).take u) hown (by rw [Hl3.out])
   rw [Hl3.out] at hv
   have HO:=uH (b0a ho was)
   have HB:=uH (wab.trans (hb3.mono was))
   rw [hv]
   clear ho hb3 hown hgrow hv
   go_wp2_with fail
   go_ret3
   rw [Hd.out]
   exact ⟨bo,c,(show Ending.returned (.tuple #[.slice bo u c,aI aK (12+(u:Int)),aI aK 0])=_ from by rw [show (12+(u:Int))=((12+u:Nat):Int) from by omega];simp only [Hl3.out];rfl),HO.out,HB.out⟩
  ·have hd:decB l=([],0,4):=by rw [Hd2.out,if_pos hxy]
   have Hd:=uH hd
   have hne:((x:Int) != y)=true:=by simp;omega
   clear hd Hd2 hxy
   go_wp2_with fail
   refine a0d fun wa hwa=>?_
   have wab:Below w.heap.size w wa:=by rw [hwa];exact a0z (Below.refl _ _)
   have was:=wab.size
   clear hwa
   go_quiet (first | (go_at_call 131;exact Calls.quiet_of (FX.out _ (a0z wab))) | (go_at_call 90;exact Calls.quiet_of_same (GX.out _ (a0z wab))))
   clear hwr
   go_wp2_with fail
   go_ret3
   rw [Hd.out]
   exact ⟨none,0,rfl,c0z _ _,a0z wab⟩
 ·have hd:decB l=([],0,4):=by rw [Hdec.out,if_pos hst]
  have Hd:=uH hd
  have hne:((s:Int) != t)=true:=by simp;omega
  clear hd Hdec hst
  go_enter Tryz.func95,Tryz.ntmps95
  go_wp2_with fail
  go_quiet (first | (go_at_call 131;exact Calls.quiet_of (F4.out _ (a0z (Below.refl _ _)))) | (go_at_call 90;exact Calls.quiet_of_same (G4.out _ (a0z (Below.refl _ _)))))
  go_wp2_with fail
  go_ret3
  rw [Hd.out]
  exact ⟨none,0,rfl,c0z _ _,a0z (Below.refl _ _)⟩
theorem l0y (ao:Option Addr) (cap:Nat) (l:List UInt8) (w:World) (h:Sl w ao cap l) (hm:l.length≤140737488351232) :
 Calls Tryz.prog 59 #[.slice ao l.length cap] w (j0j w (oneB l)):=by
 have H:=uH (n0b ao cap l w h hm)
 obtain ⟨d,n,c,hd⟩:∃ d n c,decB l=(d,n,c):=⟨_,_,_,rfl⟩
 have h1:oneB l=if c=0∧n≠l.length then ([],3) else (d,c):=by unfold oneB;rw [hd]
 have he:c≠0→d=[]:=fun h=>by have:=(dec_err (l:=l) (by rw [hd];exact h)).1;rw [hd] at this;exact this
 have H1:=uH h1
 have He:=uH he
 rw [hd] at H
 clear h h1 hd he
 by_cases hc:c=0
 ·subst hc
  by_cases hn:n=l.length
  all_goals
   (first | (have hb:((n:Int) != l.length)=false:=by simp;omega) | (have hb:((n:Int) != l.length)=true:=by simp;omega))
   have Hn:=uH hn
   clear hn
   go_enter Tryz.func59,Tryz.ntmps59
   go_wp2_with fail
   refine H.out.mono ?_
   rintro e w1 ⟨ro,rc,rfl,ho,hb1⟩
   have HO:=uH ho
   have HB:=uH hb1
   clear ho hb1
   simp only
   go_wp2_with fail
   go_ret2
  ·rw [H1.out,if_neg (by simp [Hn.out])]
   exact ⟨ro,rc,by first | rfl | trivial,HO.out,HB.out⟩
  ·rw [H1.out,if_pos ⟨by first | rfl | trivial,Hn.out⟩]
   exact ⟨none,0,by first | rfl | trivial,c0z _ _,HB.out⟩
 ·have hc0:((c:Int)==0)=false:=by rw [beq_eq_false_iff_ne];omega
  have hc1:((c:Int) != 0)=true:=by simp;omega
  obtain rfl:=He.out hc
  go_enter Tryz.func59,Tryz.ntmps59
  go_wp2_with fail
  refine H.out.mono ?_
  rintro e w1 ⟨ro,rc,rfl,ho,hb1⟩
  have HB:=uH hb1
  clear ho hb1
  simp only
  go_wp2_with fail
  go_ret2
  rw [H1.out,if_neg (by simp [hc])]
  exact ⟨none,0,by first | rfl | trivial,c0z _ _,HB.out⟩
end Go.Proofs.YtogamdaomdoapaaGreat.F