/- Texts put together: WRt, WQ1, WQ2, WQ3. -/
import Derived.Test.YtogamdaomdoapaaGreatGa16
import Derived.Test.YtogamdaomdoapaaGreatGa17
import Derived.Test.YtogamdaomdoapaaGreatGa26
import Derived.Test.YtogamdaomdoapaaGreatGa31
import Derived.Test.YtogamdaomdoapaaGreatGa33
namespace Go.Proofs.YtogamdaomdoapaaGreat
open Go.Value renaming int→aI,string→aS,bool→aB
open Go.IntKind renaming i64→aK
open Go renaming undef→J
open List renaming setIfInBounds_toArray→lA,set_cons_zero→lZ,set_cons_succ→lS
open Go.Lib renaming hid→uH
set_option maxRecDepth 20000
open Go.RowKit
def xW (d:Wd) (p:Pl) (m:Mp) (l:List UInt8):Wd:=⟨d.kind,p.zone,p.epoch,p.index,p.size,p.off,p.host,p.err,p.sf,p.st,p.op,p.rep,m,p.ch,l⟩
theorem e0w (d:Wd):docW d=(okD d&&l0b d&&j0o (xW d (a0v d) (mapW d) (e0p d)) d):=by
 rw [v0p]
 unfold docW xW Wd.pl
 rw [decide_eq_true rfl,Bool.true_and]
theorem d0h {P:Program} {ops:Array Oper} {rest:List Oper} {o:Oper} {a:Act} {w:World} {Q:Exit→Act→World→Prop} (hgd:Region.wanted o (yielded ops a.tmps)=true) (ty:TypeId) (x:Operand) (ho:o.op=.load ty x)
 (g:Nat) (hx:a.eval x=.pointer (some ⟨g,0,none⟩)) (t:TypeId) (cs:Array Value) (fr:Nat × Nat) (dd:TypeDesc) (hg:w.heap[g]?=some (.cells cs t fr))
 (hu:P.underlying ty=some dd) (hd:(match dd with | .struct _ | .array _ _=>true | _=>false)=true) (hi:(P.info? ty).map (·.size)=some cs.size)
 (h:wpList P ops Q rest (a.put o.dst (.agg cs)) w):wpList P ops Q (o::rest) a w:=by
 unfold wpList
 rw [if_pos hgd]
 exact .inl (wp_load_row ty x ho g hx t cs fr dd hg hu hd hi h)
def i0k (w:World) (r:Bool):Exit→Act→World→Prop:=bodyPost Tryz.prog Tryz.f23 fun e w'=>e=.returned (aB r)∧Below w.heap.size w w'
set_option maxHeartbeats 4000000 in
theorem x0i {c:Code} (hb:(Tryz.f23).body=some c) {d X:Wd} {ms ds msX dsX:Value} {V VX:Array Value} (hV:V=wdV d ms ds) (hVX:VX=wdV X msX dsX) (ao dl aX dX:Option Addr) (zc dc kX cX:Nat) (hms:ms=.slice ao d.mp.zs.length zc) (hds:ds=.slice dl d.data.length dc) (hmsX:msX=.slice aX X.mp.zs.length kX) (hdsX:dsX=.slice dX X.data.length cX)
 (w w3:World) (hz:O.ZsAt w ao d.mp.zs) (hzX:O.ZsAt w aX X.mp.zs) (hbd:BAt w dl d.data) (hbX:BAt w dX X.data) (hm:X.mp.zs.length≤100000) (B P:Nat) (ok:Bool)
 (H:Hid (St w w3 [a0c P (.cells VX 49 (0,0)),a0c B (.cells V 49 (0,0))])) (r:Bool) (hr:r=(ok&&l0b d&&j0o X d))
 {j5 j6 j7 j8 j9 j10 j11 j12 j13 j14 j15 j16 j17 j18 j19 j20 j21 j22 j23 j24 j25 j26 j27 j28 j29 j30 j31 j32 j33 j34 j35 j36 j37 j38 j39 j40 j41 j42 j43 j44 j45 j46 j47 j48 j49 j50 j51 j52 j53 j54 j55 j56 j57 j58 j59 j60 j61 j62 j63 j64 j65 j66 j67 j68 j69 j70 j71 j72 j73 j74 j75 j76 j77 j78 j79 j80 j81 j82 j83 j84 j85 j86 j87 j88 j89 j90 j91 j92 j93 j94 j95 j96 j97 j98 j99 j100 j101 j102 j103 j104 j105 j106 j107 j108 j109 j110 j111 j112 j113 j114 j115 j116 j117 j118 j119 j120 j121 j122 j123 j124 j125 j126 j127 j128 j129 j130 j131 j132 j133 j134 j135 j136 j137 j138 j139 j140 j141 j142 j143 j144 j145 j146 j147 j148 j149 j150 j151 j152 j153 j154 j155 j156 j157 j158 j159 j160 j161 j162 j163 j164 j165 j166 j167 j168 j169 j170 j171 j172 j173 j174 j175 j176 j177 j178 j179 j180 j181 j182 j183 j184 j185 j186 j187 j188 j189 j190 j191 j192 j193 j194 j195 j196 j197 j198 j199 j200 j201:Value}:(sndC (sndC (sndC (sndC c)))).wp Tryz.prog (i0k w r) { tmps:=#[.agg V,.pointer (some ⟨B,0,none⟩),aB false,.pointer (some ⟨P,0,none⟩),aB ok,j5,j6,j7,j8,j9,j10,j11,j12,j13,j14,j15,j16,j17,j18,j19,j20,j21,j22,j23,j24,j25,j26,j27,j28,j29,j30,j31,j32,j33,j34,j35,j36,j37,j38,j39,j40,j41,j42,j43,j44,j45,j46,j47,j48,j49,j50,j51,j52,j53,j54,j55,j56,j57,j58,j59,j60,j61,j62,j63,j64,j65,j66,j67,j68,j69,j70,j71,j72,j73,j74,j75,j76,j77,j78,j79,j80,j81,j82,j83,j84,j85,j86,j87,j88,j89,j90,j91,j92,j93,j94,j95,j96,j97,j98,j99,j100,j101,j102,j103,j104,j105,j106,j107,j108,j109,j110,j111,j112,j113,j114,j115,j116,j117,j118,j119,j120,j121,j122,j123,j124,j125,j126,j127,j128,j129,j130,j131,j132,j133,j134,j135,j136,j137,j138,j139,j140,j141,j142,j143,j144,j145,j146,j147,j148,j149,j150,j151,j152,j153,j154,j155,j156,j157,j158,j159,j160,j161,j162,j163,j164,j165,j166,j167,j168,j169,j170,j171,j172,j173,j174,j175,j176,j177,j178,j179,j180,j181,j182,j183,j184,j185,j186,j187,j188,j189,j190,j191,j192,j193,j194,j195,j196,j197,j198,j199,j200,j201,J,J,J,J,J,J,J,J,J,J],defers:=[] } w3:=by
 have hs:V.size=37:=by rw [hV];rfl
 have hsX:VX.size=37:=by rw [hVX];rfl
 obtain ⟨q,hq⟩:∃ q,q=l0b d:=⟨_,rfl⟩
 rw [←hq] at hr
 have Hr:=uH hr
 have Hnu:=uH (fun w=>q0m hV dl dc hds w)
 rw [←hq] at Hnu
 have Hsa:=uH (fun (w3:World) (hbw:Below w.heap.size w w3)=>v0q hVX hV aX ao dX dl kX zc cX dc hmsX hms hdsX hds w3 (hzX.grow hbw) (hz.grow hbw) (hbX.below hbw) (hbd.below hbw) hm)
 have S:=H
 clear hr hq hV hVX hms hds hmsX hdsX hz hzX hbd hbX hm H
 cases hb
 simp only [sndC]
 unfold i0k
 refine wp_seq ?_
 refine wp_region_lit ?_
 cases ok with
 | false =>
  go_wp2_with fail
  go_ret
  exact ⟨by rw [Hr.out];rfl,S.out.b⟩
 | true =>
  refine a0s 2 fun L HL=>?_
  simp only [List.take_succ_cons,List.take_zero,List.cons_append,List.nil_append]
  go_wp2_with fail
  (have hL:=HL.out);clear HL;subst hL
  simp only [List.drop_succ_cons,List.drop_zero]
  (refine d0h (by rfl) 49 _ rfl B rfl _ _ _ _ ((S.out.pull (A:=[_])).head) Tryz.underlying49 rfl (by rw [hs];kernel_rfl) ?_)
  refine a0s 3 fun L HL=>?_
  simp only [List.take_succ_cons,List.take_zero,List.cons_append,List.nil_append]
  go_wp2_with fail
  refine (Hnu.out _).mono ?_
  rintro e w4 ⟨rfl,hb4⟩
  have S:=uH (S.out.grow hb4)
  clear hb4
  go_wp2_with fail
  (have hL:=HL.out);clear HL;subst hL
  simp only [List.drop_succ_cons,List.drop_zero]
  cases q with
  | false =>
   go_wp2_with fail
   go_ret
   exact ⟨by rw [Hr.out];rfl,S.out.b⟩
  | true =>
   (refine d0h (by rfl) 49 _ rfl P rfl _ _ _ _ (S.out.head) Tryz.underlying49 rfl (by rw [hsX];kernel_rfl) ?_)
   (refine d0h (by rfl) 49 _ rfl B rfl _ _ _ _ ((S.out.pull (A:=[_])).head) Tryz.underlying49 rfl (by rw [hs];kernel_rfl) ?_)
   go_wp2_with fail
   refine (Hsa.out _ S.out.b).mono ?_
   rintro e w5 ⟨rfl,hb5⟩
   have w5_b:=(S.out.grow hb5).b
   clear hb5 S
   go_wp2_with fail
   go_ret
   exact ⟨by rw [Hr.out];rfl,w5_b⟩
def e0h (K2:Act→World→Prop) (w:World) (V:Array Value) (B P:Nat) (r:Bool) (d:Wd):Prop :=
 ∀ (w3:World) (X:Wd) (aX dX:Option Addr) (kX cX:Nat) (ok:Bool) (j5 j6 j7 j8 j9 j10 j11 j12 j13 j14 j15 j16 j17 j18 j19 j20 j21 j22 j23 j24 j25 j26 j27 j28 j29 j30 j31 j32 j33 j34 j35 j36 j37 j38 j39 j40 j41 j42 j43 j44 j45 j46 j47 j48 j49 j50 j51 j52 j53 j54 j55 j56 j57 j58 j59 j60 j61 j62 j63 j64 j65 j66 j67 j68 j69 j70 j71 j72 j73 j74 j75 j76 j77 j78 j79 j80 j81 j82 j83 j84 j85 j86 j87 j88 j89 j90 j91 j92 j93 j94 j95 j96 j97 j98 j99 j100 j101 j102 j103 j104 j105 j106 j107 j108 j109 j110 j111 j112 j113 j114 j115 j116 j117 j118 j119 j120 j121 j122 j123 j124 j125 j126 j127 j128 j129 j130 j131 j132 j133 j134 j135 j136 j137 j138 j139 j140 j141 j142 j143 j144 j145 j146 j147 j148 j149 j150 j151 j152 j153 j154 j155 j156 j157 j158 j159 j160 j161 j162 j163 j164 j165 j166 j167 j168 j169 j170 j171 j172 j173 j174 j175 j176 j177 j178 j179 j180 j181 j182 j183 j184 j185 j186 j187 j188 j189 j190 j191 j192 j193 j194 j195 j196 j197 j198 j199 j200 j201:Value),St w w3 [a0c P (.cells (wdV X (.slice aX X.mp.zs.length kX) (.slice dX X.data.length cX)) 49 (0,0)),a0c B (.cells V 49 (0,0))]→O.ZsAt w aX X.mp.zs→BAt w dX X.data→X.mp.zs.length≤100000→r=(ok&&l0b d&&j0o X d)→K2 { tmps:=#[.agg V,.pointer (some ⟨B,0,none⟩),aB false,.pointer (some ⟨P,0,none⟩),aB ok,j5,j6,j7,j8,j9,j10,j11,j12,j13,j14,j15,j16,j17,j18,j19,j20,j21,j22,j23,j24,j25,j26,j27,j28,j29,j30,j31,j32,j33,j34,j35,j36,j37,j38,j39,j40,j41,j42,j43,j44,j45,j46,j47,j48,j49,j50,j51,j52,j53,j54,j55,j56,j57,j58,j59,j60,j61,j62,j63,j64,j65,j66,j67,j68,j69,j70,j71,j72,j73,j74,j75,j76,j77,j78,j79,j80,j81,j82,j83,j84,j85,j86,j87,j88,j89,j90,j91,j92,j93,j94,j95,j96,j97,j98,j99,j100,j101,j102,j103,j104,j105,j106,j107,j108,j109,j110,j111,j112,j113,j114,j115,j116,j117,j118,j119,j120,j121,j122,j123,j124,j125,j126,j127,j128,j129,j130,j131,j132,j133,j134,j135,j136,j137,j138,j139,j140,j141,j142,j143,j144,j145,j146,j147,j148,j149,j150,j151,j152,j153,j154,j155,j156,j157,j158,j159,j160,j161,j162,j163,j164,j165,j166,j167,j168,j169,j170,j171,j172,j173,j174,j175,j176,j177,j178,j179,j180,j181,j182,j183,j184,j185,j186,j187,j188,j189,j190,j191,j192,j193,j194,j195,j196,j197,j198,j199,j200,j201,J,J,J,J,J,J,J,J,J,J],defers:=[] } w3
def z0j (d:Wd) (w wa:World) (B P:Nat) (V:Array Value):Prop:=St w wa [a0c P (.cells #[aI aK d.kind,aI aK 0,aI aK 0,aI aK 0,aI aK 0,aI aK 0,aI aK 0,aI aK 0,aS ⟨#[]⟩,aS ⟨#[]⟩,aI aK 0,aI aK 0,aI aK 0,aS ⟨#[]⟩,aS ⟨#[]⟩,aS ⟨#[]⟩,aS ⟨#[]⟩,aI aK 0,aI aK 0,aI aK 0,aB false,aI aK 0,aI aK 0,aI aK 0,aI aK 0,aI aK 0,aI aK 0,aI aK 0,aI aK 0,aI aK 0,.slice none 0 0,aI aK 0,aI aK 0,aI aK 0,aI aK 0,aS ⟨#[]⟩,.slice none 0 0] 49 (0,0)),a0c B (.cells V 49 (0,0))]
def z0k (c:Code) (K2:Act→World→Prop) (V:Array Value) (B P:Nat) (w wa:World) (r:Bool):Prop:=∀ (j5 j6 j7:Value),(fstC (sndC (sndC (sndC c)))).wp Tryz.prog (Exit.then K2 (i0k w r)) { tmps:=#[.agg V,.pointer (some ⟨B,0,none⟩),aB false,.pointer (some ⟨P,0,none⟩),aB true,j5,j6,j7,J,J,J,J,J,J,J,J,J,J,J,J,J,J,J,J,J,J,J,J,J,J,J,J,J,J,J,J,J,J,J,J,J,J,J,J,J,J,J,J,J,J,J,J,J,J,J,J,J,J,J,J,J,J,J,J,J,J,J,J,J,J,J,J,J,J,J,J,J,J,J,J,J,J,J,J,J,J,J,J,J,J,J,J,J,J,J,J,J,J,J,J,J,J,J,J,J,J,J,J,J,J,J,J,J,J,J,J,J,J,J,J,J,J,J,J,J,J,J,J,J,J,J,J,J,J,J,J,J,J,J,J,J,J,J,J,J,J,J,J,J,J,J,J,J,J,J,J,J,J,J,J,J,J,J,J,J,J,J,J,J,J,J,J,J,J,J,J,J,J,J,J,J,J,J,J,J,J,J,J,J,J,J,J,J,J,J,J,J,J,J,J,J,J,J,J,J,J,J,J,J,J,J,J],defers:=[] } wa
theorem f0l (w:World):O.ZsAt w none []:=fun h=>absurd h (by simp)
theorem i0r (w:World):BAt w none []:=fun h=>absurd h (by simp)
set_option maxRecDepth 20000
open Go.RowKit
set_option maxHeartbeats 4000000 in
theorem may_q0 {c:Code} (hb:(Tryz.f23).body=some c) {d:Wd} {ms ds:Value} {V:Array Value} (hV:V=wdV d ms ds) (ao dl:Option Addr) (zc dc:Nat) (hms:ms=.slice ao d.mp.zs.length zc) (hds:ds=.slice dl d.data.length dc) (w wa:World) (_hz:O.ZsAt w ao d.mp.zs) (_hbd:BAt w dl d.data) (_hl:d.mp.zs.length≤1000) (B P:Nat) (hk:d.kind≠1∧d.kind≠2∧d.kind≠3∧d.kind≠4∧d.kind≠5∧d.kind≠6∧d.kind≠7∧d.kind≠8∧d.kind≠9∧d.kind≠10)
 (H:Hid (z0j d w wa B P V)) (r:Bool) (hr:r=docW d)
 {K2:Act→World→Prop} (_hT:e0h K2 w V B P r d):z0k c K2 V B P w wa r:=by
 unfold z0j at H
 unfold z0k
 intros
 have HV:=uH hV
 clear hV
 rw [e0w] at hr
 have Hr:=uH hr
 clear hr
 obtain ⟨h1,h2,h3,h4,h5,h6,h7,h8,h9,h10⟩:=hk
 have hrf:r=false:=by rw [Hr.out];simp [okD,h1,h2,h3,h4,h5,h6,h7,h8,h9,h10]
 clear Hr
 subst hms hds
 cases hb
 simp only [sndC,fstC]
 have S:=H
 clear H
 have s0:=(S.out.a0b 1 rfl).1
 obtain ⟨c0,c1,c2,c3,c4,c5,c6,c7,c8,c9,c10,c11,c12,c13,c14,c15,c16,c17,c18,c19,c20,c21,c22,c23,c24,c25,c26,c27,c28,c29,c30,c31,c32,c33,c34,c35,c36⟩:=a0r (show wa.heap[B]?=some (.cells (wdV d (.slice ao d.mp.zs.length zc) (.slice dl d.data.length dc)) 49 (0,0)) from (by rw [←HV.out];exact (S.out.pull (A:=[_])).head))
 have f1:(d.kind==1)=false:=by rw [beq_eq_false_iff_ne];exact h1
 have f2:(d.kind==2)=false:=by rw [beq_eq_false_iff_ne];exact h2
 have f3:(d.kind==3)=false:=by rw [beq_eq_false_iff_ne];exact h3
 have f4:(d.kind==4)=false:=by rw [beq_eq_false_iff_ne];exact h4
 have f5:(d.kind==5)=false:=by rw [beq_eq_false_iff_ne];exact h5
 have f6:(d.kind==6)=false:=by rw [beq_eq_false_iff_ne];exact h6
 have f7:(d.kind==7)=false:=by rw [beq_eq_false_iff_ne];exact h7
 have f8:(d.kind==8)=false:=by rw [beq_eq_false_iff_ne];exact h8
 have f9:(d.kind==9)=false:=by rw [beq_eq_false_iff_ne];exact h9
 have f10:(d.kind==10)=false:=by rw [beq_eq_false_iff_ne];exact h10
 clear h1 h2 h3 h4 h5 h6 h7 h8 h9 h10
 clear c1 c2 c3 c4 c5 c6 c7 c8 c9 c10 c11 c12 c13 c14 c15 c16 c17 c18 c19 c20 c21 c22 c23 c24 c25 c26 c27 c28 c29 c30 c31 c32 c33 c34 c35 c36
 refine a0a fun C HC=>?_
 go_wp2_with fail
 (have hC:=HC.out);clear HC;subst hC
 clear c0 s0
 refine wp_block ?_
 iterate 10 ((refine a0a fun C HC=>?_);(go_wp2_with fail);(have hC:=HC.out);clear HC;subst hC;(refine wp_cond_false rfl ?_))
 go_wp2_with fail
 unfold i0k
 go_ret
 exact ⟨rfl,S.out.b⟩
set_option maxHeartbeats 4000000 in
theorem may_q1 {c:Code} (hb:(Tryz.f23).body=some c) {d:Wd} {ms ds:Value} {V:Array Value} (hV:V=wdV d ms ds) (ao dl:Option Addr) (zc dc:Nat) (hms:ms=.slice ao d.mp.zs.length zc) (hds:ds=.slice dl d.data.length dc) (w wa:World) (_hz:O.ZsAt w ao d.mp.zs) (hbd:BAt w dl d.data) (_hl:d.mp.zs.length≤1000) (B P:Nat) (hk:d.kind=1)
 (H:Hid (z0j d w wa B P V)) (r:Bool) (hr:r=docW d)
 {K2:Act→World→Prop} (hT:e0h K2 w V B P r d):z0k c K2 V B P w wa r:=by
 unfold z0j at H
 unfold z0k
 intros
 have HV:=uH hV
 have Hbd:=uH hbd
 clear hV hbd
 rw [e0w] at hr
 have e2:a0v d=pl0:=by simp [a0v,hk]
 have e3:mapW d=mp0:=by simp [mapW,hasM,hk]
 have e4:e0p d=d.data:=by simp [e0p,hasD,hk]
 rw [e2,e3,e4] at hr
 clear e2 e3 e4
 have e1:okD d=(decide (d.data≠[])):=by simp [okD,hk]
 rw [e1] at hr
 clear e1
 have Hr:=uH hr
 clear hr
 subst hms hds
 cases hb
 simp only [sndC,fstC]
 have S:=H
 clear H
 have s0:=(S.out.a0b 1 rfl).1
 obtain ⟨c0,c1,c2,c3,c4,c5,c6,c7,c8,c9,c10,c11,c12,c13,c14,c15,c16,c17,c18,c19,c20,c21,c22,c23,c24,c25,c26,c27,c28,c29,c30,c31,c32,c33,c34,c35,c36⟩:=a0r (show wa.heap[B]?=some (.cells (wdV d (.slice ao d.mp.zs.length zc) (.slice dl d.data.length dc)) 49 (0,0)) from (by rw [←HV.out];exact (S.out.pull (A:=[_])).head))
 rw [hk] at c0
 clear c1 c2 c3 c4 c5 c6 c7 c8 c9 c10 c11 c12 c13 c14 c15 c16 c17 c18 c19 c20 c21 c22 c23 c24 c25 c26 c27 c28 c29 c30 c31 c32 c33 c34 c35 c36
 refine a0a fun C HC=>?_
 go_wp2_with fail
 (have hC:=HC.out);clear HC;subst hC
 clear c0 s0
 refine wp_block ?_
 ((refine a0a fun C HC=>?_);(go_wp2_with fail);(have hC:=HC.out);clear HC;subst hC;(refine wp_cond_true rfl ?_))
 refine a0a fun C2 HC2=>?_
 obtain ⟨c0,c1,c2,c3,c4,c5,c6,c7,c8,c9,c10,c11,c12,c13,c14,c15,c16,c17,c18,c19,c20,c21,c22,c23,c24,c25,c26,c27,c28,c29,c30,c31,c32,c33,c34,c35,c36⟩:=a0r (show wa.heap[B]?=some (.cells (wdV d (.slice ao d.mp.zs.length zc) (.slice dl d.data.length dc)) 49 (0,0)) from (by rw [←HV.out];exact (S.out.pull (A:=[_])).head))
 have sB:=(S.out.a0b 1 rfl).1
 clear c0 c1 c2 c3 c4 c5 c6 c7 c8 c9 c10 c11 c12 c13 c14 c15 c16 c17 c18 c19 c20 c21 c22 c23 c24 c25 c26 c27 c28 c29 c30 c31 c32 c33 c34 c35
 obtain ⟨p1,p2,p3⟩:=S.out.a0b 0 rfl
 go_wp2_with fail
 (have hC:=HC2.out);clear HC2;subst hC
 clear p1 p2 p3 sB c36
 ((refine a0d fun w5 hw5=>?_);(have S:=uH ((S.out.setObj 36 (.slice dl d.data.length dc))));(rw [←hw5] at S);(simp only [lA,lZ,lS] at S);clear hw5)
 obtain ⟨c0,c1,c2,c3,c4,c5,c6,c7,c8,c9,c10,c11,c12,c13,c14,c15,c16,c17,c18,c19,c20,c21,c22,c23,c24,c25,c26,c27,c28,c29,c30,c31,c32,c33,c34,c35,c36⟩:=a0r (show w5.heap[B]?=some (.cells (wdV d (.slice ao d.mp.zs.length zc) (.slice dl d.data.length dc)) 49 (0,0)) from (by rw [←HV.out];exact (S.out.pull (A:=[_])).head))
 have sB:=(S.out.a0b 1 rfl).1
 clear c0 c1 c2 c3 c4 c5 c6 c7 c8 c9 c10 c11 c12 c13 c14 c15 c16 c17 c18 c19 c20 c21 c22 c23 c24 c25 c26 c27 c28 c29 c30 c31 c32 c33 c34 c35
 go_wp2_with fail
 clear c36 sB
 have hok:decide (0<d.data.length)=decide (d.data≠[]):=by congr 1;simp only [eq_iff_iff,ne_eq,←List.length_eq_zero_iff];omega
 (exact hT _ (xW d (pl0) (mp0) (d.data)) none dl 0 dc (decide (0<d.data.length)) _ _ _ _ _ _ _ _ _ _ _ _ _ _ _ _ _ _ _ _ _ _ _ _ _ _ _ _ _ _ _ _ _ _ _ _ _ _ _ _ _ _ _ _ _ _ _ _ _ _ _ _ _ _ _ _ _ _ _ _ _ _ _ _ _ _ _ _ _ _ _ _ _ _ _ _ _ _ _ _ _ _ _ _ _ _ _ _ _ _ _ _ _ _ _ _ _ _ _ _ _ _ _ _ _ _ _ _ _ _ _ _ _ _ _ _ _ _ _ _ _ _ _ _ _ _ _ _ _ _ _ _ _ _ _ _ _ _ _ _ _ _ _ _ _ _ _ _ _ _ _ _ _ _ _ _ _ _ _ _ _ _ _ _ _ _ _ _ _ _ _ _ _ _ _ _ _ _ _ _ _ _ _ _ _ _ _ _ _ _ _ _ _ _ _ _ _ S.out (f0l _) Hbd.out (Nat.zero_le _) (by rw [hok];exact Hr.out))
set_option maxHeartbeats 4000000 in
theorem may_q2 {c:Code} (hb:(Tryz.f23).body=some c) {d:Wd} {ms ds:Value} {V:Array Value} (hV:V=wdV d ms ds) (ao dl:Option Addr) (zc dc:Nat) (hms:ms=.slice ao d.mp.zs.length zc) (hds:ds=.slice dl d.data.length dc) (w wa:World) (_hz:O.ZsAt w ao d.mp.zs) (_hbd:BAt w dl d.data) (_hl:d.mp.zs.length≤1000) (B P:Nat) (hk:d.kind=2)
 (H:Hid (z0j d w wa B P V)) (r:Bool) (hr:r=docW d)
 {K2:Act→World→Prop} (hT:e0h K2 w V B P r d):z0k c K2 V B P w wa r:=by
 unfold z0j at H
 unfold z0k
 intros
 have HV:=uH hV
 clear hV
 rw [e0w] at hr
 have e2:a0v d={ pl0 with index:=d.index }:=by simp [a0v,hk]
 have e3:mapW d=mp0:=by simp [mapW,hasM,hk]
 have e4:e0p d=[]:=by simp [e0p,hasD,hk]
 rw [e2,e3,e4] at hr
 clear e2 e3 e4
 have e1:okD d=(true):=by simp [okD,hk]
 rw [e1] at hr
 clear e1
 have Hr:=uH hr
 clear hr
 subst hms hds
 cases hb
 simp only [sndC,fstC]
 have S:=H
 clear H
 have s0:=(S.out.a0b 1 rfl).1
 obtain ⟨c0,c1,c2,c3,c4,c5,c6,c7,c8,c9,c10,c11,c12,c13,c14,c15,c16,c17,c18,c19,c20,c21,c22,c23,c24,c25,c26,c27,c28,c29,c30,c31,c32,c33,c34,c35,c36⟩:=a0r (show wa.heap[B]?=some (.cells (wdV d (.slice ao d.mp.zs.length zc) (.slice dl d.data.length dc)) 49 (0,0)) from (by rw [←HV.out];exact (S.out.pull (A:=[_])).head))
 rw [hk] at c0
 clear c1 c2 c3 c4 c5 c6 c7 c8 c9 c10 c11 c12 c13 c14 c15 c16 c17 c18 c19 c20 c21 c22 c23 c24 c25 c26 c27 c28 c29 c30 c31 c32 c33 c34 c35 c36
 refine a0a fun C HC=>?_
 go_wp2_with fail
 (have hC:=HC.out);clear HC;subst hC
 clear c0 s0
 refine wp_block ?_
 iterate 1 ((refine a0a fun C HC=>?_);(go_wp2_with fail);(have hC:=HC.out);clear HC;subst hC;(refine wp_cond_false rfl ?_))
 ((refine a0a fun C HC=>?_);(go_wp2_with fail);(have hC:=HC.out);clear HC;subst hC;(refine wp_cond_true rfl ?_))
 obtain ⟨c0,c1,c2,c3,c4,c5,c6,c7,c8,c9,c10,c11,c12,c13,c14,c15,c16,c17,c18,c19,c20,c21,c22,c23,c24,c25,c26,c27,c28,c29,c30,c31,c32,c33,c34,c35,c36⟩:=a0r (show wa.heap[B]?=some (.cells (wdV d (.slice ao d.mp.zs.length zc) (.slice dl d.data.length dc)) 49 (0,0)) from (by rw [←HV.out];exact (S.out.pull (A:=[_])).head))
 have sB:=(S.out.a0b 1 rfl).1
 clear c0 c1 c2 c4 c5 c6 c7 c8 c9 c10 c11 c12 c13 c14 c15 c16 c17 c18 c19 c20 c21 c22 c23 c24 c25 c26 c27 c28 c29 c30 c31 c32 c33 c34 c35 c36
 obtain ⟨p1,p2,p3⟩:=S.out.a0b 0 rfl
 go_wp2_with fail
 clear p1 p2 p3 sB c3
 have S:=uH ((S.out.setObj 3 (aI aK d.index)))
 simp only [lA,lZ,lS] at S
 (exact hT _ (xW d ({ pl0 with index:=d.index }) (mp0) ([])) none none 0 0 (true) _ _ _ _ _ _ _ _ _ _ _ _ _ _ _ _ _ _ _ _ _ _ _ _ _ _ _ _ _ _ _ _ _ _ _ _ _ _ _ _ _ _ _ _ _ _ _ _ _ _ _ _ _ _ _ _ _ _ _ _ _ _ _ _ _ _ _ _ _ _ _ _ _ _ _ _ _ _ _ _ _ _ _ _ _ _ _ _ _ _ _ _ _ _ _ _ _ _ _ _ _ _ _ _ _ _ _ _ _ _ _ _ _ _ _ _ _ _ _ _ _ _ _ _ _ _ _ _ _ _ _ _ _ _ _ _ _ _ _ _ _ _ _ _ _ _ _ _ _ _ _ _ _ _ _ _ _ _ _ _ _ _ _ _ _ _ _ _ _ _ _ _ _ _ _ _ _ _ _ _ _ _ _ _ _ _ _ _ _ _ _ _ _ _ _ _ _ S.out (f0l _) (i0r _) (Nat.zero_le _) (Hr.out))
set_option maxRecDepth 20000
open Go.RowKit
set_option maxHeartbeats 4000000 in
theorem may_q3 {c:Code} (hb:(Tryz.f23).body=some c) {d:Wd} {ms ds:Value} {V:Array Value} (hV:V=wdV d ms ds) (ao dl:Option Addr) (zc dc:Nat) (hms:ms=.slice ao d.mp.zs.length zc) (hds:ds=.slice dl d.data.length dc) (w wa:World) (hz:O.ZsAt w ao d.mp.zs) (_hbd:BAt w dl d.data) (hl:d.mp.zs.length≤1000) (B P:Nat) (hk:d.kind=3)
 (H:Hid (z0j d w wa B P V)) (r:Bool) (hr:r=docW d)
 {K2:Act→World→Prop} (hT:e0h K2 w V B P r d):z0k c K2 V B P w wa r:=by
 unfold z0j at H
 unfold z0k
 intros
 have HV:=uH hV
 have Hz:=uH hz
 clear hV hz
 rw [e0w] at hr
 have e2:a0v d=pl0:=by simp [a0v,hk]
 have e3:mapW d=d.mp:=by simp [mapW,hasM,hk]
 have e4:e0p d=[]:=by simp [e0p,hasD,hk]
 rw [e2,e3,e4] at hr
 clear e2 e3 e4
 have e1:okD d=(mayM d.mp):=by simp [okD,hk]
 rw [e1] at hr
 clear e1
 have Hr:=uH hr
 clear hr
 subst hms hds
 cases hb
 simp only [sndC,fstC]
 have S:=H
 clear H
 have s0:=(S.out.a0b 1 rfl).1
 obtain ⟨c0,c1,c2,c3,c4,c5,c6,c7,c8,c9,c10,c11,c12,c13,c14,c15,c16,c17,c18,c19,c20,c21,c22,c23,c24,c25,c26,c27,c28,c29,c30,c31,c32,c33,c34,c35,c36⟩:=a0r (show wa.heap[B]?=some (.cells (wdV d (.slice ao d.mp.zs.length zc) (.slice dl d.data.length dc)) 49 (0,0)) from (by rw [←HV.out];exact (S.out.pull (A:=[_])).head))
 rw [hk] at c0
 clear c1 c2 c3 c4 c5 c6 c7 c8 c9 c10 c11 c12 c13 c14 c15 c16 c17 c18 c19 c20 c21 c22 c23 c24 c25 c26 c27 c28 c29 c30 c31 c32 c33 c34 c35 c36
 refine a0a fun C HC=>?_
 go_wp2_with fail
 (have hC:=HC.out);clear HC;subst hC
 clear c0 s0
 refine wp_block ?_
 iterate 2 ((refine a0a fun C HC=>?_);(go_wp2_with fail);(have hC:=HC.out);clear HC;subst hC;(refine wp_cond_false rfl ?_))
 ((refine a0a fun C HC=>?_);(go_wp2_with fail);(have hC:=HC.out);clear HC;subst hC;(refine wp_cond_true rfl ?_))
 refine a0a fun C2 HC2=>?_
 obtain ⟨c0,c1,c2,c3,c4,c5,c6,c7,c8,c9,c10,c11,c12,c13,c14,c15,c16,c17,c18,c19,c20,c21,c22,c23,c24,c25,c26,c27,c28,c29,c30,c31,c32,c33,c34,c35,c36⟩:=a0r (show wa.heap[B]?=some (.cells (wdV d (.slice ao d.mp.zs.length zc) (.slice dl d.data.length dc)) 49 (0,0)) from (by rw [←HV.out];exact (S.out.pull (A:=[_])).head))
 have sB:=(S.out.a0b 1 rfl).1
 clear c0 c1 c2 c3 c4 c5 c6 c7 c8 c9 c10 c11 c12 c13 c14 c15 c16 c17 c18 c19 c20 c21 c22 c23 c24 c25 c26 c27 c31 c32 c33 c34 c35 c36
 obtain ⟨p1,p2,p3⟩:=S.out.a0b 0 rfl
 go_wp2_with fail
 (have hC:=HC2.out);clear HC2;subst hC
 clear p1 p2 p3 sB c28 c29 c30
 ((refine a0d fun w5 hw5=>?_);(have S:=uH ((((S.out.setObj 28 (aI aK d.mp.ver)).setObj 29 (aI aK d.mp.next)).setObj 30 (.slice ao d.mp.zs.length zc))));(rw [←hw5] at S);(simp only [lA,lZ,lS] at S);clear hw5)
 obtain ⟨c0,c1,c2,c3,c4,c5,c6,c7,c8,c9,c10,c11,c12,c13,c14,c15,c16,c17,c18,c19,c20,c21,c22,c23,c24,c25,c26,c27,c28,c29,c30,c31,c32,c33,c34,c35,c36⟩:=a0r (show w5.heap[B]?=some (.cells (wdV d (.slice ao d.mp.zs.length zc) (.slice dl d.data.length dc)) 49 (0,0)) from (by rw [←HV.out];exact (S.out.pull (A:=[_])).head))
 have sB:=(S.out.a0b 1 rfl).1
 clear c0 c1 c2 c3 c4 c5 c6 c7 c8 c9 c10 c11 c12 c13 c14 c15 c16 c17 c18 c19 c20 c21 c22 c23 c24 c25 c26 c27 c31 c32 c33 c34 c35 c36
 go_wp2_with fail
 refine (O.s0i ao zc d.mp w5 hl (Hz.out.grow S.out.b)).mono ?_
 rintro e w6 ⟨rfl,hb6⟩
 have S:=uH (S.out.grow hb6)
 clear hb6 sB c28 c29 c30
 go_wp2_with fail
 (exact hT _ (xW d (pl0) (d.mp) ([])) ao none zc 0 (mayM d.mp) _ _ _ _ _ _ _ _ _ _ _ _ _ _ _ _ _ _ _ _ _ _ _ _ _ _ _ _ _ _ _ _ _ _ _ _ _ _ _ _ _ _ _ _ _ _ _ _ _ _ _ _ _ _ _ _ _ _ _ _ _ _ _ _ _ _ _ _ _ _ _ _ _ _ _ _ _ _ _ _ _ _ _ _ _ _ _ _ _ _ _ _ _ _ _ _ _ _ _ _ _ _ _ _ _ _ _ _ _ _ _ _ _ _ _ _ _ _ _ _ _ _ _ _ _ _ _ _ _ _ _ _ _ _ _ _ _ _ _ _ _ _ _ _ _ _ _ _ _ _ _ _ _ _ _ _ _ _ _ _ _ _ _ _ _ _ _ _ _ _ _ _ _ _ _ _ _ _ _ _ _ _ _ _ _ _ _ _ _ _ _ _ _ _ _ _ _ S.out Hz.out (i0r _) (Nat.le_trans hl (by decide)) (Hr.out))
set_option maxHeartbeats 4000000 in
theorem may_q4 {c:Code} (hb:(Tryz.f23).body=some c) {d:Wd} {ms ds:Value} {V:Array Value} (hV:V=wdV d ms ds) (ao dl:Option Addr) (zc dc:Nat) (hms:ms=.slice ao d.mp.zs.length zc) (hds:ds=.slice dl d.data.length dc) (w wa:World) (_hz:O.ZsAt w ao d.mp.zs) (_hbd:BAt w dl d.data) (_hl:d.mp.zs.length≤1000) (B P:Nat) (hk:d.kind=4)
 (H:Hid (z0j d w wa B P V)) (r:Bool) (hr:r=docW d)
 {K2:Act→World→Prop} (hT:e0h K2 w V B P r d):z0k c K2 V B P w wa r:=by
 unfold z0j at H
 unfold z0k
 intros
 have HV:=uH hV
 clear hV
 rw [e0w] at hr
 have e2:a0v d={ pl0 with ch:=d.ch }:=by simp [a0v,hk]
 have e3:mapW d=mp0:=by simp [mapW,hasM,hk]
 have e4:e0p d=[]:=by simp [e0p,hasD,hk]
 rw [e2,e3,e4] at hr
 clear e2 e3 e4
 have e1:okD d=(mayC d.ch):=by simp [okD,hk]
 rw [e1] at hr
 clear e1
 have Hr:=uH hr
 clear hr
 subst hms hds
 cases hb
 simp only [sndC,fstC]
 have S:=H
 clear H
 have s0:=(S.out.a0b 1 rfl).1
 obtain ⟨c0,c1,c2,c3,c4,c5,c6,c7,c8,c9,c10,c11,c12,c13,c14,c15,c16,c17,c18,c19,c20,c21,c22,c23,c24,c25,c26,c27,c28,c29,c30,c31,c32,c33,c34,c35,c36⟩:=a0r (show wa.heap[B]?=some (.cells (wdV d (.slice ao d.mp.zs.length zc) (.slice dl d.data.length dc)) 49 (0,0)) from (by rw [←HV.out];exact (S.out.pull (A:=[_])).head))
 rw [hk] at c0
 clear c1 c2 c3 c4 c5 c6 c7 c8 c9 c10 c11 c12 c13 c14 c15 c16 c17 c18 c19 c20 c21 c22 c23 c24 c25 c26 c27 c28 c29 c30 c31 c32 c33 c34 c35 c36
 refine a0a fun C HC=>?_
 go_wp2_with fail
 (have hC:=HC.out);clear HC;subst hC
 clear c0 s0
 refine wp_block ?_
 iterate 3 ((refine a0a fun C HC=>?_);(go_wp2_with fail);(have hC:=HC.out);clear HC;subst hC;(refine wp_cond_false rfl ?_))
 ((refine a0a fun C HC=>?_);(go_wp2_with fail);(have hC:=HC.out);clear HC;subst hC;(refine wp_cond_true rfl ?_))
 refine a0a fun C2 HC2=>?_
 obtain ⟨c0,c1,c2,c3,c4,c5,c6,c7,c8,c9,c10,c11,c12,c13,c14,c15,c16,c17,c18,c19,c20,c21,c22,c23,c24,c25,c26,c27,c28,c29,c30,c31,c32,c33,c34,c35,c36⟩:=a0r (show wa.heap[B]?=some (.cells (wdV d (.slice ao d.mp.zs.length zc) (.slice dl d.data.length dc)) 49 (0,0)) from (by rw [←HV.out];exact (S.out.pull (A:=[_])).head))
 have sB:=(S.out.a0b 1 rfl).1
 clear c0 c1 c2 c3 c4 c5 c6 c7 c8 c9 c10 c11 c12 c13 c14 c15 c16 c17 c18 c19 c20 c21 c22 c23 c24 c25 c26 c27 c28 c29 c30 c36
 obtain ⟨p1,p2,p3⟩:=S.out.a0b 0 rfl
 go_wp2_with fail
 (have hC:=HC2.out);clear HC2;subst hC
 clear p1 p2 p3 sB c31 c32 c33 c34 c35
 ((refine a0d fun w5 hw5=>?_);(have S:=uH ((((((S.out.setObj 31 (aI aK d.ch.kind)).setObj 32 (aI aK d.ch.zone)).setObj 33 (aI aK d.ch.epoch)).setObj 34 (aI aK d.ch.tt)).setObj 35 (aS d.ch.key))));(rw [←hw5] at S);(simp only [lA,lZ,lS] at S);clear hw5)
 obtain ⟨c0,c1,c2,c3,c4,c5,c6,c7,c8,c9,c10,c11,c12,c13,c14,c15,c16,c17,c18,c19,c20,c21,c22,c23,c24,c25,c26,c27,c28,c29,c30,c31,c32,c33,c34,c35,c36⟩:=a0r (show w5.heap[B]?=some (.cells (wdV d (.slice ao d.mp.zs.length zc) (.slice dl d.data.length dc)) 49 (0,0)) from (by rw [←HV.out];exact (S.out.pull (A:=[_])).head))
 have sB:=(S.out.a0b 1 rfl).1
 clear c0 c1 c2 c3 c4 c5 c6 c7 c8 c9 c10 c11 c12 c13 c14 c15 c16 c17 c18 c19 c20 c21 c22 c23 c24 c25 c26 c27 c28 c29 c30 c36
 go_wp2_with fail
 refine (k0q d.ch w5 _ rfl).mono ?_
 rintro e w6 ⟨rfl,hb6⟩
 have S:=uH (S.out.grow hb6)
 clear hb6 sB c31 c32 c33 c34 c35
 go_wp2_with fail
 (exact hT _ (xW d ({ pl0 with ch:=d.ch }) (mp0) ([])) none none 0 0 (mayC d.ch) _ _ _ _ _ _ _ _ _ _ _ _ _ _ _ _ _ _ _ _ _ _ _ _ _ _ _ _ _ _ _ _ _ _ _ _ _ _ _ _ _ _ _ _ _ _ _ _ _ _ _ _ _ _ _ _ _ _ _ _ _ _ _ _ _ _ _ _ _ _ _ _ _ _ _ _ _ _ _ _ _ _ _ _ _ _ _ _ _ _ _ _ _ _ _ _ _ _ _ _ _ _ _ _ _ _ _ _ _ _ _ _ _ _ _ _ _ _ _ _ _ _ _ _ _ _ _ _ _ _ _ _ _ _ _ _ _ _ _ _ _ _ _ _ _ _ _ _ _ _ _ _ _ _ _ _ _ _ _ _ _ _ _ _ _ _ _ _ _ _ _ _ _ _ _ _ _ _ _ _ _ _ _ _ _ _ _ _ _ _ _ _ _ _ _ _ _ S.out (f0l _) (i0r _) (Nat.zero_le _) (Hr.out))
set_option maxRecDepth 20000
open Go.RowKit
set_option maxHeartbeats 4000000 in
theorem may_q5 {c:Code} (hb:(Tryz.f23).body=some c) {d:Wd} {ms ds:Value} {V:Array Value} (hV:V=wdV d ms ds) (ao dl:Option Addr) (zc dc:Nat) (hms:ms=.slice ao d.mp.zs.length zc) (hds:ds=.slice dl d.data.length dc) (w wa:World) (_hz:O.ZsAt w ao d.mp.zs) (_hbd:BAt w dl d.data) (_hl:d.mp.zs.length≤1000) (B P:Nat) (hk:d.kind=5)
 (H:Hid (z0j d w wa B P V)) (r:Bool) (hr:r=docW d)
 {K2:Act→World→Prop} (hT:e0h K2 w V B P r d):z0k c K2 V B P w wa r:=by
 unfold z0j at H
 unfold z0k
 intros
 have HV:=uH hV
 clear hV
 rw [e0w] at hr
 have e2:a0v d={ pl0 with op:=d.op }:=by simp [a0v,hk]
 have e3:mapW d=mp0:=by simp [mapW,hasM,hk]
 have e4:e0p d=[]:=by simp [e0p,hasD,hk]
 rw [e2,e3,e4] at hr
 clear e2 e3 e4
 have e1:okD d=(mayO d.op):=by simp [okD,hk]
 rw [e1] at hr
 clear e1
 have Hr:=uH hr
 clear hr
 subst hms hds
 cases hb
 simp only [sndC,fstC]
 have S:=H
 clear H
 have s0:=(S.out.a0b 1 rfl).1
 obtain ⟨c0,c1,c2,c3,c4,c5,c6,c7,c8,c9,c10,c11,c12,c13,c14,c15,c16,c17,c18,c19,c20,c21,c22,c23,c24,c25,c26,c27,c28,c29,c30,c31,c32,c33,c34,c35,c36⟩:=a0r (show wa.heap[B]?=some (.cells (wdV d (.slice ao d.mp.zs.length zc) (.slice dl d.data.length dc)) 49 (0,0)) from (by rw [←HV.out];exact (S.out.pull (A:=[_])).head))
 rw [hk] at c0
 clear c1 c2 c3 c4 c5 c6 c7 c8 c9 c10 c11 c12 c13 c14 c15 c16 c17 c18 c19 c20 c21 c22 c23 c24 c25 c26 c27 c28 c29 c30 c31 c32 c33 c34 c35 c36
 refine a0a fun C HC=>?_
 go_wp2_with fail
 (have hC:=HC.out);clear HC;subst hC
 clear c0 s0
 refine wp_block ?_
 iterate 4 ((refine a0a fun C HC=>?_);(go_wp2_with fail);(have hC:=HC.out);clear HC;subst hC;(refine wp_cond_false rfl ?_))
 ((refine a0a fun C HC=>?_);(go_wp2_with fail);(have hC:=HC.out);clear HC;subst hC;(refine wp_cond_true rfl ?_))
 refine a0a fun C2 HC2=>?_
 obtain ⟨c0,c1,c2,c3,c4,c5,c6,c7,c8,c9,c10,c11,c12,c13,c14,c15,c16,c17,c18,c19,c20,c21,c22,c23,c24,c25,c26,c27,c28,c29,c30,c31,c32,c33,c34,c35,c36⟩:=a0r (show wa.heap[B]?=some (.cells (wdV d (.slice ao d.mp.zs.length zc) (.slice dl d.data.length dc)) 49 (0,0)) from (by rw [←HV.out];exact (S.out.pull (A:=[_])).head))
 have sB:=(S.out.a0b 1 rfl).1
 clear c0 c1 c2 c3 c4 c5 c6 c7 c8 c9 c22 c23 c24 c25 c26 c27 c28 c29 c30 c31 c32 c33 c34 c35 c36
 obtain ⟨p1,p2,p3⟩:=S.out.a0b 0 rfl
 go_wp2_with fail
 (have hC:=HC2.out);clear HC2;subst hC
 clear p1 p2 p3 sB c10 c11 c12 c13 c14 c15 c16 c17 c18 c19 c20 c21
 ((refine a0d fun w5 hw5=>?_);(have S:=uH (((((((((((((S.out.setObj 10 (aI aK d.op.kind)).setObj 11 (aI aK d.op.client)).setObj 12 (aI aK d.op.seq)).setObj 13 (aS d.op.key)).setObj 14 (aS d.op.who)).setObj 15 (aS d.op.tkey)).setObj 16 (aS d.op.twho)).setObj 17 (aI aK d.op.item)).setObj 18 (aI aK d.op.count)).setObj 19 (aI aK d.op.price)).setObj 20 (aB d.op.buy)).setObj 21 (aI aK d.op.id))));(rw [←hw5] at S);(simp only [lA,lZ,lS] at S);clear hw5)
 obtain ⟨c0,c1,c2,c3,c4,c5,c6,c7,c8,c9,c10,c11,c12,c13,c14,c15,c16,c17,c18,c19,c20,c21,c22,c23,c24,c25,c26,c27,c28,c29,c30,c31,c32,c33,c34,c35,c36⟩:=a0r (show w5.heap[B]?=some (.cells (wdV d (.slice ao d.mp.zs.length zc) (.slice dl d.data.length dc)) 49 (0,0)) from (by rw [←HV.out];exact (S.out.pull (A:=[_])).head))
 have sB:=(S.out.a0b 1 rfl).1
 clear c0 c1 c2 c3 c4 c5 c6 c7 c8 c9 c22 c23 c24 c25 c26 c27 c28 c29 c30 c31 c32 c33 c34 c35 c36
 go_wp2_with fail
 refine (k0a d.op w5 _ rfl).mono ?_
 rintro e w6 ⟨rfl,hb6⟩
 have S:=uH (S.out.grow hb6)
 clear hb6 sB c10 c11 c12 c13 c14 c15 c16 c17 c18 c19 c20 c21
 go_wp2_with fail
 (exact hT _ (xW d ({ pl0 with op:=d.op }) (mp0) ([])) none none 0 0 (mayO d.op) _ _ _ _ _ _ _ _ _ _ _ _ _ _ _ _ _ _ _ _ _ _ _ _ _ _ _ _ _ _ _ _ _ _ _ _ _ _ _ _ _ _ _ _ _ _ _ _ _ _ _ _ _ _ _ _ _ _ _ _ _ _ _ _ _ _ _ _ _ _ _ _ _ _ _ _ _ _ _ _ _ _ _ _ _ _ _ _ _ _ _ _ _ _ _ _ _ _ _ _ _ _ _ _ _ _ _ _ _ _ _ _ _ _ _ _ _ _ _ _ _ _ _ _ _ _ _ _ _ _ _ _ _ _ _ _ _ _ _ _ _ _ _ _ _ _ _ _ _ _ _ _ _ _ _ _ _ _ _ _ _ _ _ _ _ _ _ _ _ _ _ _ _ _ _ _ _ _ _ _ _ _ _ _ _ _ _ _ _ _ _ _ _ _ _ _ _ S.out (f0l _) (i0r _) (Nat.zero_le _) (Hr.out))
end Go.Proofs.YtogamdaomdoapaaGreat