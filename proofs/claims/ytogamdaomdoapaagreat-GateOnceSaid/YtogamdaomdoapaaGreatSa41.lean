/- Texts put together: WNu, WRt. -/
import Derived.Test.YtogamdaomdoapaaGreatSa07
import Derived.Test.YtogamdaomdoapaaGreatSa31
import Derived.Test.YtogamdaomdoapaaGreatSa32
namespace Go.Proofs.YtogamdaomdoapaaGreat
set_option maxRecDepth 20000
open Go.RowKit
def sixW (d:Wd):List Int:=[d.zone,d.epoch,d.index,d.size,d.off,d.host]
theorem numsW_iff (d:Wd):numsW d=true↔(∀ v∈sixW d,numW v=true)∧d.data.length≤131072:=by
 unfold numsW sixW
 simp only [Bool.and_eq_true,decide_eq_true_eq,List.mem_cons,List.not_mem_nil,or_false,forall_eq_or_imp,forall_eq]
 grind
set_option maxHeartbeats 4000000 in
theorem numbers_any {d:Wd} {ms ds:Value} {V:Array Value} (hV:V=wdV d ms ds) (dl:Option Addr) (dc:Nat) (hds:ds=.slice dl d.data.length dc) (w:World):Calls Tryz.prog 38 #[.agg V] w fun e w'=>e=.returned (.bool (numsW d))∧Below w.heap.size w w':=by
 have HV:=Lib.hid hV
 clear hV
 obtain ⟨r,hr⟩:∃ r,r=numsW d:=⟨_,rfl⟩
 rw [←hr]
 have Hr:=Lib.hid hr
 clear hr
 go_enter Tryz.func38,Tryz.ntmps38
 ((refine wp_hold fun C HC=>?_);(go_wp2_with fail);(refine wp_name fun wa hwa=>?_;have wa_s0:=sg w.heap.size hwa;have wa_b:Below w.heap.size w wa:=(by rw [hwa];exact bg);have wa_bh:wa.heap[w.heap.size]?=some (.cells V 49 (0,0)):=(by rw [hwa];exact heap_alloc_new w _);clear hwa);(obtain ⟨c0,c1,c2,c3,c4,c5,c6,c7,c8,c9,c10,c11,c12,c13,c14,c15,c16,c17,c18,c19,c20,c21,c22,c23,c24,c25,c26,c27,c28,c29,c30,c31,c32,c33,c34,c35,c36⟩:=wboxD (show wa.heap[w.heap.size]?=some (.cells (wdV d ms ds) 49 (0,0)) from (by rw [←HV.out];exact wa_bh)));(have hC:=HC.out);clear HC;subst hC)
 subst hds
 obtain ⟨n,hn⟩:∃ n,n=d.data.length:=⟨_,rfl⟩
 rw [←hn] at c36
 have Hn:=Lib.hid hn
 clear hn c0 c7 c8 c9 c10 c11 c12 c13 c14 c15 c16 c17 c18 c19 c20 c21 c22 c23 c24 c25 c26 c27 c28 c29 c30 c31 c32 c33 c34 c35
 go_wp2_with fail
 refine wp_name fun wb hwb=>?_
 obtain ⟨P,hP⟩:∃ P,P=wa.heap.size:=⟨_,rfl⟩
 have hab:Below wa.heap.size wa wb:=by rw [hwb];exact below_allocO _ _
 have hvs:Hid (∀ i,(hi:i<6)→∃ v,v∈sixW d∧(sixW d)[i]?=some v∧wb.cell? ⟨P,i,none⟩=some (.int .i64 v)):=Lib.hid fun i hi=>by
  have hh:wb.heap[P]?=some (.cells #[.int .i64 d.zone,.int .i64 d.epoch,.int .i64 d.index,.int .i64 d.size,.int .i64 d.off,.int .i64 d.host] 3 (0,0)):=by rw [hwb,hP];exact heap_alloc_new wa _
  have hc:=cell_of_row wb P i _ _ _ hh
  unfold sixW
  have:i=0∨i=1∨i=2∨i=3∨i=4∨i=5:=by omega
  rcases this with rfl | rfl | rfl | rfl | rfl | rfl
  ·exact ⟨d.zone,by simp,rfl,hc⟩
  ·exact ⟨d.epoch,by simp,rfl,hc⟩
  ·exact ⟨d.index,by simp,rfl,hc⟩
  ·exact ⟨d.size,by simp,rfl,hc⟩
  ·exact ⟨d.off,by simp,rfl,hc⟩
  ·exact ⟨d.host,by simp,rfl,hc⟩
 have sP:P<wb.heap.size:=by rw [hwb,hP];simp
 have c36:wb.cell? ⟨w.heap.size,36,none⟩=some (.slice dl n dc):=(((bcell hab).1 _ _ wa_s0).trans c36)
 have sB:w.heap.size<wb.heap.size:=Nat.lt_of_lt_of_le wa_s0 hab.size
 have wb_b:=wa_b.trans (hab.mono wa_b.size)
 rw [←hP]
 clear hwb hP hab c1 c2 c3 c4 c5 c6 wa_bh
 go_loopw [4] (fun s wr=>wr=wb∧∃ i:Nat,s=.int .i64 i∧i≤6∧Hid (∀ j v,j<i→(sixW d)[j]?=some v→numW v=true)) (fun s _=>6 - (intOf s).toNat)
 case atStart=>exact ⟨rfl,0,rfl,by omega,Lib.hid (fun j v h=>by omega)⟩
 case round =>
  obtain ⟨rfl,i,rfl,hi,Hs⟩:=hrel
  by_cases hlt:i<6
  ·obtain ⟨v,hv1,hv2,hv3⟩:=hvs.out i hlt
   have Hv:=Lib.hid (⟨hv1,hv2⟩:_∧_)
   clear hv1 hv2
   rcases Bool.eq_false_or_eq_true (decide (v<0)) with t1 | t1
   ·have hrf:Hid (r=false):=Lib.hid (by
     rw [Hr.out,Bool.eq_false_iff]
     intro h
     have:=((numsW_iff d).1 h).1 v Hv.out.1
     simp only [numW,decide_eq_true_eq] at this t1
     omega)
    go_wp2_with fail
    go_ret
    exact ⟨by rw [hrf.out];rfl,wb_b⟩
   rcases Bool.eq_false_or_eq_true (decide (1099511627776<v)) with t2 | t2
   ·have hrf:Hid (r=false):=Lib.hid (by
     rw [Hr.out,Bool.eq_false_iff]
     intro h
     have:=((numsW_iff d).1 h).1 v Hv.out.1
     simp only [numW,decide_eq_true_eq] at this t2
     omega)
    go_wp2_with fail
    go_ret
    exact ⟨by rw [hrf.out];rfl,wb_b⟩
   have Hnum:Hid (numW v=true):=Lib.hid (by simp only [numW,decide_eq_true_eq];rw [decide_eq_false_iff_not] at t1 t2;omega)
   go_wp2_with fail
   go_roundw
   case rel=>exact ⟨by trivial,i+1,by go_num,by omega,Lib.hid (fun j x hj hx=>by
    by_cases e:j=i
    ·subst e
     rw [Hv.out.2] at hx
     obtain rfl:=Option.some.inj hx
     exact Hnum.out
    ·exact Hs.out j x (by omega) hx)⟩
   case measure=>simp [intOf];omega
  ·have hrt:Hid (r=decide ((n:Int)≤131072)):=Lib.hid (by
    rw [Hr.out,Bool.eq_iff_iff,numsW_iff,decide_eq_true_eq,Hn.out]
    refine ⟨fun h=>by omega,fun h=>⟨fun v hv=>?_,by omega⟩⟩
    obtain ⟨j,hj,e⟩:=List.mem_iff_getElem.1 hv
    have hj6:j<6:=hj
    exact Hs.out j v (by omega) (by rw [List.getElem?_eq_getElem hj,e]))
   go_wp2_with fail
   go_ret
   exact ⟨by rw [hrt.out];rfl,wb_b⟩
def ansD (w:Wd):Bool:=eqR w.op (headR w.op)&&decide (1≤w.op.kind∧w.op.kind≤7∧1≤w.op.client∧w.op.client≤1048576∧1≤w.op.seq∧w.op.seq≤1099511627776∧0≤w.err∧w.err≤19)&&mayR w.rep&&(decide (w.err=0) || eqRp w.rep zRp)
set_option maxHeartbeats 4000000 in
theorem answerD_any {d:Wd} {ms ds:Value} {V:Array Value} (hV:V=wdV d ms ds) (w:World):Calls Tryz.prog 36 #[.agg V] w fun e w'=>e=.returned (.bool (ansD d))∧Below w.heap.size w w':=by
 have HV:=Lib.hid hV
 clear hV
 obtain ⟨r,hr⟩:∃ r,r=ansD d:=⟨_,rfl⟩
 rw [←hr]
 obtain ⟨q,hq⟩:∃ q,q=eqR d.op (headR d.op):=⟨_,rfl⟩
 obtain ⟨m,hm⟩:∃ m,m=mayR d.rep:=⟨_,rfl⟩
 obtain ⟨z,hz⟩:∃ z,z=eqRp d.rep zRp:=⟨_,rfl⟩
 have heq1:=fun w=>eql_api.Op d.op (headR d.op) w q hq.symm
 have heq2:=fun w=>eql_rep d.rep zRp w z hz.symm
 have Hmr:=Lib.hid (fun w=>qsatrapyref10.MayReply_any d.rep w m hm.symm)
 have Hr:Hid (r=(q&&decide (1≤d.op.kind∧d.op.kind≤7∧1≤d.op.client∧d.op.client≤1048576∧1≤d.op.seq∧d.op.seq≤1099511627776∧0≤d.err∧d.err≤19)&&m&&(decide (d.err=0) || z))):=Lib.hid (by rw [hr,hq,hm,hz];rfl)
 simp only [headR,rq0] at heq1
 simp only [zRp] at heq2
 have he0:e0=⟨#[]⟩:=rfl
 rw [he0] at heq1
 clear hr hq hm hz he0
 go_enter Tryz.func36,Tryz.ntmps36
 ((refine wp_hold fun C HC=>?_);(go_wp2_with fail);(refine wp_name fun wa hwa=>?_;have wa_s0:=sg w.heap.size hwa;have wa_b:Below w.heap.size w wa:=(by rw [hwa];exact bg);have wa_bh:wa.heap[w.heap.size]?=some (.cells V 49 (0,0)):=(by rw [hwa];exact heap_alloc_new w _);clear hwa);(obtain ⟨c0,c1,c2,c3,c4,c5,c6,c7,c8,c9,c10,c11,c12,c13,c14,c15,c16,c17,c18,c19,c20,c21,c22,c23,c24,c25,c26,c27,c28,c29,c30,c31,c32,c33,c34,c35,c36⟩:=wboxD (show wa.heap[w.heap.size]?=some (.cells (wdV d ms ds) 49 (0,0)) from (by rw [←HV.out];exact wa_bh)));(have hC:=HC.out);clear HC;subst hC)
 clear c0 c1 c2 c3 c4 c5 c6 c8 c9 c28 c29 c30 c31 c32 c33 c34 c35 c36
 refine wp_hold fun C HC=>?_
 go_wp2_with fail
 refine wp_name fun w2 hw2=>?_
 have w2_h:Below wa.heap.size wa w2:=by rw [hw2];exact (Below.refl _ _).alloc (Nat.le_refl _) _
 have w2_n:w2.heap[wa.heap.size]?=some _:=(by rw [hw2];exact heap_alloc_new wa _)
 have b0:=cell_of_row w2 wa.heap.size 0 _ _ _ w2_n
 have b1:=cell_of_row w2 wa.heap.size 1 _ _ _ w2_n
 have b2:=cell_of_row w2 wa.heap.size 2 _ _ _ w2_n
 have b3:=cell_of_row w2 wa.heap.size 3 _ _ _ w2_n
 have b4:=cell_of_row w2 wa.heap.size 4 _ _ _ w2_n
 have b5:=cell_of_row w2 wa.heap.size 5 _ _ _ w2_n
 have b6:=cell_of_row w2 wa.heap.size 6 _ _ _ w2_n
 have b7:=cell_of_row w2 wa.heap.size 7 _ _ _ w2_n
 have b8:=cell_of_row w2 wa.heap.size 8 _ _ _ w2_n
 have b9:=cell_of_row w2 wa.heap.size 9 _ _ _ w2_n
 have b10:=cell_of_row w2 wa.heap.size 10 _ _ _ w2_n
 have b11:=cell_of_row w2 wa.heap.size 11 _ _ _ w2_n
 have w2_bh:=(w2_h.block _ wa_s0).trans wa_bh
 have w2_b:=wa_b.trans (w2_h.mono wa_b.size)
 have sB:w.heap.size<w2.heap.size:=Nat.lt_of_lt_of_le wa_s0 w2_h.size
 clear c7 c10 c11 c12 c13 c14 c15 c16 c17 c18 c19 c20 c21 c22 c23 c24 c25 c26 c27 wa_bh w2_n w2_h hw2
 (have hC:=HC.out);clear HC;subst hC
 refine wp_hold fun C HC=>?_
 refine wp_seq ?_
 refine wp_seq ?_
 refine wp_region_lit ?_
 refine list_hold 9 fun L HL=>?_
 simp only [List.cons_append,List.nil_append,List.take_succ_cons,List.take_zero]
 go_wp2_with fail
 clear heq1 b3 b4 b5 b6 b7 b8 b9 b10 b11
 generalize Value.agg #[.int .i64 d.op.kind,.int .i64 d.op.client,.int .i64 d.op.seq,.string d.op.key,.string d.op.who,.string d.op.tkey,.string d.op.twho,.int .i64 d.op.item,.int .i64 d.op.count,.int .i64 d.op.price,.bool d.op.buy,.int .i64 d.op.id]=j1
 (have hL:=HL.out);clear HL;subst hL
 simp only [List.drop_succ_cons,List.drop_zero]
 cases q with
 | false =>
  go_wp2_with fail
  go_ret
  exact ⟨by rw [Hr.out];rfl,w2_b⟩
 | true =>
  go_wp2_with fail
  all_goals try (go_ret;refine ⟨?_,w2_b⟩;rw [Hr.out,decide_eq_false (p:=_∧_) (by omega)];rfl)
  (have hC:=HC.out);clear HC;subst hC
  obtain ⟨c0,c1,c2,c3,c4,c5,c6,c7,c8,c9,c10,c11,c12,c13,c14,c15,c16,c17,c18,c19,c20,c21,c22,c23,c24,c25,c26,c27,c28,c29,c30,c31,c32,c33,c34,c35,c36⟩:=wboxD (show w2.heap[w.heap.size]?=some (.cells (wdV d ms ds) 49 (0,0)) from (by rw [←HV.out];exact w2_bh))
  clear c0 c1 c2 c3 c4 c5 c6 c8 c9 c10 c11 c12 c13 c14 c15 c16 c17 c18 c19 c20 c21 c28 c29 c30 c31 c32 c33 c34 c35 c36 b0 b1 b2 w2_bh
  go_wp2_with fail
  all_goals try (go_ret;refine ⟨?_,w2_b⟩;rw [Hr.out,decide_eq_false (p:=_∧_) (by omega)];rfl)
  refine (Hmr.out _).mono ?_
  rintro e w4 ⟨rfl,hb4⟩
  have w4_b:=w2_b.trans (hb4.mono w2_b.size)
  obtain ⟨w4_hc,-⟩:=bcell hb4
  have w4_z:=hb4.size
  clear hb4
  have hm8:Hid (1≤d.op.kind∧d.op.kind≤7∧1≤d.op.client∧d.op.client≤1048576∧1≤d.op.seq∧d.op.seq≤1099511627776∧0≤d.err∧d.err≤19):=Lib.hid (by refine ⟨?_,?_,?_,?_,?_,?_,?_,?_⟩<;>omega)
  cases m with
  | false =>
   go_wp2_with fail
   go_ret
   refine ⟨?_,w4_b⟩
   rw [Hr.out,decide_eq_true hm8.out]
   rfl
  | true =>
   by_cases hz0:d.err=0
   ·have hz1:(d.err==0)=true:=by rw [hz0];rfl
    go_wp2_with fail
    go_ret
    refine ⟨?_,w4_b⟩
    rw [Hr.out,decide_eq_true hm8.out,decide_eq_true hz0]
    rfl
   ·have hz1:(d.err==0)=false:=by rw [beq_eq_false_iff_ne];exact hz0
    cases z with
    | false =>
     go_wp2_with fail
     go_ret
     refine ⟨?_,w4_b⟩
     rw [Hr.out,decide_eq_true hm8.out,decide_eq_false hz0]
     rfl
    | true =>
     go_wp2_with fail
     go_ret
     refine ⟨?_,w4_b⟩
     rw [Hr.out,decide_eq_true hm8.out,decide_eq_false hz0]
     rfl
end Go.Proofs.YtogamdaomdoapaaGreat
namespace Go.Proofs.YtogamdaomdoapaaGreat
set_option maxRecDepth 20000
open Go.RowKit
def xW (d:Wd) (p:Pl) (m:Mp) (l:List UInt8):Wd:=⟨d.kind,p.zone,p.epoch,p.index,p.size,p.off,p.host,p.err,p.sf,p.st,p.op,p.rep,m,p.ch,l⟩
theorem docW_is (d:Wd):docW d=(okD d&&numsW d&&sameWd (xW d (namedW d) (mapW d) (dataW d)) d):=by
 rw [sameWd_eq]
 unfold docW xW Wd.pl
 rw [decide_eq_true rfl,Bool.true_and]
theorem wpList_load_rowG {P:Program} {ops:Array Oper} {rest:List Oper} {o:Oper} {a:Act} {w:World} {Q:Exit→Act→World→Prop} (hgd:Region.wanted o (yielded ops a.tmps)=true) (ty:TypeId) (x:Operand) (ho:o.op=.load ty x)
 (g:Nat) (hx:a.eval x=.pointer (some ⟨g,0,none⟩)) (t:TypeId) (cs:Array Value) (fr:Nat × Nat) (dd:TypeDesc) (hg:w.heap[g]?=some (.cells cs t fr))
 (hu:P.underlying ty=some dd) (hd:(match dd with | .struct _ | .array _ _=>true | _=>false)=true) (hi:(P.info? ty).map (·.size)=some cs.size)
 (h:wpList P ops Q rest (a.put o.dst (.agg cs)) w):wpList P ops Q (o::rest) a w:=by
 unfold wpList
 rw [if_pos hgd]
 exact .inl (wp_load_row ty x ho g hx t cs fr dd hg hu hd hi h)
def mayQD (w:World) (r:Bool):Exit→Act→World→Prop:=bodyPost Tryz.prog Tryz.f23 fun e w'=>e=.returned (.bool r)∧Below w.heap.size w w'
set_option maxHeartbeats 4000000 in
theorem may_tailD {c:Code} (hb:(Tryz.f23).body=some c) {d X:Wd} {ms ds msX dsX:Value} {V VX:Array Value} (hV:V=wdV d ms ds) (hVX:VX=wdV X msX dsX) (ao dl aX dX:Option Addr) (zc dc kX cX:Nat) (hms:ms=.slice ao d.mp.zs.length zc) (hds:ds=.slice dl d.data.length dc) (hmsX:msX=.slice aX X.mp.zs.length kX) (hdsX:dsX=.slice dX X.data.length cX)
 (w w3:World) (hz:O.ZsAt w ao d.mp.zs) (hzX:O.ZsAt w aX X.mp.zs) (hbd:BAt w dl d.data) (hbX:BAt w dX X.data) (hm:X.mp.zs.length≤100000) (B P:Nat) (ok:Bool)
 (H:Hid (St w w3 [thObj P (.cells VX 49 (0,0)),thObj B (.cells V 49 (0,0))])) (r:Bool) (hr:r=(ok&&numsW d&&sameWd X d))
 {j5 j6 j7 j8 j9 j10 j11 j12 j13 j14 j15 j16 j17 j18 j19 j20 j21 j22 j23 j24 j25 j26 j27 j28 j29 j30 j31 j32 j33 j34 j35 j36 j37 j38 j39 j40 j41 j42 j43 j44 j45 j46 j47 j48 j49 j50 j51 j52 j53 j54 j55 j56 j57 j58 j59 j60 j61 j62 j63 j64 j65 j66 j67 j68 j69 j70 j71 j72 j73 j74 j75 j76 j77 j78 j79 j80 j81 j82 j83 j84 j85 j86 j87 j88 j89 j90 j91 j92 j93 j94 j95 j96 j97 j98 j99 j100 j101 j102 j103 j104 j105 j106 j107 j108 j109 j110 j111 j112 j113 j114 j115 j116 j117 j118 j119 j120 j121 j122 j123 j124 j125 j126 j127 j128 j129 j130 j131 j132 j133 j134 j135 j136 j137 j138 j139 j140 j141 j142 j143 j144 j145 j146 j147 j148 j149 j150 j151 j152 j153 j154 j155 j156 j157 j158 j159 j160 j161 j162 j163 j164 j165 j166 j167 j168 j169 j170 j171 j172 j173 j174 j175 j176 j177 j178 j179 j180 j181 j182 j183 j184 j185 j186 j187 j188 j189 j190 j191 j192 j193 j194 j195 j196 j197 j198 j199 j200 j201:Value}:(sndC (sndC (sndC (sndC c)))).wp Tryz.prog (mayQD w r) { tmps:=#[.agg V,.pointer (some ⟨B,0,none⟩),.bool false,.pointer (some ⟨P,0,none⟩),.bool ok,j5,j6,j7,j8,j9,j10,j11,j12,j13,j14,j15,j16,j17,j18,j19,j20,j21,j22,j23,j24,j25,j26,j27,j28,j29,j30,j31,j32,j33,j34,j35,j36,j37,j38,j39,j40,j41,j42,j43,j44,j45,j46,j47,j48,j49,j50,j51,j52,j53,j54,j55,j56,j57,j58,j59,j60,j61,j62,j63,j64,j65,j66,j67,j68,j69,j70,j71,j72,j73,j74,j75,j76,j77,j78,j79,j80,j81,j82,j83,j84,j85,j86,j87,j88,j89,j90,j91,j92,j93,j94,j95,j96,j97,j98,j99,j100,j101,j102,j103,j104,j105,j106,j107,j108,j109,j110,j111,j112,j113,j114,j115,j116,j117,j118,j119,j120,j121,j122,j123,j124,j125,j126,j127,j128,j129,j130,j131,j132,j133,j134,j135,j136,j137,j138,j139,j140,j141,j142,j143,j144,j145,j146,j147,j148,j149,j150,j151,j152,j153,j154,j155,j156,j157,j158,j159,j160,j161,j162,j163,j164,j165,j166,j167,j168,j169,j170,j171,j172,j173,j174,j175,j176,j177,j178,j179,j180,j181,j182,j183,j184,j185,j186,j187,j188,j189,j190,j191,j192,j193,j194,j195,j196,j197,j198,j199,j200,j201,undef,undef,undef,undef,undef,undef,undef,undef,undef,undef],defers:=[] } w3:=by
 have hs:V.size=37:=by rw [hV];rfl
 have hsX:VX.size=37:=by rw [hVX];rfl
 obtain ⟨q,hq⟩:∃ q,q=numsW d:=⟨_,rfl⟩
 rw [←hq] at hr
 have Hr:=Lib.hid hr
 have Hnu:=Lib.hid (fun w=>numbers_any hV dl dc hds w)
 rw [←hq] at Hnu
 have Hsa:=Lib.hid (fun (w3:World) (hbw:Below w.heap.size w w3)=>sameW_any hVX hV aX ao dX dl kX zc cX dc hmsX hms hdsX hds w3 (hzX.grow hbw) (hz.grow hbw) (hbX.below hbw) (hbd.below hbw) hm)
 have S:=H
 clear hr hq hV hVX hms hds hmsX hdsX hz hzX hbd hbX hm H
 cases hb
 simp only [sndC]
 unfold mayQD
 refine wp_seq ?_
 refine wp_region_lit ?_
 cases ok with
 | false =>
  go_wp2_with fail
  go_ret
  exact ⟨by rw [Hr.out];rfl,S.out.b⟩
 | true =>
  refine list_hold 2 fun L HL=>?_
  simp only [List.take_succ_cons,List.take_zero,List.cons_append,List.nil_append]
  go_wp2_with fail
  (have hL:=HL.out);clear HL;subst hL
  simp only [List.drop_succ_cons,List.drop_zero]
  (refine wpList_load_rowG (by rfl) 49 _ rfl B rfl _ _ _ _ ((S.out.pull (A:=[_])).head) Tryz.underlying49 rfl (by rw [hs];kernel_rfl) ?_)
  refine list_hold 3 fun L HL=>?_
  simp only [List.take_succ_cons,List.take_zero,List.cons_append,List.nil_append]
  go_wp2_with fail
  refine (Hnu.out _).mono ?_
  rintro e w4 ⟨rfl,hb4⟩
  have S:=Lib.hid (S.out.grow hb4)
  clear hb4
  go_wp2_with fail
  (have hL:=HL.out);clear HL;subst hL
  simp only [List.drop_succ_cons,List.drop_zero]
  cases q with
  | false =>
   go_wp2_with fail
   go_ret
   exact ⟨by rw [Hr.out];rfl,S.out.b⟩
  | true =>
   (refine wpList_load_rowG (by rfl) 49 _ rfl P rfl _ _ _ _ (S.out.head) Tryz.underlying49 rfl (by rw [hsX];kernel_rfl) ?_)
   (refine wpList_load_rowG (by rfl) 49 _ rfl B rfl _ _ _ _ ((S.out.pull (A:=[_])).head) Tryz.underlying49 rfl (by rw [hs];kernel_rfl) ?_)
   go_wp2_with fail
   refine (Hsa.out _ S.out.b).mono ?_
   rintro e w5 ⟨rfl,hb5⟩
   have w5_b:=(S.out.grow hb5).b
   clear hb5 S
   go_wp2_with fail
   go_ret
   exact ⟨by rw [Hr.out];rfl,w5_b⟩
def TailOkD (K2:Act→World→Prop) (w:World) (V:Array Value) (B P:Nat) (r:Bool) (d:Wd):Prop :=
 ∀ (w3:World) (X:Wd) (aX dX:Option Addr) (kX cX:Nat) (ok:Bool) (j5 j6 j7 j8 j9 j10 j11 j12 j13 j14 j15 j16 j17 j18 j19 j20 j21 j22 j23 j24 j25 j26 j27 j28 j29 j30 j31 j32 j33 j34 j35 j36 j37 j38 j39 j40 j41 j42 j43 j44 j45 j46 j47 j48 j49 j50 j51 j52 j53 j54 j55 j56 j57 j58 j59 j60 j61 j62 j63 j64 j65 j66 j67 j68 j69 j70 j71 j72 j73 j74 j75 j76 j77 j78 j79 j80 j81 j82 j83 j84 j85 j86 j87 j88 j89 j90 j91 j92 j93 j94 j95 j96 j97 j98 j99 j100 j101 j102 j103 j104 j105 j106 j107 j108 j109 j110 j111 j112 j113 j114 j115 j116 j117 j118 j119 j120 j121 j122 j123 j124 j125 j126 j127 j128 j129 j130 j131 j132 j133 j134 j135 j136 j137 j138 j139 j140 j141 j142 j143 j144 j145 j146 j147 j148 j149 j150 j151 j152 j153 j154 j155 j156 j157 j158 j159 j160 j161 j162 j163 j164 j165 j166 j167 j168 j169 j170 j171 j172 j173 j174 j175 j176 j177 j178 j179 j180 j181 j182 j183 j184 j185 j186 j187 j188 j189 j190 j191 j192 j193 j194 j195 j196 j197 j198 j199 j200 j201:Value),St w w3 [thObj P (.cells (wdV X (.slice aX X.mp.zs.length kX) (.slice dX X.data.length cX)) 49 (0,0)),thObj B (.cells V 49 (0,0))]→O.ZsAt w aX X.mp.zs→BAt w dX X.data→X.mp.zs.length≤100000→r=(ok&&numsW d&&sameWd X d)→K2 { tmps:=#[.agg V,.pointer (some ⟨B,0,none⟩),.bool false,.pointer (some ⟨P,0,none⟩),.bool ok,j5,j6,j7,j8,j9,j10,j11,j12,j13,j14,j15,j16,j17,j18,j19,j20,j21,j22,j23,j24,j25,j26,j27,j28,j29,j30,j31,j32,j33,j34,j35,j36,j37,j38,j39,j40,j41,j42,j43,j44,j45,j46,j47,j48,j49,j50,j51,j52,j53,j54,j55,j56,j57,j58,j59,j60,j61,j62,j63,j64,j65,j66,j67,j68,j69,j70,j71,j72,j73,j74,j75,j76,j77,j78,j79,j80,j81,j82,j83,j84,j85,j86,j87,j88,j89,j90,j91,j92,j93,j94,j95,j96,j97,j98,j99,j100,j101,j102,j103,j104,j105,j106,j107,j108,j109,j110,j111,j112,j113,j114,j115,j116,j117,j118,j119,j120,j121,j122,j123,j124,j125,j126,j127,j128,j129,j130,j131,j132,j133,j134,j135,j136,j137,j138,j139,j140,j141,j142,j143,j144,j145,j146,j147,j148,j149,j150,j151,j152,j153,j154,j155,j156,j157,j158,j159,j160,j161,j162,j163,j164,j165,j166,j167,j168,j169,j170,j171,j172,j173,j174,j175,j176,j177,j178,j179,j180,j181,j182,j183,j184,j185,j186,j187,j188,j189,j190,j191,j192,j193,j194,j195,j196,j197,j198,j199,j200,j201,undef,undef,undef,undef,undef,undef,undef,undef,undef,undef],defers:=[] } w3
theorem zs_nil (w:World):O.ZsAt w none []:=fun h=>absurd h (by simp)
theorem ba_nil (w:World):BAt w none []:=fun h=>absurd h (by simp)
end Go.Proofs.YtogamdaomdoapaaGreat