/- Texts put together: WRe. -/
import Derived.Test.YtogamdaomdoapaaGreatSa10
import Derived.Test.YtogamdaomdoapaaGreatSa18
import Derived.Test.YtogamdaomdoapaaGreatSa20
import Derived.Test.YtogamdaomdoapaaGreatSa31
import Derived.Test.YtogamdaomdoapaaGreatSa33
import Derived.Test.YtogamdaomdoapaaGreatSa34
namespace Go.Proofs.YtogamdaomdoapaaGreat
set_option maxRecDepth 20000
open Go.RowKit
theorem zs_nilR (w:World):O.ZsAt w none []:=fun h=>absurd h (by simp)
theorem set_blk {w:World} {Q o g x:Nat} {v:Value} (h:g≠Q):(w.setCell ⟨Q,o,none⟩ v).cell? ⟨g,x,none⟩=w.cell? ⟨g,x,none⟩ :=
 World.cell?_setCell_other w ⟨Q,o,none⟩ ⟨g,x,none⟩ v (fun e=>h (by simpa using (congrArg Addr.block e).symm))
theorem set_size {w:World} {Q o:Nat} {v:Value}:(w.setCell ⟨Q,o,none⟩ v).heap.size=w.heap.size:=by simp [World.setCell]
theorem zsat_set {w:World} {Q o:Nat} {v:Value} {zo:Option Addr} {l:List Zn} (h:O.ZsAt w zo l) (hg:0<l.length→∀ a,zo=some a→a.block≠Q):O.ZsAt (w.setCell ⟨Q,o,none⟩ v) zo l:=fun hp=>by
 obtain ⟨g,x,e,hz⟩:=h hp
 have hne:g≠Q:=hg hp _ e
 exact ⟨g,x,e,by rw [set_size];exact hz.lt,fun i hi j v hv=>by rw [set_blk hne];exact hz.cell i hi j v hv⟩
theorem slof_set {w:World} {Q o:Nat} {v:Value} {ao:Option Addr} {c:Nat} {l:List UInt8} (h:F.Sl w ao c l) (hg:0<l.length→∀ a,ao=some a→a.block≠Q):F.Sl (w.setCell ⟨Q,o,none⟩ v) ao c l :=
 ⟨h.le,h.cm,h.n0,fun hp=>by
  obtain ⟨b,x,e,hb,hr⟩:=h.at_ hp
  have hne:b≠Q:=hg hp _ e
  exact ⟨b,x,e,by rw [set_size];exact hb,fun i hi=>by rw [set_blk hne];exact hr i hi⟩⟩
def kindV:Value→Nat
 | .int _ _=>0
 | .string _=>1
 | _=>2
def kindsW:List Nat:=[0,0,0,0,0,0,0,0,1,1,0,0,0,1,1,1,1,0,0,0,2,0,0,0,0,0,0,0,0,0,2,0,0,0,0,1,2]
theorem kindsW_no:∀ o,o<37→¬(kindsW[o+1]?=some 1∧kindsW[o+2]?=some 1∧kindsW[o+3]?=some 0∧kindsW[o+4]?=some 0∧kindsW[o+5]?=some 0∧kindsW[o+6]?=some 0):=by decide
theorem zs_apart {w:World} {Q:Nat} {d:Wd} {a1 a2:Option Addr} {n1 k1 n2 k2:Nat} {t:TypeId} {fr:Nat × Nat} (hq:w.heap[Q]?=some (.cells (wdV d (.slice a1 n1 k1) (.slice a2 n2 k2)) t fr)) {zo:Option Addr} {l:List Zn} (h:O.ZsAt w zo l):0<l.length→∀ a,zo=some a→a.block≠Q:=by
 intro hp a ha he
 obtain ⟨g,o,e,hz⟩:=h hp
 rw [ha] at e
 obtain rfl:=Option.some.inj e
 simp only at he
 subst he
 have hk:((wdV d (.slice a1 n1 k1) (.slice a2 n2 k2)).toList.map kindV)=kindsW:=rfl
 have hc:∀ j v,(znV l[0])[j]?=some v→kindsW[o+j]?=some (kindV v):=fun j v hv=>by
  have h1:=hz.cell 0 hp j v hv
  rw [cell_of_row w g _ _ _ _ hq] at h1
  rw [←hk,List.getElem?_map,Array.getElem?_toList]
  have e0:o+0 * 9+j=o+j:=by omega
  rw [e0] at h1
  rw [h1]
  rfl
 have g1:=hc 1 _ rfl
 have g2:=hc 2 _ rfl
 have g3:=hc 3 _ rfl
 have g4:=hc 4 _ rfl
 have g5:=hc 5 _ rfl
 have g6:=hc 6 _ rfl
 have ho:o<37:=by
  have:=(List.getElem?_eq_some_iff.1 g1).1
  have hl:kindsW.length=37:=rfl
  omega
 exact kindsW_no o ho ⟨g1,g2,g3,g4,g5,g6⟩
def ReadsPost (W:World) (L:List Th) (Q:Nat) (d:Wd) (r:List UInt8) (e:Ending) (w':World):Prop :=
 ∃ VQ,St W w' (thObj Q (.cells VQ 85 (0,0))::L)∧e=.returned (.bool (okRest d.kind r))∧(okRest d.kind r=true→∃ mo zc dl dc,VQ=wdV (withW d r) (.slice mo (withW d r).mp.zs.length zc) (.slice dl (withW d r).data.length dc)∧O.ZsAt w' mo (withW d r).mp.zs∧F.Sl w' dl dc (withW d r).data)
theorem xM_good {l:List UInt8} (h:O.goodM l=true):O.xM l=(O.decM l).1∧O.eM l=0:=by unfold O.xM O.eM;rw [if_pos h,if_pos h];exact ⟨rfl,rfl⟩
theorem xC_good {l:List UInt8} (h:O.goodC l=true):O.xC l=(O.decC l).1:=by unfold O.xC;rw [if_pos h]
theorem eM_is (l:List UInt8):(O.eM l==0)=O.goodM l:=by unfold O.eM;cases O.goodM l<;>rfl
theorem eC_is (l:List UInt8):(O.eC l==0)=O.goodC l:=by unfold O.eC;cases O.goodC l<;>rfl
def xO (l:List UInt8):Rq:=if goodD l=true then dqQ (decD l) else rq0
def eO (l:List UInt8):Int:=if goodD l=true then 0 else 3
theorem eO_is (l:List UInt8):(eO l==0)=goodD l:=by unfold eO;cases goodD l<;>rfl
theorem repE_is (l:List UInt8):(repE l==0)=goodP l:=by unfold repE;cases goodP l<;>rfl
theorem rqIf {e:Ending} (g:Bool) (x:Rq) (h:if g=true then e=.returned (.tuple #[.agg #[.int .i64 x.kind,.int .i64 x.client,.int .i64 x.seq,.string x.key,.string x.who,.string x.tkey,.string x.twho,.int .i64 x.item,.int .i64 x.count,.int .i64 x.price,.bool x.buy,.int .i64 x.id],.int .i64 0]) else e=.returned (.tuple #[.agg #[.int .i64 0,.int .i64 0,.int .i64 0,.string ⟨#[]⟩,.string ⟨#[]⟩,.string ⟨#[]⟩,.string ⟨#[]⟩,.int .i64 0,.int .i64 0,.int .i64 0,.bool false,.int .i64 0],.int .i64 3])) :
 e=.returned (.tuple #[.agg #[.int .i64 (if g=true then x else rq0).kind,.int .i64 (if g=true then x else rq0).client,.int .i64 (if g=true then x else rq0).seq,.string (if g=true then x else rq0).key,.string (if g=true then x else rq0).who,.string (if g=true then x else rq0).tkey,.string (if g=true then x else rq0).twho,.int .i64 (if g=true then x else rq0).item,.int .i64 (if g=true then x else rq0).count,.int .i64 (if g=true then x else rq0).price,.bool (if g=true then x else rq0).buy,.int .i64 (if g=true then x else rq0).id],.int .i64 (if g=true then 0 else 3)]):=by
 cases g with
 | true=>exact h
 | false=>exact h
theorem decO_gen {e:Ending} (g:Bool) (x X:Rq) (E:Int) (hX:X=if g=true then x else rq0) (hE:E=if g=true then 0 else 3) (h:if g=true then e=.returned (.tuple #[.agg #[.int .i64 x.kind,.int .i64 x.client,.int .i64 x.seq,.string x.key,.string x.who,.string x.tkey,.string x.twho,.int .i64 x.item,.int .i64 x.count,.int .i64 x.price,.bool x.buy,.int .i64 x.id],.int .i64 0]) else e=.returned (.tuple #[.agg #[.int .i64 0,.int .i64 0,.int .i64 0,.string ⟨#[]⟩,.string ⟨#[]⟩,.string ⟨#[]⟩,.string ⟨#[]⟩,.int .i64 0,.int .i64 0,.int .i64 0,.bool false,.int .i64 0],.int .i64 3])):e=.returned (.tuple #[.agg #[.int .i64 X.kind,.int .i64 X.client,.int .i64 X.seq,.string X.key,.string X.who,.string X.tkey,.string X.twho,.int .i64 X.item,.int .i64 X.count,.int .i64 X.price,.bool X.buy,.int .i64 X.id],.int .i64 E]):=by
 subst hX hE
 exact rqIf g x h
theorem decO_one {w:World} {l:List UInt8} {e:Ending} {w':World} (h:DecPost w l e w'):Below w.heap.size w w'∧e=.returned (.tuple #[.agg #[.int .i64 (xO l).kind,.int .i64 (xO l).client,.int .i64 (xO l).seq,.string (xO l).key,.string (xO l).who,.string (xO l).tkey,.string (xO l).twho,.int .i64 (xO l).item,.int .i64 (xO l).count,.int .i64 (xO l).price,.bool (xO l).buy,.int .i64 (xO l).id],.int .i64 (eO l)]):=by
 exact And.imp id (decO_gen (goodD l) (dqQ (decD l)) (xO l) (eO l) (by rw [xO]) (by rw [eO])) h
set_option maxHeartbeats 4000000 in
theorem reads_any {W w:World} {L:List Th} {Q:Nat} {V:Array Value} {d:Wd} (S0:St W w (thObj Q (.cells V 85 (0,0))::L)) (hV:V=wdV d (.slice none 0 0) (.slice none 0 0)) (hmp:d.mp=mp0) (hda:d.data=[]) (ro:Option Addr) (rc:Nat) (r:List UInt8) (hr:F.Sl w ro rc r) (hQr:0<r.length→∀ a,ro=some a→a.block≠Q) (hm:r.length≤18000∧(d.kind=3∨r.length≤2000)) :
 Calls Tryz.prog 52 #[.pointer (some ⟨Q,0,none⟩),.slice ro r.length rc] w (ReadsPost W L Q d r):=by
 have HV:=Lib.hid hV
 have hs:V.size=37:=by rw [hV];rfl
 have S:=Lib.hid S0
 have Hr:=Lib.hid hr
 have Hm:=Lib.hid hm
 clear hV S0 hr hm
 go_enter Tryz.func52,Tryz.ntmps52
 refine wp_holdQ fun R HR=>?_
 refine wp_hold fun C HC=>?_
 go_wp2_with fail
 (have hC:=HC.out);clear HC;subst hC
 refine wp_hold fun C HC=>?_
 go_wp2_with fail
 (have hC:=HC.out);clear HC;subst hC
 refine wp_hold fun CT HCT=>?_
 refine wp_seq ?_
 refine wp_hold fun C HC=>?_
 obtain ⟨c0,c1,c2,c3,c4,c5,c6,c7,c8,c9,c10,c11,c12,c13,c14,c15,c16,c17,c18,c19,c20,c21,c22,c23,c24,c25,c26,c27,c28,c29,c30,c31,c32,c33,c34,c35,c36⟩:=wbox (show w.heap[Q]?=some (.cells (wdV d (.slice none 0 0) (.slice none 0 0)) 85 (0,0)) from (by rw [←HV.out];exact S.out.head))
 clear c1 c2 c3 c4 c5 c6 c7 c8 c9 c10 c11 c12 c13 c14 c15 c16 c17 c18 c19 c20 c21 c22 c23 c24 c25 c26 c27 c28 c29 c30 c31 c32 c33 c34 c35 c36
 go_wp2_with fail
 (have hC:=HC.out);clear HC;subst hC
 clear c0
 refine wp_block ?_
 by_cases k3:d.kind=3
 ·have t3:(d.kind==3)=true:=by rw [k3];rfl
  ((refine wp_hold fun C HC=>?_);(go_wp2_with fail);(have hC:=HC.out);clear HC;subst hC;(refine wp_cond_true rfl ?_))
  have hD:=(O.pdecM_any ro rc r w Hr.out.n0 Hr.out.at_ (by have h1:=Hm.out.1;have h2:=Hm.out.2;omega)).mono (fun e w' h=>O.decM_one h)
  obtain ⟨xm,hxm⟩:∃ x,x=O.xM r:=⟨_,rfl⟩
  obtain ⟨ex,hex⟩:∃ ex,ex=O.eM r:=⟨_,rfl⟩
  rw [←hxm,←hex] at hD
  have HD:=Lib.hid hD
  have HX:=Lib.hid hxm
  have HE:=Lib.hid hex
  clear hD hxm hex
  go_wp2_with fail
  refine HD.out.mono ?_
  rintro e w5 ⟨hb5,zo,zc,rfl,hz⟩
  have S:=Lib.hid (S.out.grow hb5)
  clear hb5
  obtain ⟨c0,c1,c2,c3,c4,c5,c6,c7,c8,c9,c10,c11,c12,c13,c14,c15,c16,c17,c18,c19,c20,c21,c22,c23,c24,c25,c26,c27,c28,c29,c30,c31,c32,c33,c34,c35,c36⟩:=wbox (show w5.heap[Q]?=some (.cells (wdV d (.slice none 0 0) (.slice none 0 0)) 85 (0,0)) from (by rw [←HV.out];exact S.out.head))
  have sQ:=(S.out.cellsN 0 rfl).1
  obtain ⟨-,-,p3⟩:=S.out.cellsN 0 rfl
  clear c0 c1 c2 c3 c4 c5 c6 c7 c8 c9 c10 c11 c12 c13 c14 c15 c16 c17 c18 c19 c20 c21 c22 c23 c24 c25 c26 c27 c31 c32 c33 c34 c35 c36
  go_wp2_with fail
  refine wp_name fun w6 hw6=>?_
  obtain ⟨VX,hVX⟩:∃ VX,VX=wdV { d with mp:=xm } (.slice zo xm.zs.length zc) (.slice none 0 0):=⟨_,rfl⟩
  have S6:Hid (St W w6 (thObj Q (.cells VX 85 (0,0))::L)):=by
   have h:=(((S.out.setObj 28 (.int .i64 xm.ver)).setObj 29 (.int .i64 xm.next)).setObj 30 (.slice zo xm.zs.length zc))
   rw [←hw6] at h
   have eV:(((V.setIfInBounds 28 (.int .i64 xm.ver)).setIfInBounds 29 (.int .i64 xm.next)).setIfInBounds 30 (.slice zo xm.zs.length zc))=VX:=by
    rw [HV.out,hVX]
    unfold wdV
    simp only [List.setIfInBounds_toArray,List.set_cons_zero,List.set_cons_succ]
   rw [eV] at h
   exact Lib.hid h
  have HVX:=Lib.hid hVX
  have Hz6:Hid (O.ZsAt w6 zo xm.zs):=Lib.hid (by
   have hne:=zs_apart (by rw [←HV.out];exact S.out.head) hz
   rw [hw6]
   exact zsat_set (zsat_set (zsat_set hz hne) hne) hne)
  clear hw6 hVX c28 c29 c30 sQ p3
  (have hC:=HCT.out);clear HCT;subst hC
  (have hR:=HR.out);clear HR;subst hR
  go_wp2_with fail
  go_ret
  have e1:okRest d.kind r=O.goodM r:=by unfold okRest;rw [k3];rfl
  have e2:(ex==0)=O.goodM r:=by rw [HE.out];exact eM_is r
  refine ⟨VX,S6.out,by rw [e1,←e2];rfl,fun hok=>?_⟩
  have hg:O.goodM r=true:=by rw [←e1];exact hok
  have ew:withW d r={ d with mp:=(O.decM r).1 }:=by unfold withW;rw [k3];rfl
  have ex2:(O.decM r).1=xm:=by rw [HX.out];exact (xM_good hg).1.symm
  rw [ew,ex2]
  dsimp only
  exact ⟨zo,zc,none,0,by rw [HVX.out,hda];rfl,Hz6.out,by rw [hda];exact sl_nil _⟩
 have t3:(d.kind==3)=false:=by rw [beq_eq_false_iff_ne];exact k3
 ((refine wp_hold fun C HC=>?_);(go_wp2_with fail);(have hC:=HC.out);clear HC;subst hC;(refine wp_cond_false rfl ?_))
 by_cases k4:d.kind=4
 ·have t4:(d.kind==4)=true:=by rw [k4];rfl
  ((refine wp_hold fun C HC=>?_);(go_wp2_with fail);(have hC:=HC.out);clear HC;subst hC;(refine wp_cond_true rfl ?_))
  have hD:=(O.pdecC_any ro rc r w Hr.out.n0 Hr.out.at_ (by have h1:=Hm.out.1;have h2:=Hm.out.2;omega)).mono (fun e w' h=>O.decC_one h)
  obtain ⟨xc,hxm⟩:∃ x,x=O.xC r:=⟨_,rfl⟩
  obtain ⟨ex,hex⟩:∃ ex,ex=O.eC r:=⟨_,rfl⟩
  rw [←hxm,←hex] at hD
  have HD:=Lib.hid hD
  have HX:=Lib.hid hxm
  have HE:=Lib.hid hex
  clear hD hxm hex
  go_wp2_with fail
  refine HD.out.mono ?_
  rintro e w5 ⟨hb5,rfl⟩
  have S:=Lib.hid (S.out.grow hb5)
  clear hb5
  obtain ⟨c0,c1,c2,c3,c4,c5,c6,c7,c8,c9,c10,c11,c12,c13,c14,c15,c16,c17,c18,c19,c20,c21,c22,c23,c24,c25,c26,c27,c28,c29,c30,c31,c32,c33,c34,c35,c36⟩:=wbox (show w5.heap[Q]?=some (.cells (wdV d (.slice none 0 0) (.slice none 0 0)) 85 (0,0)) from (by rw [←HV.out];exact S.out.head))
  have sQ:=(S.out.cellsN 0 rfl).1
  obtain ⟨-,-,p3⟩:=S.out.cellsN 0 rfl
  clear c0 c1 c2 c3 c4 c5 c6 c7 c8 c9 c10 c11 c12 c13 c14 c15 c16 c17 c18 c19 c20 c21 c22 c23 c24 c25 c26 c27 c28 c29 c30 c36
  go_wp2_with fail
  refine wp_name fun w6 hw6=>?_
  obtain ⟨VX,hVX⟩:∃ VX,VX=wdV { d with ch:=xc } (.slice none 0 0) (.slice none 0 0):=⟨_,rfl⟩
  have S6:Hid (St W w6 (thObj Q (.cells VX 85 (0,0))::L)):=by
   have h:=(((((S.out.setObj 31 (.int .i64 xc.kind)).setObj 32 (.int .i64 xc.zone)).setObj 33 (.int .i64 xc.epoch)).setObj 34 (.int .i64 xc.tt)).setObj 35 (.string xc.key))
   rw [←hw6] at h
   have eV:(((((V.setIfInBounds 31 (.int .i64 xc.kind)).setIfInBounds 32 (.int .i64 xc.zone)).setIfInBounds 33 (.int .i64 xc.epoch)).setIfInBounds 34 (.int .i64 xc.tt)).setIfInBounds 35 (.string xc.key))=VX:=by
    rw [HV.out,hVX]
    unfold wdV
    simp only [List.setIfInBounds_toArray,List.set_cons_zero,List.set_cons_succ]
   rw [eV] at h
   exact Lib.hid h
  have HVX:=Lib.hid hVX
  clear hw6 hVX c31 c32 c33 c34 c35 sQ p3
  (have hC:=HCT.out);clear HCT;subst hC
  (have hR:=HR.out);clear HR;subst hR
  go_wp2_with fail
  go_ret
  have e1:okRest d.kind r=O.goodC r:=by unfold okRest;rw [k4];rfl
  have e2:(ex==0)=O.goodC r:=by rw [HE.out];exact eC_is r
  refine ⟨VX,S6.out,by rw [e1,←e2];rfl,fun hok=>?_⟩
  have hg:O.goodC r=true:=by rw [←e1];exact hok
  have ew:withW d r={ d with ch:=(O.decC r).1 }:=by unfold withW;rw [k4];rfl
  have ex2:(O.decC r).1=xc:=by rw [HX.out];exact (xC_good hg).symm
  rw [ew,ex2]
  dsimp only
  exact ⟨none,0,none,0,by rw [HVX.out,hmp,hda];rfl,by rw [hmp];exact zs_nilR _,by rw [hda];exact sl_nil _⟩
 have t4:(d.kind==4)=false:=by rw [beq_eq_false_iff_ne];exact k4
 ((refine wp_hold fun C HC=>?_);(go_wp2_with fail);(have hC:=HC.out);clear HC;subst hC;(refine wp_cond_false rfl ?_))
 by_cases k5:d.kind=5
 ·have t5:(d.kind==5)=true:=by rw [k5];rfl
  ((refine wp_hold fun C HC=>?_);(go_wp2_with fail);(have hC:=HC.out);clear HC;subst hC;(refine wp_cond_true rfl ?_))
  have hD:=(dec_any ro rc r w Hr.out.n0 Hr.out.at_ (by have h1:=Hm.out.1;have h2:=Hm.out.2;omega)).mono (fun e w' h=>decO_one h)
  obtain ⟨xo,hxm⟩:∃ x,x=xO r:=⟨_,rfl⟩
  obtain ⟨ex,hex⟩:∃ ex,ex=eO r:=⟨_,rfl⟩
  rw [←hxm,←hex] at hD
  have HD:=Lib.hid hD
  have HX:=Lib.hid hxm
  have HE:=Lib.hid hex
  clear hD hxm hex
  go_wp2_with fail
  refine HD.out.mono ?_
  rintro e w5 ⟨hb5,rfl⟩
  have S:=Lib.hid (S.out.grow hb5)
  clear hb5
  obtain ⟨c0,c1,c2,c3,c4,c5,c6,c7,c8,c9,c10,c11,c12,c13,c14,c15,c16,c17,c18,c19,c20,c21,c22,c23,c24,c25,c26,c27,c28,c29,c30,c31,c32,c33,c34,c35,c36⟩:=wbox (show w5.heap[Q]?=some (.cells (wdV d (.slice none 0 0) (.slice none 0 0)) 85 (0,0)) from (by rw [←HV.out];exact S.out.head))
  have sQ:=(S.out.cellsN 0 rfl).1
  obtain ⟨-,-,p3⟩:=S.out.cellsN 0 rfl
  clear c0 c1 c2 c3 c4 c5 c6 c7 c8 c9 c22 c23 c24 c25 c26 c27 c28 c29 c30 c31 c32 c33 c34 c35 c36
  go_wp2_with fail
  refine wp_name fun w6 hw6=>?_
  obtain ⟨VX,hVX⟩:∃ VX,VX=wdV { d with op:=xo } (.slice none 0 0) (.slice none 0 0):=⟨_,rfl⟩
  have S6:Hid (St W w6 (thObj Q (.cells VX 85 (0,0))::L)):=by
   have h:=((((((((((((S.out.setObj 10 (.int .i64 xo.kind)).setObj 11 (.int .i64 xo.client)).setObj 12 (.int .i64 xo.seq)).setObj 13 (.string xo.key)).setObj 14 (.string xo.who)).setObj 15 (.string xo.tkey)).setObj 16 (.string xo.twho)).setObj 17 (.int .i64 xo.item)).setObj 18 (.int .i64 xo.count)).setObj 19 (.int .i64 xo.price)).setObj 20 (.bool xo.buy)).setObj 21 (.int .i64 xo.id))
   rw [←hw6] at h
   have eV:((((((((((((V.setIfInBounds 10 (.int .i64 xo.kind)).setIfInBounds 11 (.int .i64 xo.client)).setIfInBounds 12 (.int .i64 xo.seq)).setIfInBounds 13 (.string xo.key)).setIfInBounds 14 (.string xo.who)).setIfInBounds 15 (.string xo.tkey)).setIfInBounds 16 (.string xo.twho)).setIfInBounds 17 (.int .i64 xo.item)).setIfInBounds 18 (.int .i64 xo.count)).setIfInBounds 19 (.int .i64 xo.price)).setIfInBounds 20 (.bool xo.buy)).setIfInBounds 21 (.int .i64 xo.id))=VX:=by
    rw [HV.out,hVX]
    unfold wdV
    simp only [List.setIfInBounds_toArray,List.set_cons_zero,List.set_cons_succ]
   rw [eV] at h
   exact Lib.hid h
  have HVX:=Lib.hid hVX
  clear hw6 hVX c10 c11 c12 c13 c14 c15 c16 c17 c18 c19 c20 c21 sQ p3
  (have hC:=HCT.out);clear HCT;subst hC
  (have hR:=HR.out);clear HR;subst hR
  go_wp2_with fail
  go_ret
  have e1:okRest d.kind r=goodD r:=by unfold okRest;rw [k5];rfl
  have e2:(ex==0)=goodD r:=by rw [HE.out];exact eO_is r
  refine ⟨VX,S6.out,by rw [e1,←e2];rfl,fun hok=>?_⟩
  have hg:goodD r=true:=by rw [←e1];exact hok
  have ew:withW d r={ d with op:=dqQ (decD r) }:=by unfold withW;rw [k5];rfl
  have ex2:dqQ (decD r)=xo:=by rw [HX.out];unfold xO;rw [if_pos hg]
  rw [ew,ex2]
  dsimp only
  exact ⟨none,0,none,0,by rw [HVX.out,hmp,hda];rfl,by rw [hmp];exact zs_nilR _,by rw [hda];exact sl_nil _⟩
 have t5:(d.kind==5)=false:=by rw [beq_eq_false_iff_ne];exact k5
 ((refine wp_hold fun C HC=>?_);(go_wp2_with fail);(have hC:=HC.out);clear HC;subst hC;(refine wp_cond_false rfl ?_))
 by_cases k6:d.kind=6
 ·have t6:(d.kind==6)=true:=by rw [k6];rfl
  ((refine wp_hold fun C HC=>?_);(go_wp2_with fail);(have hC:=HC.out);clear HC;subst hC;(refine wp_cond_true rfl ?_))
  have hD:=decrep_any ro rc r w Hr.out.n0 Hr.out.at_ (by have h1:=Hm.out.1;have h2:=Hm.out.2;omega)
  unfold RepDec at hD
  obtain ⟨xr,hxm⟩:∃ x,x=repR r:=⟨_,rfl⟩
  obtain ⟨ex,hex⟩:∃ ex,ex=repE r:=⟨_,rfl⟩
  rw [←hxm,←hex] at hD
  have HD:=Lib.hid hD
  have HX:=Lib.hid hxm
  have HE:=Lib.hid hex
  clear hD hxm hex
  go_wp2_with fail
  refine HD.out.mono ?_
  rintro e w5 ⟨rfl,hb5⟩
  have S:=Lib.hid (S.out.grow hb5)
  clear hb5
  obtain ⟨c0,c1,c2,c3,c4,c5,c6,c7,c8,c9,c10,c11,c12,c13,c14,c15,c16,c17,c18,c19,c20,c21,c22,c23,c24,c25,c26,c27,c28,c29,c30,c31,c32,c33,c34,c35,c36⟩:=wbox (show w5.heap[Q]?=some (.cells (wdV d (.slice none 0 0) (.slice none 0 0)) 85 (0,0)) from (by rw [←HV.out];exact S.out.head))
  have sQ:=(S.out.cellsN 0 rfl).1
  obtain ⟨-,-,p3⟩:=S.out.cellsN 0 rfl
  clear c0 c1 c2 c3 c4 c5 c6 c7 c8 c9 c10 c11 c12 c13 c14 c15 c16 c17 c18 c19 c20 c21 c28 c29 c30 c31 c32 c33 c34 c35 c36
  go_wp2_with fail
  refine wp_name fun w6 hw6=>?_
  obtain ⟨VX,hVX⟩:∃ VX,VX=wdV { d with rep:=xr } (.slice none 0 0) (.slice none 0 0):=⟨_,rfl⟩
  have S6:Hid (St W w6 (thObj Q (.cells VX 85 (0,0))::L)):=by
   have h:=((((((S.out.setObj 22 (.int .i64 xr.err)).setObj 23 (.int .i64 xr.id)).setObj 24 (.int .i64 xr.i.a)).setObj 25 (.int .i64 xr.i.b)).setObj 26 (.int .i64 xr.i.c)).setObj 27 (.int .i64 xr.i.d))
   rw [←hw6] at h
   have eV:((((((V.setIfInBounds 22 (.int .i64 xr.err)).setIfInBounds 23 (.int .i64 xr.id)).setIfInBounds 24 (.int .i64 xr.i.a)).setIfInBounds 25 (.int .i64 xr.i.b)).setIfInBounds 26 (.int .i64 xr.i.c)).setIfInBounds 27 (.int .i64 xr.i.d))=VX:=by
    rw [HV.out,hVX]
    unfold wdV
    simp only [List.setIfInBounds_toArray,List.set_cons_zero,List.set_cons_succ]
   rw [eV] at h
   exact Lib.hid h
  have HVX:=Lib.hid hVX
  clear hw6 hVX c22 c23 c24 c25 c26 c27 sQ p3
  (have hC:=HCT.out);clear HCT;subst hC
  (have hR:=HR.out);clear HR;subst hR
  go_wp2_with fail
  go_ret
  have e1:okRest d.kind r=goodP r:=by unfold okRest;rw [k6];rfl
  have e2:(ex==0)=goodP r:=by rw [HE.out];exact repE_is r
  refine ⟨VX,S6.out,by rw [e1,←e2];rfl,fun hok=>?_⟩
  have hg:goodP r=true:=by rw [←e1];exact hok
  have ew:withW d r={ d with rep:=rpOf r }:=by unfold withW;rw [k6];rfl
  have ex2:rpOf r=xr:=by rw [HX.out];exact (repR_yes hg).1.symm
  rw [ew,ex2]
  dsimp only
  exact ⟨none,0,none,0,by rw [HVX.out,hmp,hda];rfl,by rw [hmp];exact zs_nilR _,by rw [hda];exact sl_nil _⟩
 have t6:(d.kind==6)=false:=by rw [beq_eq_false_iff_ne];exact k6
 ((refine wp_hold fun C HC=>?_);(go_wp2_with fail);(have hC:=HC.out);clear HC;subst hC;(refine wp_cond_false rfl ?_))
 obtain ⟨c0,c1,c2,c3,c4,c5,c6,c7,c8,c9,c10,c11,c12,c13,c14,c15,c16,c17,c18,c19,c20,c21,c22,c23,c24,c25,c26,c27,c28,c29,c30,c31,c32,c33,c34,c35,c36⟩:=wbox (show w.heap[Q]?=some (.cells (wdV d (.slice none 0 0) (.slice none 0 0)) 85 (0,0)) from (by rw [←HV.out];exact S.out.head))
 have sQ:=(S.out.cellsN 0 rfl).1
 obtain ⟨-,-,p3⟩:=S.out.cellsN 0 rfl
 clear c0 c1 c2 c3 c4 c5 c6 c7 c8 c9 c10 c11 c12 c13 c14 c15 c16 c17 c18 c19 c20 c21 c22 c23 c24 c25 c26 c27 c28 c29 c30 c31 c32 c33 c34 c35
 obtain ⟨n,hn⟩:∃ n,n=r.length:=⟨_,rfl⟩
 rw [←hn]
 have Hn:=Lib.hid hn
 clear hn
 go_wp2_with fail
 refine wp_name fun w6 hw6=>?_
 have S6:=Lib.hid (S.out.setObj 36 (.slice ro n rc))
 have Hr6:Hid (F.Sl w6 ro rc r):=Lib.hid (by rw [hw6];exact slof_set Hr.out hQr)
 rw [←hw6] at S6
 clear hw6 c36 sQ p3
 (have hC:=HCT.out);clear HCT;subst hC
 (have hR:=HR.out);clear HR;subst hR
 go_wp2_with fail
 go_ret
 have eo:okRest d.kind r=true:=by unfold okRest;rw [if_neg k3,if_neg k4,if_neg k5,if_neg k6]
 have ew:withW d r={ d with data:=r }:=by unfold withW;rw [if_neg k3,if_neg k4,if_neg k5,if_neg k6]
 refine ⟨_,S6.out,by rw [eo];rfl,fun _=>?_⟩
 rw [ew]
 dsimp only
 refine ⟨none,0,ro,rc,?_,by rw [hmp];exact zs_nilR _,Hr6.out⟩
 have hz0:d.mp.zs.length=0:=by rw [hmp];rfl
 rw [HV.out,hz0,Hn.out]
 unfold wdV
 simp only [List.setIfInBounds_toArray,List.set_cons_zero,List.set_cons_succ]
end Go.Proofs.YtogamdaomdoapaaGreat