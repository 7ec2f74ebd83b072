/- Texts put together: GtH, FrScan. -/
import Derived.Test.YtogamdaomdoapaaGreatSa04
import Derived.Test.YtogamdaomdoapaaGreatSa46
import Derived.Test.YtogamdaomdoapaaGreatSa47
import Derived.Deep.AppendLies
namespace Go.Proofs.YtogamdaomdoapaaGreat.G
set_option maxRecDepth 20000
open Go.RowKit
def thA (base:Nat) (ao:Option Addr) (cap:Nat) (A:List An):Th:=thRow base 79 18 ao A.length cap (anR A)
def HearPost (n:Nat) (W:World) (L:List Th) (p:Nat) (g:Gt) (A:List An) (f t:Int) (D:Wd × Int) (e:Ending) (w':World):Prop:=∃ ao cap,St W w' (thG p (hearG g f t D) (.slice ao (A++hearA g f t D).length cap)::thA W.heap.size ao cap (A++hearA g f t D)::L)∧if hearM g f t D=true then ∃ b,e=.returned (.slice (some ⟨b,0,none⟩) 1 1)∧MsgAt n w' b g.id D.1.host (encW (callW g.op)) else e=.returned (.slice none 0 0)
def zz18:Array Value:=#[.int .i64 0,.int .i64 0,.int .i64 0,.string ⟨#[]⟩,.string ⟨#[]⟩,.string ⟨#[]⟩,.string ⟨#[]⟩,.int .i64 0,.int .i64 0,.int .i64 0,.bool false,.int .i64 0,.int .i64 0,.int .i64 0,.int .i64 0,.int .i64 0,.int .i64 0,.int .i64 0]
theorem ansInfo:(Tryz.prog.info? 79).map (fun i=>(i.zero,i.size,i.bytes))=some (some (.agg zz18),18,176):=by kernel_rfl
theorem anV_one (a:An):∀ u∈anV a,u.oneCell'=true:=by
 intro u hu
 unfold anV at hu
 simp only [List.mem_cons,List.not_mem_nil,or_false] at hu
 rcases hu with rfl | rfl | rfl | rfl | rfl | rfl | rfl | rfl | rfl | rfl | rfl | rfl | rfl | rfl | rfl | rfl | rfl | rfl<;>rfl
theorem thA_row {w:World} {base:Nat} {ao:Option Addr} {cap:Nat} {A:List An} (h:(thA base ao cap A).T w):w.ownsRow base 79 18 (.slice ao A.length cap) A.length (anR A):=h
theorem owns_drewG {w:World} {base:Nat} {e:TypeId} {size n:Nat} {v:Value} {xs:List Value} (h:w.ownsRow base e size v n xs):w.drew.ownsRow base e size v n xs:=h
theorem keeps_rowG (w:World) (o:Obj) {w2:World} {ro:Option Addr} {n c:Nat} (hg:(w.alloc o).drew.grownBy w2 (Value.slice ro n c).ownBlock):Keeps w w2 (fun x=>∃ a,ro=some a∧a.block=x) :=
 Keeps.trans (keeps_same0 (below_allocO w o).drew (fun _=>False)) ((Keeps.grown hg).weak (T:=fun x=>∃ a,ro=some a∧a.block=x) (fun _ _ e=>ownBlock_of e.symm)) (fun _ h=>h.elim) (fun _ _ h=>h)
theorem hear_none {n:Nat} {W w':World} {L:List Th} {p:Nat} {g:Gt} {A:List An} {f t:Int} {D:Wd × Int} {ao:Option Addr} {cap:Nat} (h:hearG g f t D=g∧hearA g f t D=[]∧hearM g f t D=false) (S:St W w' (thG p g (.slice ao A.length cap)::thA W.heap.size ao cap A::L)):HearPost n W L p g A f t D (.returned (.slice none 0 0)) w':=by
 unfold HearPost
 rw [h.1,h.2.1,h.2.2,List.append_nil]
 exact ⟨ao,cap,S,rfl⟩
theorem MsgAt.weak {n m:Nat} {w:World} {b:Nat} {f t:Int} {l:List UInt8} (h:MsgAt n w b f t l) (hm:m≤n):MsgAt m w b f t l:=by
 obtain ⟨h0,ao,cap,h1,h2,h3⟩:=h
 exact ⟨Nat.le_trans hm h0,ao,cap,h1,h2,fun hl a ha=>Nat.le_trans hm (h3 hl a ha)⟩
theorem isHost_b {W w:World} {L:List Th} {p:Nat} {g:Gt} {av:Value} (S:St W w (thG p g av::L)) (n:Int) (h:1≤g.hosts∧g.hosts≤6):Calls Tryz.prog 26 #[.pointer (some ⟨p,0,none⟩),.int .i64 n] w fun e w'=>e=.returned (.bool (isHostB g.hosts n))∧Below w.heap.size w w' :=
 (isHost_g S n h).mono fun _ _ ⟨h1,h2⟩=>⟨h1,h2▸Below.refl _ _⟩
set_option maxHeartbeats 4000000 in
theorem hear_g {W w:World} {L:List Th} {p:Nat} {g:Gt} {ao:Option Addr} {cap:Nat} {A:List An} (S0:St W w (thG p g (.slice ao A.length cap)::thA W.heap.size ao cap A::L)) (hok:Ok g) (f t:Int) (bo:Option Addr) (bc:Nat) (l:List UInt8) (hl:F.Sl w bo bc l) (hlm:l.length≤140737488351232) (hs:∀ q,F.oneB l=(q,0)→SmW q) (hA:A.length≤1000) :
 Calls Tryz.prog 11 #[.pointer (some ⟨p,0,none⟩),.agg #[.int .i64 f,.int .i64 t,.slice bo l.length bc]] w (HearPost w.heap.size W L p g A f t (wdDec l)):=by
 have S:=Lib.hid S0
 have Hok:=Lib.hid hok
 have Hde:=Lib.hid (fun (w3:World) (hb:Below w.heap.size w w3)=>wdec_all bo bc l w3 (hl.grow hb) hlm hs)
 have hih:=hok.hosts
 have Hhh:=Lib.hid hok.hosts
 obtain ⟨DD,hDD⟩:∃ DD,DD=wdDec l:=⟨_,rfl⟩
 rw [←hDD]
 have HDD:=Lib.hid hDD
 obtain ⟨n,hn⟩:∃ n,n=l.length:=⟨_,rfl⟩
 rw [←hn] at Hde ⊢
 clear S0 hok hl hlm hs hDD hn hih
 go_enter Tryz.func11,Tryz.ntmps11
 refine wp_holdQ fun R HR=>?_
 refine wp_hold fun C HC=>?_
 go_wp2_with fail
 refine wp_name fun wa hwa=>?_
 obtain ⟨M,hM⟩:∃ M,M=w.heap.size:=⟨_,rfl⟩
 have S1:Hid (St W wa (thObj M (.cells #[.int .i64 f,.int .i64 t,.slice bo n bc] 52 (0,0))::thG p g (.slice ao A.length cap)::thA W.heap.size ao cap A::L)):=by rw [hwa];exact Lib.hid (S.out.objN _ M hM)
 have wa_b:Below w.heap.size w wa:=by rw [hwa];exact bg
 have Wa:=Lib.hid wa_b
 rw [←hM]
 clear hwa hM S wa_b
 ((have hC:=HC.out);clear HC;subst hC)
 refine wp_hold fun C HC=>?_
 obtain ⟨c0,c1,c2,c3,c4,c5,c6,c7,c8,c9,c10,c11,c12,c13,c14,c15,c16,c17,c18⟩:=gbox (show wa.heap[p]?=some (.cells (gtV g (.slice ao A.length cap)) 82 (0,0)) from (S1.out.pull (A:=[_])).head)
 obtain ⟨ml,mc,-⟩:=S1.out.cellsN 0 rfl
 have hp:=(S1.out.cellsN 1 rfl).1
 clear c1 c2 c3 c4 c6 c7 c8 c9 c10 c11 c12 c13 c14 c15 c16 c17 c18
 obtain ⟨pd,hpd⟩:∃ pd,pd=g.pend:=⟨_,rfl⟩
 obtain ⟨id,hid⟩:∃ id,id=g.id:=⟨_,rfl⟩
 obtain ⟨hb,hhb⟩:∃ hb,hb=isHostB g.hosts f:=⟨_,rfl⟩
 have hisH:=fun (k:Gr wa)=>isHost_b ((S1.out.pull (A:=[_])).grow (gr_below wa k)) f Hhh.out
 simp only [←hhb] at hisH
 rw [←hpd] at c5
 rw [←hid] at c0
 have Hfor:Hid (forB g f t=(pd&&decide (t=id)&&hb)):=by unfold forB;rw [hpd,hid,hhb];exact Lib.hid rfl
 have Hid2:=Lib.hid hid
 have HI:=Lib.hid hisH
 clear hpd hid hhb hisH
 have Hg:=Lib.hid ((S1.out.drop))
 cases pd with
 | false =>
  have hno:heardB g f t DD=false:=by unfold heardB;rw [Hfor.out];rfl
  have Hno:=Lib.hid (hear_no hno)
  clear hno
  refine wp_seq ?_
  refine wp_seq ?_
  (refine wp_region_gr (by kernel_rfl) (by kernel_rfl) ?_;(repeat (go_big_quiet_step (fail)));refine wpQuiet_nil ?_;intro _ hw';obtain ⟨k,hw''⟩:=hw';subst hw'')
  go_wp2_with fail
  (have hR:=HR.out);clear HR;subst hR
  go_ret
  exact hear_none Hno.out (Hg.out.grow (gr_below wa k))
 | true =>
 rcases Bool.eq_false_or_eq_true (t==id) with t1 | t1
 rotate_left
 ·have t1n:(t != id)=true:=by rw [bne_iff_ne];rw [beq_eq_false_iff_ne] at t1;exact t1
  have hno:heardB g f t DD=false:=by unfold heardB;rw [Hfor.out,decide_eq_false (by rw [beq_eq_false_iff_ne] at t1;exact t1)];rfl
  have Hno:=Lib.hid (hear_no hno)
  clear hno
  refine wp_seq ?_
  refine wp_seq ?_
  (refine wp_region_gr (by kernel_rfl) (by kernel_rfl) ?_;(repeat (go_big_quiet_step (fail)));refine wpQuiet_nil ?_;intro _ hw';obtain ⟨k,hw''⟩:=hw';subst hw'')
  go_wp2_with fail
  (have hR:=HR.out);clear HR;subst hR
  go_ret
  exact hear_none Hno.out (Hg.out.grow (gr_below wa k))
 have t1n:(t != id)=false:=by rw [bne_eq_false_iff_eq];exact beq_iff_eq.1 t1
 cases hb with
 | false =>
  have hno:heardB g f t DD=false:=by unfold heardB;rw [Hfor.out,Bool.and_false];rfl
  have Hno:=Lib.hid (hear_no hno)
  clear hno
  refine wp_seq ?_
  refine wp_seq ?_
  (refine wp_region_gr (by kernel_rfl) (by kernel_rfl) ?_;(repeat (go_big_quiet_step ((go_at_call 26;exact calls_gr (HI.out _)))));refine wpQuiet_nil ?_;intro _ hw';obtain ⟨k,hw''⟩:=hw';subst hw'')
  go_wp2_with fail
  (have hR:=HR.out);clear HR;subst hR
  go_ret
  exact hear_none Hno.out (Hg.out.grow (gr_below wa k))
 | true =>
  have Hfor2:Hid (forB g f t=true):=by rw [Hfor.out,decide_eq_true (beq_iff_eq.1 t1)];exact Lib.hid rfl
  refine wp_seq ?_
  refine wp_seq ?_
  (refine wp_region_gr (by kernel_rfl) (by kernel_rfl) ?_;(repeat (go_big_quiet_step ((go_at_call 26;exact calls_gr (HI.out _)))));refine wpQuiet_nil ?_;intro _ hw';obtain ⟨k,hw''⟩:=hw';subst hw'')
  go_wp2_with fail
  refine wp_name fun wb hwb=>?_
  have hkb:Below wa.heap.size wa wb:=by rw [hwb];exact gr_below wa k
  have S2:=Lib.hid (S1.out.grow hkb)
  have Wb:=Lib.hid (Wa.out.trans (hkb.mono Wa.out.size))
  clear hwb hkb S1 Hg HI Hfor c0 c5 ml mc hp t1 Wa
  ((have hC:=HC.out);clear HC;subst hC)
  refine wp_hold fun C HC=>?_
  obtain ⟨ml,mc,-⟩:=S2.out.cellsN 0 rfl
  refine wp_seq ?_
  refine wp_region_lit ?_
  ((refine list_hold 7 fun LL HL=>?_);simp only [List.take_succ_cons,List.take_zero,List.cons_append,List.nil_append];(go_wp2_with fail))
  refine (Hde.out wb Wb.out).mono ?_
  intro e wc hde
  obtain ⟨VX,mo,zc,dl,dc,hV,hsx,hox,rfl,hbb,-,-⟩:=dec_named hde
  rw [←HDD.out] at hV
  rw [←HDD.out]
  obtain ⟨D,hD⟩:∃ D,D=DD.1:=⟨_,rfl⟩
  obtain ⟨c,hc⟩:∃ c,c=DD.2:=⟨_,rfl⟩
  rw [←hD] at hV
  rw [←hc]
  have Hm:Hid (heardB g f t DD=(decide (c=0)&&decide (D.kind=6)&&decide (D.op.kind=g.op.kind)&&decide (D.op.client=g.op.client)&&decide (D.op.seq=g.op.seq))):=by
   unfold heardB matchB
   rw [Hfor2.out,Bool.true_and,hD,hc]
   exact Lib.hid rfl
  have HD:=Lib.hid hD
  have HV:=Lib.hid hV
  have S3:=Lib.hid (S2.out.grow hbb)
  have Wc:=Lib.hid (Wb.out.trans (hbb.mono Wb.out.size))
  clear hde hbb S2 ml mc hD hc hV Hde Hfor2
  go_wp2_with fail
  refine list_name fun wn hwn=>?_
  obtain ⟨Q,hQ⟩:∃ Q,Q=wc.heap.size:=⟨_,rfl⟩
  have S4:Hid (St W wn (thObj Q (.cells #[.int .i64 0,.int .i64 0,.int .i64 0,.int .i64 0,.int .i64 0,.int .i64 0,.int .i64 0,.int .i64 0,.string ⟨#[]⟩,.string ⟨#[]⟩,.int .i64 0,.int .i64 0,.int .i64 0,.string ⟨#[]⟩,.string ⟨#[]⟩,.string ⟨#[]⟩,.string ⟨#[]⟩,.int .i64 0,.int .i64 0,.int .i64 0,.bool false,.int .i64 0,.int .i64 0,.int .i64 0,.int .i64 0,.int .i64 0,.int .i64 0,.int .i64 0,.int .i64 0,.int .i64 0,.slice none 0 0,.int .i64 0,.int .i64 0,.int .i64 0,.int .i64 0,.string ⟨#[]⟩,.slice none 0 0] 85 (0,0))::thObj M (.cells #[.int .i64 f,.int .i64 t,.slice bo n bc] 52 (0,0))::thG p g (.slice ao A.length cap)::thA W.heap.size ao cap A::L)):=by rw [hwn];exact Lib.hid (S3.out.objN _ Q hQ)
  have Wn:Hid (Below w.heap.size w wn):=by rw [hwn];exact Lib.hid (Wc.out.alloc Wc.out.size _)
  have HQw:Hid (w.heap.size≤Q):=by rw [hQ];exact Lib.hid Wc.out.size
  rw [←hQ]
  clear hwn hQ S3 Wc
  ((have hL:=HL.out);clear HL;subst hL;simp only [List.drop_succ_cons,List.drop_zero])
  refine wpList_store_row rfl 85 _ _ rfl Q VX rfl rfl 85 _ S4.out.head (by rw [hsx];kernel_rfl) (by rw [hsx];rfl) hox ?_
  have S5:=Lib.hid (S4.out.setRow37 VX)
  have Wo:=Lib.hid (below_setRow Wn.out HQw.out VX)
  clear S4 Wn
  refine list_name fun wd hwd=>?_
  rw [←hwd] at S5 Wo
  clear hwd
  go_wp2_with fail
  ((have hC:=HC.out);clear HC;subst hC)
  refine wp_hold fun C HC=>?_
  have hQh:wd.heap[Q]?=some (.cells (wdV D (.slice mo D.mp.zs.length zc) (.slice dl D.data.length dc)) 85 (0,0)):=by rw [←HV.out];exact S5.out.head
  have hQl:=lt_of_block hQh
  obtain ⟨d0,d1,d2,d3,d4,d5,d6,d7,d8,d9,d10,d11,d12,d13,d14,d15,d16,d17,d18,d19,d20,d21,d22,d23,d24,d25,d26,d27,d28,d29,d30,d31,d32,d33,d34,d35,d36⟩:=wbox hQh
  obtain ⟨c0,c1,c2,c3,c4,c5,c6,c7,c8,c9,c10,c11,c12,c13,c14,c15,c16,c17,c18⟩:=gbox (show wd.heap[p]?=some (.cells (gtV g (.slice ao A.length cap)) 82 (0,0)) from (S5.out.pull (A:=[_,_])).head)
  have hp:=(S5.out.cellsN 2 rfl).1
  clear d1 d2 d3 d4 d5 d6 d7 d8 d9 d13 d14 d15 d16 d17 d18 d19 d20 d21 d22 d23 d24 d25 d26 d27 d28 d29 d30 d31 d32 d33 d34 d35 d36 c0 c1 c2 c3 c4 c5 c9 c10 c11 c12 c13 c14 c15 c16 c17 c18
  clear hQh
  have Hg:=Lib.hid (S5.out.drop.drop)
  rcases Bool.eq_false_or_eq_true (c != 0) with a0 | a0
  ·((have hno:heardB g f t DD=false:=(by rw [bne_iff_ne] at a0;rw [Hm.out];simp [a0]));(have Hno:=Lib.hid (hear_no hno));clear hno;(refine wp_seq ?_);(refine wp_seq ?_);(refine wp_region_gr (by kernel_rfl) (by kernel_rfl) ?_;(repeat (go_big_quiet_step (fail)));refine wpQuiet_nil ?_;intro _ hw';obtain ⟨k,hw''⟩:=hw';subst hw'');(go_wp2_with fail);(have hR:=HR.out);clear HR;subst hR;go_ret;exact hear_none Hno.out (Hg.out.grow (gr_below wd k)))
  rcases Bool.eq_false_or_eq_true (D.kind != 6) with a1 | a1
  ·((have hno:heardB g f t DD=false:=(by rw [bne_iff_ne] at a1;rw [Hm.out];simp [a1]));(have Hno:=Lib.hid (hear_no hno));clear hno;(refine wp_seq ?_);(refine wp_seq ?_);(refine wp_region_gr (by kernel_rfl) (by kernel_rfl) ?_;(repeat (go_big_quiet_step (fail)));refine wpQuiet_nil ?_;intro _ hw';obtain ⟨k,hw''⟩:=hw';subst hw'');(go_wp2_with fail);(have hR:=HR.out);clear HR;subst hR;go_ret;exact hear_none Hno.out (Hg.out.grow (gr_below wd k)))
  rcases Bool.eq_false_or_eq_true (D.op.kind != g.op.kind) with a2 | a2
  ·((have hno:heardB g f t DD=false:=(by rw [bne_iff_ne] at a2;rw [Hm.out];simp [a2]));(have Hno:=Lib.hid (hear_no hno));clear hno;(refine wp_seq ?_);(refine wp_seq ?_);(refine wp_region_gr (by kernel_rfl) (by kernel_rfl) ?_;(repeat (go_big_quiet_step (fail)));refine wpQuiet_nil ?_;intro _ hw';obtain ⟨k,hw''⟩:=hw';subst hw'');(go_wp2_with fail);(have hR:=HR.out);clear HR;subst hR;go_ret;exact hear_none Hno.out (Hg.out.grow (gr_below wd k)))
  rcases Bool.eq_false_or_eq_true (D.op.client != g.op.client) with a3 | a3
  ·((have hno:heardB g f t DD=false:=(by rw [bne_iff_ne] at a3;rw [Hm.out];simp [a3]));(have Hno:=Lib.hid (hear_no hno));clear hno;(refine wp_seq ?_);(refine wp_seq ?_);(refine wp_region_gr (by kernel_rfl) (by kernel_rfl) ?_;(repeat (go_big_quiet_step (fail)));refine wpQuiet_nil ?_;intro _ hw';obtain ⟨k,hw''⟩:=hw';subst hw'');(go_wp2_with fail);(have hR:=HR.out);clear HR;subst hR;go_ret;exact hear_none Hno.out (Hg.out.grow (gr_below wd k)))
  rcases Bool.eq_false_or_eq_true (D.op.seq != g.op.seq) with a4 | a4
  ·((have hno:heardB g f t DD=false:=(by rw [bne_iff_ne] at a4;rw [Hm.out];simp [a4]));(have Hno:=Lib.hid (hear_no hno));clear hno;(refine wp_seq ?_);(refine wp_seq ?_);(refine wp_region_gr (by kernel_rfl) (by kernel_rfl) ?_;(repeat (go_big_quiet_step (fail)));refine wpQuiet_nil ?_;intro _ hw';obtain ⟨k,hw''⟩:=hw';subst hw'');(go_wp2_with fail);(have hR:=HR.out);clear HR;subst hR;go_ret;exact hear_none Hno.out (Hg.out.grow (gr_below wd k)))
  have hyes:heardB g f t DD=true:=by
   rw [bne_eq_false_iff_eq] at a0 a1 a2 a3 a4
   rw [Hm.out,a0,a1,a2,a3,a4]
   simp
  have Hy:=Lib.hid hyes
  clear hyes
  refine wp_seq ?_
  refine wp_seq ?_
  (refine wp_region_gr (by kernel_rfl) (by kernel_rfl) ?_;(repeat (go_big_quiet_step (fail)));refine wpQuiet_nil ?_;intro _ hw';obtain ⟨k,hw''⟩:=hw';subst hw'')
  go_wp2_with fail
  refine wp_name fun we hwe=>?_
  have hke:Below wd.heap.size wd we:=by rw [hwe];exact gr_below wd k
  have S6:=Lib.hid (S5.out.grow hke)
  have We:=Lib.hid (Wo.out.trans (hke.mono Wo.out.size))
  clear hwe hke S5 Hg Hm a0 a1 a2 a3 a4 hp hQl d0 d10 d11 d12 c6 c7 c8 Wo
  ((have hC:=HC.out);clear HC;subst hC)
  refine wp_hold fun CT HCT=>?_
  refine wp_seq ?_
  refine wp_block ?_
  have hQh:we.heap[Q]?=some (.cells (wdV D (.slice mo D.mp.zs.length zc) (.slice dl D.data.length dc)) 85 (0,0)):=by rw [←HV.out];exact S6.out.head
  have hQl:=lt_of_block hQh
  have HQh:=Lib.hid hQh
  clear hQh
  by_cases e0:D.err=0
  ·have e0b:(D.err==0)=true:=beq_iff_eq.2 e0
   have hyes:=hear_yes Hy.out (by rw [←HD.out];exact e0)
   have Hyes:=Lib.hid hyes
   clear hyes
   refine wp_hold fun C HC=>?_
   obtain ⟨d0,d1,d2,d3,d4,d5,d6,d7,d8,d9,d10,d11,d12,d13,d14,d15,d16,d17,d18,d19,d20,d21,d22,d23,d24,d25,d26,d27,d28,d29,d30,d31,d32,d33,d34,d35,d36⟩:=wbox HQh.out
   clear d0 d1 d2 d3 d4 d5 d6 d8 d9 d10 d11 d12 d13 d14 d15 d16 d17 d18 d19 d20 d21 d22 d23 d24 d25 d26 d27 d28 d29 d30 d31 d32 d33 d34 d35 d36
   go_wp2_with fail
   ((have hC:=HC.out);clear HC;subst hC)
   refine wp_cond_true rfl ?_
   clear d7 e0b
   obtain ⟨i0,hi0,hz0,hz1,hz2⟩:=info_parts ansInfo
   obtain ⟨d0,d1,d2,d3,d4,d5,d6,d7,d8,d9,d10,d11,d12,d13,d14,d15,d16,d17,d18,d19,d20,d21,d22,d23,d24,d25,d26,d27,d28,d29,d30,d31,d32,d33,d34,d35,d36⟩:=wbox HQh.out
   clear d0 d1 d2 d3 d4 d5 d6 d7 d8 d9 d10 d11 d12 d13 d14 d15 d16 d17 d18 d19 d20 d21 d28 d29 d30 d31 d32 d33 d34 d35 d36
   obtain ⟨c0,c1,c2,c3,c4,c5,c6,c7,c8,c9,c10,c11,c12,c13,c14,c15,c16,c17,c18⟩:=gbox (show we.heap[p]?=some (.cells (gtV g (.slice ao A.length cap)) 82 (0,0)) from (S6.out.pull (A:=[_,_])).head)
   have fz:=(S6.out.cellsN 2 rfl).2.2 18
   have hp:=(S6.out.cellsN 2 rfl).1
   clear c0 c1 c2 c3 c4 c5
   have HR7:=Lib.hid (thA_row (S6.out.pull (A:=[_,_,_])).head)
   have Hne:Hid (¬∃ a,ao=some a∧a.block=p):=Lib.hid (fun hx=>(S6.out.pull (A:=[_,_])).t.2.2.1 (thA W.heap.size ao cap A) (by simp) p rfl hx)
   have hWe:W.heap.size≤we.heap.size:=S6.out.b.size
   have HN:=Lib.hid (World.news_of_block (heap_new we (.cells #[.int .i64 g.op.kind,.int .i64 g.op.client,.int .i64 g.op.seq,.string g.op.key,.string g.op.who,.string g.op.tkey,.string g.op.twho,.int .i64 g.op.item,.int .i64 g.op.count,.int .i64 g.op.price,.bool g.op.buy,.int .i64 g.op.id,.int .i64 D.rep.err,.int .i64 D.rep.id,.int .i64 D.rep.i.a,.int .i64 D.rep.i.b,.int .i64 D.rep.i.c,.int .i64 D.rep.i.d] 79)))
   (have hR:=HR.out);clear HR;subst hR
   refine wp_hold fun C HC=>?_
   refine wp_seq ?_
   go_region_law (((refine step_append_lies _ rfl (.tmp 87) (.tmp 95) 55 rfl W.heap.size 79 i0 (.agg zz18) 18 176 Tryz.underlying55 hi0 hz0 hz1 hz2 rfl ?_ (.slice ao A.length cap) A.length (anR A) ?_ (owns_drewG (HR7.out.alloc _)) ⟨we.heap.size,0,none⟩ 1 1 (anV (g.op,D.rep)) ?_ rfl HN.out (anV_one _) ?_ ?_ ?_ ?_ (we.heap.size+1) ?_ ?_);(focus (decide));(focus (rfl));(focus (rfl));(focus (decide));(focus ((unfold maxLen);omega));(focus (omega));(focus first | (simp;done) | (simp;omega));(focus (simp;done));intro gg c2 w2 hown hgrow hg hglt;(have K2:Keeps we w2 (fun x=>∃ a,ao=some a∧a.block=x):=keeps_rowG we _ hgrow);(have k4:=(K2.cell (p:=⟨p,18,none⟩) hp (Hne.out)).trans c18);(have k5:=(K2.frozen (p:=⟨p,18,none⟩) hp (Hne.out)).trans fz);(have kz:=K2.size);(have HK2:=Lib.hid K2);(have HOW:=Lib.hid hown);(have HGG:=Lib.hid hg);clear hown hgrow hg K2))
   all_goals
    go_wp2_with fail
    refine wp_name fun wf hwf=>?_
    have hgo:∀ x,(∃ a,some (⟨gg,0,none⟩:Addr)=some a∧a.block=x)→(thA W.heap.size ao cap A).F x∨we.heap.size≤x:=fun x hx=>by
     obtain ⟨a,ha,hx⟩:=hx
     obtain rfl:=Option.some.inj ha
     rcases HGG.out with h1 | h1
     ·obtain ⟨a',ha',hx'⟩:=ownBlock_of h1
      exact .inl ⟨a',ha',hx'.trans hx⟩
     ·exact .inr (by simp only at hx;omega)
    have hown:w2.ownsRow W.heap.size 79 18 (.slice (some ⟨gg,0,none⟩) (A++[(g.op,D.rep)]).length c2) (A++[(g.op,D.rep)]).length (anR (A++[(g.op,D.rep)])):=by
     rw [anR_app,anR_one,List.length_append]
     exact HOW.out
    have S7:=(S6.out.pull (A:=[_,_,_])).step HK2.out (thA W.heap.size (some ⟨gg,0,none⟩) c2 (A++[(g.op,D.rep)])) hown hgo
    have hl1:(A++[(g.op,D.rep)]).length=A.length+1:=by simp
    have S8:Hid (St W wf (thG p g (.slice (some ⟨gg,0,none⟩) (A++[(g.op,D.rep)]).length c2)::thA W.heap.size (some ⟨gg,0,none⟩) c2 (A++[(g.op,D.rep)])::thObj Q (.cells VX 85 (0,0))::thObj M (.cells #[.int .i64 f,.int .i64 t,.slice bo n bc] 52 (0,0))::L)):=by
     have h:=(S7.pull (A:=[_,_,_])).setObj 18 (.slice (some ⟨gg,0,none⟩) (A.length+1) c2)
     rw [←hwf,←hl1] at h
     have eV:(gtV g (.slice ao A.length cap)).setIfInBounds 18 (.slice (some ⟨gg,0,none⟩) (A++[(g.op,D.rep)]).length c2)=gtV g (.slice (some ⟨gg,0,none⟩) (A++[(g.op,D.rep)]).length c2):=by
      unfold gtV
      simp only [List.setIfInBounds_toArray,List.set_cons_zero,List.set_cons_succ]
     rw [eV] at h
     exact Lib.hid h
    clear hwf hgo hown S7 hl1 k4 k5 kz HK2 HOW HGG hglt c6 c7 c8 c9 c10 c11 c12 c13 c14 c15 c16 c17 c18 fz hp d22 d23 d24 d25 d26 d27 HR7 HN hz0 hz1 hz2 hi0 S6 hWe hQl HQh Hne
    ((have hC:=HC.out);clear HC;subst hC)
    (have hC:=HCT.out);clear HCT;subst hC
    obtain ⟨c0,c1,c2,c3,c4,c5,c6,c7,c8,c9,c10,c11,c12,c13,c14,c15,c16,c17,c18⟩:=gbox (show wf.heap[p]?=some (.cells (gtV g (.slice (some ⟨gg,0,none⟩) (A++[(g.op,D.rep)]).length c2)) 82 (0,0)) from S8.out.head)
    have fz:=(S8.out.cellsN 0 rfl).2.2
    have hp:=(S8.out.cellsN 0 rfl).1
    clear c0 c1 c2 c3 c4 c18
    go_wp2_with fail
    go_ret
    have S9:=(((((((((((((S8.out.setObj 5 (.bool false)).setObj 6 (.int .i64 0)).setObj 7 (.int .i64 0)).setObj 8 (.int .i64 0)).setObj 9 (.string ⟨#[]⟩)).setObj 10 (.string ⟨#[]⟩)).setObj 11 (.string ⟨#[]⟩)).setObj 12 (.string ⟨#[]⟩)).setObj 13 (.int .i64 0)).setObj 14 (.int .i64 0)).setObj 15 (.int .i64 0)).setObj 16 (.bool false)).setObj 17 (.int .i64 0))
    have eV:((((((((((((((gtV g (.slice (some ⟨gg,0,none⟩) (A++[(g.op,D.rep)]).length c2)).setIfInBounds 5 (.bool false)).setIfInBounds 6 (.int .i64 0)).setIfInBounds 7 (.int .i64 0)).setIfInBounds 8 (.int .i64 0)).setIfInBounds 9 (.string ⟨#[]⟩)).setIfInBounds 10 (.string ⟨#[]⟩)).setIfInBounds 11 (.string ⟨#[]⟩)).setIfInBounds 12 (.string ⟨#[]⟩)).setIfInBounds 13 (.int .i64 0)).setIfInBounds 14 (.int .i64 0)).setIfInBounds 15 (.int .i64 0)).setIfInBounds 16 (.bool false)).setIfInBounds 17 (.int .i64 0))=gtV { g with pend:=false,op:=rq0 } (.slice (some ⟨gg,0,none⟩) (A++[(g.op,D.rep)]).length c2):=by
     unfold gtV
     simp only [List.setIfInBounds_toArray,List.set_cons_zero,List.set_cons_succ]
     rfl
    rw [eV] at S9
    unfold HearPost
    rw [Hyes.out.1,Hyes.out.2.1,Hyes.out.2.2,if_neg (by simp),←HD.out]
    exact ⟨some ⟨gg,0,none⟩,c2,((((S9.pull (A:=[_,_])).drop).pull (A:=[_,_])).drop),rfl⟩
  ·have e0b:(D.err==0)=false:=beq_eq_false_iff_ne.2 e0
   refine wp_hold fun C HC=>?_
   obtain ⟨d0,d1,d2,d3,d4,d5,d6,d7,d8,d9,d10,d11,d12,d13,d14,d15,d16,d17,d18,d19,d20,d21,d22,d23,d24,d25,d26,d27,d28,d29,d30,d31,d32,d33,d34,d35,d36⟩:=wbox HQh.out
   clear d0 d1 d2 d3 d4 d5 d6 d8 d9 d10 d11 d12 d13 d14 d15 d16 d17 d18 d19 d20 d21 d22 d23 d24 d25 d26 d27 d28 d29 d30 d31 d32 d33 d34 d35 d36
   go_wp2_with fail
   ((have hC:=HC.out);clear HC;subst hC)
   refine wp_cond_false rfl ?_
   clear d7 e0b
   obtain ⟨d0,d1,d2,d3,d4,d5,d6,d7,d8,d9,d10,d11,d12,d13,d14,d15,d16,d17,d18,d19,d20,d21,d22,d23,d24,d25,d26,d27,d28,d29,d30,d31,d32,d33,d34,d35,d36⟩:=wbox HQh.out
   clear d0 d1 d2 d3 d4 d5 d8 d9 d10 d11 d12 d13 d14 d15 d16 d17 d18 d19 d20 d21 d22 d23 d24 d25 d26 d27 d28 d29 d30 d31 d32 d33 d34 d35 d36
   have hp:=(S6.out.cellsN 2 rfl).1
   obtain ⟨hb,hhb⟩:∃ hb,hb=isHostB g.hosts D.host:=⟨_,rfl⟩
   have hisH:=isHost_g (S6.out.pull (A:=[_,_])) D.host Hhh.out
   rw [←hhb] at hisH
   have Hmv:Hid (movesB g DD=(decide (D.err=15)&&hb)):=by unfold movesB;rw [←HD.out,hhb];exact Lib.hid rfl
   have HI:=Lib.hid hisH
   have he0:DD.1.err≠0:=by rw [←HD.out];exact e0
   have He0:=Lib.hid he0
   have Hg:=Lib.hid (S6.out.drop.drop)
   clear hhb hisH he0 e0
   rcases Bool.eq_false_or_eq_true (D.err==15) with a5 | a5
   rotate_left
   ·have hst:=hear_stays Hy.out He0.out (by rw [Hmv.out,decide_eq_false (beq_eq_false_iff_ne.1 a5)];rfl)
    have Hst:=Lib.hid hst
    clear hst
    refine wp_hold fun C HC=>?_
    go_wp2_with fail
    ((have hC:=HC.out);clear HC;subst hC)
    go_wp2_with fail
    (have hC:=HCT.out);clear HCT;subst hC
    go_wp2_with fail
    (have hR:=HR.out);clear HR;subst hR
    go_ret
    exact hear_none Hst.out Hg.out
   cases hb with
   | false =>
    have hst:=hear_stays Hy.out He0.out (by rw [Hmv.out,Bool.and_false])
    have Hst:=Lib.hid hst
    clear hst
    refine wp_hold fun C HC=>?_
    go_wp2_with fail
    refine HI.out.mono ?_
    rintro e wk ⟨rfl,rfl⟩
    go_wp2_with fail
    ((have hC:=HC.out);clear HC;subst hC)
    go_wp2_with fail
    (have hC:=HCT.out);clear HCT;subst hC
    go_wp2_with fail
    (have hR:=HR.out);clear HR;subst hR
    go_ret
    exact hear_none Hst.out Hg.out
   | true =>
    have hst:=hear_moves Hy.out He0.out (by rw [Hmv.out,decide_eq_true (beq_iff_eq.1 a5)];rfl)
    have Hst:=Lib.hid hst
    clear hst
    refine wp_hold fun C HC=>?_
    go_wp2_with fail
    refine HI.out.mono ?_
    rintro e wk ⟨rfl,rfl⟩
    go_wp2_with fail
    ((have hC:=HC.out);clear HC;subst hC)
    refine wp_cond_true rfl ?_
    refine wp_name fun wf hwf=>?_
    rw [←hwf] at S6 We HQh
    have S7:=Lib.hid (S6.out.pull (A:=[_,_]))
    have Wf:=We
    clear hwf d6 d7 hp a5 S6 Hg We HI HQh
    have hQh:wf.heap[Q]?=some (.cells (wdV D (.slice mo D.mp.zs.length zc) (.slice dl D.data.length dc)) 85 (0,0)):=by rw [←HV.out];exact (S7.out.pull (A:=[_])).head
    obtain ⟨d0,d1,d2,d3,d4,d5,d6,d7,d8,d9,d10,d11,d12,d13,d14,d15,d16,d17,d18,d19,d20,d21,d22,d23,d24,d25,d26,d27,d28,d29,d30,d31,d32,d33,d34,d35,d36⟩:=wbox hQh
    have hQl:=lt_of_block hQh
    have hp:=(S7.out.cellsN 0 rfl).1
    have hfz:=(S7.out.cellsN 0 rfl).2.2
    obtain ⟨c0,c1,c2,c3,c4,c5,c6,c7,c8,c9,c10,c11,c12,c13,c14,c15,c16,c17,c18⟩:=gbox (show wf.heap[p]?=some (.cells (gtV g (.slice ao A.length cap)) 82 (0,0)) from S7.out.head)
    clear d0 d1 d2 d3 d4 d5 d7 d8 d9 d10 d11 d12 d13 d14 d15 d16 d17 d18 d19 d20 d21 d22 d23 d24 d25 d26 d27 d28 d29 d30 d31 d32 d33 d34 d35 d36 c0 c1 c2 c4 c5 c6 c7 c8 c9 c10 c11 c12 c13 c14 c15 c16 c17 c18 hQh
    obtain ⟨g1,hg1⟩:∃ g1:Gt,g1={ g with host:=D.host }:=⟨_,rfl⟩
    have hs8:=set_gt (g1:=g1) 3 (.int .i64 D.host) (by rw [hg1];unfold gtV;simp only [List.setIfInBounds_toArray,List.set_cons_zero,List.set_cons_succ]) S7.out
    have Hs8:=Lib.hid hs8
    have hmy:mayO g1.op=true:=by rw [hg1];exact Hok.out.may (heard_pend Hy.out)
    have Hmy:=Lib.hid hmy
    have Hg1:=Lib.hid hg1
    clear hs8 hmy hg1
    go_wp2_with fail
    refine calls_name fun wg hwg=>?_
    have S8:=Hs8.out
    rw [←hwg] at S8
    have hsz:w.heap.size≤wg.heap.size:=by rw [hwg];simp only [World.setCell,Array.size_modify];exact Wf.out.size
    have Hsz:=Lib.hid hsz
    have S8:=Lib.hid S8
    clear hwg hsz Hs8 S7 c3 d6 hp hfz hQl
    refine (call_g S8.out Hmy.out).mono ?_
    rintro e wh ⟨b,rfl,hS,hM⟩
    have S9:=Lib.hid hS
    have HM:=Lib.hid (hM.weak Hsz.out)
    clear hS hM S8
    go_wp2_with fail
    (have hR:=HR.out);clear HR;subst hR
    go_ret
    have S10:=(((S9.out.pull (A:=[_])).drop).pull (A:=[_])).drop
    unfold HearPost
    rw [Hst.out.1,Hst.out.2.1,Hst.out.2.2,List.append_nil,if_pos rfl,←HD.out]
    refine ⟨ao,cap,?_,b,rfl,?_⟩
    ·have e:({ g with host:=D.host,wait:=4 }:Gt)={ g1 with wait:=4 }:=by rw [Hg1.out]
     rw [e]
     exact S10
    ·have h:=HM.out
     rw [Hg1.out] at h
     exact h
end Go.Proofs.YtogamdaomdoapaaGreat.G
namespace Go.Proofs.YtogamdaomdoapaaGreat.F
set_option maxRecDepth 20000
open Go.RowKit
def slV (r:RowR):Value:=.slice r.ao r.bs.length r.cap
structure OwnRs (w:World) (base:Nat) (ao:Option Addr) (cap:Nat) (L:List RowR):Prop where
 own:w.ownsRow base 47 1 (.slice ao L.length cap) L.length (L.map slV)
 each:∀ r∈L,r.bs.length≤r.cap∧r.cap≤9223372036854775807∧(r.ao=none→r.bs.length=0∧r.cap=0)∧BIn w (fun x=>∀ a,ao=some a→a.block≠x) r.ao r.bs
theorem OwnRs.nil (w:World) (base:Nat):OwnRs w base none 0 []:=⟨World.ownsRow_nil _ _ _ _,fun _ h=>by simp at h⟩
theorem OwnRs.none {w:World} {base:Nat} {ao:Option Addr} {cap:Nat} {L:List RowR} (h:OwnRs w base ao cap L):ao=.none→L.length=0∧cap=0:=by
 intro e
 subst e
 rcases h.own.2 with ⟨hv,h0⟩ | ⟨g,c,cur,hv,-⟩
 ·simp only [Value.slice.injEq] at hv;exact ⟨h0,hv.2.2⟩
 ·simp at hv
theorem OwnRs.le {w:World} {base:Nat} {ao:Option Addr} {cap:Nat} {L:List RowR} (h:OwnRs w base ao cap L):L.length≤cap∧cap≤9223372036854775807:=by
 rcases h.own.2 with ⟨hv,h0⟩ | ⟨g,c,cur,hv,-,-,h1,h2,-⟩
 ·simp only [Value.slice.injEq] at hv;omega
 ·simp only [Value.slice.injEq] at hv
  obtain ⟨-,-,rfl⟩:=hv
  unfold maxLen at h2
  omega
theorem OwnRs.lt {w:World} {base:Nat} {ao:Option Addr} {cap:Nat} {L:List RowR} (h:OwnRs w base ao cap L):∀ a,ao=some a→a.block<w.heap.size∧base≤a.block:=by
 rintro a rfl
 rcases h.own.2 with ⟨hv,-⟩ | ⟨g,c,cur,hv,hb,hh,-⟩
 ·simp at hv
 ·simp only [Value.slice.injEq,Option.some.injEq] at hv
  obtain ⟨rfl,-,-⟩:=hv
  exact ⟨lt_of_block hh,hb⟩
theorem OwnRs.grow {w w':World} {base:Nat} {ao:Option Addr} {cap:Nat} {L:List RowR} (h:OwnRs w base ao cap L) (b:Below w.heap.size w w'):OwnRs w' base ao cap L:=by
 refine ⟨⟨h.own.1,?_⟩,fun r hr=>?_⟩
 ·rcases h.own.2 with h2 | ⟨g,c,cur,hv,hg,hh,r⟩
  ·exact .inl h2
  ·exact .inr ⟨g,c,cur,hv,hg,(b.block g (lt_of_block hh)).trans hh,r⟩
 ·obtain ⟨e1,e2,e3,e4⟩:=h.each r hr
  exact ⟨e1,e2,e3,e4.keeps (keeps_same b (fun _=>False)) (fun _ _ h=>h)⟩
theorem OwnRs.append {w w1 w3:World} {base:Nat} {ao co ro:Option Addr} {cap c' rc:Nat} {L:List RowR} {d:List UInt8} {t:TypeId} (h:OwnRs w base ao cap L) (b:Below w.heap.size w w1) (ho:OwnB w1 w.heap.size ro rc d)
 (hown:w3.ownsRow base 47 1 (.slice co (L.length+1) c') (L.length+1) (L.map slV++[.slice ro d.length rc])) (hg:(w1.alloc (.cells #[.slice ro d.length rc] t)).grownBy w3 (Value.slice ao L.length cap).ownBlock)
 (hco:∀ g,co=some g→ao=some g∨w1.heap.size+1≤g.block):OwnRs w3 base co c' (L++[⟨ro,rc,d⟩]):=by
 have hs1:=b.size
 have K:Keeps w1 w3 (fun x=>∃ a,ao=some a∧a.block=x) :=
  Keeps.trans (keeps_same (below_allocF w1 _) (fun _=>False)) ((Keeps.grown hg).weak (T:=fun x=>∃ a,ao=some a∧a.block=x) (fun i _ e=>ownBlock_of e.symm)) (fun _ h=>h.elim) (fun _ _ h=>h)
 refine ⟨by rw [List.length_append,List.map_append];exact hown,fun r hr=>?_⟩
 rcases List.mem_append.1 hr with hr | hr
 ·obtain ⟨e1,e2,e3,e4⟩:=(h.grow b).each r hr
  refine ⟨e1,e2,e3,fun hl=>?_⟩
  obtain ⟨x,off,e,hx,hD,hrow⟩:=(h.each r hr).2.2.2 hl
  refine ⟨x,off,e,by have:=K.size;omega,fun a ha hax=>?_,(hrow.below hx b).keeps (by omega) K (fun ⟨a,ha,hax⟩=>hD a ha hax)⟩
  rcases hco a ha with h1 | h1
  ·exact hD a h1 hax
  ·omega
 ·simp only [List.mem_cons,List.not_mem_nil,or_false] at hr
  subst hr
  refine ⟨ho.le.1,ho.le.2,ho.none,fun hl=>?_⟩
  obtain ⟨g,rfl,hg1,hg2,hrow⟩:=ho.row hl
  refine ⟨g,0,rfl,by have:=K.size;omega,fun a ha hax=>?_,hrow.keeps hg2 K (fun ⟨a,ha,hax⟩=>?_)⟩
  ·rcases hco a ha with h1 | h1
   ·have:=(h.lt a h1).1;omega
   ·omega
  ·have:=(h.lt a ha).1;omega
end Go.Proofs.YtogamdaomdoapaaGreat.F