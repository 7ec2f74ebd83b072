/- GateOnce: of a request that is answered twice the first answer counts, and the next request is another one. It holds of all replies, without a condition. -/
import Derived.Test.YtogamdaomdoapaaGreatRows
import Derived.Test.YtogamdaomdoapaaGreatSa05
import Derived.Test.YtogamdaomdoapaaGreatSa08
import Derived.Test.YtogamdaomdoapaaGreatSa50
import Derived.Test.YtogamdaomdoapaaGreatSa51
namespace Go.Proofs.YtogamdaomdoapaaGreat
set_option maxRecDepth 20000
open Go.RowKit
namespace G
theorem cast_w {W w1 w2:World} {L:List Th} (S:St W w1 L) (h:w2=w1):St W w2 L:=h▸S
theorem eql_q (s:Int) (w:World):(Op.equalIn 10000 30 (.agg #[.int .i64 5,.int .i64 2,.int .i64 s,.string ⟨#[97]⟩,.string ⟨#[98]⟩,.string ⟨#[]⟩,.string ⟨#[]⟩,.int .i64 0,.int .i64 0,.int .i64 0,.bool false,.int .i64 0]) (.agg #[.int .i64 5,.int .i64 2,.int .i64 s,.string ⟨#[97]⟩,.string ⟨#[98]⟩,.string ⟨#[]⟩,.string ⟨#[]⟩,.int .i64 0,.int .i64 0,.int .i64 0,.bool false,.int .i64 0])).run Tryz.prog w=.ok true w:=eql_api.Op ⟨5,2,s,⟨#[97]⟩,⟨#[98]⟩,e0,e0,0,0,0,false,0⟩ ⟨5,2,s,⟨#[97]⟩,⟨#[98]⟩,e0,e0,0,0,0,false,0⟩ w true (by simp [eqR])
def onW (r:Rp):Wd:=⟨6,0,0,0,0,0,0,0,e0,e0,⟨5,2,1,e0,e0,e0,e0,0,0,0,false,0⟩,r,mp0,ch0,[]⟩
theorem on_light (r:Rp):Light (onW r):=⟨MzB0,(by decide:(0:Nat)≤131072),(by decide:e0.size≤2000),(by decide:e0.size≤2000)⟩
def oQ1:Rq:=⟨5,2,1,⟨#[97]⟩,⟨#[98]⟩,e0,e0,0,0,0,false,0⟩
def oQ2:Rq:=⟨5,2,2,⟨#[97]⟩,⟨#[98]⟩,e0,e0,0,0,0,false,0⟩
def oG1:Gt:=⟨33,2,2,8,0,true,oQ1⟩
def oG2:Gt:=⟨33,2,2,8,0,false,rq0⟩
def oG3:Gt:=⟨33,2,3,8,0,true,oQ2⟩
theorem o_sub1:subR (newG 33 2) lookO=oQ1∧subE (newG 33 2) lookO=0∧subG (newG 33 2) lookO=oG1:=sub_yes (by decide +kernel)
theorem o_sub2:subR oG2 lookO=oQ2∧subE oG2 lookO=0∧subG oG2 lookO=oG3:=sub_yes (by decide +kernel)
theorem o_ok1:Ok oG1:=by rw [←o_sub1.2.2];exact sub_ok (new_ok (by decide)) lookO
theorem o_hears (r:Rp):heardB oG1 8 33 (onW r,0)=true:=by
 unfold heardB forB matchB isHostB
 simp [oG1,oQ1,onW]
theorem o_hear1 (r:Rp):hearG oG1 8 33 (onW r,0)=oG2∧hearA oG1 8 33 (onW r,0)=[(oQ1,r)]∧hearM oG1 8 33 (onW r,0)=false:=hear_yes (o_hears r) rfl
theorem o_ok2:Ok oG2:=by rw [←(o_hear1 zRp).1];exact hear_ok o_ok1 _ _ _
theorem o_ok3:Ok oG3:=by rw [←o_sub2.2.2];exact sub_ok o_ok2 lookO
theorem o_hear2 (r:Rp):hearG oG3 9 33 (onW r,0)=oG3∧hearA oG3 9 33 (onW r,0)=[]∧hearM oG3 9 33 (onW r,0)=false:=hear_no (by
 unfold heardB forB matchB isHostB
 simp [oG3,oQ2,onW])
theorem hear_on {W w:World} {L:List Th} {p:Nat} {g:Gt} {ao:Option Addr} {cap:Nat} {A:List An} (S0:St W w (thG p g (.slice ao A.length cap)::thA W.heap.size ao cap A::L)) (hok:Ok g) (f t:Int) (bo:Option Addr) (bc:Nat) (r:Rp) (hm:mayW (onW r)=true) (hl:F.Sl w bo bc (encW (onW r))) (hA:A.length≤1000) :
 Calls Tryz.prog 11 #[.pointer (some ⟨p,0,none⟩),.agg #[.int .i64 f,.int .i64 t,.slice bo (encW (onW r)).length bc]] w (HearPost w.heap.size W L p g A f t (onW r,0)):=by
 have hwl:=wdB_length hm (on_light r)
 have hel:(encW (onW r)).length=(wdB (onW r)).length+12:=F.frameB_length _
 have hde:wdDec (encW (onW r))=(onW r,0):=wdDec_enc hm (on_light r) (by omega)
 have hhe:=hear_g S0 hok f t bo bc (encW (onW r)) hl (by omega) (fun q hq=>by
  unfold encW at hq
  rw [one_frameW _ (by omega)] at hq
  rw [←(Prod.mk.inj hq).1]
  exact small_enc hm (on_light r) (by decide:(0:Nat)≤2000)) hA
 rw [hde] at hhe
 exact hhe
theorem msg_on {V:Array Value} {r:Rp} (hV:V=wdV (onW r) (.slice none 0 0) (.slice none 0 0)) (hm:mayW (onW r)=true) (f t:Int) (w:World):Calls Tryz.prog 12 #[.int .i64 f,.int .i64 t,.agg V] w fun e w'=>∃ xo xc,e=.returned (.agg #[.int .i64 f,.int .i64 t,.slice xo (encW (onW r)).length xc])∧Below w.heap.size w w'∧F.Sl w' xo xc (encW (onW r)):=by
 have h:=msg_any (d:=onW r) hV rfl rfl (on_light r) f t w
 have hby:byG (onW r)=encW (onW r):=by unfold byG;rw [if_pos hm]
 rw [hby] at h
 exact h
theorem an_cells {w:World} {base g cap:Nat} {a:Rp} (h:(thA base (some ⟨g,0,none⟩) cap [(oQ1,a)]).T w):g<w.heap.size∧w.cell? ⟨g,0,none⟩=some (.int .i64 5)∧w.cell? ⟨g,1,none⟩=some (.int .i64 2)∧w.cell? ⟨g,2,none⟩=some (.int .i64 1)∧w.cell? ⟨g,3,none⟩=some (.string ⟨#[97]⟩)∧w.cell? ⟨g,4,none⟩=some (.string ⟨#[98]⟩)∧w.cell? ⟨g,5,none⟩=some (.string ⟨#[]⟩)∧w.cell? ⟨g,6,none⟩=some (.string ⟨#[]⟩)∧w.cell? ⟨g,7,none⟩=some (.int .i64 0)∧w.cell? ⟨g,8,none⟩=some (.int .i64 0)∧w.cell? ⟨g,9,none⟩=some (.int .i64 0)∧w.cell? ⟨g,10,none⟩=some (.bool false)∧w.cell? ⟨g,11,none⟩=some (.int .i64 0)∧w.cell? ⟨g,12,none⟩=some (.int .i64 a.err)∧w.cell? ⟨g,13,none⟩=some (.int .i64 a.id)∧w.cell? ⟨g,14,none⟩=some (.int .i64 a.i.a)∧w.cell? ⟨g,15,none⟩=some (.int .i64 a.i.b)∧w.cell? ⟨g,16,none⟩=some (.int .i64 a.i.c)∧w.cell? ⟨g,17,none⟩=some (.int .i64 a.i.d):=by
 have h1:=fun (j:Nat) (hj:j<18)=>(thA_row h).cellAt j (by simpa using hj)
 obtain ⟨g',e',hl⟩:=(row_form0 h).2 _ rfl
 simp only [Addr.mk.injEq] at e'
 obtain rfl:=e'.1
 exact ⟨hl,h1 0 (by decide),h1 1 (by decide),h1 2 (by decide),h1 3 (by decide),h1 4 (by decide),h1 5 (by decide),h1 6 (by decide),h1 7 (by decide),h1 8 (by decide),h1 9 (by decide),h1 10 (by decide),h1 11 (by decide),h1 12 (by decide),h1 13 (by decide),h1 14 (by decide),h1 15 (by decide),h1 16 (by decide),h1 17 (by decide)⟩
theorem an_some {w:World} {base cap:Nat} {ao:Option Addr} {a:Rp} (h:(thA base ao cap [(oQ1,a)]).T w):∃ g,ao=some ⟨g,0,none⟩:=by
 cases ao with
 | none=>exact absurd ((row_form0 h).1 rfl).1 (by simp)
 | some x =>
  obtain ⟨g,e,-⟩:=(row_form0 h).2 x rfl
  exact ⟨g,by rw [e]⟩
theorem rp_cells {w:World} {b:Nat} {r:Rp} (h:w.heap[b]?=some (.cells #[.int .i64 r.err,.int .i64 r.id,.int .i64 r.i.a,.int .i64 r.i.b,.int .i64 r.i.c,.int .i64 r.i.d] 41 (0,0))):b<w.heap.size∧w.cell? ⟨b,0,none⟩=some (.int .i64 r.err)∧w.cell? ⟨b,1,none⟩=some (.int .i64 r.id)∧w.cell? ⟨b,2,none⟩=some (.int .i64 r.i.a)∧w.cell? ⟨b,3,none⟩=some (.int .i64 r.i.b)∧w.cell? ⟨b,4,none⟩=some (.int .i64 r.i.c)∧w.cell? ⟨b,5,none⟩=some (.int .i64 r.i.d):=by
 have h1:=(cells_of_obj h).1
 exact ⟨lt_of_block h,h1 0,h1 1,h1 2,h1 3,h1 4,h1 5⟩
theorem op_cells {w:World} {b:Nat} {s:Int} (h:w.heap[b]?=some (.cells #[.int .i64 5,.int .i64 2,.int .i64 s,.string ⟨#[97]⟩,.string ⟨#[98]⟩,.string ⟨#[]⟩,.string ⟨#[]⟩,.int .i64 0,.int .i64 0,.int .i64 0,.bool false,.int .i64 0] 30 (0,0))):b<w.heap.size∧w.cell? ⟨b,0,none⟩=some (.int .i64 5)∧w.cell? ⟨b,1,none⟩=some (.int .i64 2)∧w.cell? ⟨b,2,none⟩=some (.int .i64 s)∧w.cell? ⟨b,3,none⟩=some (.string ⟨#[97]⟩)∧w.cell? ⟨b,4,none⟩=some (.string ⟨#[98]⟩)∧w.cell? ⟨b,5,none⟩=some (.string ⟨#[]⟩)∧w.cell? ⟨b,6,none⟩=some (.string ⟨#[]⟩)∧w.cell? ⟨b,7,none⟩=some (.int .i64 0)∧w.cell? ⟨b,8,none⟩=some (.int .i64 0)∧w.cell? ⟨b,9,none⟩=some (.int .i64 0)∧w.cell? ⟨b,10,none⟩=some (.bool false)∧w.cell? ⟨b,11,none⟩=some (.int .i64 0):=by
 have h1:=(cells_of_obj h).1
 exact ⟨lt_of_block h,h1 0,h1 1,h1 2,h1 3,h1 4,h1 5,h1 6,h1 7,h1 8,h1 9,h1 10,h1 11⟩
set_option maxHeartbeats 8000000 in
theorem once_walk (a b:Rp) (w:World):Calls Tryz.prog 5 #[.agg #[.int .i64 a.err,.int .i64 a.id,.int .i64 a.i.a,.int .i64 a.i.b,.int .i64 a.i.c,.int .i64 a.i.d],.agg #[.int .i64 b.err,.int .i64 b.id,.int .i64 b.i.a,.int .i64 b.i.b,.int .i64 b.i.c,.int .i64 b.i.d]] w fun e w'=>e=.returned (.bool true)∧Below w.heap.size w w':=by
 have hv:(.agg #[.int .i64 lookO.kind,.int .i64 lookO.client,.int .i64 lookO.seq,.string lookO.key,.string lookO.who,.string lookO.tkey,.string lookO.twho,.int .i64 lookO.item,.int .i64 lookO.count,.int .i64 lookO.price,.bool lookO.buy,.int .i64 lookO.id]:Value)=.agg #[.int .i64 5,.int .i64 0,.int .i64 0,.string ⟨#[97]⟩,.string ⟨#[98]⟩,.string ⟨#[]⟩,.string ⟨#[]⟩,.int .i64 0,.int .i64 0,.int .i64 0,.bool false,.int .i64 0]:=rfl
 have hq1:(.agg #[.int .i64 oQ1.kind,.int .i64 oQ1.client,.int .i64 oQ1.seq,.string oQ1.key,.string oQ1.who,.string oQ1.tkey,.string oQ1.twho,.int .i64 oQ1.item,.int .i64 oQ1.count,.int .i64 oQ1.price,.bool oQ1.buy,.int .i64 oQ1.id]:Value)=.agg #[.int .i64 5,.int .i64 2,.int .i64 1,.string ⟨#[97]⟩,.string ⟨#[98]⟩,.string ⟨#[]⟩,.string ⟨#[]⟩,.int .i64 0,.int .i64 0,.int .i64 0,.bool false,.int .i64 0]:=rfl
 have hq2:(.agg #[.int .i64 oQ2.kind,.int .i64 oQ2.client,.int .i64 oQ2.seq,.string oQ2.key,.string oQ2.who,.string oQ2.tkey,.string oQ2.twho,.int .i64 oQ2.item,.int .i64 oQ2.count,.int .i64 oQ2.price,.bool oQ2.buy,.int .i64 oQ2.id]:Value)=.agg #[.int .i64 5,.int .i64 2,.int .i64 2,.string ⟨#[97]⟩,.string ⟨#[98]⟩,.string ⟨#[]⟩,.string ⟨#[]⟩,.int .i64 0,.int .i64 0,.int .i64 0,.bool false,.int .i64 0]:=rfl
 have Hlk:=Lib.hid (fun w=>look_any w)
 have Hs1:=Lib.hid (fun (L:List Th) (w1:World) (p:Nat) (S:St w w1 (thG p (newG 33 2) nilA::L))=>submit_g S (new_ok (by decide)) lookO)
 have Hs2:=Lib.hid (fun (L:List Th) (w1:World) (p:Nat) (av:Value) (S:St w w1 (thG p oG2 av::L))=>submit_g S o_ok2 lookO)
 unfold SubPost at Hs1 Hs2
 rw [o_sub1.1,o_sub1.2.1,o_sub1.2.2] at Hs1
 rw [o_sub2.1,o_sub2.2.1,o_sub2.2.2] at Hs2
 rw [hv] at Hlk Hs1 Hs2
 rw [hq1] at Hs1
 rw [hq2] at Hs2
 have Hpe:=Lib.hid (fun (L:List Th) (w1:World) (p:Nat) (av:Value) (S:St w w1 (thG p oG3 av::L))=>pending_g S)
 have hq3:(.tuple #[.agg #[.int .i64 oG3.op.kind,.int .i64 oG3.op.client,.int .i64 oG3.op.seq,.string oG3.op.key,.string oG3.op.who,.string oG3.op.tkey,.string oG3.op.twho,.int .i64 oG3.op.item,.int .i64 oG3.op.count,.int .i64 oG3.op.price,.bool oG3.op.buy,.int .i64 oG3.op.id],.bool oG3.pend]:Value)=.tuple #[.agg #[.int .i64 5,.int .i64 2,.int .i64 2,.string ⟨#[97]⟩,.string ⟨#[98]⟩,.string ⟨#[]⟩,.string ⟨#[]⟩,.int .i64 0,.int .i64 0,.int .i64 0,.bool false,.int .i64 0],.bool true]:=rfl
 rw [hq3] at Hpe
 clear hv hq1 hq2 hq3
 go_enter Tryz.func5,Tryz.ntmps5
 refine wp_hold fun C HC=>?_
 go_wp2_with fail
 refine wp_name fun wa hwa=>?_
 obtain ⟨P,hP⟩:∃ P,P=w.heap.size:=⟨_,rfl⟩
 have S:Hid (St w wa [thObj (P+1) (.cells #[.int .i64 b.err,.int .i64 b.id,.int .i64 b.i.a,.int .i64 b.i.b,.int .i64 b.i.c,.int .i64 b.i.d] 41 (0,0)),thObj P (.cells #[.int .i64 a.err,.int .i64 a.id,.int .i64 a.i.a,.int .i64 a.i.b,.int .i64 a.i.c,.int .i64 a.i.d] 41 (0,0))]):=by
  rw [hwa]
  exact Lib.hid (((St.start w).objN _ P hP).objN _ (P+1) (by rw [hP];simp))
 rw [←hP]
 clear hwa hP
 ((have hC:=HC.out);clear HC;subst hC)
 refine wp_hold fun C HC=>?_
 go_wp2_with fail
 refine (new_any 33 2 wa).mono ?_
 intro e w1 hN
 unfold NewPost at hN
 rw [if_pos (by decide)] at hN
 obtain ⟨rfl,rfl⟩:=hN
 obtain ⟨p,hp⟩:∃ p,p=wa.heap.size:=⟨_,rfl⟩
 rw [←hp]
 have S1:=Lib.hid (S.out.objN (.cells (gtV (newG 33 2) (.slice none 0 0)) 82) p hp)
 obtain ⟨w1,hw1⟩:∃ w1,w1=wa.alloc (.cells (gtV (newG 33 2) (.slice none 0 0)) 82):=⟨_,rfl⟩
 rw [←hw1] at S1 ⊢
 clear S hp hw1
 go_wp2_with fail
 ((have hC:=HC.out);clear HC;subst hC)
 refine wp_hold fun C HC=>?_
 go_wp2_with fail
 ((have hC:=HC.out);clear HC;subst hC)
 refine wp_hold fun C HC=>?_
 go_wp2_with fail
 refine (Hlk.out w1).mono ?_
 rintro e w2 ⟨rfl,hb⟩
 have S:=Lib.hid (S1.out.grow hb)
 clear hb S1
 go_wp2_with fail
 refine (Hs1.out _ w2 p S.out).mono ?_
 rintro e w3 ⟨rfl,hS⟩
 have S:=Lib.hid hS
 clear hS Hs1
 go_wp2_with fail
 refine wp_name fun w4 hw4=>?_
 obtain ⟨X,hX⟩:∃ X,X=w3.heap.size:=⟨_,rfl⟩
 have S4:Hid (St w w4 [thG p oG1 nilA,thObj X (.cells #[.int .i64 5,.int .i64 2,.int .i64 1,.string ⟨#[97]⟩,.string ⟨#[98]⟩,.string ⟨#[]⟩,.string ⟨#[]⟩,.int .i64 0,.int .i64 0,.int .i64 0,.bool false,.int .i64 0] 30 (0,0)),thObj (P+1) (.cells #[.int .i64 b.err,.int .i64 b.id,.int .i64 b.i.a,.int .i64 b.i.b,.int .i64 b.i.c,.int .i64 b.i.d] 41 (0,0)),thObj P (.cells #[.int .i64 a.err,.int .i64 a.id,.int .i64 a.i.a,.int .i64 a.i.b,.int .i64 a.i.c,.int .i64 a.i.d] 41 (0,0))]):=by
  rw [hw4]
  exact Lib.hid ((S.out.objN _ X hX).pull (A:=[_]))
 rw [←hX]
 clear hw4 hX S
 ((have hC:=HC.out);clear HC;subst hC)
 refine wp_hold fun C HC=>?_
 refine wp_seq ?_
 refine wp_region_lit ?_
 obtain ⟨x1,x2,-⟩:=S4.out.cellsN 1 rfl
 obtain ⟨y1,y2,-⟩:=S4.out.cellsN 3 rfl
 ((refine list_hold 9 fun LL HL=>?_);simp only [List.take_succ_cons,List.take_zero,List.cons_append,List.nil_append];(go_wp2_with fail))
 clear x1 x2 y1 y2
 ((have hL:=HL.out);clear HL;subst hL;simp only [List.drop_succ_cons,List.drop_zero])
 ((refine list_hold 1 fun LL HL=>?_);simp only [List.take_succ_cons,List.take_zero,List.cons_append,List.nil_append];(go_wp2_with fail))
 refine list_name fun wn hwn=>?_
 obtain ⟨B,hB⟩:∃ B,B=w4.heap.size:=⟨_,rfl⟩
 have S5:=Lib.hid (S4.out.objN (.cells #[.int .i64 0,.int .i64 0,.int .i64 0,.int .i64 0,.int .i64 0,.int .i64 0,.int .i64 0,.int .i64 0,.string ⟨#[]⟩,.string ⟨#[]⟩,.int .i64 0,.int .i64 0,.int .i64 0,.string ⟨#[]⟩,.string ⟨#[]⟩,.string ⟨#[]⟩,.string ⟨#[]⟩,.int .i64 0,.int .i64 0,.int .i64 0,.bool false,.int .i64 0,.int .i64 0,.int .i64 0,.int .i64 0,.int .i64 0,.int .i64 0,.int .i64 0,.int .i64 0,.int .i64 0,.slice none 0 0,.int .i64 0,.int .i64 0,.int .i64 0,.int .i64 0,.string ⟨#[]⟩,.slice none 0 0] 49) B hB)
 rw [←hwn] at S5
 rw [←hB]
 clear hwn hB S4
 ((have hL:=HL.out);clear HL;subst hL;simp only [List.drop_succ_cons,List.drop_zero])
 obtain ⟨V,hV⟩:∃ V,V=wdV (onW a) (.slice none 0 0) (.slice none 0 0):=⟨_,rfl⟩
 have hsz:V.size=37:=by rw [hV];rfl
 have hone:V.all (·.oneCell')=true:=by rw [hV];simp [wdV,Value.oneCell']
 refine wpList_store_row rfl 49 _ _ rfl B V rfl (by rw [hV];rfl) 49 _ S5.out.head (by rw [hsz];kernel_rfl) (by rw [hsz];rfl) hone ?_
 have S6:=Lib.hid (S5.out.setRow37 V)
 clear S5 hone
 refine list_name fun w6 hw6=>?_
 rw [←hw6] at S6
 have HV:=Lib.hid hV
 clear hw6 hV
 go_wp2_with fail
 ((have hC:=HC.out);clear HC;subst hC)
 refine wp_hold fun C HC=>?_
 have Hma:=Lib.hid (fun w=>rmayW_any (d:=onW a) HV.out none none 0 0 rfl rfl w (fun h=>absurd h (by decide:¬0<(0:Nat))) (sl_nil w).at_ (by decide:(0:Nat)≤1000))
 rw [docW_eq] at Hma
 refine wp_seq ?_
 refine wp_seq ?_
 refine wp_region_lit ?_
 (refine wpList_load_row rfl 49 _ rfl B rfl _ _ _ _ (S6.out.head) Tryz.underlying49 rfl (by rw [hsz];kernel_rfl) ?_)
 go_wp2_with fail
 refine (Hma.out w6).mono ?_
 rintro e w7 ⟨rfl,hb⟩
 have S7:=Lib.hid (S6.out.grow hb)
 clear hb S6 Hma
 cases hm:mayW (onW a) with
 | false =>
  clear hm
  go_wp2_with fail
  refine (known_g _).mono ?_
  rintro e w8 ⟨rfl,hb⟩
  have hfin:=(S7.out.grow hb).b
  clear hb
  go_wp2_with fail
  go_ret
  exact ⟨rfl,hfin⟩
 | true =>
  have Hm:=Lib.hid hm
  clear hm
  go_wp2_with fail
  ((have hC:=HC.out);clear HC;subst hC)
  refine wp_hold fun C HC=>?_
  refine wp_seq ?_
  refine wp_region_lit ?_
  ((refine list_hold 1 fun LL HL=>?_);simp only [List.take_succ_cons,List.take_zero,List.cons_append,List.nil_append];(go_wp2_with fail))
  ((have hL:=HL.out);clear HL;subst hL;simp only [List.drop_succ_cons,List.drop_zero])
  (refine wpList_load_row rfl 49 _ rfl B rfl _ _ _ _ (S7.out.head) Tryz.underlying49 rfl (by rw [hsz];kernel_rfl) ?_)
  go_wp2_with fail
  refine (msg_on HV.out Hm.out 8 33 w7).mono ?_
  rintro e w8 ⟨xo,xc,rfl,hb8,hx⟩
  have S8:=Lib.hid (((S7.out.grow hb8).nilRow 79 18).pull (A:=[_,_]))
  have Hx:=Lib.hid hx
  clear hb8 hx S7
  go_wp2_with fail
  refine (hear_on (A:=[]) (ao:=none) (cap:=0) S8.out o_ok1 8 33 xo xc a Hm.out Hx.out (by simp)).mono ?_
  intro e w9 hH
  unfold HearPost at hH
  rw [(o_hear1 a).1,(o_hear1 a).2.1,(o_hear1 a).2.2] at hH
  obtain ⟨co,cc,hS,hM⟩:=hH
  rw [if_neg (by simp)] at hM
  subst hM
  rw [List.nil_append] at hS
  have S9:=Lib.hid hS
  clear hS S8 Hx
  go_wp2_with fail
  ((have hC:=HC.out);clear HC;subst hC)
  refine wp_hold fun C HC=>?_
  go_wp2_with fail
  refine (Hlk.out w9).mono ?_
  rintro e wb ⟨rfl,hb⟩
  have S:=Lib.hid (S9.out.grow hb)
  clear hb S9 Hlk
  go_wp2_with fail
  refine (Hs2.out _ wb p _ S.out).mono ?_
  rintro e wc ⟨rfl,hS⟩
  have S:=Lib.hid hS
  clear hS Hs2
  go_wp2_with fail
  refine wp_name fun wd hwd=>?_
  obtain ⟨Y,hY⟩:∃ Y,Y=wc.heap.size:=⟨_,rfl⟩
  have S9:Hid (St w wd [thG p oG3 (.slice co 1 cc),thA w.heap.size co cc [(oQ1,a)],thObj Y (.cells #[.int .i64 5,.int .i64 2,.int .i64 2,.string ⟨#[97]⟩,.string ⟨#[98]⟩,.string ⟨#[]⟩,.string ⟨#[]⟩,.int .i64 0,.int .i64 0,.int .i64 0,.bool false,.int .i64 0] 30 (0,0)),thObj B (.cells V 49 (0,0)),thObj X (.cells #[.int .i64 5,.int .i64 2,.int .i64 1,.string ⟨#[97]⟩,.string ⟨#[98]⟩,.string ⟨#[]⟩,.string ⟨#[]⟩,.int .i64 0,.int .i64 0,.int .i64 0,.bool false,.int .i64 0] 30 (0,0)),thObj (P+1) (.cells #[.int .i64 b.err,.int .i64 b.id,.int .i64 b.i.a,.int .i64 b.i.b,.int .i64 b.i.c,.int .i64 b.i.d] 41 (0,0)),thObj P (.cells #[.int .i64 a.err,.int .i64 a.id,.int .i64 a.i.a,.int .i64 a.i.b,.int .i64 a.i.c,.int .i64 a.i.d] 41 (0,0))]):=by
   rw [hwd]
   exact Lib.hid ((((S.out.objN _ Y hY).pull (A:=[_])).pull (A:=[_,_])).pull (A:=[_]))
  rw [←hY]
  clear hwd hY S
  ((have hC:=HC.out);clear HC;subst hC)
  refine wp_hold fun C HC=>?_
  obtain rfl:=HV.out
  obtain ⟨x1,x2,-⟩:=S9.out.cellsN 5 rfl
  obtain ⟨y1,y2,y3⟩:=S9.out.cellsN 3 rfl
  have d0:wd.cell? ⟨P+1,0,none⟩=some (.int .i64 b.err):=x2 0
  have c0:wd.cell? ⟨B,22,none⟩=some (.int .i64 a.err):=y2 22
  have d1:wd.cell? ⟨P+1,1,none⟩=some (.int .i64 b.id):=x2 1
  have c1:wd.cell? ⟨B,23,none⟩=some (.int .i64 a.id):=y2 23
  have d2:wd.cell? ⟨P+1,2,none⟩=some (.int .i64 b.i.a):=x2 2
  have c2:wd.cell? ⟨B,24,none⟩=some (.int .i64 a.i.a):=y2 24
  have d3:wd.cell? ⟨P+1,3,none⟩=some (.int .i64 b.i.b):=x2 3
  have c3:wd.cell? ⟨B,25,none⟩=some (.int .i64 a.i.b):=y2 25
  have d4:wd.cell? ⟨P+1,4,none⟩=some (.int .i64 b.i.c):=x2 4
  have c4:wd.cell? ⟨B,26,none⟩=some (.int .i64 a.i.c):=y2 26
  have d5:wd.cell? ⟨P+1,5,none⟩=some (.int .i64 b.i.d):=x2 5
  have c5:wd.cell? ⟨B,27,none⟩=some (.int .i64 a.i.d):=y2 27
  clear x2 y2
  go_wp2_with fail
  refine wp_name fun we hwe=>?_
  obtain ⟨V,hV⟩:∃ V,V=wdV (onW b) (.slice none 0 0) (.slice none 0 0):=⟨_,rfl⟩
  have S10:Hid (St w we [thObj B (.cells V 49 (0,0)),thG p oG3 (.slice co 1 cc),thA w.heap.size co cc [(oQ1,a)],thObj Y (.cells #[.int .i64 5,.int .i64 2,.int .i64 2,.string ⟨#[97]⟩,.string ⟨#[98]⟩,.string ⟨#[]⟩,.string ⟨#[]⟩,.int .i64 0,.int .i64 0,.int .i64 0,.bool false,.int .i64 0] 30 (0,0)),thObj X (.cells #[.int .i64 5,.int .i64 2,.int .i64 1,.string ⟨#[97]⟩,.string ⟨#[98]⟩,.string ⟨#[]⟩,.string ⟨#[]⟩,.int .i64 0,.int .i64 0,.int .i64 0,.bool false,.int .i64 0] 30 (0,0)),thObj (P+1) (.cells #[.int .i64 b.err,.int .i64 b.id,.int .i64 b.i.a,.int .i64 b.i.b,.int .i64 b.i.c,.int .i64 b.i.d] 41 (0,0)),thObj P (.cells #[.int .i64 a.err,.int .i64 a.id,.int .i64 a.i.a,.int .i64 a.i.b,.int .i64 a.i.c,.int .i64 a.i.d] 41 (0,0))]):=by
   have h:=S9.out.pull (A:=[_,_,_])
   have h:=((((((h.setObj 22 (.int .i64 b.err)).setObj 23 (.int .i64 b.id)).setObj 24 (.int .i64 b.i.a)).setObj 25 (.int .i64 b.i.b)).setObj 26 (.int .i64 b.i.c)).setObj 27 (.int .i64 b.i.d))
   have eV:((((((wdV (onW a) (.slice none 0 0) (.slice none 0 0)).setIfInBounds 22 (.int .i64 b.err)).setIfInBounds 23 (.int .i64 b.id)).setIfInBounds 24 (.int .i64 b.i.a)).setIfInBounds 25 (.int .i64 b.i.b)).setIfInBounds 26 (.int .i64 b.i.c)).setIfInBounds 27 (.int .i64 b.i.d)=V:=by
    rw [hV]
    unfold wdV
    simp only [List.setIfInBounds_toArray,List.set_cons_zero,List.set_cons_succ]
    rfl
   rw [←hwe,eV] at h
   exact Lib.hid h
  clear hwe S9 x1 y1 y3 hsz d0 c0 d1 c1 d2 c2 d3 c3 d4 c4 d5 c5
  have hsz:V.size=37:=by rw [hV];rfl
  have HV2:=Lib.hid hV
  clear hV
  have Hmb:=Lib.hid (fun w=>rmayW_any (d:=onW b) HV2.out none none 0 0 rfl rfl w (fun h=>absurd h (by decide:¬0<(0:Nat))) (sl_nil w).at_ (by decide:(0:Nat)≤1000))
  rw [docW_eq] at Hmb
  ((have hC:=HC.out);clear HC;subst hC)
  refine wp_hold fun C HC=>?_
  refine wp_seq ?_
  refine wp_hold fun E HE=>?_
  refine wp_seq ?_
  refine wp_region_lit ?_
  (refine wpList_load_row rfl 49 _ rfl B rfl _ _ _ _ (S10.out.head) Tryz.underlying49 rfl (by rw [hsz];kernel_rfl) ?_)
  go_wp2_with fail
  refine (Hmb.out we).mono ?_
  rintro e wf ⟨rfl,hb⟩
  have S11:=Lib.hid (S10.out.grow hb)
  clear hb S10 Hmb
  cases hm:mayW (onW b) with
  | false =>
   clear hm
   have S12:=Lib.hid (((S11.out.pull (A:=[_])).pull (A:=[_,_])).pull (A:=[_]))
   clear S11 HV2
   go_wp2_with fail
   (have hC:=HE.out);clear HE;subst hC
   go_wp2_with fail
   (((have hC:=HC.out);clear HC;subst hC);refine wp_hold fun C HC=>?_;(go_wp2_with fail);(refine (answers_g (A:=[(oQ1,a)]) S12.out (by simp)).mono ?_);(rintro e wg ⟨c3,c4,rfl,hS⟩);(have S13:=Lib.hid hS);clear hS S12;(go_wp2_with fail);((have hC:=HC.out);clear HC;subst hC);refine wp_hold fun C HC=>?_;(go_wp2_with fail);(refine (Hpe.out _ wg p _ (S13.out.pull (A:=[_]))).mono ?_);(rintro e wh ⟨rfl,hb⟩);(have S14:=Lib.hid (S13.out.grow hb));clear hb S13;(go_wp2_with fail);(refine wp_name fun wi hwi=>?_);(obtain ⟨Z,hZ⟩:∃ Z,Z=wh.heap.size:=⟨_,rfl⟩);(have S15:=Lib.hid (cast_w (S14.out.objN (.cells #[.int .i64 5,.int .i64 2,.int .i64 2,.string ⟨#[97]⟩,.string ⟨#[98]⟩,.string ⟨#[]⟩,.string ⟨#[]⟩,.int .i64 0,.int .i64 0,.int .i64 0,.bool false,.int .i64 0] 30) Z hZ) hwi));(rw [←hZ]);clear hwi hZ S14;((have hC:=HC.out);clear HC;subst hC);(obtain ⟨g,rfl⟩:=an_some (S15.out.pull (A:=[_])).head);(obtain ⟨ql,q0,q1,q2,q3,q4,q5,q6,q7,q8,q9,q10,q11,q12,q13,q14,q15,q16,q17⟩:=an_cells (S15.out.pull (A:=[_])).head);(obtain ⟨zl,z0,z1,z2,z3,z4,z5,z6,z7,z8,z9,z10,z11⟩:=op_cells S15.out.head);(obtain ⟨yl,y0,y1,y2,y3,y4,y5,y6,y7,y8,y9,y10,y11⟩:=op_cells (S15.out.pull (A:=[_,_,_,_,_])).head);(obtain ⟨xl,x0,x1,x2,x3,x4,x5,x6,x7,x8,x9,x10,x11⟩:=op_cells (S15.out.pull (A:=[_,_,_,_,_,_])).head);(obtain ⟨pl,p0,p1,p2,p3,p4,p5⟩:=rp_cells (S15.out.pull (A:=[_,_,_,_,_,_,_,_])).head);(have e1:=fun w=>eql_q 1 w);(have e2:=fun w=>eql_q 2 w);(have e3:=fun w=>eql_rep a a w true (by simp [eqRp]));(refine wp_seq ?_);(refine wp_region_gr (by kernel_rfl) (by kernel_rfl) ?_;(repeat (go_big_quiet_step ((go_at_call 6;exact calls_gr (known_g _)))));refine wpQuiet_nil ?_;intro _ hw';obtain ⟨k,hw''⟩:=hw';subst hw'');(go_wp2_with fail);go_ret;exact ⟨rfl,(S15.out.grow (gr_below wi k)).b⟩)
  | true =>
   have Hm2:=Lib.hid hm
   clear hm
   go_wp2_with fail
   (have hC:=HE.out);clear HE;subst hC
   refine wp_cond_true rfl ?_
   refine wp_region_lit ?_
   ((refine list_hold 1 fun LL HL=>?_);simp only [List.take_succ_cons,List.take_zero,List.cons_append,List.nil_append];(go_wp2_with fail))
   ((have hL:=HL.out);clear HL;subst hL;simp only [List.drop_succ_cons,List.drop_zero])
   (refine wpList_load_row rfl 49 _ rfl B rfl _ _ _ _ (S11.out.head) Tryz.underlying49 rfl (by rw [hsz];kernel_rfl) ?_)
   go_wp2_with fail
   refine (msg_on HV2.out Hm2.out 9 33 wf).mono ?_
   rintro e wx ⟨yo,yc,rfl,hb8,hx⟩
   have S:=Lib.hid ((((S11.out.grow hb8).pull (A:=[_])).pull (A:=[_,_])).pull (A:=[_]))
   have Hx:=Lib.hid hx
   clear hb8 hx S11 HV2
   go_wp2_with fail
   refine (hear_on (A:=[(oQ1,a)]) S.out o_ok3 9 33 yo yc b Hm2.out Hx.out (by simp)).mono ?_
   intro e wy hH
   unfold HearPost at hH
   rw [(o_hear2 b).1,(o_hear2 b).2.1,(o_hear2 b).2.2,List.append_nil] at hH
   obtain ⟨co,cc,hS,hM⟩:=hH
   rw [if_neg (by simp)] at hM
   subst hM
   have S12:=Lib.hid hS
   clear hS S Hx
   go_wp2_with fail
   (((have hC:=HC.out);clear HC;subst hC);refine wp_hold fun C HC=>?_;(go_wp2_with fail);(refine (answers_g (A:=[(oQ1,a)]) S12.out (by simp)).mono ?_);(rintro e wg ⟨c3,c4,rfl,hS⟩);(have S13:=Lib.hid hS);clear hS S12;(go_wp2_with fail);((have hC:=HC.out);clear HC;subst hC);refine wp_hold fun C HC=>?_;(go_wp2_with fail);(refine (Hpe.out _ wg p _ (S13.out.pull (A:=[_]))).mono ?_);(rintro e wh ⟨rfl,hb⟩);(have S14:=Lib.hid (S13.out.grow hb));clear hb S13;(go_wp2_with fail);(refine wp_name fun wi hwi=>?_);(obtain ⟨Z,hZ⟩:∃ Z,Z=wh.heap.size:=⟨_,rfl⟩);(have S15:=Lib.hid (cast_w (S14.out.objN (.cells #[.int .i64 5,.int .i64 2,.int .i64 2,.string ⟨#[97]⟩,.string ⟨#[98]⟩,.string ⟨#[]⟩,.string ⟨#[]⟩,.int .i64 0,.int .i64 0,.int .i64 0,.bool false,.int .i64 0] 30) Z hZ) hwi));(rw [←hZ]);clear hwi hZ S14;((have hC:=HC.out);clear HC;subst hC);(obtain ⟨g,rfl⟩:=an_some (S15.out.pull (A:=[_])).head);(obtain ⟨ql,q0,q1,q2,q3,q4,q5,q6,q7,q8,q9,q10,q11,q12,q13,q14,q15,q16,q17⟩:=an_cells (S15.out.pull (A:=[_])).head);(obtain ⟨zl,z0,z1,z2,z3,z4,z5,z6,z7,z8,z9,z10,z11⟩:=op_cells S15.out.head);(obtain ⟨yl,y0,y1,y2,y3,y4,y5,y6,y7,y8,y9,y10,y11⟩:=op_cells (S15.out.pull (A:=[_,_,_,_,_])).head);(obtain ⟨xl,x0,x1,x2,x3,x4,x5,x6,x7,x8,x9,x10,x11⟩:=op_cells (S15.out.pull (A:=[_,_,_,_,_,_])).head);(obtain ⟨pl,p0,p1,p2,p3,p4,p5⟩:=rp_cells (S15.out.pull (A:=[_,_,_,_,_,_,_,_])).head);(have e1:=fun w=>eql_q 1 w);(have e2:=fun w=>eql_q 2 w);(have e3:=fun w=>eql_rep a a w true (by simp [eqRp]));(refine wp_seq ?_);(refine wp_region_gr (by kernel_rfl) (by kernel_rfl) ?_;(repeat (go_big_quiet_step ((go_at_call 6;exact calls_gr (known_g _)))));refine wpQuiet_nil ?_;intro _ hw';obtain ⟨k,hw''⟩:=hw';subst hw'');(go_wp2_with fail);go_ret;exact ⟨rfl,(S15.out.grow (gr_below wi k)).b⟩)
end G
namespace GateOnceLift
open Go.ChangeShapes Go.WideShapes Go.ChangeAt Go.RowKit Go.Joins Go.Deep
open Go.ChangeMaps (open_string shut_string)
theorem own:ownKnob Tryz.prog.godebug=none:=by kernel_rfl
theorem laidOut:laidOutB Tryz.prog=true:=by kernel_rfl
set_option maxHeartbeats 1000000 in
set_option maxRecDepth 100000 in
theorem lifted (os:Os) (started:os.Started) (H:Type) (enc:TypeId × Value→H) :
 ReturnsInHanded {} Tryz.checked os 5 .any (Rows.gateOnceSpec.pre6 enc Tryz.prog Tryz.f5 Rows.gateOnceRow.domain false) (Rows.gateOnceSpec.post enc Tryz.prog Tryz.f5 false true false false):=by
 refine returnsInHanded_of_change (C:=Tryz.checked) own started (by kernel_rfl) Tryz.func5
  (ChangeSpec.witness6 (enc:=enc) (C:=Tryz.checked) false ⟨#[],#[.agg #[.int .i64 0,.int .i64 0,.int .i64 0,.int .i64 0,.int .i64 0,.int .i64 0],.agg #[.int .i64 0,.int .i64 0,.int .i64 0,.int .i64 0,.int .i64 0,.int .i64 0]],[]⟩ 8 (by kernel_rfl) (by kernel_rfl) (by kernel_rfl) (by kernel_rfl)) ?_
 intro W base args ds gs before hval0 hW hcnd _
 have hval:∀ (j:Nat) t v,Tryz.f5.params[j]?=some t→args[j]?=some v→Value.okWide Tryz.prog W .any base t v:=hval0
 have hW':=hW
 obtain ⟨p,q,hA0,hV,rfl,hfz,hnd⟩:=hW
 have hA:DataW.TrodAll enc Tryz.prog W 0 (fun _=>true) true Tryz.f5.params.toList args.toList ds p:=hA0
 rw [Tryz.params5] at hA hval
 obtain ⟨v0,vs0,d0,ds0,p0,q0,hargs,rfl,rfl,h0,r0⟩:=trodAll_cons hA
 obtain ⟨v1,vs1,d1,ds1,p1,q1,rfl,rfl,rfl,h1,r1⟩:=trodAll_cons r0
 obtain ⟨rfl,rfl,rfl⟩:=trodAll_nil r1
 obtain rfl:args=#[v0,v1]:=by cases args;simp_all
 obtain ⟨rfl,rfl⟩:=trodVars_none hV
 have k0:=h0
 have lt0:∀ x∈p0,x.block<W.heap.size:=by obtain ⟨m,hm⟩:=k0;exact DataW.trod_lt m _ _ _ hm
 have k1:=h1
 have lt1:∀ x∈p1,x.block<W.heap.size:=by obtain ⟨m,hm⟩:=k1;exact DataW.trod_lt m _ _ _ hm
 have post:∀ e W',e=Ending.returned (.bool true)→Below W.heap.size W W'→∃ v,e=.returned v∧Rows.gateOnceSpec.post enc Tryz.prog Tryz.f5 false true false false W #[v0,v1] v W':=by
  intro e W' he bel
  subst he
  exact ⟨_,rfl,_,_,_,[],_,[],hW',trodAll_mk1 (shut_bool Tryz.underlying4 _),(trodAll_cons_mk (Below.trod laidOut (by kernel_rfl) (of_decide_eq_true (by kernel_rfl)) k0 bel lt0) (trodAll_cons_mk (Below.trod laidOut (by kernel_rfl) (of_decide_eq_true (by kernel_rfl)) k1 bel lt1) trodAll_mk0)),rfl,bel.frame _,fun h=>by cases h⟩
 clear hW' hcnd hfz hnd hA0 hA hval0
 obtain ⟨ra,rfl⟩:=G.open_rep (hval 0 41 v0 rfl rfl) h0
 obtain ⟨rb,rfl⟩:=G.open_rep (hval 1 41 v1 rfl rfl) h1
 exact (G.once_walk ra rb W).mono fun e W' ⟨he,bel⟩=>post e W' he bel
theorem over:Rows.gateOnceRow.holds Tryz.pinned (OpenSpec.ofChange Rows.gateOnceSpec) :=
 OpenClaim.holds_of_wide 5 Tryz.f5 rfl rfl rfl rfl rfl rfl rfl ⟨rfl,rfl,rfl,rfl,rfl⟩ rfl rfl rfl rfl rfl (by kernel_rfl) Tryz.func5 (by kernel_rfl)
  (of_decide_eq_true (by kernel_rfl)) (by unfold Func.isWrapper;first | (rw [if_pos (by decide +kernel)];kernel_rfl) | (rw [if_neg (by decide +kernel)];exact ⟨rfl,rfl⟩))
  (fun os started H enc _=>lifted os started H enc)
end GateOnceLift
theorem gateOnce_holds:Rows.GateOnceSaid:=GateOnceLift.over
#print axioms gateOnce_holds
end Go.Proofs.YtogamdaomdoapaaGreat