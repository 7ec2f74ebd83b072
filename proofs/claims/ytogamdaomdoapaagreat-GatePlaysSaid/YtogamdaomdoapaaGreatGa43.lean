/- Texts put together: GtK, GtE, PyA, PyM, PyR, PyH. -/
import Derived.Test.YtogamdaomdoapaaGreatGa05
import Derived.Test.YtogamdaomdoapaaGreatGa07
import Derived.Test.YtogamdaomdoapaaGreatGa13
import Derived.Test.YtogamdaomdoapaaGreatGa25
import Derived.Test.YtogamdaomdoapaaGreatGa39
import Derived.Test.YtogamdaomdoapaaGreatGa40
import Derived.Test.YtogamdaomdoapaaGreatGa41
import Derived.Test.YtogamdaomdoapaaGreatGa42
import Derived.Deep.MidRow
import Derived.Laws.IdiomArrays
namespace Go.Proofs.YtogamdaomdoapaaGreat.G
open Go.Value renaming int→aI,string→aS,bool→aB
open Go.IntKind renaming i64→aK
open List renaming setIfInBounds_toArray→lA,set_cons_zero→lZ,set_cons_succ→lS
open Bool renaming eq_false_or_eq_true→bE
open Go.Lib renaming hid→uH
set_option maxRecDepth 20000
open Go.RowKit
def nilA:Value:=.slice none 0 0
def e0e:Rq:=⟨5,1,1,⟨#[97]⟩,⟨#[98]⟩,e0,e0,0,0,0,false,0⟩
def gtL (hosts:Int):Gt:=⟨32,hosts,2,8,0,true,e0e⟩
theorem u0b (hosts:Int):c0t (newG 32 hosts) lookO=true:=by
 show c0t (newG 32 1) lookO=true
 decide +kernel
theorem k0c (hosts:Int):subR (newG 32 hosts) lookO=e0e∧subE (newG 32 hosts) lookO=0∧subG (newG 32 hosts) lookO=gtL hosts:=q0a (u0b hosts)
theorem n0h {hosts:Int} (h:1≤hosts∧hosts≤6):l0d 32 hosts=true:=by
 unfold l0d
 rw [decide_eq_true_eq]
 omega
theorem ok_L {hosts:Int} (h:1≤hosts∧hosts≤6):Ok (gtL hosts):=by
 rw [←(k0c hosts).2.2]
 exact sub_ok (x0b (n0h h)) lookO
theorem new_32 {hosts:Int} (h:1≤hosts∧hosts≤6) (w:World):Calls Tryz.prog 7 #[aI aK 32,aI aK hosts] w fun e w'=>∃ p,e=.returned (.tuple #[.pointer (some ⟨p,0,none⟩),aI aK 0])∧St w w' [thG p (newG 32 hosts) nilA]:=by
 refine (x0c 32 hosts w).mono ?_
 intro e w' h2
 unfold n0x at h2
 rw [if_pos (n0h h)] at h2
 obtain ⟨rfl,rfl⟩:=h2
 exact ⟨_,rfl,(St.start w).objN _ w.heap.size rfl⟩
theorem sub_look {W w:World} {L:List Th} {p:Nat} {hosts:Int} (h:1≤hosts∧hosts≤6) (S:St W w (thG p (newG 32 hosts) nilA::L)):Calls Tryz.prog 8 #[.pointer (some ⟨p,0,none⟩),.agg #[aI aK lookO.kind,aI aK lookO.client,aI aK lookO.seq,aS lookO.key,aS lookO.who,aS lookO.tkey,aS lookO.twho,aI aK lookO.item,aI aK lookO.count,aI aK lookO.price,aB lookO.buy,aI aK lookO.id]] w fun e w'=>e=.returned (.tuple #[.agg #[aI aK e0e.kind,aI aK e0e.client,aI aK e0e.seq,aS e0e.key,aS e0e.who,aS e0e.tkey,aS e0e.twho,aI aK e0e.item,aI aK e0e.count,aI aK e0e.price,aB e0e.buy,aI aK e0e.id],aI aK 0])∧St W w' (thG p (gtL hosts) nilA::L):=by
 refine (r0t S (x0b (n0h h)) lookO).mono ?_
 intro e w' h2
 unfold g0q at h2
 rw [(k0c hosts).1,(k0c hosts).2.1,(k0c hosts).2.2] at h2
 exact h2
set_option maxHeartbeats 4000000 in
theorem x0m (w:World):Calls Tryz.prog 6 #[] w fun e w'=>e=.returned (aB true)∧Below w.heap.size w w':=by
 have hv:(.agg #[aI aK lookO.kind,aI aK lookO.client,aI aK lookO.seq,aS lookO.key,aS lookO.who,aS lookO.tkey,aS lookO.twho,aI aK lookO.item,aI aK lookO.count,aI aK lookO.price,aB lookO.buy,aI aK lookO.id]:Value)=.agg #[aI aK 5,aI aK 0,aI aK 0,aS ⟨#[97]⟩,aS ⟨#[98]⟩,aS ⟨#[]⟩,aS ⟨#[]⟩,aI aK 0,aI aK 0,aI aK 0,aB false,aI aK 0]:=rfl
 have hq:(.agg #[aI aK e0e.kind,aI aK e0e.client,aI aK e0e.seq,aS e0e.key,aS e0e.who,aS e0e.tkey,aS e0e.twho,aI aK e0e.item,aI aK e0e.count,aI aK e0e.price,aB e0e.buy,aI aK e0e.id]:Value)=.agg #[aI aK 5,aI aK 1,aI aK 1,aS ⟨#[97]⟩,aS ⟨#[98]⟩,aS ⟨#[]⟩,aS ⟨#[]⟩,aI aK 0,aI aK 0,aI aK 0,aB false,aI aK 0]:=rfl
 have Hlk:=uH (fun w=>look_any w)
 have Hsu:=uH (fun (w1:World) (p:Nat) (S:St w w1 [thG p (newG 32 1) nilA])=>sub_look ⟨by decide,by decide⟩ S)
 rw [hv] at Hlk Hsu
 rw [hq] at Hsu
 clear hv hq
 go_enter Tryz.func6,Tryz.ntmps6
 go_wp2_with fail
 refine (new_32 (hosts:=1) ⟨by decide,by decide⟩ w).mono ?_
 rintro e w1 ⟨p,rfl,hS⟩
 have S:=uH hS
 clear hS
 go_wp2_with fail
 refine (Hlk.out w1).mono ?_
 rintro e w2 ⟨rfl,hb⟩
 have S:=uH (S.out.grow hb)
 clear hb
 go_wp2_with fail
 refine (Hsu.out w2 p S.out).mono ?_
 rintro e w3 ⟨rfl,hS⟩
 have S:=uH hS
 clear hS Hsu Hlk
 go_wp2_with fail
 refine a0e fun w4 hw4=>?_
 obtain ⟨X,hX⟩:∃ X,X=w3.heap.size:=⟨_,rfl⟩
 have S4:Hid (St w w4 [thG p (gtL 1) nilA,a0c X (.cells #[aI aK 5,aI aK 1,aI aK 1,aS ⟨#[97]⟩,aS ⟨#[98]⟩,aS ⟨#[]⟩,aS ⟨#[]⟩,aI aK 0,aI aK 0,aI aK 0,aB false,aI aK 0] 30 (0,0))]):=by
  rw [hw4]
  exact uH ((S.out.objN _ X hX).pull (A:=[_]))
 rw [←hX]
 clear hw4 hX S
 refine (tick_g S4.out (ok_L ⟨by decide,by decide⟩)).mono ?_
 intro e w5 h
 obtain ⟨hS,h⟩:=h
 rw [if_pos (show h0j (gtL 1)=true from rfl)] at h
 obtain ⟨b,rfl,-,ao,cap,h1,-⟩:=h
 have m1:w5.cell? ⟨b,1,none⟩=some (aI aK 8):=(b0b h1).1 1
 have mb:=lt_of_block h1
 obtain ⟨x1,x2,-⟩:=hS.a0b 1 rfl
 have w5_b:=hS.b
 clear S4 hS h1
 go_wp2_with fail
 go_ret
 exact ⟨rfl,w5_b⟩
end Go.Proofs.YtogamdaomdoapaaGreat.G
namespace Go.Proofs.YtogamdaomdoapaaGreat
open Go.Value renaming int→aI,string→aS,bool→aB
open Go.IntKind renaming i64→aK
open List renaming setIfInBounds_toArray→lA,set_cons_zero→lZ,set_cons_succ→lS
open Bool renaming eq_false_or_eq_true→bE
open Go.Lib renaming hid→uH
open Go.ChangeShapes Go.WideShapes Go.Deep Go.Joins Go.RowKit
namespace G
section
variable {H:Type} {enc:TypeId × Value→H} {w:World} {base:Nat}
theorem t0l {fuel:Nat} {c0 c1 c2 c3:Value} {x:DataW H × List MemPlace} (h:DataW.trod enc Tryz.prog w base (fun _=>true) true fuel 39 [c0,c1,c2,c3]=some x):∃ i:It,[c0,c1,c2,c3]=[aI aK i.a,aI aK i.b,aI aK i.c,aI aK i.d]:=by
 obtain ⟨y0,y1,y2,y3,n,-,h0,h1,h2,h3⟩:=trod_array4 Tryz.underlying39 (by kernel_rfl) h
 obtain ⟨n0,q0,-⟩:=DataW.trod_int Tryz.underlying3 h0
 obtain ⟨n1,q1,-⟩:=DataW.trod_int Tryz.underlying3 h1
 obtain ⟨n2,q2,-⟩:=DataW.trod_int Tryz.underlying3 h2
 obtain ⟨n3,q3,-⟩:=DataW.trod_int Tryz.underlying3 h3
 simp only [List.cons.injEq,and_true] at q0 q1 q2 q3
 subst q0 q1 q2 q3
 exact ⟨⟨n0,n1,n2,n3⟩,rfl⟩
set_option maxRecDepth 20000 in
theorem trod_rep {fuel:Nat} {c0 c1 c2 c3 c4 c5:Value} {x:DataW H × List MemPlace} (hf:DataW.trod enc Tryz.prog w base (fun _=>true) true fuel 41 [c0,c1,c2,c3,c4,c5]=some x):∃ r:Rp,[c0,c1,c2,c3,c4,c5]=[aI aK r.err,aI aK r.id,aI aK r.i.a,aI aK r.i.b,aI aK r.i.c,aI aK r.i.d]:=by
 obtain ⟨xs,n,-,-,hl,hlen,hg⟩:=DataW.trod_struct Tryz.underlying41 hf
 have e0:Tryz.prog.cellsOf 24=1:=by kernel_rfl
 have e1:Tryz.prog.cellsOf 39=4:=by kernel_rfl
 have e2:Tryz.prog.cellsOf 3=1:=by kernel_rfl
 have hx:∀ i,i<3→∃ y,xs[i]?=some y:=fun i hi=>⟨_,List.getElem?_eq_getElem (by rw [hlen];exact hi)⟩
 have g0:=hg 0 _ rfl
 obtain ⟨y0,hy0⟩:=hx 0 (by decide)
 rw [hy0] at g0
 simp only [List.getElem_toArray] at g0
 (try simp only [List.getElem_cons_succ] at g0);(try simp only [List.getElem_cons_zero] at g0);(try simp only [e0] at g0);(try simp only [e1] at g0);(try simp only [e2] at g0);(try simp only [List.drop_zero] at g0);(try simp only [List.drop_succ_cons] at g0);(try simp only [List.drop_zero] at g0);(try simp only [List.take_succ_cons] at g0);(try simp only [List.take_zero] at g0)
 have g1:=hg 1 _ rfl
 obtain ⟨y1,hy1⟩:=hx 1 (by decide)
 rw [hy1] at g1
 simp only [List.getElem_toArray] at g1
 (try simp only [List.getElem_cons_succ] at g1);(try simp only [List.getElem_cons_zero] at g1);(try simp only [e0] at g1);(try simp only [e1] at g1);(try simp only [e2] at g1);(try simp only [List.drop_zero] at g1);(try simp only [List.drop_succ_cons] at g1);(try simp only [List.drop_zero] at g1);(try simp only [List.take_succ_cons] at g1);(try simp only [List.take_zero] at g1)
 have g2:=hg 2 _ rfl
 obtain ⟨y2,hy2⟩:=hx 2 (by decide)
 rw [hy2] at g2
 simp only [List.getElem_toArray] at g2
 (try simp only [List.getElem_cons_succ] at g2);(try simp only [List.getElem_cons_zero] at g2);(try simp only [e0] at g2);(try simp only [e1] at g2);(try simp only [e2] at g2);(try simp only [List.drop_zero] at g2);(try simp only [List.drop_succ_cons] at g2);(try simp only [List.drop_zero] at g2);(try simp only [List.take_succ_cons] at g2);(try simp only [List.take_zero] at g2)
 obtain ⟨n0,q0,-⟩:=DataW.trod_int Tryz.underlying24 g0
 obtain ⟨n1,q1,-⟩:=DataW.trod_int Tryz.underlying3 g1
 obtain ⟨t2,q2⟩:=t0l g2;simp only [List.cons.injEq,and_true] at q2;obtain ⟨rfl,rfl,rfl,rfl⟩:=q2
 simp only [List.cons.injEq,and_true] at q0 q1
 subst q0 q1
 exact ⟨⟨n0,n1,t2⟩,rfl⟩
end
end G
open Go.ChangeShapes Go.WideShapes Go.Deep Go.Joins Go.RowKit
namespace G
structure Ac where
 kind:Int
 n:Int
 m:Int
 fr:Int
 host:Int
 o:Rq
 r:Rp
 bo:Option Addr
 bl:List UInt8
 bc:Nat
def acV (a:Ac):List Value:=[aI aK a.kind,aI aK a.n,aI aK a.m,aI aK a.fr,aI aK a.host,aI aK a.o.kind,aI aK a.o.client,aI aK a.o.seq,aS a.o.key,aS a.o.who,aS a.o.tkey,aS a.o.twho,aI aK a.o.item,aI aK a.o.count,aI aK a.o.price,aB a.o.buy,aI aK a.o.id,aI aK a.r.err,aI aK a.r.id,aI aK a.r.i.a,aI aK a.r.i.b,aI aK a.r.i.c,aI aK a.r.i.d,.slice a.bo a.bl.length a.bc]
def AsAt (w:World) (ao:Option Addr) (L:List Ac):Prop:=0<L.length→∃ b o,ao=some ⟨b,o,none⟩∧b<w.heap.size∧∀ (i:Nat) (a:Ac),L[i]?=some a→(∀ (j:Nat) v,(acV a)[j]?=some v→w.cell? ⟨b,o+i * 24+j,none⟩=some v)∧F.Sl w a.bo a.bc a.bl
section
variable {H:Type} {enc:TypeId × Value→H} {w:World} {base:Nat}
theorem l0w {fuel:Nat} {c0 c1:Value} {x:DataW H × List MemPlace} (h:DataW.trod enc Tryz.prog w base (fun _=>true) true fuel 28 [c0,c1]=some x):∃ k v:ByteArray,c0=aS k∧c1=aS v:=by
 obtain ⟨y0,y1,n,-,-,h0,h1⟩:=trod_struct2 Tryz.underlying28 h
 have e:Tryz.prog.cellsOf 9=1:=by kernel_rfl
 simp only [e,List.drop_zero,List.drop_succ_cons,List.take_succ_cons,List.take_zero] at h0 h1
 obtain ⟨k,ek,-⟩:=DataW.trod_string Tryz.underlying9 h0
 obtain ⟨v,ev,-⟩:=DataW.trod_string Tryz.underlying9 h1
 exact ⟨k,v,by simpa using ek,by simpa using ev⟩
set_option maxRecDepth 20000 in
theorem trod_op {fuel:Nat} {c0 c1 c2 c3 c4 c5 c6 c7 c8 c9 c10 c11:Value} {x:DataW H × List MemPlace} (hf:DataW.trod enc Tryz.prog w base (fun _=>true) true fuel 30 [c0,c1,c2,c3,c4,c5,c6,c7,c8,c9,c10,c11]=some x):∃ o:Rq,[c0,c1,c2,c3,c4,c5,c6,c7,c8,c9,c10,c11]=[aI aK o.kind,aI aK o.client,aI aK o.seq,aS o.key,aS o.who,aS o.tkey,aS o.twho,aI aK o.item,aI aK o.count,aI aK o.price,aB o.buy,aI aK o.id]:=by
 obtain ⟨xs,n,-,-,hl,hlen,hg⟩:=DataW.trod_struct Tryz.underlying30 hf
 have e0:Tryz.prog.cellsOf 28=2:=by kernel_rfl
 have e1:Tryz.prog.cellsOf 4=1:=by kernel_rfl
 have e2:Tryz.prog.cellsOf 3=1:=by kernel_rfl
 have hx:∀ i,i<10→∃ y,xs[i]?=some y:=fun i hi=>⟨_,List.getElem?_eq_getElem (by rw [hlen];exact hi)⟩
 have g0:=hg 0 _ rfl
 obtain ⟨y0,hy0⟩:=hx 0 (by decide)
 rw [hy0] at g0
 simp only [List.getElem_toArray] at g0
 (try simp only [List.getElem_cons_succ] at g0);(try simp only [List.getElem_cons_zero] at g0);(try simp only [e0] at g0);(try simp only [e1] at g0);(try simp only [e2] at g0);(try simp only [List.drop_zero] at g0);(try simp only [List.drop_succ_cons] at g0);(try simp only [List.drop_zero] at g0);(try simp only [List.take_succ_cons] at g0);(try simp only [List.take_zero] at g0)
 have g1:=hg 1 _ rfl
 obtain ⟨y1,hy1⟩:=hx 1 (by decide)
 rw [hy1] at g1
 simp only [List.getElem_toArray] at g1
 (try simp only [List.getElem_cons_succ] at g1);(try simp only [List.getElem_cons_zero] at g1);(try simp only [e0] at g1);(try simp only [e1] at g1);(try simp only [e2] at g1);(try simp only [List.drop_zero] at g1);(try simp only [List.drop_succ_cons] at g1);(try simp only [List.drop_zero] at g1);(try simp only [List.take_succ_cons] at g1);(try simp only [List.take_zero] at g1)
 have g2:=hg 2 _ rfl
 obtain ⟨y2,hy2⟩:=hx 2 (by decide)
 rw [hy2] at g2
 simp only [List.getElem_toArray] at g2
 (try simp only [List.getElem_cons_succ] at g2);(try simp only [List.getElem_cons_zero] at g2);(try simp only [e0] at g2);(try simp only [e1] at g2);(try simp only [e2] at g2);(try simp only [List.drop_zero] at g2);(try simp only [List.drop_succ_cons] at g2);(try simp only [List.drop_zero] at g2);(try simp only [List.take_succ_cons] at g2);(try simp only [List.take_zero] at g2)
 have g3:=hg 3 _ rfl
 obtain ⟨y3,hy3⟩:=hx 3 (by decide)
 rw [hy3] at g3
 simp only [List.getElem_toArray] at g3
 (try simp only [List.getElem_cons_succ] at g3);(try simp only [List.getElem_cons_zero] at g3);(try simp only [e0] at g3);(try simp only [e1] at g3);(try simp only [e2] at g3);(try simp only [List.drop_zero] at g3);(try simp only [List.drop_succ_cons] at g3);(try simp only [List.drop_zero] at g3);(try simp only [List.take_succ_cons] at g3);(try simp only [List.take_zero] at g3)
 have g4:=hg 4 _ rfl
 obtain ⟨y4,hy4⟩:=hx 4 (by decide)
 rw [hy4] at g4
 simp only [List.getElem_toArray] at g4
 (try simp only [List.getElem_cons_succ] at g4);(try simp only [List.getElem_cons_zero] at g4);(try simp only [e0] at g4);(try simp only [e1] at g4);(try simp only [e2] at g4);(try simp only [List.drop_zero] at g4);(try simp only [List.drop_succ_cons] at g4);(try simp only [List.drop_zero] at g4);(try simp only [List.take_succ_cons] at g4);(try simp only [List.take_zero] at g4)
 have g5:=hg 5 _ rfl
 obtain ⟨y5,hy5⟩:=hx 5 (by decide)
 rw [hy5] at g5
 simp only [List.getElem_toArray] at g5
 (try simp only [List.getElem_cons_succ] at g5);(try simp only [List.getElem_cons_zero] at g5);(try simp only [e0] at g5);(try simp only [e1] at g5);(try simp only [e2] at g5);(try simp only [List.drop_zero] at g5);(try simp only [List.drop_succ_cons] at g5);(try simp only [List.drop_zero] at g5);(try simp only [List.take_succ_cons] at g5);(try simp only [List.take_zero] at g5)
 have g6:=hg 6 _ rfl
 obtain ⟨y6,hy6⟩:=hx 6 (by decide)
 rw [hy6] at g6
 simp only [List.getElem_toArray] at g6
 (try simp only [List.getElem_cons_succ] at g6);(try simp only [List.getElem_cons_zero] at g6);(try simp only [e0] at g6);(try simp only [e1] at g6);(try simp only [e2] at g6);(try simp only [List.drop_zero] at g6);(try simp only [List.drop_succ_cons] at g6);(try simp only [List.drop_zero] at g6);(try simp only [List.take_succ_cons] at g6);(try simp only [List.take_zero] at g6)
 have g7:=hg 7 _ rfl
 obtain ⟨y7,hy7⟩:=hx 7 (by decide)
 rw [hy7] at g7
 simp only [List.getElem_toArray] at g7
 (try simp only [List.getElem_cons_succ] at g7);(try simp only [List.getElem_cons_zero] at g7);(try simp only [e0] at g7);(try simp only [e1] at g7);(try simp only [e2] at g7);(try simp only [List.drop_zero] at g7);(try simp only [List.drop_succ_cons] at g7);(try simp only [List.drop_zero] at g7);(try simp only [List.take_succ_cons] at g7);(try simp only [List.take_zero] at g7)
 have g8:=hg 8 _ rfl
 obtain ⟨y8,hy8⟩:=hx 8 (by decide)
 rw [hy8] at g8
 simp only [List.getElem_toArray] at g8
 (try simp only [List.getElem_cons_succ] at g8);(try simp only [List.getElem_cons_zero] at g8);(try simp only [e0] at g8);(try simp only [e1] at g8);(try simp only [e2] at g8);(try simp only [List.drop_zero] at g8);(try simp only [List.drop_succ_cons] at g8);(try simp only [List.drop_zero] at g8);(try simp only [List.take_succ_cons] at g8);(try simp only [List.take_zero] at g8)
 have g9:=hg 9 _ rfl
 obtain ⟨y9,hy9⟩:=hx 9 (by decide)
 rw [hy9] at g9
 simp only [List.getElem_toArray] at g9
 (try simp only [List.getElem_cons_succ] at g9);(try simp only [List.getElem_cons_zero] at g9);(try simp only [e0] at g9);(try simp only [e1] at g9);(try simp only [e2] at g9);(try simp only [List.drop_zero] at g9);(try simp only [List.drop_succ_cons] at g9);(try simp only [List.drop_zero] at g9);(try simp only [List.take_succ_cons] at g9);(try simp only [List.take_zero] at g9)
 obtain ⟨n0,q0,-⟩:=DataW.trod_int Tryz.underlying3 g0
 obtain ⟨n1,q1,-⟩:=DataW.trod_int Tryz.underlying3 g1
 obtain ⟨n2,q2,-⟩:=DataW.trod_int Tryz.underlying3 g2
 obtain ⟨k3,v3,rfl,rfl⟩:=l0w g3
 obtain ⟨k4,v4,rfl,rfl⟩:=l0w g4
 obtain ⟨n5,q5,-⟩:=DataW.trod_int Tryz.underlying3 g5
 obtain ⟨n6,q6,-⟩:=DataW.trod_int Tryz.underlying3 g6
 obtain ⟨n7,q7,-⟩:=DataW.trod_int Tryz.underlying3 g7
 obtain ⟨n8,q8,-⟩:=DataW.trod_bool Tryz.underlying4 g8
 obtain ⟨n9,q9,-⟩:=DataW.trod_int Tryz.underlying3 g9
 simp only [List.cons.injEq,and_true] at q0 q1 q2 q5 q6 q7 q8 q9
 subst q0 q1 q2 q5 q6 q7 q8 q9
 exact ⟨⟨n0,n1,n2,k3,v3,k4,v4,n5,n6,n7,n8,n9⟩,rfl⟩
set_option maxRecDepth 20000 in
theorem trod_act {fuel:Nat} {c0 c1 c2 c3 c4 c5 c6 c7 c8 c9 c10 c11 c12 c13 c14 c15 c16 c17 c18 c19 c20 c21 c22 c23:Value} {x:DataW H × List MemPlace} (hf:DataW.trod enc Tryz.prog w base (fun _=>true) true fuel 61 [c0,c1,c2,c3,c4,c5,c6,c7,c8,c9,c10,c11,c12,c13,c14,c15,c16,c17,c18,c19,c20,c21,c22,c23]=some x):∃ a:Ac,[c0,c1,c2,c3,c4,c5,c6,c7,c8,c9,c10,c11,c12,c13,c14,c15,c16,c17,c18,c19,c20,c21,c22,c23]=acV a∧F.Sl w a.bo a.bc a.bl:=by
 obtain ⟨xs,n,-,-,hl,hlen,hg⟩:=DataW.trod_struct Tryz.underlying61 hf
 have e0:Tryz.prog.cellsOf 47=1:=by kernel_rfl
 have e1:Tryz.prog.cellsOf 30=12:=by kernel_rfl
 have e2:Tryz.prog.cellsOf 41=6:=by kernel_rfl
 have e3:Tryz.prog.cellsOf 3=1:=by kernel_rfl
 have hx:∀ i,i<8→∃ y,xs[i]?=some y:=fun i hi=>⟨_,List.getElem?_eq_getElem (by rw [hlen];exact hi)⟩
 have g0:=hg 0 _ rfl
 obtain ⟨y0,hy0⟩:=hx 0 (by decide)
 rw [hy0] at g0
 simp only [List.getElem_toArray] at g0
 (try simp only [List.getElem_cons_succ] at g0);(try simp only [List.getElem_cons_zero] at g0);(try simp only [e0] at g0);(try simp only [e1] at g0);(try simp only [e2] at g0);(try simp only [e3] at g0);(try simp only [List.drop_zero] at g0);(try simp only [List.drop_succ_cons] at g0);(try simp only [List.drop_zero] at g0);(try simp only [List.take_succ_cons] at g0);(try simp only [List.take_zero] at g0)
 have g1:=hg 1 _ rfl
 obtain ⟨y1,hy1⟩:=hx 1 (by decide)
 rw [hy1] at g1
 simp only [List.getElem_toArray] at g1
 (try simp only [List.getElem_cons_succ] at g1);(try simp only [List.getElem_cons_zero] at g1);(try simp only [e0] at g1);(try simp only [e1] at g1);(try simp only [e2] at g1);(try simp only [e3] at g1);(try simp only [List.drop_zero] at g1);(try simp only [List.drop_succ_cons] at g1);(try simp only [List.drop_zero] at g1);(try simp only [List.take_succ_cons] at g1);(try simp only [List.take_zero] at g1)
 have g2:=hg 2 _ rfl
 obtain ⟨y2,hy2⟩:=hx 2 (by decide)
 rw [hy2] at g2
 simp only [List.getElem_toArray] at g2
 (try simp only [List.getElem_cons_succ] at g2);(try simp only [List.getElem_cons_zero] at g2);(try simp only [e0] at g2);(try simp only [e1] at g2);(try simp only [e2] at g2);(try simp only [e3] at g2);(try simp only [List.drop_zero] at g2);(try simp only [List.drop_succ_cons] at g2);(try simp only [List.drop_zero] at g2);(try simp only [List.take_succ_cons] at g2);(try simp only [List.take_zero] at g2)
 have g3:=hg 3 _ rfl
 obtain ⟨y3,hy3⟩:=hx 3 (by decide)
 rw [hy3] at g3
 simp only [List.getElem_toArray] at g3
 (try simp only [List.getElem_cons_succ] at g3);(try simp only [List.getElem_cons_zero] at g3);(try simp only [e0] at g3);(try simp only [e1] at g3);(try simp only [e2] at g3);(try simp only [e3] at g3);(try simp only [List.drop_zero] at g3);(try simp only [List.drop_succ_cons] at g3);(try simp only [List.drop_zero] at g3);(try simp only [List.take_succ_cons] at g3);(try simp only [List.take_zero] at g3)
 have g4:=hg 4 _ rfl
 obtain ⟨y4,hy4⟩:=hx 4 (by decide)
 rw [hy4] at g4
 simp only [List.getElem_toArray] at g4
 (try simp only [List.getElem_cons_succ] at g4);(try simp only [List.getElem_cons_zero] at g4);(try simp only [e0] at g4);(try simp only [e1] at g4);(try simp only [e2] at g4);(try simp only [e3] at g4);(try simp only [List.drop_zero] at g4);(try simp only [List.drop_succ_cons] at g4);(try simp only [List.drop_zero] at g4);(try simp only [List.take_succ_cons] at g4);(try simp only [List.take_zero] at g4)
 have g5:=hg 5 _ rfl
 obtain ⟨y5,hy5⟩:=hx 5 (by decide)
 rw [hy5] at g5
 simp only [List.getElem_toArray] at g5
 (try simp only [List.getElem_cons_succ] at g5);(try simp only [List.getElem_cons_zero] at g5);(try simp only [e0] at g5);(try simp only [e1] at g5);(try simp only [e2] at g5);(try simp only [e3] at g5);(try simp only [List.drop_zero] at g5);(try simp only [List.drop_succ_cons] at g5);(try simp only [List.drop_zero] at g5);(try simp only [List.take_succ_cons] at g5);(try simp only [List.take_zero] at g5)
 have g6:=hg 6 _ rfl
 obtain ⟨y6,hy6⟩:=hx 6 (by decide)
 rw [hy6] at g6
 simp only [List.getElem_toArray] at g6
 (try simp only [List.getElem_cons_succ] at g6);(try simp only [List.getElem_cons_zero] at g6);(try simp only [e0] at g6);(try simp only [e1] at g6);(try simp only [e2] at g6);(try simp only [e3] at g6);(try simp only [List.drop_zero] at g6);(try simp only [List.drop_succ_cons] at g6);(try simp only [List.drop_zero] at g6);(try simp only [List.take_succ_cons] at g6);(try simp only [List.take_zero] at g6)
 have g7:=hg 7 _ rfl
 obtain ⟨y7,hy7⟩:=hx 7 (by decide)
 rw [hy7] at g7
 simp only [List.getElem_toArray] at g7
 (try simp only [List.getElem_cons_succ] at g7);(try simp only [List.getElem_cons_zero] at g7);(try simp only [e0] at g7);(try simp only [e1] at g7);(try simp only [e2] at g7);(try simp only [e3] at g7);(try simp only [List.drop_zero] at g7);(try simp only [List.drop_succ_cons] at g7);(try simp only [List.drop_zero] at g7);(try simp only [List.take_succ_cons] at g7);(try simp only [List.take_zero] at g7)
 obtain ⟨n0,q0,-⟩:=DataW.trod_int Tryz.underlying3 g0
 obtain ⟨n1,q1,-⟩:=DataW.trod_int Tryz.underlying3 g1
 obtain ⟨n2,q2,-⟩:=DataW.trod_int Tryz.underlying3 g2
 obtain ⟨n3,q3,-⟩:=DataW.trod_int Tryz.underlying3 g3
 obtain ⟨n4,q4,-⟩:=DataW.trod_int Tryz.underlying3 g4
 obtain ⟨o5,z5⟩:=trod_op g5;simp only [List.cons.injEq,and_true] at z5;obtain ⟨rfl,rfl,rfl,rfl,rfl,rfl,rfl,rfl,rfl,rfl,rfl,rfl⟩:=z5
 obtain ⟨r6,z6⟩:=trod_rep g6;simp only [List.cons.injEq,and_true] at z6;obtain ⟨rfl,rfl,rfl,rfl,rfl,rfl⟩:=z6
 obtain ⟨bo,l7,bc,z7,b1,b2,b3,b4⟩:=t0m g7;simp only [List.cons.injEq,and_true] at z7;subst z7
 simp only [List.cons.injEq,and_true] at q0 q1 q2 q3 q4
 subst q0 q1 q2 q3 q4
 exact ⟨⟨n0,n1,n2,n3,n4,o5,r6,bo,l7,bc⟩,rfl,b1,by unfold maxLen at b2;exact b2,b3,b4⟩
theorem b0d {α:Type} {l:List α} {n:Nat} (h:l.length=n+1):∃ a t,l=a::t∧t.length=n:=by
 cases l with
 | nil=>simp at h
 | cons a t=>exact ⟨a,t,rfl,by simpa using h⟩
set_option maxRecDepth 20000 in
theorem list24 {α:Type} {l:List α} (h:l.length=24):∃ a0 a1 a2 a3 a4 a5 a6 a7 a8 a9 a10 a11 a12 a13 a14 a15 a16 a17 a18 a19 a20 a21 a22 a23,l=[a0,a1,a2,a3,a4,a5,a6,a7,a8,a9,a10,a11,a12,a13,a14,a15,a16,a17,a18,a19,a20,a21,a22,a23]:=by
 obtain ⟨a0,t0,rfl,h0⟩:=b0d h
 obtain ⟨a1,t1,rfl,h1⟩:=b0d h0
 obtain ⟨a2,t2,rfl,h2⟩:=b0d h1
 obtain ⟨a3,t3,rfl,h3⟩:=b0d h2
 obtain ⟨a4,t4,rfl,h4⟩:=b0d h3
 obtain ⟨a5,t5,rfl,h5⟩:=b0d h4
 obtain ⟨a6,t6,rfl,h6⟩:=b0d h5
 obtain ⟨a7,t7,rfl,h7⟩:=b0d h6
 obtain ⟨a8,t8,rfl,h8⟩:=b0d h7
 obtain ⟨a9,t9,rfl,h9⟩:=b0d h8
 obtain ⟨a10,t10,rfl,h10⟩:=b0d h9
 obtain ⟨a11,t11,rfl,h11⟩:=b0d h10
 obtain ⟨a12,t12,rfl,h12⟩:=b0d h11
 obtain ⟨a13,t13,rfl,h13⟩:=b0d h12
 obtain ⟨a14,t14,rfl,h14⟩:=b0d h13
 obtain ⟨a15,t15,rfl,h15⟩:=b0d h14
 obtain ⟨a16,t16,rfl,h16⟩:=b0d h15
 obtain ⟨a17,t17,rfl,h17⟩:=b0d h16
 obtain ⟨a18,t18,rfl,h18⟩:=b0d h17
 obtain ⟨a19,t19,rfl,h19⟩:=b0d h18
 obtain ⟨a20,t20,rfl,h20⟩:=b0d h19
 obtain ⟨a21,t21,rfl,h21⟩:=b0d h20
 obtain ⟨a22,t22,rfl,h22⟩:=b0d h21
 obtain ⟨a23,t23,rfl,h23⟩:=b0d h22
 obtain rfl:=List.length_eq_zero_iff.1 h23
 exact ⟨a0,a1,a2,a3,a4,a5,a6,a7,a8,a9,a10,a11,a12,a13,a14,a15,a16,a17,a18,a19,a20,a21,a22,a23,rfl⟩
set_option maxRecDepth 20000 in
theorem w0w {v:Value} {d:DataW H} {p:List MemPlace} (hv:∃ ao n c,v=.slice ao n c) (h:DataW.Trod enc Tryz.prog w base (fun _=>true) true 58 v d p):∃ (ao:Option Addr) (cap:Nat) (L:List Ac),v=.slice ao L.length cap∧L.length≤cap∧cap≤maxLen∧AsAt w ao L:=by
 obtain ⟨ao,n,c,rfl⟩:=hv
 obtain ⟨fuel,hf⟩:=h
 rcases open_slice Tryz.underlying58 hf with ⟨hcs,hx⟩ | ⟨a,len,cap,m,n,D,Pl,hcs,hb,hl,hm,hmm,hx,hi⟩
 ·simp only [Value.cells,List.cons.injEq,and_true] at hcs
  exact ⟨none,0,[],by rw [hcs];rfl,by simp,by unfold maxLen;omega,fun h=>absurd h (by simp)⟩
 ·have hC:Tryz.prog.cellsOf 61=24:=by kernel_rfl
  simp only [if_true] at hmm
  subst hmm
  simp only [Value.cells,List.cons.injEq,and_true] at hcs
  obtain ⟨L,hL,hR⟩:∃ L:List Ac,L.length=len∧∀ i,(hi:i<L.length)→(∀ j v,(acV L[i])[j]?=some v→w.cell? ((a.add (i * 24)).add j)=some v)∧F.Sl w L[i].bo L[i].bc L[i].bl:=by
   refine r0e (P:=fun i (z:Ac)=>(∀ j v,(acV z)[j]?=some v→w.cell? ((a.add (i * 24)).add j)=some v)∧F.Sl w z.bo z.bc z.bl) len fun i hil=>?_
   obtain ⟨cs',hc,ht'⟩:=hi i (by omega)
   rw [hC] at hc
   obtain ⟨_,hcl,hat⟩:=World.cells?_some hc
   obtain ⟨y0,y1,y2,y3,y4,y5,y6,y7,y8,y9,y10,y11,y12,y13,y14,y15,y16,y17,y18,y19,y20,y21,y22,y23,rfl⟩:=list24 hcl
   obtain ⟨z,hz,hs⟩:=trod_act ht'
   rw [hz] at hat
   refine ⟨z,fun j v hv=>?_,hs⟩
   have hj:j<24:=(List.getElem?_eq_some_iff.1 hv).1
   rw [hat j hj]
   exact hv
  refine ⟨some a,_,L,by rw [hcs,hL],by omega,hm,fun hp=>?_⟩
  obtain ⟨ab,ao,spot⟩:=a
  have h0:=(hR 0 hp).1 0 _ rfl
  have hspot:spot=none:=by simpa [Addr.add] using World.cell?_spot h0
  subst hspot
  rw [c0q,c0q] at h0
  refine ⟨ab,ao,rfl,h0u h0,fun i x hx=>?_⟩
  obtain ⟨hi,rfl⟩:=List.getElem?_eq_some_iff.1 hx
  refine ⟨fun j v hv=>?_,(hR i hi).2⟩
  have:=(hR i hi).1 j v hv
  rw [c0q,c0q] at this
  exact this
end
end G
set_option maxRecDepth 20000
open Go.RowKit
namespace G
theorem p0a (w:World):Calls Tryz.prog 18 #[.slice none 0 0,.slice none 0 0] w fun e w'=>e=.returned (aB true)∧Below w.heap.size w w':=by
 go_enter Tryz.func18,Tryz.ntmps18
 go_wp2_with fail
 go_loopw [5] (fun s5 wr=>∃ i:Nat,s5=aI aK i∧i≤0∧Hid (Below w.heap.size w wr)) (fun _ _=>0)
 case atStart=>exact ⟨0,rfl,by omega,uH (by first | exact Below.refl _ _ | exact bg)⟩
 case round =>
  obtain ⟨i,rfl,hi,Hb⟩:=hrel
  obtain rfl:i=0:=by omega
  go_wp2_with fail
  go_ret
  exact ⟨rfl,Hb.out⟩
set_option maxHeartbeats 1000000 in
theorem s0u {w:World} {b1 b2:Nat} {f t:Int} {l:List UInt8} (h1:j0k w b1 f t l) (h2:j0k w b2 f t l):Calls Tryz.prog 18 #[.slice (some ⟨b1,0,none⟩) 1 1,.slice (some ⟨b2,0,none⟩) 1 1] w fun e w'=>e=.returned (aB true)∧Below w.heap.size w w':=by
 have H1:=uH h1
 have H2:=uH h2
 clear h1 h2
 go_enter Tryz.func18,Tryz.ntmps18
 go_wp2_with fail
 go_loopw [5] (fun s5 wr=>∃ i:Nat,s5=aI aK i∧i≤1∧Hid (Below w.heap.size w wr)) (fun s5 _=>1 - (intOf s5).toNat)
 case atStart=>exact ⟨0,rfl,by omega,uH (by first | exact Below.refl _ _ | exact bg)⟩
 case round =>
  obtain ⟨i,rfl,hi,Hb⟩:=hrel
  by_cases h0:i=0
  ·subst h0
   obtain ⟨a1,k1,h1,s1⟩:=H1.out.grow Hb.out
   obtain ⟨a2,k2,h2,s2⟩:=H2.out.grow Hb.out
   have m0:wr.cell? ⟨b1,0,none⟩=some (aI aK f):=(b0b h1).1 0
   have m1:wr.cell? ⟨b1,1,none⟩=some (aI aK t):=(b0b h1).1 1
   have m2:wr.cell? ⟨b1,2,none⟩=some (.slice a1 l.length k1):=(b0b h1).1 2
   have n0:wr.cell? ⟨b2,0,none⟩=some (aI aK f):=(b0b h2).1 0
   have n1:wr.cell? ⟨b2,1,none⟩=some (aI aK t):=(b0b h2).1 1
   have n2:wr.cell? ⟨b2,2,none⟩=some (.slice a2 l.length k2):=(b0b h2).1 2
   have mb:=lt_of_block h1
   have nb:=lt_of_block h2
   have v1:=fun (k:Gr wr)=>b0c (s1.grow (a0f wr k)).at_ k1
   have v2:=fun (k:Gr wr)=>b0c (s2.grow (a0f wr k)).at_ k2
   obtain ⟨n,hn⟩:∃ n,n=l.length:=⟨_,rfl⟩
   obtain ⟨X,hX⟩:∃ X:ByteArray,X=⟨l.toArray⟩:=⟨_,rfl⟩
   rw [←hn] at m2 n2
   rw [←hn,←hX] at v1 v2
   clear h1 h2 s1 s2 hn hX
   go_wp2_with fail
   (refine grA ?_;(repeat (go_big_quiet_step (fail)));refine grN fun k=>?_)
   go_wp2_with fail
   go_roundw
   ·exact ⟨1,by go_num,by omega,uH (Hb.out.trans ((a0f wr k).mono Hb.out.size))⟩
   ·simp [intOf]
  ·obtain rfl:i=1:=by omega
   go_wp2_with fail
   go_ret
   exact ⟨rfl,Hb.out⟩
end G
set_option maxRecDepth 20000
open Go.RowKit
namespace G
theorem e0n {P:Program} {ev:Operand→Value} {o:Oper} {w:World} (ty:TypeId) (x:Operand) (ho:o.op=.load ty x) (b off:Nat) (hx:ev x=.pointer (some ⟨b,off,none⟩)) (cs:List Value) (d:TypeDesc) (hc:w.rangeAt b off cs) (hu:P.underlying ty=some d) (hd:d.isRow=true) (hi:(P.info? ty).map (·.size)=some cs.length):(execOp ev o).run P w=.ok (.value (.agg cs.toArray)) w:=by
 unfold execOp
 simp only [ho,hx,Instr.loadAt,Instr.sureAddr,Sem.run_bind,Sem.run_pure,Result.andThen_ok,run_loadVar_mid w b off ty cs d hc hu hd hi]
theorem eql_an (a:An) (w:World):(Op.equalIn 10000 79 (.agg #[aI aK a.1.kind,aI aK a.1.client,aI aK a.1.seq,aS a.1.key,aS a.1.who,aS a.1.tkey,aS a.1.twho,aI aK a.1.item,aI aK a.1.count,aI aK a.1.price,aB a.1.buy,aI aK a.1.id,aI aK a.2.err,aI aK a.2.id,aI aK a.2.i.a,aI aK a.2.i.b,aI aK a.2.i.c,aI aK a.2.i.d]) (.agg #[aI aK a.1.kind,aI aK a.1.client,aI aK a.1.seq,aS a.1.key,aS a.1.who,aS a.1.tkey,aS a.1.twho,aI aK a.1.item,aI aK a.1.count,aI aK a.1.price,aB a.1.buy,aI aK a.1.id,aI aK a.2.err,aI aK a.2.id,aI aK a.2.i.a,aI aK a.2.i.b,aI aK a.2.i.c,aI aK a.2.i.d])).run Tryz.prog w=.ok true w:=by
 have h:=l0i a.2.i a.2.i w true (by simp)
 go_simp
theorem v0y {w:World} {base:Nat} {ao:Option Addr} {cap:Nat} {A:List An} (h:(thB base ao cap A).T w):(ao=none→A=[]∧cap=0)∧∀ a,ao=some a→∃ g,a=⟨g,0,none⟩∧g<w.heap.size:=by
 have hr:=p0y h
 rcases hr.2 with ⟨hv,h0⟩ | ⟨g,c,cur,hv,hb,hh,-⟩
 ·simp only [Value.slice.injEq] at hv
  refine ⟨fun _=>⟨List.length_eq_zero_iff.1 hv.2.1,hv.2.2⟩,fun a ha=>?_⟩
  rw [hv.1] at ha
  cases ha
 ·simp only [Value.slice.injEq] at hv
  refine ⟨fun h0=>?_,fun a ha=>?_⟩
  ·rw [hv.1] at h0
   cases h0
  ·rw [hv.1] at ha
   obtain rfl:=Option.some.inj ha
   exact ⟨g,rfl,lt_of_block hh⟩
theorem anR_at {A:List An} {i:Nat} {a:An} (h:A[i]?=some a) (j:Nat) (hj:j<18):(anR A)[i * 18+j]?=(anV a)[j]?:=by
 induction A generalizing i with
 | nil=>simp at h
 | cons x A ih =>
  rw [show anR (x::A)=anV x++anR A from List.flatMap_cons ..]
  cases i with
  | zero =>
   simp only [List.getElem?_cons_zero,Option.some.injEq] at h
   subst h
   rw [List.getElem?_append_left (by show _<18;omega)]
   congr 1
   omega
  | succ i =>
   simp only [List.getElem?_cons_succ] at h
   rw [List.getElem?_append_right (by show 18≤_;omega),show (i+1) * 18+j - (anV x).length=i * 18+j from by show (i+1) * 18+j - 18=_;omega]
   exact ih h
theorem v0k {ao:Option Addr} {A:List An} {cap:Nat} {w:World} (h:(ao=none→A=[]∧cap=0)∧∀ a,ao=some a→∃ g,a=⟨g,0,none⟩∧g<w.heap.size) (hA:0<A.length):∃ g,ao=some ⟨g,0,none⟩∧g<w.heap.size:=by
 cases ao with
 | none=>rw [(h.1 rfl).1] at hA;exact absurd hA (by simp)
 | some a =>
  obtain ⟨g,rfl,hg⟩:=h.2 a rfl
  exact ⟨g,rfl,hg⟩
set_option maxHeartbeats 2000000 in
theorem r0k {w:World} {b1 b2 c1 c2:Nat} {a1 a2:Option Addr} {A:List An} (h1:(thA b1 a1 c1 A).T w) (h2:(thB b2 a2 c2 A).T w) (hA:A.length≤1000):Calls Tryz.prog 22 #[.slice a1 A.length c1,.slice a2 A.length c2] w fun e w'=>e=.returned (aB true)∧Below w.heap.size w w':=by
 have F1:=i0g h1
 have F2:=v0y h2
 have R1:Hid (∀ g,a1=some ⟨g,0,none⟩→∀ j,j<A.length * 18→w.cell? ⟨g,j,none⟩=(anR A)[j]?):=uH (fun g e j hj=>by subst e;exact (i0w h1).cellAt j hj)
 have R2:Hid (∀ g,a2=some ⟨g,0,none⟩→∀ j,j<A.length * 18→w.cell? ⟨g,j,none⟩=(anR A)[j]?):=uH (fun g e j hj=>by subst e;exact (p0y h2).cellAt j hj)
 have H1:=uH F1
 have H2:=uH F2
 clear F1 F2 h1 h2
 obtain ⟨n,hn⟩:∃ n,n=A.length:=⟨_,rfl⟩
 rw [←hn] at hA ⊢
 have Hn:=uH hn
 clear hn
 go_enter Tryz.func22,Tryz.ntmps22
 go_wp2_with fail
 go_loopw [5] (fun s5 wr=>∃ i:Nat,s5=aI aK i∧i≤n∧Hid (Below w.heap.size w wr)) (fun s5 _=>n - (intOf s5).toNat)
 case atStart=>exact ⟨0,rfl,by omega,uH (by first | exact Below.refl _ _ | exact bg)⟩
 case round =>
  obtain ⟨i,rfl,hi,Hb⟩:=hrel
  by_cases hlt:i<n
  ·have hl2:i<A.length:=by rw [←Hn.out];exact hlt
   obtain ⟨g1,e1,l1⟩:=v0k H1.out (by omega)
   obtain ⟨g2,e2,l2⟩:=v0k H2.out (by omega)
   obtain ⟨a,ha⟩:∃ a,A[i]?=some a:=⟨_,List.getElem?_eq_getElem hl2⟩
   have r1:=R1.out g1 e1
   have r2:=R2.out g2 e2
   subst e1 e2
   obtain ⟨vs,hvs⟩:∃ vs,vs=anV a:=⟨_,rfl⟩
   have hln:vs.length=18:=by rw [hvs];rfl
   have x1:wr.rangeAt g1 (i * 18) vs:=fun j v hv=>by
    have hj:j<18:=by rw [←hln];exact (List.getElem?_eq_some_iff.1 hv).1
    rw [Hb.out.cell (p:=⟨g1,i * 18+j,none⟩) l1,r1 _ (by omega),anR_at ha j hj,←hvs]
    exact hv
   have x2:wr.rangeAt g2 (i * 18) vs:=fun j v hv=>by
    have hj:j<18:=by rw [←hln];exact (List.getElem?_eq_some_iff.1 hv).1
    rw [Hb.out.cell (p:=⟨g2,i * 18+j,none⟩) l2,r2 _ (by omega),anR_at ha j hj,←hvs]
    exact hv
   have heq:∀ w,(Op.equalIn 10000 79 (.agg vs.toArray) (.agg vs.toArray)).run Tryz.prog w=.ok true w:=fun w=>by rw [hvs];exact eql_an a w
   have Heq:=uH heq
   have hltI:(i:Int)<n:=by omega
   have hi1:IntKind.i64.wrap ((i:Int)+1)=(i:Int)+1:=by rw [IntKind.wrap_i64];omega
   clear r1 r2 ha hvs heq l1 l2
   go_wp2_with fail
   have HC:Hid (wr.drew.rangeAt g1 (i * 18) vs∧wr.drew.rangeAt g2 (i * 18) vs):=uH ⟨x1,x2⟩
   clear x1 x2
   refine wp_region_noPanic ?_
   refine wp_region_held (S:=fun W=>W.rangeAt g1 (i * 18) vs∧W.rangeAt g2 (i * 18) vs) (by kernel_rfl) ?_
   change wpAnyH _ _ _ _ _ _ _ _ (World.drew _)
   (refine tkD (i:=0) (v:=.slice (some ⟨g1,0,none⟩) n c1) 17 rfl (fun w hSw=>(by clear hSw;go_simp)) HC.out ?_;(try simp only [Act.put,lA,lZ,lS]))
   (refine tkD (i:=1) (v:=aI aK i) 18 rfl (fun w hSw=>(by clear hSw;go_simp)) HC.out ?_;(try simp only [Act.put,lA,lZ,lS]))
   (refine tkD (i:=2) (v:=.pointer (some ⟨g1,i * 18,none⟩)) 19 rfl (fun w hSw=>(by clear hSw;go_simp)) HC.out ?_;(try simp only [Act.put,lA,lZ,lS]))
   (refine takeD (i:=3) (v:=.agg vs.toArray) 20 rfl rfl (by kernel_rfl) (by kernel_rfl) (by kernel_rfl) (fun _ _ _ h=>h) (Or.inl ⟨by rfl,fun w hSw=>e0n 79 _ rfl g1 _ rfl vs _ hSw.1 Tryz.underlying79 rfl (by rw [hln];kernel_rfl)⟩) HC.out ?_;(try simp only [Act.put,lA,lZ,lS]))
   (refine tkD (i:=4) (v:=.slice (some ⟨g2,0,none⟩) n c2) 21 rfl (fun w hSw=>(by clear hSw;go_simp)) HC.out ?_;(try simp only [Act.put,lA,lZ,lS]))
   (refine tkD (i:=5) (v:=aI aK i) 22 rfl (fun w hSw=>(by clear hSw;go_simp)) HC.out ?_;(try simp only [Act.put,lA,lZ,lS]))
   (refine tkD (i:=6) (v:=.pointer (some ⟨g2,i * 18,none⟩)) 23 rfl (fun w hSw=>(by clear hSw;go_simp)) HC.out ?_;(try simp only [Act.put,lA,lZ,lS]))
   (refine takeD (i:=7) (v:=.agg vs.toArray) 24 rfl rfl (by kernel_rfl) (by kernel_rfl) (by kernel_rfl) (fun _ _ _ h=>h) (Or.inl ⟨by rfl,fun w hSw=>e0n 93 _ rfl g2 _ rfl vs _ hSw.2 Tryz.underlying93 rfl (by rw [hln];kernel_rfl)⟩) HC.out ?_;(try simp only [Act.put,lA,lZ,lS]))
   have heq:=Heq.out
   (refine tkD (i:=8) (v:=aB false) 25 rfl (fun w hSw=>(by clear hSw;go_simp)) HC.out ?_;(try simp only [Act.put,lA,lZ,lS]))
   clear heq
   refine wpAnyH_done (by kernel_rfl) ?_ _
   refine NoPanic.normal ?_
   go_wp2_with fail
   go_roundw
   ·exact ⟨i+1,by go_num,by omega,uH (Hb.out.trans ((Below.refl _ _).drew.mono Hb.out.size))⟩
   ·simp [intOf];omega
  ·obtain rfl:i=n:=by omega
   go_wp2_with fail
   go_ret
   exact ⟨rfl,Hb.out⟩
end G
set_option maxRecDepth 20000
open Go.RowKit
namespace G
def HvAt (w:World) (g:Nat) (L:List Rq):Prop:=∀ (i:Nat) (o:Rq),L[i]?=some o→w.cell? ⟨g,i * 12+3,none⟩=some (aS o.key)∧w.cell? ⟨g,i * 12+4,none⟩=some (aS o.who)∧w.cell? ⟨g,i * 12+5,none⟩=some (aS o.tkey)∧w.cell? ⟨g,i * 12+6,none⟩=some (aS o.twho)
set_option maxHeartbeats 2000000 in
theorem x0r {w:World} {g:Nat} {L:List Rq} {ao:Option Addr} (c:Nat) (h:HvAt w g L) (hg:0<L.length→ao=some ⟨g,0,none⟩∧g<w.heap.size) (hL:L.length≤150):Calls Tryz.prog 15 #[.slice ao L.length c] w fun e w'=>(e=.returned (aB true)∨e=.returned (aB false))∧w'=w:=by
 have H:=uH h
 have HG:=uH hg
 clear h hg
 obtain ⟨n,hn⟩:∃ n,n=L.length:=⟨_,rfl⟩
 rw [←hn] at hL ⊢
 have Hn:=uH hn
 clear hn
 have hn0:¬(150:Int)<n:=by omega
 go_enter Tryz.func15,Tryz.ntmps15
 go_wp2_with fail
 go_loopw [3] (fun s3 wr=>∃ i:Nat,s3=aI aK i∧i≤n∧Hid (wr=w)) (fun s3 _=>n - (intOf s3).toNat)
 case atStart=>exact ⟨0,rfl,by omega,uH rfl⟩
 case round =>
  obtain ⟨i,rfl,hi,Hw⟩:=hrel
  by_cases hlt:i<n
  ·have hl2:i<L.length:=by rw [←Hn.out];exact hlt
   obtain ⟨rfl,hgl⟩:=HG.out (by omega)
   obtain ⟨o,ho⟩:∃ o,L[i]?=some o:=⟨_,List.getElem?_eq_getElem hl2⟩
   obtain ⟨k3,k4,k5,k6⟩:=H.out i o ho
   rw [←Hw.out] at k3 k4 k5 k6 hgl
   have hltI:(i:Int)<n:=by omega
   have hi1:IntKind.i64.wrap ((i:Int)+1)=(i:Int)+1:=by rw [IntKind.wrap_i64];omega
   clear ho hl2
   rcases bE (decide ((60:Int)<o.key.size)) with t1 | t1
   ·(go_wp2_with fail);go_ret;exact ⟨.inl rfl,Hw.out⟩
   rcases bE (decide ((60:Int)<o.who.size)) with t2 | t2
   ·(go_wp2_with fail);go_ret;exact ⟨.inl rfl,Hw.out⟩
   rcases bE (decide ((60:Int)<o.tkey.size)) with t3 | t3
   ·(go_wp2_with fail);go_ret;exact ⟨.inl rfl,Hw.out⟩
   rcases bE (decide ((60:Int)<o.twho.size)) with t4 | t4
   ·(go_wp2_with fail);go_ret;exact ⟨.inl rfl,Hw.out⟩
   go_wp2_with fail
   go_roundw
   ·exact ⟨i+1,by go_num,by omega,Hw⟩
   ·simp [intOf];omega
  ·obtain rfl:i=n:=by omega
   go_wp2_with fail
   go_ret
   exact ⟨.inr rfl,Hw.out⟩
end G
end Go.Proofs.YtogamdaomdoapaaGreat