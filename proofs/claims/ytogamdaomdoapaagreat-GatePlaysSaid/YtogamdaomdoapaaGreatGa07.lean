/- Texts put together: WBx, WEq, WAn, WPl, ByP, Zn. -/
import Derived.Test.YtogamdaomdoapaaGreatGa01
import Derived.Test.YtogamdaomdoapaaGreatGa02
import Derived.Test.YtogamdaomdoapaaGreatGa03
import Derived.Test.YtogamdaomdoapaaGreatGa04
import Derived.Test.YtogamdaomdoapaaGreatGa05
import Derived.Test.YtogamdaomdoapaaGreatGa06
import Derived.Laws.CopyOwn
import Derived.Laws.Rows
import Derived.Lib.SlBytesConst
namespace Go.Proofs.YtogamdaomdoapaaGreat
open Go.Value renaming int→aI,string→aS,bool→aB
open Go.IntKind renaming i64→aK
open Go.Lib renaming hid→uH
set_option maxRecDepth 20000
open Go.RowKit
def wdV (d:Wd) (ms ds:Value):Array Value:=#[aI aK d.kind,aI aK d.zone,aI aK d.epoch,aI aK d.index,aI aK d.size,aI aK d.off,aI aK d.host,aI aK d.err,aS d.sf,aS d.st,aI aK d.op.kind,aI aK d.op.client,aI aK d.op.seq,aS d.op.key,aS d.op.who,aS d.op.tkey,aS d.op.twho,aI aK d.op.item,aI aK d.op.count,aI aK d.op.price,aB d.op.buy,aI aK d.op.id,aI aK d.rep.err,aI aK d.rep.id,aI aK d.rep.i.a,aI aK d.rep.i.b,aI aK d.rep.i.c,aI aK d.rep.i.d,aI aK d.mp.ver,aI aK d.mp.next,ms,aI aK d.ch.kind,aI aK d.ch.zone,aI aK d.ch.epoch,aI aK d.ch.tt,aS d.ch.key,ds]
structure WBox (w:World) (n:Nat) (d:Wd) (ms ds:Value):Prop where
 c0:w.cell? ⟨n,0,none⟩=some (aI aK d.kind)
 c1:w.cell? ⟨n,1,none⟩=some (aI aK d.zone)
 c2:w.cell? ⟨n,2,none⟩=some (aI aK d.epoch)
 c3:w.cell? ⟨n,3,none⟩=some (aI aK d.index)
 c4:w.cell? ⟨n,4,none⟩=some (aI aK d.size)
 c5:w.cell? ⟨n,5,none⟩=some (aI aK d.off)
 c6:w.cell? ⟨n,6,none⟩=some (aI aK d.host)
 c7:w.cell? ⟨n,7,none⟩=some (aI aK d.err)
 c8:w.cell? ⟨n,8,none⟩=some (aS d.sf)
 c9:w.cell? ⟨n,9,none⟩=some (aS d.st)
 c10:w.cell? ⟨n,10,none⟩=some (aI aK d.op.kind)
 c11:w.cell? ⟨n,11,none⟩=some (aI aK d.op.client)
 c12:w.cell? ⟨n,12,none⟩=some (aI aK d.op.seq)
 c13:w.cell? ⟨n,13,none⟩=some (aS d.op.key)
 c14:w.cell? ⟨n,14,none⟩=some (aS d.op.who)
 c15:w.cell? ⟨n,15,none⟩=some (aS d.op.tkey)
 c16:w.cell? ⟨n,16,none⟩=some (aS d.op.twho)
 c17:w.cell? ⟨n,17,none⟩=some (aI aK d.op.item)
 c18:w.cell? ⟨n,18,none⟩=some (aI aK d.op.count)
 c19:w.cell? ⟨n,19,none⟩=some (aI aK d.op.price)
 c20:w.cell? ⟨n,20,none⟩=some (aB d.op.buy)
 c21:w.cell? ⟨n,21,none⟩=some (aI aK d.op.id)
 c22:w.cell? ⟨n,22,none⟩=some (aI aK d.rep.err)
 c23:w.cell? ⟨n,23,none⟩=some (aI aK d.rep.id)
 c24:w.cell? ⟨n,24,none⟩=some (aI aK d.rep.i.a)
 c25:w.cell? ⟨n,25,none⟩=some (aI aK d.rep.i.b)
 c26:w.cell? ⟨n,26,none⟩=some (aI aK d.rep.i.c)
 c27:w.cell? ⟨n,27,none⟩=some (aI aK d.rep.i.d)
 c28:w.cell? ⟨n,28,none⟩=some (aI aK d.mp.ver)
 c29:w.cell? ⟨n,29,none⟩=some (aI aK d.mp.next)
 c30:w.cell? ⟨n,30,none⟩=some (ms)
 c31:w.cell? ⟨n,31,none⟩=some (aI aK d.ch.kind)
 c32:w.cell? ⟨n,32,none⟩=some (aI aK d.ch.zone)
 c33:w.cell? ⟨n,33,none⟩=some (aI aK d.ch.epoch)
 c34:w.cell? ⟨n,34,none⟩=some (aI aK d.ch.tt)
 c35:w.cell? ⟨n,35,none⟩=some (aS d.ch.key)
 c36:w.cell? ⟨n,36,none⟩=some (ds)
theorem wbox {w:World} {n:Nat} {d:Wd} {ms ds:Value} {t:TypeId} {fr:Nat × Nat} (h:w.heap[n]?=some (.cells (wdV d ms ds) t fr)):WBox w n d ms ds:=by
 have e:=fun k=>cell_of_row w n k _ _ _ h
 constructor
 all_goals (rw [e];rfl)
theorem m0s {d:Wd} {ms ds:Value} {V:Array Value} (hV:V=wdV d ms ds) (w:World):Calls Tryz.prog 112 #[.agg V] w fun e w'=>e=.returned (aB (e0j d))∧Below w.heap.size w w':=by
 subst hV
 exact t0j d ms ds w
set_option maxRecDepth 20000
open Go.RowKit
def plV (p:Pl):Array Value:=#[aI aK p.zone,aI aK p.epoch,aI aK p.index,aI aK p.size,aI aK p.off,aI aK p.host,aI aK p.err,aS p.sf,aS p.st,aI aK p.op.kind,aI aK p.op.client,aI aK p.op.seq,aS p.op.key,aS p.op.who,aS p.op.tkey,aS p.op.twho,aI aK p.op.item,aI aK p.op.count,aI aK p.op.price,aB p.op.buy,aI aK p.op.id,aI aK p.rep.err,aI aK p.rep.id,aI aK p.rep.i.a,aI aK p.rep.i.b,aI aK p.rep.i.c,aI aK p.rep.i.d,aI aK p.ch.kind,aI aK p.ch.zone,aI aK p.ch.epoch,aI aK p.ch.tt,aS p.ch.key]
theorem n0l {c:Prop} [Decidable c] {X:Result Bool} {w:World} {b:Bool} (h:X=.ok b w):(if c then X else .ok false w)=.ok (decide c&&b) w:=by
 by_cases hc:c
 ·rw [if_pos hc,h,decide_eq_true hc,Bool.true_and]
 ·rw [if_neg hc,decide_eq_false hc,Bool.false_and]
theorem l0i (a b:It) (w:World) (r:Bool) (hr:decide (a.a=b.a∧a.b=b.b∧a.c=b.c∧a.d=b.d)=r):(Op.equalIn 9998 39 (.agg #[aI aK a.a,aI aK a.b,aI aK a.c,aI aK a.d]) (.agg #[aI aK b.a,aI aK b.b,aI aK b.c,aI aK b.d])).run Tryz.prog w=.ok r w:=by
 subst hr
 have u3:=Tryz.underlying3
 have a3:=Tryz.isAgg3
 have z3:=Tryz.sizeOf3
 rw [show (9998:Nat)=9998 - 1+1 from rfl,Op.equalIn]
 simp only [Sem.run_bind,run_underlying Tryz.underlying39,Result.andThen_ok]
 simp only [Std.Legacy.Range.forIn_eq_forIn_range',Std.Legacy.Range.size,Nat.sub_zero,Nat.add_sub_cancel,Nat.div_one,List.range'_succ,List.range'_zero,List.forIn_cons,List.forIn_nil]
 go_simp
 by_cases h1:a.a=b.a
 ·by_cases h2:a.b=b.b
  ·by_cases h3:a.c=b.c
   ·by_cases h4:a.d=b.d
    ·simp [h1,h2,h3,h4]
    ·simp [h1,h2,h3,h4]
   ·simp [h1,h2,h3]
  ·simp [h1,h2]
 ·simp [h1]
theorem q0w (a b:It) (w:World) (r:Bool) (hr:decide (a.a=b.a∧a.b=b.b∧a.c=b.c∧a.d=b.d)=r):(Op.equalIn 9999 39 (.agg #[aI aK a.a,aI aK a.b,aI aK a.c,aI aK a.d]) (.agg #[aI aK b.a,aI aK b.b,aI aK b.c,aI aK b.d])).run Tryz.prog w=.ok r w:=by
 subst hr
 have u3:=Tryz.underlying3
 have a3:=Tryz.isAgg3
 have z3:=Tryz.sizeOf3
 rw [show (9999:Nat)=9999 - 1+1 from rfl,Op.equalIn]
 simp only [Sem.run_bind,run_underlying Tryz.underlying39,Result.andThen_ok]
 simp only [Std.Legacy.Range.forIn_eq_forIn_range',Std.Legacy.Range.size,Nat.sub_zero,Nat.add_sub_cancel,Nat.div_one,List.range'_succ,List.range'_zero,List.forIn_cons,List.forIn_nil]
 go_simp
 by_cases h1:a.a=b.a
 ·by_cases h2:a.b=b.b
  ·by_cases h3:a.c=b.c
   ·by_cases h4:a.d=b.d
    ·simp [h1,h2,h3,h4]
    ·simp [h1,h2,h3,h4]
   ·simp [h1,h2,h3]
  ·simp [h1,h2]
 ·simp [h1]
theorem q0v (a b:Rp) (w:World) (r:Bool) (hr:eqRp a b=r):(Op.equalIn 10000 41 (.agg #[aI aK a.err,aI aK a.id,aI aK a.i.a,aI aK a.i.b,aI aK a.i.c,aI aK a.i.d]) (.agg #[aI aK b.err,aI aK b.id,aI aK b.i.a,aI aK b.i.b,aI aK b.i.c,aI aK b.i.d])).run Tryz.prog w=.ok r w:=by
 subst hr
 obtain ⟨q,hq⟩:∃ q,decide (a.i.a=b.i.a∧a.i.b=b.i.b∧a.i.c=b.i.c∧a.i.d=b.i.d)=q:=⟨_,rfl⟩
 have hit:=q0w a.i b.i w q hq
 go_simp
 unfold eqRp
 cases q with
 | true =>
  simp only [Bool.true_eq_false,if_false]
  refine Eq.trans (by (repeat apply n0l);rfl) ?_
  congr 1
  rw [decide_eq_true_eq] at hq
  rw [Bool.eq_iff_iff]
  simp only [Bool.and_eq_true,decide_eq_true_eq,Bool.and_true]
  grind
 | false =>
  simp only [if_true]
  refine Eq.trans (by (repeat apply n0l);rfl) ?_
  congr 1
  rw [decide_eq_false_iff_not] at hq
  rw [Bool.eq_iff_iff]
  simp only [decide_eq_true_eq,Bool.and_false,Bool.false_eq_true,false_iff]
  grind
set_option maxHeartbeats 1000000 in
theorem eql_pl (a b:Pl) (w:World) (r:Bool) (hr:eqPl a b=r):(Op.equalIn 10000 173 (.agg (plV a)) (.agg (plV b))).run Tryz.prog w=.ok r w:=by
 subst hr
 obtain ⟨q,hq⟩:∃ q,decide (a.rep.i.a=b.rep.i.a∧a.rep.i.b=b.rep.i.b∧a.rep.i.c=b.rep.i.c∧a.rep.i.d=b.rep.i.d)=q:=⟨_,rfl⟩
 have hit:=l0i a.rep.i b.rep.i w q hq
 unfold plV
 go_simp
 cases q with
 | true =>
  simp only [Bool.true_eq_false,if_false]
  refine Eq.trans (by (repeat apply n0l);rfl) ?_
  congr 1
  rw [decide_eq_true_eq] at hq
  unfold eqPl eqR eqRp eqCh
  rw [Bool.eq_iff_iff]
  simp only [Bool.and_eq_true,decide_eq_true_eq,Bool.and_true]
  grind
 | false =>
  simp only [if_true]
  refine Eq.trans (by (repeat apply n0l);rfl) ?_
  congr 1
  rw [decide_eq_false_iff_not] at hq
  unfold eqPl eqR eqRp eqCh
  rw [Bool.eq_iff_iff]
  simp only [Bool.and_eq_true,decide_eq_true_eq,Bool.and_false,Bool.false_eq_true,false_iff]
  grind
set_option maxRecDepth 20000
open Go.RowKit
set_option maxHeartbeats 4000000 in
theorem u0h {d:Wd} {ms ds:Value} {V:Array Value} (hV:V=wdV d ms ds) (dl:Option Addr) (dc:Nat) (hds:ds=.slice dl d.data.length dc) (w:World) (hd:d.data.length≤9223372036854775807):Calls Tryz.prog 111 #[.agg V] w fun e w'=>e=.returned (aB (u0s d))∧Below w.heap.size w w':=by
 obtain ⟨r,hr⟩:∃ r,r=u0s d:=⟨_,rfl⟩
 obtain ⟨z,hz⟩:∃ z,z=e0j d:=⟨_,rfl⟩
 have Hzo:=uH (fun w=>m0s hV w)
 have hs:V.size=37:=by rw [hV];rfl
 have HV:=uH hV
 obtain ⟨n,hn⟩:∃ n,n=d.data.length:=⟨_,rfl⟩
 rw [←hn] at hds hd
 rw [←hz] at Hzo
 rw [←hr]
 have Hr:Hid (r=(z&&decide (1≤d.size∧d.size≤524288∧0≤d.off∧d.off≤d.size∧(n:Int)≤d.size - d.off∧(n:Int)≤512)&&isB d.sf d.st)):=uH (by rw [hr,hz,hn];rfl)
 clear hr hz hn hV
 go_enter Tryz.func111,Tryz.ntmps111
 ((refine a0a fun C HC=>?_);(go_wp2_with fail);(refine a0d fun wa hwa=>?_;have wa_s0:=sg w.heap.size hwa;have wa_b:Below w.heap.size w wa:=(by rw [hwa];exact bg);have wa_bh:wa.heap[w.heap.size]?=some (.cells V 85 (0,0)):=(by rw [hwa];exact heap_alloc_new w _);clear hwa);(obtain ⟨c0,c1,c2,c3,c4,c5,c6,c7,c8,c9,c10,c11,c12,c13,c14,c15,c16,c17,c18,c19,c20,c21,c22,c23,c24,c25,c26,c27,c28,c29,c30,c31,c32,c33,c34,c35,c36⟩:=wbox (show wa.heap[w.heap.size]?=some (.cells (wdV d ms ds) 85 (0,0)) from (by rw [←HV.out];exact wa_bh)));(have hC:=HC.out);clear HC;subst hC)
 subst hds
 refine wp_seq ?_
 refine wp_region_lit ?_
 (refine wpList_load_row rfl 85 _ rfl w.heap.size rfl _ _ _ _ wa_bh Tryz.underlying85 rfl (by rw [hs];kernel_rfl) ?_)
 go_wp2_with fail
 refine (Hzo.out _).mono ?_
 (rintro e w1 ⟨rfl,w1_h⟩;obtain ⟨w1_hc,w1_hf⟩:=a0w w1_h;have w1_z:=w1_h.size;have w1_b:=wa_b.trans (w1_h.mono (by have:=wa_b.size;omega));have w1_le:=w1_b.size;have w1_s0:w.heap.size<w1.heap.size:=(by omega);clear w1_h)
 cases z with
 | false =>
  go_wp2_with fail
  go_ret
  exact ⟨by rw [Hr.out];rfl,w1_b⟩
 | true =>
  go_wp2_with fail
  all_goals try (go_ret;refine ⟨?_,w1_b⟩;rw [Hr.out];congr 2;simp;omega)
  refine (g0g _ _ _).mono ?_
  rintro e w2 ⟨rfl,h2⟩
  go_wp2_with fail
  go_ret
  refine ⟨?_,w1_b.trans (h2.mono w1_b.size)⟩
  rw [Hr.out,decide_eq_true (by refine ⟨?_,?_,?_,?_,?_,?_⟩<;>omega)]
  rfl
theorem encrep_e (r:Rp) (w:World) (m:Bool) (hm:mayR r=m):Calls Tryz.prog 118 #[.agg #[aI aK r.err,aI aK r.id,aI aK r.i.a,aI aK r.i.b,aI aK r.i.c,aI aK r.i.d]] w fun e w'=>Below w.heap.size w w'∧∃ v,∃ ev:Int,e=.returned (.tuple #[v,aI aK ev])∧(ev==0)=m:=by
 cases m with
 | true =>
  refine (m0o r w hm).mono ?_
  rintro e w' ⟨ao,cap,rfl,-,hb⟩
  exact ⟨hb,_,_,rfl,rfl⟩
 | false =>
  refine (y0e r w hm).mono ?_
  rintro e w' ⟨rfl,hb⟩
  exact ⟨hb,_,_,rfl,rfl⟩
set_option maxHeartbeats 4000000 in
theorem p0h {d:Wd} {ms ds:Value} {V:Array Value} (hV:V=wdV d ms ds) (w:World):Calls Tryz.prog 110 #[.agg V] w fun e w'=>e=.returned (aB (ansW d))∧Below w.heap.size w w':=by
 have hs:V.size=37:=by rw [hV];rfl
 have HV:=uH hV
 clear hV
 obtain ⟨r,hr⟩:∃ r,r=ansW d:=⟨_,rfl⟩
 rw [←hr]
 obtain ⟨q,hq⟩:∃ q,q=eqR d.op (n0p d.op):=⟨_,rfl⟩
 obtain ⟨h,hh⟩:∃ h,h=numW d.host:=⟨_,rfl⟩
 obtain ⟨m,hm⟩:∃ m,m=mayR d.rep:=⟨_,rfl⟩
 obtain ⟨z,hz⟩:∃ z,z=eqRp d.rep zRp:=⟨_,rfl⟩
 have heq1:=fun w=>eql_api.Op d.op (n0p d.op) w q hq.symm
 have heq2:=fun w=>q0v d.rep zRp w z hz.symm
 have Hnum:=uH (fun w=>s0y d.host w)
 have Henc:=uH (fun w=>encrep_e d.rep w m hm.symm)
 rw [←hh] at Hnum
 have Hr:Hid (r=(q&&decide (1≤d.op.kind∧d.op.kind≤7∧1≤d.op.client∧d.op.client≤1048576∧1≤d.op.seq∧d.op.seq≤1099511627776∧0≤d.err∧d.err≤19)&&h&&m&&(decide (d.err=0) || z))):=uH (by rw [hr,hq,hh,hm,hz];rfl)
 simp only [n0p,rq0] at heq1
 simp only [zRp] at heq2
 clear hr hq hh hm hz
 go_enter Tryz.func110,Tryz.ntmps110
 ((refine a0a fun C HC=>?_);(go_wp2_with fail);(refine a0d fun wa hwa=>?_;have wa_s0:=sg w.heap.size hwa;have wa_b:Below w.heap.size w wa:=(by rw [hwa];exact bg);have wa_bh:wa.heap[w.heap.size]?=some (.cells V 85 (0,0)):=(by rw [hwa];exact heap_alloc_new w _);clear hwa);(obtain ⟨c0,c1,c2,c3,c4,c5,c6,c7,c8,c9,c10,c11,c12,c13,c14,c15,c16,c17,c18,c19,c20,c21,c22,c23,c24,c25,c26,c27,c28,c29,c30,c31,c32,c33,c34,c35,c36⟩:=wbox (show wa.heap[w.heap.size]?=some (.cells (wdV d ms ds) 85 (0,0)) from (by rw [←HV.out];exact wa_bh)));(have hC:=HC.out);clear HC;subst hC)
 refine a0a fun C2 HC2=>?_
 go_wp2_with fail
 refine (Henc.out _).mono ?_
 rintro e w1 ⟨w1_h,v,ev,rfl,hev⟩
 have Hev:=uH hev
 clear hev
 ((have w1_bh:=(w1_h.block _ wa_s0).trans wa_bh);(have w1_s0:w.heap.size<w1.heap.size:=Nat.lt_of_lt_of_le wa_s0 w1_h.size);(have w1_b:=wa_b.trans (w1_h.mono wa_b.size));(clear c0 c1 c2 c3 c4 c5 c6 c7 c8 c9 c10 c11 c12 c13 c14 c15 c16 c17 c18 c19 c20 c21 c22 c23 c24 c25 c26 c27 c28 c29 c30 c31 c32 c33 c34 c35 c36);(obtain ⟨c0,c1,c2,c3,c4,c5,c6,c7,c8,c9,c10,c11,c12,c13,c14,c15,c16,c17,c18,c19,c20,c21,c22,c23,c24,c25,c26,c27,c28,c29,c30,c31,c32,c33,c34,c35,c36⟩:=wbox (show w1.heap[w.heap.size]?=some (.cells (wdV d ms ds) 85 (0,0)) from (by rw [←HV.out];exact w1_bh)));clear w1_h)
 clear wa_bh
 go_wp2_with fail
 (have hC:=HC2.out);clear HC2;subst hC
 refine a0a fun C3 HC3=>?_
 go_wp2_with fail
 refine a0d fun w2 hw2=>?_
 have w2_h:Below w1.heap.size w1 w2:=by rw [hw2];exact (Below.refl _ _).alloc (Nat.le_refl _) _
 have w2_n:w2.heap[w1.heap.size]?=some _:=(by rw [hw2];exact heap_alloc_new w1 _)
 have b0:=cell_of_row w2 w1.heap.size 0 _ _ _ w2_n
 have b1:=cell_of_row w2 w1.heap.size 1 _ _ _ w2_n
 have b2:=cell_of_row w2 w1.heap.size 2 _ _ _ w2_n
 have b3:=cell_of_row w2 w1.heap.size 3 _ _ _ w2_n
 have b4:=cell_of_row w2 w1.heap.size 4 _ _ _ w2_n
 have b5:=cell_of_row w2 w1.heap.size 5 _ _ _ w2_n
 have b6:=cell_of_row w2 w1.heap.size 6 _ _ _ w2_n
 have b7:=cell_of_row w2 w1.heap.size 7 _ _ _ w2_n
 have b8:=cell_of_row w2 w1.heap.size 8 _ _ _ w2_n
 have b9:=cell_of_row w2 w1.heap.size 9 _ _ _ w2_n
 have b10:=cell_of_row w2 w1.heap.size 10 _ _ _ w2_n
 have b11:=cell_of_row w2 w1.heap.size 11 _ _ _ w2_n
 ((have w2_bh:=(w2_h.block _ w1_s0).trans w1_bh);(have w2_s0:w.heap.size<w2.heap.size:=Nat.lt_of_lt_of_le w1_s0 w2_h.size);(have w2_b:=w1_b.trans (w2_h.mono w1_b.size));(clear c0 c1 c2 c3 c4 c5 c6 c7 c8 c9 c10 c11 c12 c13 c14 c15 c16 c17 c18 c19 c20 c21 c22 c23 c24 c25 c26 c27 c28 c29 c30 c31 c32 c33 c34 c35 c36);(obtain ⟨c0,c1,c2,c3,c4,c5,c6,c7,c8,c9,c10,c11,c12,c13,c14,c15,c16,c17,c18,c19,c20,c21,c22,c23,c24,c25,c26,c27,c28,c29,c30,c31,c32,c33,c34,c35,c36⟩:=wbox (show w2.heap[w.heap.size]?=some (.cells (wdV d ms ds) 85 (0,0)) from (by rw [←HV.out];exact w2_bh)));clear w2_h)
 clear w1_bh w2_n hw2
 (have hC:=HC3.out);clear HC3;subst hC
 clear c0 c1 c2 c3 c4 c5 c8 c9 c28 c29 c30 c31 c32 c33 c34 c35 c36 w2_bh w2_s0
 have he0:e0=⟨#[]⟩:=rfl
 rw [he0] at heq1
 clear he0
 refine wp_seq ?_
 refine wp_region_lit ?_
 refine a0s 4 fun L HL=>?_
 simp only [List.append_eq,List.cons_append,List.nil_append,List.take_succ_cons,List.take_zero]
 go_wp2_with fail
 clear heq1 c10 c11 c12 c13 c14 c15 c16 c17 c18 c19 c20 c21 b3 b4 b5 b6 b7 b8 b9 b10 b11
 generalize Value.agg #[aI aK d.op.kind,aI aK d.op.client,aI aK d.op.seq,aS d.op.key,aS d.op.who,aS d.op.tkey,aS d.op.twho,aI aK d.op.item,aI aK d.op.count,aI aK d.op.price,aB d.op.buy,aI aK d.op.id]=j1
 generalize Value.agg #[aI aK d.rep.err,aI aK d.rep.id,aI aK d.rep.i.a,aI aK d.rep.i.b,aI aK d.rep.i.c,aI aK d.rep.i.d]=j2
 (have hL:=HL.out);clear HL;subst hL
 simp only [List.append_eq,List.cons_append,List.nil_append,List.drop_succ_cons,List.drop_zero]
 have hev:=Hev.out
 cases q with
 | false =>
  go_wp2_with fail
  go_ret
  exact ⟨by rw [Hr.out];rfl,w2_b⟩
 | true =>
  cases h with
  | false =>
   go_wp2_with fail
   all_goals try (go_ret;refine ⟨?_,w2_b⟩;rw [Hr.out,decide_eq_false (by omega)];rfl)
   refine (Hnum.out _).mono ?_
   rintro e w' ⟨rfl,rfl⟩
   go_wp2_with fail
   go_ret
   refine ⟨?_,w2_b⟩
   rw [Hr.out,decide_eq_true (by refine ⟨?_,?_,?_,?_,?_,?_,?_,?_⟩<;>omega)]
   rfl
  | true =>
   go_wp2_with fail
   all_goals try (go_ret;refine ⟨?_,w2_b⟩;rw [Hr.out,decide_eq_false (by omega)];rfl)
   refine (Hnum.out _).mono ?_
   rintro e w' ⟨rfl,rfl⟩
   have hm8:Hid (1≤d.op.kind∧d.op.kind≤7∧1≤d.op.client∧d.op.client≤1048576∧1≤d.op.seq∧d.op.seq≤1099511627776∧0≤d.err∧d.err≤19):=uH (by refine ⟨?_,?_,?_,?_,?_,?_,?_,?_⟩<;>omega)
   cases m with
   | false =>
    go_wp2_with fail
    go_ret
    refine ⟨?_,w2_b⟩
    rw [Hr.out,decide_eq_true hm8.out]
    rfl
   | true =>
    by_cases hz0:d.err=0
    ·have hz1:(d.err==0)=true:=by rw [hz0];rfl
     go_wp2_with fail
     go_ret
     refine ⟨?_,w2_b⟩
     rw [Hr.out,decide_eq_true hm8.out,decide_eq_true hz0]
     rfl
    ·have hz1:(d.err==0)=false:=by rw [beq_eq_false_iff_ne];exact hz0
     cases z with
     | false =>
      go_wp2_with fail
      go_ret
      refine ⟨?_,w2_b⟩
      rw [Hr.out,decide_eq_true hm8.out,decide_eq_false hz0]
      rfl
     | true =>
      go_wp2_with fail
      go_ret
      refine ⟨?_,w2_b⟩
      rw [Hr.out,decide_eq_true hm8.out,decide_eq_false hz0]
      rfl
set_option maxRecDepth 20000
open Go.RowKit
set_option maxHeartbeats 4000000 in
theorem w0q (d:Wd) (ms ds:Value) (w:World):Calls Tryz.prog 113 #[.agg #[aI aK d.kind,aI aK d.zone,aI aK d.epoch,aI aK d.index,aI aK d.size,aI aK d.off,aI aK d.host,aI aK d.err,aS d.sf,aS d.st,aI aK d.op.kind,aI aK d.op.client,aI aK d.op.seq,aS d.op.key,aS d.op.who,aS d.op.tkey,aS d.op.twho,aI aK d.op.item,aI aK d.op.count,aI aK d.op.price,aB d.op.buy,aI aK d.op.id,aI aK d.rep.err,aI aK d.rep.id,aI aK d.rep.i.a,aI aK d.rep.i.b,aI aK d.rep.i.c,aI aK d.rep.i.d,aI aK d.mp.ver,aI aK d.mp.next,ms,aI aK d.ch.kind,aI aK d.ch.zone,aI aK d.ch.epoch,aI aK d.ch.tt,aS d.ch.key,ds]] w fun e w'=>e=.returned (.agg #[aI aK d.zone,aI aK d.epoch,aI aK d.index,aI aK d.size,aI aK d.off,aI aK d.host,aI aK d.err,aS d.sf,aS d.st,aI aK d.op.kind,aI aK d.op.client,aI aK d.op.seq,aS d.op.key,aS d.op.who,aS d.op.tkey,aS d.op.twho,aI aK d.op.item,aI aK d.op.count,aI aK d.op.price,aB d.op.buy,aI aK d.op.id,aI aK d.rep.err,aI aK d.rep.id,aI aK d.rep.i.a,aI aK d.rep.i.b,aI aK d.rep.i.c,aI aK d.rep.i.d,aI aK d.ch.kind,aI aK d.ch.zone,aI aK d.ch.epoch,aI aK d.ch.tt,aS d.ch.key])∧Below w.heap.size w w':=by
 go_enter Tryz.func113,Tryz.ntmps113
 refine d0m fun R HR=>?_
 refine a0a fun C HC=>?_
 go_wp2_with fail
 (refine a0d fun wa hwa=>?_;have wa_s0:=sg w.heap.size hwa;have wa_s1:=sg (w.heap.size+1) hwa;obtain ⟨wa_c0,wa_c1,wa_c2,wa_c3,wa_c4,wa_c5,wa_c6,wa_c7,wa_c8,wa_c9,wa_c10,wa_c11⟩:=kz12 hwa w.heap.size (aI aK d.kind) (aI aK d.zone) (aI aK d.epoch) (aI aK d.index) (aI aK d.size) (aI aK d.off) (aI aK d.host) (aI aK d.err) (aS d.sf) (aS d.st) (aI aK d.op.kind) (aI aK d.op.client);obtain ⟨wa_c12,wa_c13,wa_c14,wa_c15,wa_c16,wa_c17,wa_c18,wa_c19,wa_c20,wa_c21,wa_c22,wa_c23⟩:=kb12 hwa w.heap.size 12 (aI aK d.op.seq) 13 (aS d.op.key) 14 (aS d.op.who) 15 (aS d.op.tkey) 16 (aS d.op.twho) 17 (aI aK d.op.item) 18 (aI aK d.op.count) 19 (aI aK d.op.price) 20 (aB d.op.buy) 21 (aI aK d.op.id) 22 (aI aK d.rep.err) 23 (aI aK d.rep.id);obtain ⟨wa_c24,wa_c25,wa_c26,wa_c27,wa_c28,wa_c29,wa_c30,wa_c31,wa_c32,wa_c33,wa_c34,wa_c35⟩:=kb12 hwa w.heap.size 24 (aI aK d.rep.i.a) 25 (aI aK d.rep.i.b) 26 (aI aK d.rep.i.c) 27 (aI aK d.rep.i.d) 28 (aI aK d.mp.ver) 29 (aI aK d.mp.next) 30 ms 31 (aI aK d.ch.kind) 32 (aI aK d.ch.zone) 33 (aI aK d.ch.epoch) 34 (aI aK d.ch.tt) 35 (aS d.ch.key);obtain wa_c36:=kk1 hwa w.heap.size 36 ds;have wa_b:Below w.heap.size w wa:=(by rw [hwa];exact bg);have wa_h:wa.heap[w.heap.size+1]?=some (.cells #[aI aK 0,aI aK 0,aI aK 0,aI aK 0,aI aK 0,aI aK 0,aI aK 0,aS ⟨#[]⟩,aS ⟨#[]⟩,aI aK 0,aI aK 0,aI aK 0,aS ⟨#[]⟩,aS ⟨#[]⟩,aS ⟨#[]⟩,aS ⟨#[]⟩,aI aK 0,aI aK 0,aI aK 0,aB false,aI aK 0,aI aK 0,aI aK 0,aI aK 0,aI aK 0,aI aK 0,aI aK 0,aI aK 0,aI aK 0,aI aK 0,aI aK 0,aS ⟨#[]⟩] 173 (0,0)):=(by rw [hwa];exact heap_alloc2_new w _ _);clear hwa)
 (have hC:=HC.out);clear HC;subst hC
 refine wp_seq ?_
 refine wp_region_lit ?_
 refine a0s 22 fun L HL=>?_
 simp only [List.take_succ_cons,List.take_zero,List.cons_append,List.nil_append]
 go_wp2_with fail
 (have hL:=HL.out);clear HL;subst hL
 simp only [List.drop_succ_cons,List.drop_zero]
 refine a0s 1 fun L HL=>?_
 simp only [List.take_succ_cons,List.take_zero,List.cons_append,List.nil_append]
 go_wp2_with fail
 (have hL:=HL.out);clear HL;subst hL
 simp only [List.drop_succ_cons,List.drop_zero]
 refine wpList_store_row rfl 173 _ _ rfl (w.heap.size+1) #[aI aK d.zone,aI aK d.epoch,aI aK d.index,aI aK d.size,aI aK d.off,aI aK d.host,aI aK d.err,aS d.sf,aS d.st,aI aK d.op.kind,aI aK d.op.client,aI aK d.op.seq,aS d.op.key,aS d.op.who,aS d.op.tkey,aS d.op.twho,aI aK d.op.item,aI aK d.op.count,aI aK d.op.price,aB d.op.buy,aI aK d.op.id,aI aK d.rep.err,aI aK d.rep.id,aI aK d.rep.i.a,aI aK d.rep.i.b,aI aK d.rep.i.c,aI aK d.rep.i.d,aI aK d.ch.kind,aI aK d.ch.zone,aI aK d.ch.epoch,aI aK d.ch.tt,aS d.ch.key] rfl rfl 173 _ wa_h (by kernel_rfl) rfl (by simp [Value.oneCell']) ?_
 (have hR:=HR.out);clear HR;subst hR
 go_wp2_with fail
 refine bodyPost_ret (results_cell_row rfl _ _ (w.heap.size+1) 173 _ (0,0) _ rfl (setRow_heap _ _ _ _ _ _ wa_h) Tryz.underlying173 rfl (by kernel_rfl)) rfl ⟨rfl,below_setRow wa_b (by omega) _⟩
end Go.Proofs.YtogamdaomdoapaaGreat
namespace Go.Proofs.YtogamdaomdoapaaGreat.O
open Go.Value renaming int→aI,string→aS,bool→aB
open Go.IntKind renaming i64→aK
open Go.Lib renaming hid→uH
open Go.RowKit
def encZ (z:Zn):List UInt8:=encs [z.id]++(encS z.fr++encS z.to)++encs [z.owner,z.epoch,z.pend,z.tt]++encS z.key++encs [z.nw]
def encM (m:Mp):List UInt8:=encs [m.ver,m.next,m.zs.length]++m.zs.flatMap encZ
abbrev Rs:=List UInt8 × Bool
def txt (l:List UInt8):ByteArray:=⟨l.toArray⟩
def s1 (s:Rs):Rs:=rdSt s.1 s.2 1
def t2 (s:Rs):List UInt8 × List UInt8 × Bool:=a0q (s1 s).1 (s1 s).2
def t3 (s:Rs):List UInt8 × List UInt8 × Bool:=a0q (t2 s).2.1 (t2 s).2.2
def s4 (s:Rs):Rs:=rdSt (t3 s).2.1 (t3 s).2.2 4
def t5 (s:Rs):List UInt8 × List UInt8 × Bool:=a0q (s4 s).1 (s4 s).2
def s6 (s:Rs):Rs:=rdSt (t5 s).2.1 (t5 s).2.2 1
def rdZ (s:Rs):Zn:=⟨a0j s.1 s.2 0,txt (t2 s).1,txt (t3 s).1,a0j (t3 s).2.1 (t3 s).2.2 0,a0j (t3 s).2.1 (t3 s).2.2 1,a0j (t3 s).2.1 (t3 s).2.2 2,a0j (t3 s).2.1 (t3 s).2.2 3,txt (t5 s).1,a0j (t5 s).2.1 (t5 s).2.2 0⟩
def rdZs:Nat→Rs→List Zn × Rs
 | 0,s=>([],s)
 | k+1,s=>if s.2=true then ([],s) else (rdZ s::(rdZs k (s6 s)).1,(rdZs k (s6 s)).2)
def decM (l:List UInt8):Mp × Rs:=(⟨a0j l false 0,a0j l false 1,(rdZs (a0j l false 2) (rdSt l false 3)).1⟩,(rdZs (a0j l false 2) (rdSt l false 3)).2)
def h0n (s:Rs):Bool:=!s.2&&s.1.isEmpty
def e0f (l:List UInt8):Bool:=h0n (decM l).2&&mayM (decM l).1
theorem c0s {n:Nat} (h:n≤4611686018427387904):a0l (n:Int)=n:=by unfold a0l;omega
theorem txt_data (l:List UInt8):(txt l).data.toList=l:=by simp [txt]
theorem k0d (l:List UInt8):encS (txt l)=a0n l:=by rw [encS,txt_data]
theorem d0y (v:Int) (r:List Int):encs (v::r)=encN (a0l v)++encs r:=by simp [encs]
theorem e0o:encs []=[]:=rfl
theorem b0i {r:List UInt8} {b:Bool} {k:Nat} (h:(rdSt r b (k+1)).2=false):(rdSt r b k).2=false∧(rdSt r b k).1=encN (a0l (a0j r b k))++(rdSt r b (k+1)).1:=by
 rw [c0s (d0i r b k)];exact o0r h
theorem rz (r:List UInt8) (b:Bool):rdSt r b 0=(r,b):=rfl
theorem h0p {s:Rs} {t:List UInt8 × List UInt8 × Bool} (ht:t=a0q s.1 s.2) (h:t.2.2=false):s.2=false∧s.1=a0n t.1++t.2.1:=by subst ht;exact k0l h
theorem one_at {r:List UInt8} {b:Bool} {s:Rs} (hs:s=rdSt r b 1) (h:s.2=false):b=false∧r=encN (a0l (a0j r b 0))++s.1:=by
 subst hs
 exact b0i (k:=0) h
theorem j0g {r:List UInt8} {b:Bool} {s:Rs} (hs:s=rdSt r b 4) (h:s.2=false):b=false∧r=encN (a0l (a0j r b 0))++(encN (a0l (a0j r b 1))++(encN (a0l (a0j r b 2))++(encN (a0l (a0j r b 3))++s.1))):=by
 subst hs
 obtain ⟨c1,c2⟩:=b0i (k:=3) h
 obtain ⟨d1,d2⟩:=b0i (k:=2) c1
 obtain ⟨e1,e2⟩:=b0i (k:=1) d1
 obtain ⟨f1,f2⟩:=b0i (k:=0) e1
 refine ⟨f1,?_⟩
 rw [←c2,←d2,←e2]
 exact f2
theorem s0n {s:Rs} (h:(s6 s).2=false):s.2=false∧s.1=encZ (rdZ s)++(s6 s).1:=by
 obtain ⟨a1,a2⟩:=one_at (s:=s6 s) rfl h
 obtain ⟨b1,b2⟩:=h0p (s:=s4 s) (t:=t5 s) rfl a1
 obtain ⟨c1,c2⟩:=j0g (s:=s4 s) rfl b1
 obtain ⟨g1,g2⟩:=h0p (s:=((t2 s).2.1,(t2 s).2.2)) (t:=t3 s) rfl c1
 obtain ⟨h1,h2⟩:=h0p (s:=s1 s) (t:=t2 s) rfl g1
 obtain ⟨i1,i2⟩:=one_at (s:=s1 s) rfl h1
 refine ⟨i1,?_⟩
 unfold encZ rdZ
 simp only [d0y,e0o,k0d,List.append_nil,List.append_assoc]
 rw [←a2,←b2,←c2,←g2,←h2]
 exact i2
theorem o0p:∀ (k:Nat) (s:Rs),(rdZs k s).2.2=false→s.2=false∧s.1=(rdZs k s).1.flatMap encZ++(rdZs k s).2.1∧(rdZs k s).1.length=k
 | 0,s,h=>⟨h,by simp [rdZs],rfl⟩
 | k+1,s,h=>by
  unfold rdZs at h ⊢
  by_cases hb:s.2=true
  ·rw [if_pos hb] at h;rw [hb] at h;cases h
  ·rw [if_neg hb] at h ⊢
   obtain ⟨h1,h2,h3⟩:=o0p k (s6 s) h
   obtain ⟨g1,g2⟩:=s0n h1
   refine ⟨g1,?_,by simp [h3]⟩
   rw [g2,h2]
   simp
theorem l0n {l:List UInt8} (h:h0n (decM l).2=true):encM (decM l).1=l:=by
 have hw:(decM l).2.2=false∧(decM l).2.1=[]:=by simpa [h0n] using h
 obtain ⟨h1,h2,h3⟩:=o0p _ _ hw.1
 obtain ⟨c1,c2⟩:=b0i (r:=l) (b:=false) (k:=2) h1
 obtain ⟨d1,d2⟩:=b0i (r:=l) (b:=false) (k:=1) c1
 obtain ⟨e1,e2⟩:=b0i (r:=l) (b:=false) (k:=0) d1
 unfold encM
 have h2:(rdSt l false 3).1=(decM l).1.zs.flatMap encZ++(decM l).2.1:=h2
 have hl:(((decM l).1.zs.length:Nat):Int)=a0j l false 2:=by rw [show (decM l).1.zs.length=a0j l false 2 from h3]
 rw [hw.2,List.append_nil] at h2
 rw [hl]
 simp only [d0y,e0o,List.append_nil,List.append_assoc]
 rw [←h2,show (decM l).1.ver=a0j l false 0 from rfl,show (decM l).1.next=a0j l false 1 from rfl,←c2,←d2,←e2]
 rfl
def numB (n:Int):Prop:=0≤n∧n≤4611686018427387904
theorem numB.cl {n:Int} (h:numB n):((a0l n:Nat):Int)=n:=by unfold numB at h;unfold a0l;omega
structure ZB (z:Zn):Prop where
 id:numB z.id
 owner:numB z.owner
 epoch:numB z.epoch
 pend:numB z.pend
 tt:numB z.tt
 nw:numB z.nw
 fr:z.fr.data.toList.length≤4611686018427387904
 to:z.to.data.toList.length≤4611686018427387904
 key:z.key.data.toList.length≤4611686018427387904
theorem txt_of (s:ByteArray):txt s.data.toList=s:=by cases s;simp [txt]
theorem rdZ_enc {z:Zn} (h:ZB z) (r:List UInt8):rdZ (encZ z++r,false)=z∧s6 (encZ z++r,false)=(r,false):=by
 have e:encZ z++r=encN (a0l z.id)++(a0n z.fr.data.toList++(a0n z.to.data.toList++(encN (a0l z.owner)++(encN (a0l z.epoch)++(encN (a0l z.pend)++(encN (a0l z.tt)++(a0n z.key.data.toList++(encN (a0l z.nw)++r)))))))):=by
  simp only [encZ,encS,d0y,e0o,List.append_nil,List.append_assoc]
 rw [e]
 have h1:s1 (encN (a0l z.id)++(a0n z.fr.data.toList++(a0n z.to.data.toList++(encN (a0l z.owner)++(encN (a0l z.epoch)++(encN (a0l z.pend)++(encN (a0l z.tt)++(a0n z.key.data.toList++(encN (a0l z.nw)++r)))))))),false)=(a0n z.fr.data.toList++(a0n z.to.data.toList++(encN (a0l z.owner)++(encN (a0l z.epoch)++(encN (a0l z.pend)++(encN (a0l z.tt)++(a0n z.key.data.toList++(encN (a0l z.nw)++r))))))),false):=by
  unfold s1;rw [d0j _ _ _ _ (c0x _)];rfl
 have h2:=congrArg (fun s:Rs=>a0q s.1 s.2) h1
 simp only [e0a _ _ _ h.fr] at h2
 change t2 _=_ at h2
 have h3:=congrArg (fun t:List UInt8 × List UInt8 × Bool=>a0q t.2.1 t.2.2) h2
 simp only [e0a _ _ _ h.to] at h3
 change t3 _=_ at h3
 have h4:=congrArg (fun t:List UInt8 × List UInt8 × Bool=>rdSt t.2.1 t.2.2 4) h3
 simp only [d0j _ _ _ _ (c0x _)] at h4
 change s4 _=(_,_) at h4
 have h5:=congrArg (fun s:Rs=>a0q s.1 s.2) h4
 simp only [e0a _ _ _ h.key] at h5
 change t5 _=_ at h5
 have h6:=congrArg (fun t:List UInt8 × List UInt8 × Bool=>rdSt t.2.1 t.2.2 1) h5
 simp only [d0j _ _ _ _ (c0x _)] at h6
 change s6 _=(_,_) at h6
 refine ⟨?_,h6⟩
 unfold rdZ
 rw [h2,h3,h5]
 simp only [b0u _ _ _ _ (c0x _),c0r _ _ _ (c0x _),txt_of,h.id.cl,h.owner.cl,h.epoch.cl,h.pend.cl,h.tt.cl,h.nw.cl]
theorem s0m:∀ (l:List Zn) (_:∀ z∈l,ZB z) (r:List UInt8),rdZs l.length (l.flatMap encZ++r,false)=(l,r,false)
 | [],_,r=>by simp [rdZs]
 | z::l,h,r=>by
  obtain ⟨h1,h2⟩:=rdZ_enc (h z (by simp)) (l.flatMap encZ++r)
  have e:(z::l).flatMap encZ++r=encZ z++(l.flatMap encZ++r):=by simp
  rw [e]
  show rdZs (l.length+1) _=_
  unfold rdZs
  rw [if_neg (by simp),h1,h2,s0m l (fun y hy=>h y (by simp [hy])) r]
structure MB (m:Mp):Prop where
 ver:numB m.ver
 next:numB m.next
 len:m.zs.length≤4611686018427387904
 zs:∀ z∈m.zs,ZB z
theorem dec_enc {m:Mp} (h:MB m):decM (encM m)=(m,[],false):=by
 have e:encM m=encN (a0l m.ver)++(encN (a0l m.next)++(encN (a0l (m.zs.length:Nat))++(m.zs.flatMap encZ++[]))):=by
  simp only [encM,d0y,e0o,List.append_nil,List.append_assoc]
 rw [e]
 unfold decM
 have hr:=s0m m.zs h.zs []
 simp only [b0u _ _ _ _ (c0x _),c0r _ _ _ (c0x _),d0j _ _ _ _ (c0x _)]
 rw [show rdSt (m.zs.flatMap encZ++[]) false 0=(m.zs.flatMap encZ++[],false) from rfl,c0s h.len,hr,h.ver.cl,h.next.cl]
end Go.Proofs.YtogamdaomdoapaaGreat.O
namespace Go.Proofs.YtogamdaomdoapaaGreat
open Go.Value renaming int→aI,string→aS,bool→aB
open Go.IntKind renaming i64→aK
open Go.Lib renaming hid→uH
open Go.RowKit
def znV (z:Zn):List Value:=[aI aK z.id,aS z.fr,aS z.to,aI aK z.owner,aI aK z.epoch,aI aK z.pend,aI aK z.tt,aS z.key,aI aK z.nw]
def znR (l:List Zn):List Value:=l.flatMap znV
theorem u0v:znR []=[]:=rfl
theorem e0z (z:Zn) (l:List Zn):znR (z::l)=znV z++znR l:=by simp [znR]
theorem e0q (z:Zn):(znV z).length=9:=rfl
theorem l0u (a b:List Zn):znR (a++b)=znR a++znR b:=by simp [znR]
theorem u0w:∀ (l:List Zn) (i:Nat) (h:i<l.length) (j:Nat),j<9→(znR l)[i * 9+j]?=(znV l[i])[j]?
 | m::r,0,_,j,hj=>by
  rw [e0z,Nat.zero_mul,Nat.zero_add,List.getElem?_append_left (by rw [e0q];exact hj)]
  rfl
 | m::r,i+1,h,j,hj=>by
  rw [e0z,List.getElem?_append_right (by rw [e0q];omega)]
  have:=u0w r i (by simpa using h) j hj
  rw [show (i+1) * 9+j - (znV m).length=i * 9+j from by rw [e0q];omega,this]
  rfl
theorem u0t (z:Zn):∀ u∈znV z,u.oneCell'=true:=by
 intro u hu
 simp only [znV,List.mem_cons,List.not_mem_nil,or_false] at hu
 rcases hu with rfl | rfl | rfl | rfl | rfl | rfl | rfl | rfl | rfl<;>rfl
theorem u0u:∀ (l:List Zn) (i:Nat) (h:i<l.length) (j:Nat) (_:j<9) (v:Value) (z':Zn) (_:znV z'=(znV l[i]).set j v),(znR l).set (i * 9+j) v=znR (l.set i z')
 | m::r,0,_,j,hj,v,z',he=>by
  rw [e0z,List.set_cons_zero,e0z,Nat.zero_mul,Nat.zero_add,List.set_append_left _ _ (by rw [e0q];exact hj)]
  rw [he];rfl
 | m::r,i+1,h,j,hj,v,z',he=>by
  have ih:=u0u r i (by simpa using h) j hj v z' he
  rw [e0z,List.set_cons_succ,e0z,List.set_append_right _ _ (by rw [e0q];omega),show (i+1) * 9+j - (znV m).length=i * 9+j from by rw [e0q];omega,ih]
def OwnZ (w:World) (base g cap:Nat) (l:List Zn):Prop:=w.ownsRow base 125 9 (.slice (some ⟨g,0,none⟩) l.length cap) l.length (znR l)
theorem OwnZ.facts {w:World} {base g cap:Nat} {l:List Zn} (h:OwnZ w base g cap l):base≤g∧g<w.heap.size∧l.length≤cap∧cap≤9223372036854775807:=by
 rcases h.2 with ⟨hv,-⟩ | ⟨g',c,cur,hv,hb,hh,h1,h2,-⟩
 ·cases hv
 ·simp only [Value.slice.injEq,Option.some.injEq,Addr.mk.injEq,and_true,true_and] at hv
  obtain ⟨rfl,rfl⟩:=hv
  unfold maxLen at h2
  exact ⟨hb,lt_of_block hh,h1,by omega⟩
theorem OwnZ.cell {w:World} {base g cap:Nat} {l:List Zn} (h:OwnZ w base g cap l) (i:Nat) (hi:i<l.length) (j:Nat) (v:Value) (hv:(znV l[i])[j]?=some v):w.cell? ⟨g,i * 9+j,none⟩=some v:=by
 have hj:j<9:=(List.getElem?_eq_some_iff.1 hv).1
 rw [←hv,←u0w l i hi j hj]
 exact h.cellAt _ (by omega)
theorem OwnZ.frozen {w:World} {base g cap:Nat} {l:List Zn} (h:OwnZ w base g cap l) (j:Nat):w.frozen? ⟨g,j,none⟩=false:=h.frozenAt j
theorem OwnZ.keeps {w w':World} {base g cap:Nat} {l:List Zn} {S:Nat→Prop} (h:OwnZ w base g cap l) (k:Keeps w w' S) (hg:¬S g):OwnZ w' base g cap l:=by
 refine ⟨h.1,?_⟩
 rcases h.2 with h4 | ⟨g',c,cur,hv,hb,hh,r⟩
 ·exact .inl h4
 ·simp only [Value.slice.injEq,Option.some.injEq,Addr.mk.injEq,and_true,true_and] at hv
  obtain ⟨rfl,rfl⟩:=hv
  exact .inr ⟨g,cap,cur,rfl,hb,(k.block g (lt_of_block hh) hg).trans hh,r⟩
theorem OwnZ.set {w:World} {base g cap:Nat} {l:List Zn} (h:OwnZ w base g cap l) (i:Nat) (hi:i<l.length) (j:Nat) (hj:j<9) (v:Value) (z':Zn) (he:znV z'=(znV l[i]).set j v):OwnZ (w.setCell ⟨g,i * 9+j,none⟩ v) base g cap (l.set i z'):=by
 have:=(World.ownsRow.stored h (i * 9+j) v).1
 rw [u0u l i hi j hj v z' he] at this
 unfold OwnZ
 rw [List.length_set]
 exact this
def IAtD (w:World) (ao:Option Addr) (l:List Int):Prop:=0<l.length→∃ b off,ao=some ⟨b,off,none⟩∧b<w.heap.size∧∀ i,(hi:i<l.length)→w.cell? ⟨b,off+i,none⟩=some (aI aK l[i])
theorem IAtD.grow {w w':World} {ao:Option Addr} {l:List Int} (h:IAtD w ao l) (b:Below w.heap.size w w'):IAtD w' ao l:=fun hp=>by
 obtain ⟨x,off,e,hx,hr⟩:=h hp
 exact ⟨x,off,e,Nat.lt_of_lt_of_le hx b.size,fun i hi=>(b.cell (p:=⟨x,_,none⟩) hx).trans (hr i hi)⟩
def v0g (base b cap:Nat) (l:List Int):Th where
 T w:=w.ownsRow base 3 1 (.slice (some ⟨b,0,none⟩) l.length cap) l.length (l.map (.int .i64))
 F x:=x=b
 stay h k hS:=by
  refine ⟨h.1,?_⟩
  rcases h.2 with h4 | ⟨g',c,cur,hv,hb,hh,r⟩
  ·exact .inl h4
  ·simp only [Value.slice.injEq,Option.some.injEq,Addr.mk.injEq,and_true,true_and] at hv
   obtain ⟨rfl,rfl⟩:=hv
   exact .inr ⟨b,cap,cur,rfl,hb,(k.block b (lt_of_block hh) (hS b rfl)).trans hh,r⟩
 lt h hx:=by
  have hx:_=b:=hx
  rw [hx]
  rcases h.2 with ⟨hv,-⟩ | ⟨g',c,cur,hv,hb,hh,r⟩
  ·cases hv
  ·simp only [Value.slice.injEq,Option.some.injEq,Addr.mk.injEq,and_true,true_and] at hv
   obtain ⟨rfl,-⟩:=hv
   exact lt_of_block hh
theorem v0g.at {base b cap:Nat} {l:List Int} {w:World} (h:(v0g base b cap l).T w):IAtD w (some ⟨b,0,none⟩) l:=fun hp=>by
 have h':w.ownsRow base 3 1 (.slice (some ⟨b,0,none⟩) l.length cap) l.length (l.map (.int .i64)):=h
 refine ⟨b,0,rfl,(v0g base b cap l).lt h rfl,fun i hi=>?_⟩
 have:=h'.cellAt i (by omega)
 rw [Nat.zero_add,this]
 simp [hi]
theorem d0v (n:Int) (w:World) (r:Bool) (hr:decide (1≤n∧n≤1099511627776)=r):Calls Tryz.prog 138 #[aI aK n] w fun e w'=>e=.returned (aB r)∧w=w':=by
 by_cases h1:1≤n
 ·by_cases h2:n≤1099511627776
  ·obtain rfl:r=true:=by rw [←hr];simp [h1,h2]
   have d:decide (n≤1099511627776)=true:=by rw [decide_eq_true_eq];exact h2
   clear hr
   go_enter Tryz.func138,Tryz.ntmps138
   go_wp2_with fail
   go_ret
   exact ⟨rfl,rfl⟩
  ·obtain rfl:r=false:=by rw [←hr];simp [h2]
   have d:decide (n≤1099511627776)=false:=by rw [decide_eq_false_iff_not];exact h2
   clear hr
   go_enter Tryz.func138,Tryz.ntmps138
   go_wp2_with fail
   go_ret
   exact ⟨rfl,rfl⟩
 ·obtain rfl:r=false:=by rw [←hr];simp [h1]
  have d:decide (1≤n)=false:=by rw [decide_eq_false_iff_not];exact h1
  clear hr
  go_enter Tryz.func138,Tryz.ntmps138
  go_wp2_with fail
  go_ret
  exact ⟨rfl,rfl⟩
end Go.Proofs.YtogamdaomdoapaaGreat