/- Texts put together: WTl, WKd. -/
import Derived.Test.YtogamdaomdoapaaGreatSa05
import Derived.Test.YtogamdaomdoapaaGreatSa07
import Derived.Test.YtogamdaomdoapaaGreatSa08
import Derived.Test.YtogamdaomdoapaaGreatSa09
import Derived.Test.YtogamdaomdoapaaGreatSa16
import Derived.Test.YtogamdaomdoapaaGreatSa21
namespace Go.Proofs.YtogamdaomdoapaaGreat
set_option maxRecDepth 20000
open Go.RowKit
def sndC:Code→Code | .seq _ y=>y | c=>c
def fstC:Code→Code | .seq x _=>x | c=>c
def mayQ (w:World) (r:Bool):Exit→Act→World→Prop:=bodyPost Tryz.prog Tryz.f69 fun e w'=>e=.returned (.bool r)∧Below w.heap.size w w'
theorem plain_v {d:Wd} {ms ds:Value} {V:Array Value} (hV:V=wdV d ms ds) (w:World):Calls Tryz.prog 113 #[.agg V] w fun e w'=>e=.returned (.agg (plV d.pl))∧Below w.heap.size w w':=by
 subst hV
 exact plain_any d ms ds w
theorem tcell {w:World} {B:Nat} {V:Array Value} {d:Wd} {ms ds:Value} (h:w.heap[B]?=some (.cells V 85 (0,0))) (hV:V=wdV d ms ds):w.cell? ⟨B,36,none⟩=some ds:=by
 rw [cell_of_row _ _ _ _ _ _ h,hV]
 rfl
set_option maxHeartbeats 4000000 in
theorem may_tail {c:Code} (hb:(Tryz.f69).body=some c) {d:Wd} {ms ds:Value} {V:Array Value} (hV:V=wdV d ms ds) (dl:Option Addr) (dc:Nat) (n:Nat) (hds:ds=.slice dl n dc) (hn:n≤9223372036854775807) (w w3:World) (B P:Nat) (X:Pl) (ok dB mB hdB hmB:Bool)
 (H:Hid (St w w3 [thObj P (.cells (plV X) 173 (0,0)),thObj B (.cells V 85 (0,0))])) (r:Bool) (hr:r=(ok&&eqPl d.pl X&&(dB==hdB)&&(mB==hmB)&&decide (n≤131072)))
 {j9 j10 j11 j12 j13 j14 j15 j16 j17 j18 j19 j20 j21 j22 j23 j24 j25 j26 j27 j28 j29 j30 j31 j32 j33 j34 j35 j36 j37 j38 j39 j40 j41 j42 j43 j44 j45 j46 j47 j48 j49 j50 j51 j52 j53 j54 j55 j56 j57 j58 j59 j60 j61 j62 j63 j64 j65 j66 j67 j68 j69 j70 j71 j72 j73 j74 j75 j76 j77 j78 j79 j80 j81 j82 j83 j84 j85 j86 j87 j88 j89 j90 j91 j92 j93 j94 j95 j96 j97 j98 j99 j100 j101 j102 j103 j104 j105 j106 j107 j108 j109 j110 j111 j112 j113 j114 j115 j116 j117 j118 j119 j120 j121 j122 j123 j124 j125 j126 j127 j128 j129 j130 j131 j132 j133 j134 j135 j136 j137 j138 j139 j140 j141 j142 j143 j144 j145 j146 j147:Value}:(sndC (sndC (sndC (sndC (sndC c))))).wp Tryz.prog (mayQ w r) { tmps:=#[.agg V,.pointer (some ⟨B,0,none⟩),.bool false,.bool dB,.bool mB,.pointer (some ⟨P,0,none⟩),.bool ok,.bool hdB,.bool hmB,j9,j10,j11,j12,j13,j14,j15,j16,j17,j18,j19,j20,j21,j22,j23,j24,j25,j26,j27,j28,j29,j30,j31,j32,j33,j34,j35,j36,j37,j38,j39,j40,j41,j42,j43,j44,j45,j46,j47,j48,j49,j50,j51,j52,j53,j54,j55,j56,j57,j58,j59,j60,j61,j62,j63,j64,j65,j66,j67,j68,j69,j70,j71,j72,j73,j74,j75,j76,j77,j78,j79,j80,j81,j82,j83,j84,j85,j86,j87,j88,j89,j90,j91,j92,j93,j94,j95,j96,j97,j98,j99,j100,j101,j102,j103,j104,j105,j106,j107,j108,j109,j110,j111,j112,j113,j114,j115,j116,j117,j118,j119,j120,j121,j122,j123,j124,j125,j126,j127,j128,j129,j130,j131,j132,j133,j134,j135,j136,j137,j138,j139,j140,j141,j142,j143,j144,j145,j146,j147,undef,undef,undef,undef,undef,undef,undef,undef,undef,undef,undef,undef,undef,undef,undef,undef,undef,undef,undef,undef,undef,undef,undef],defers:=[] } w3:=by
 have hs:V.size=37:=by rw [hV];rfl
 have HV:=Lib.hid hV
 obtain ⟨b1,hb1⟩:∃ b1,(dB==hdB)=b1:=⟨_,rfl⟩
 obtain ⟨b2,hb2⟩:∃ b2,(mB==hmB)=b2:=⟨_,rfl⟩
 obtain ⟨b3,hb3⟩:∃ b3,decide (n≤131072)=b3:=⟨_,rfl⟩
 have hb4:decide ((n:Int)≤131072)=b3:=by rw [←hb3];congr 1;simp only [eq_iff_iff];omega
 rw [hb1,hb2,hb3] at hr
 clear hb3
 have Hr:=Lib.hid hr
 have heq:=fun w=>eql_pl d.pl X w _ rfl
 obtain ⟨q,hq⟩:∃ q,q=eqPl d.pl X:=⟨_,rfl⟩
 rw [←hq] at heq Hr
 have Hpl:=Lib.hid (fun w=>plain_v hV w)
 subst hds
 clear hr hV hq
 cases hb
 simp only [sndC]
 unfold mayQ
 refine wp_seq ?_
 cases ok with
 | false =>
  (refine wp_region_gr (by kernel_rfl) (by kernel_rfl) ?_;(repeat (go_big_quiet_step (fail)));refine wpQuiet_nil ?_;intro _ hw';obtain ⟨g,hw''⟩:=hw';subst hw'')
  go_wp2_with fail
  go_ret
  exact ⟨by rw [Hr.out];rfl,(H.out.grow (gr_below w3 g)).b⟩
 | true =>
  refine wp_name fun wa hwa=>?_
  subst hwa
  obtain ⟨wd,hwd⟩:∃ wd,wd=wa.drew:=⟨_,rfl⟩
  have S2:=Lib.hid (H.out.grow (w':=wd) (by rw [hwd];exact (Below.refl _ _).drew))
  have Hsu:Hid (∀ w',Below wd.heap.size wd w'→(fun W:World=>W.heap[B]?=some (.cells V 85 (0,0))∧W.heap[P]?=some (.cells (plV X) 173 (0,0))) w'):=Lib.hid fun w' hb=>⟨(S2.out.grow hb).pull (A:=[_]) |>.head,(S2.out.grow hb).head⟩
  have HC:=Lib.hid (Hsu.out wd (Below.refl _ _))
  refine wp_region_noPanic ?_
  refine wp_region_held (S:=(fun W:World=>W.heap[B]?=some (.cells V 85 (0,0))∧W.heap[P]?=some (.cells (plV X) 173 (0,0)))) (by kernel_rfl) ?_
  change wpAnyH _ _ _ _ _ _ _ _ (World.drew _)
  rw [←hwd]
  clear hwd
  (refine takeD (i:=0) (v:=?v0x148) 148 rfl rfl (by kernel_rfl) (by kernel_rfl) (by kernel_rfl) (fun _ _ _ h=>h) (Or.inl ⟨by rfl,?hy0x148⟩) HC.out ?rest0x148;(case hy0x148=>(intro w hSw;(obtain ⟨t0,t1⟩:=hSw);go_simp;(try with_reducible rfl)));(try simp only [Act.put,List.setIfInBounds_toArray,List.set_cons_zero,List.set_cons_succ]))
  (refine takeD (i:=1) (v:=?v1x149) 149 rfl rfl (by kernel_rfl) (by kernel_rfl) (by kernel_rfl) (fun _ _ _ h=>h) (Or.inl ⟨by rfl,?hy1x149⟩) HC.out ?rest1x149;(case hy1x149=>(intro w hSw;(obtain ⟨t0,t1⟩:=hSw);go_simp;(try with_reducible rfl)));(try simp only [Act.put,List.setIfInBounds_toArray,List.set_cons_zero,List.set_cons_succ]))
  (refine takeD (i:=2) (v:=.agg V) 150 rfl rfl (by kernel_rfl) (by kernel_rfl) (by kernel_rfl) (fun _ _ _ h=>h) (Or.inl ⟨by rfl,fun w hSw=>(by obtain ⟨t0,t1⟩:=hSw;exact exec_load_row 85 _ rfl B rfl _ V _ _ t0 Tryz.underlying85 rfl (by rw [hs];kernel_rfl))⟩) HC.out ?_;(try simp only [Act.put,List.setIfInBounds_toArray,List.set_cons_zero,List.set_cons_succ]))
  (refine takeD (i:=4) (v:=.agg (plV X)) 152 rfl rfl (by kernel_rfl) (by kernel_rfl) (by kernel_rfl) (fun _ _ _ h=>h) (Or.inl ⟨by rfl,fun w hSw=>(by obtain ⟨t0,t1⟩:=hSw;exact exec_load_row 173 _ rfl P rfl _ (plV X) _ _ t1 Tryz.underlying173 rfl (by kernel_rfl))⟩) HC.out ?_;(try simp only [Act.put,List.setIfInBounds_toArray,List.set_cons_zero,List.set_cons_succ]))
  (refine wpAnyH_all (rs:=[3]) (by kernel_rfl) (by simp) (fun i' hi'=>?_);(obtain rfl:i'=3:=by simpa using hi');clear hi';(refine wpOp_step rfl (fun K' hK'=>?_)))
  go_simp
  refine (Hpl.out _).mono ?_
  rintro e w4 ⟨rfl,hb4⟩
  have S4:=Lib.hid (S2.out.grow hb4)
  have Hb4:=Lib.hid hb4
  refine hK' _ _ ⟨Hsu.out _ hb4,?_⟩
  clear hK' K' hb4 HC
  have HC:=Lib.hid (Hsu.out w4 Hb4.out)
  (try simp only [Act.put,List.setIfInBounds_toArray,List.set_cons_zero,List.set_cons_succ])
  cases q with
  | false =>
   (refine takeD (i:=5) (v:=.bool false) 153 rfl rfl (by kernel_rfl) (by kernel_rfl) (by kernel_rfl) (fun _ _ _ h=>h) (Or.inl ⟨by rfl,fun w hSw=>(by obtain ⟨t0,t1⟩:=hSw;have tb:=tcell t0 HV.out;go_simp)⟩) HC.out ?_;(try simp only [Act.put,List.setIfInBounds_toArray,List.set_cons_zero,List.set_cons_succ]))
   (refine takeD (i:=6) (v:=.bool false) 154 rfl rfl (by kernel_rfl) (by kernel_rfl) (by kernel_rfl) (fun _ _ _ h=>h) (Or.inl ⟨by rfl,fun w hSw=>(by obtain ⟨t0,t1⟩:=hSw;have tb:=tcell t0 HV.out;go_simp)⟩) HC.out ?_;(try simp only [Act.put,List.setIfInBounds_toArray,List.set_cons_zero,List.set_cons_succ]))
   (refine takeD (i:=7) (v:=.bool false) 155 rfl rfl (by kernel_rfl) (by kernel_rfl) (by kernel_rfl) (fun _ _ _ h=>h) (Or.inl ⟨by rfl,fun w hSw=>(by obtain ⟨t0,t1⟩:=hSw;have tb:=tcell t0 HV.out;go_simp)⟩) HC.out ?_;(try simp only [Act.put,List.setIfInBounds_toArray,List.set_cons_zero,List.set_cons_succ]))
   (refine takeD (i:=8) (v:=undef) 156 rfl rfl (by kernel_rfl) (by kernel_rfl) (by kernel_rfl) (fun _ _ _ h=>h) (Or.inr ⟨by rfl,rfl⟩) HC.out ?_;(try simp only [Act.put,List.setIfInBounds_toArray,List.set_cons_zero,List.set_cons_succ]))
   (refine takeD (i:=9) (v:=undef) 157 rfl rfl (by kernel_rfl) (by kernel_rfl) (by kernel_rfl) (fun _ _ _ h=>h) (Or.inr ⟨by rfl,rfl⟩) HC.out ?_;(try simp only [Act.put,List.setIfInBounds_toArray,List.set_cons_zero,List.set_cons_succ]))
   (refine takeD (i:=10) (v:=undef) 158 rfl rfl (by kernel_rfl) (by kernel_rfl) (by kernel_rfl) (fun _ _ _ h=>h) (Or.inr ⟨by rfl,rfl⟩) HC.out ?_;(try simp only [Act.put,List.setIfInBounds_toArray,List.set_cons_zero,List.set_cons_succ]))
   (refine takeD (i:=11) (v:=.bool false) 159 rfl rfl (by kernel_rfl) (by kernel_rfl) (by kernel_rfl) (fun _ _ _ h=>h) (Or.inl ⟨by rfl,fun w hSw=>(by obtain ⟨t0,t1⟩:=hSw;have tb:=tcell t0 HV.out;go_simp)⟩) HC.out ?_;(try simp only [Act.put,List.setIfInBounds_toArray,List.set_cons_zero,List.set_cons_succ]))
   (refine takeD (i:=12) (v:=.bool false) 160 rfl rfl (by kernel_rfl) (by kernel_rfl) (by kernel_rfl) (fun _ _ _ h=>h) (Or.inl ⟨by rfl,fun w hSw=>(by obtain ⟨t0,t1⟩:=hSw;have tb:=tcell t0 HV.out;go_simp)⟩) HC.out ?_;(try simp only [Act.put,List.setIfInBounds_toArray,List.set_cons_zero,List.set_cons_succ]))
   (refine takeD (i:=13) (v:=undef) 161 rfl rfl (by kernel_rfl) (by kernel_rfl) (by kernel_rfl) (fun _ _ _ h=>h) (Or.inr ⟨by rfl,rfl⟩) HC.out ?_;(try simp only [Act.put,List.setIfInBounds_toArray,List.set_cons_zero,List.set_cons_succ]))
   (refine takeD (i:=14) (v:=undef) 162 rfl rfl (by kernel_rfl) (by kernel_rfl) (by kernel_rfl) (fun _ _ _ h=>h) (Or.inr ⟨by rfl,rfl⟩) HC.out ?_;(try simp only [Act.put,List.setIfInBounds_toArray,List.set_cons_zero,List.set_cons_succ]))
   (refine takeD (i:=15) (v:=undef) 163 rfl rfl (by kernel_rfl) (by kernel_rfl) (by kernel_rfl) (fun _ _ _ h=>h) (Or.inr ⟨by rfl,rfl⟩) HC.out ?_;(try simp only [Act.put,List.setIfInBounds_toArray,List.set_cons_zero,List.set_cons_succ]))
   (refine takeD (i:=16) (v:=.bool false) 164 rfl rfl (by kernel_rfl) (by kernel_rfl) (by kernel_rfl) (fun _ _ _ h=>h) (Or.inl ⟨by rfl,fun w hSw=>(by obtain ⟨t0,t1⟩:=hSw;have tb:=tcell t0 HV.out;go_simp)⟩) HC.out ?_;(try simp only [Act.put,List.setIfInBounds_toArray,List.set_cons_zero,List.set_cons_succ]))
   ((refine takeD (i:=17) (v:=.bool false) 165 rfl rfl (by kernel_rfl) (by kernel_rfl) (by kernel_rfl) (fun _ _ _ h=>h) (Or.inl ⟨by rfl,fun w hSw=>(by obtain ⟨t0,t1⟩:=hSw;have tb:=tcell t0 HV.out;go_simp)⟩) HC.out ?_;(try simp only [Act.put,List.setIfInBounds_toArray,List.set_cons_zero,List.set_cons_succ]));(refine takeD (i:=18) (v:=undef) 166 rfl rfl (by kernel_rfl) (by kernel_rfl) (by kernel_rfl) (fun _ _ _ h=>h) (Or.inr ⟨by rfl,rfl⟩) HC.out ?_;(try simp only [Act.put,List.setIfInBounds_toArray,List.set_cons_zero,List.set_cons_succ]));(refine takeD (i:=19) (v:=undef) 167 rfl rfl (by kernel_rfl) (by kernel_rfl) (by kernel_rfl) (fun _ _ _ h=>h) (Or.inr ⟨by rfl,rfl⟩) HC.out ?_;(try simp only [Act.put,List.setIfInBounds_toArray,List.set_cons_zero,List.set_cons_succ]));(refine takeD (i:=20) (v:=undef) 168 rfl rfl (by kernel_rfl) (by kernel_rfl) (by kernel_rfl) (fun _ _ _ h=>h) (Or.inr ⟨by rfl,rfl⟩) HC.out ?_;(try simp only [Act.put,List.setIfInBounds_toArray,List.set_cons_zero,List.set_cons_succ]));(refine takeD (i:=21) (v:=undef) 169 rfl rfl (by kernel_rfl) (by kernel_rfl) (by kernel_rfl) (fun _ _ _ h=>h) (Or.inr ⟨by rfl,rfl⟩) HC.out ?_;(try simp only [Act.put,List.setIfInBounds_toArray,List.set_cons_zero,List.set_cons_succ]));(refine takeD (i:=22) (v:=.bool false) 170 rfl rfl (by kernel_rfl) (by kernel_rfl) (by kernel_rfl) (fun _ _ _ h=>h) (Or.inl ⟨by rfl,fun w hSw=>(by obtain ⟨t0,t1⟩:=hSw;have tb:=tcell t0 HV.out;go_simp)⟩) HC.out ?_;(try simp only [Act.put,List.setIfInBounds_toArray,List.set_cons_zero,List.set_cons_succ]));(refine takeD (i:=23) (v:=.bool false) 2 rfl rfl (by kernel_rfl) (by kernel_rfl) (by kernel_rfl) (fun _ _ _ h=>h) (Or.inl ⟨by rfl,fun w hSw=>(by obtain ⟨t0,t1⟩:=hSw;have tb:=tcell t0 HV.out;go_simp)⟩) HC.out ?_;(try simp only [Act.put,List.setIfInBounds_toArray,List.set_cons_zero,List.set_cons_succ]));((refine wpAnyH_done (by kernel_rfl) ?_ _);(refine NoPanic.normal ?_);(go_wp2_with fail);go_ret;exact ⟨by rw [Hr.out];rfl,S4.out.b⟩))
  | true =>
   (refine takeD (i:=5) (v:=.bool true) 153 rfl rfl (by kernel_rfl) (by kernel_rfl) (by kernel_rfl) (fun _ _ _ h=>h) (Or.inl ⟨by rfl,fun w hSw=>(by obtain ⟨t0,t1⟩:=hSw;have tb:=tcell t0 HV.out;go_simp)⟩) HC.out ?_;(try simp only [Act.put,List.setIfInBounds_toArray,List.set_cons_zero,List.set_cons_succ]))
   (refine takeD (i:=6) (v:=.bool true) 154 rfl rfl (by kernel_rfl) (by kernel_rfl) (by kernel_rfl) (fun _ _ _ h=>h) (Or.inl ⟨by rfl,fun w hSw=>(by obtain ⟨t0,t1⟩:=hSw;have tb:=tcell t0 HV.out;go_simp)⟩) HC.out ?_;(try simp only [Act.put,List.setIfInBounds_toArray,List.set_cons_zero,List.set_cons_succ]))
   (refine takeD (i:=7) (v:=.bool true) 155 rfl rfl (by kernel_rfl) (by kernel_rfl) (by kernel_rfl) (fun _ _ _ h=>h) (Or.inl ⟨by rfl,fun w hSw=>(by obtain ⟨t0,t1⟩:=hSw;have tb:=tcell t0 HV.out;go_simp)⟩) HC.out ?_;(try simp only [Act.put,List.setIfInBounds_toArray,List.set_cons_zero,List.set_cons_succ]))
   (refine takeD (i:=8) (v:=.bool dB) 156 rfl rfl (by kernel_rfl) (by kernel_rfl) (by kernel_rfl) (fun _ _ _ h=>h) (Or.inl ⟨by rfl,fun w hSw=>(by obtain ⟨t0,t1⟩:=hSw;have tb:=tcell t0 HV.out;go_simp)⟩) HC.out ?_;(try simp only [Act.put,List.setIfInBounds_toArray,List.set_cons_zero,List.set_cons_succ]))
   (refine takeD (i:=9) (v:=.bool hdB) 157 rfl rfl (by kernel_rfl) (by kernel_rfl) (by kernel_rfl) (fun _ _ _ h=>h) (Or.inl ⟨by rfl,fun w hSw=>(by obtain ⟨t0,t1⟩:=hSw;have tb:=tcell t0 HV.out;go_simp)⟩) HC.out ?_;(try simp only [Act.put,List.setIfInBounds_toArray,List.set_cons_zero,List.set_cons_succ]))
   cases b1 with
   | false =>
    (refine takeD (i:=10) (v:=.bool false) 158 rfl rfl (by kernel_rfl) (by kernel_rfl) (by kernel_rfl) (fun _ _ _ h=>h) (Or.inl ⟨by rfl,fun w hSw=>(by obtain ⟨t0,t1⟩:=hSw;have tb:=tcell t0 HV.out;go_simp)⟩) HC.out ?_;(try simp only [Act.put,List.setIfInBounds_toArray,List.set_cons_zero,List.set_cons_succ]))
    (refine takeD (i:=11) (v:=.bool false) 159 rfl rfl (by kernel_rfl) (by kernel_rfl) (by kernel_rfl) (fun _ _ _ h=>h) (Or.inl ⟨by rfl,fun w hSw=>(by obtain ⟨t0,t1⟩:=hSw;have tb:=tcell t0 HV.out;go_simp)⟩) HC.out ?_;(try simp only [Act.put,List.setIfInBounds_toArray,List.set_cons_zero,List.set_cons_succ]))
    (refine takeD (i:=12) (v:=.bool false) 160 rfl rfl (by kernel_rfl) (by kernel_rfl) (by kernel_rfl) (fun _ _ _ h=>h) (Or.inl ⟨by rfl,fun w hSw=>(by obtain ⟨t0,t1⟩:=hSw;have tb:=tcell t0 HV.out;go_simp)⟩) HC.out ?_;(try simp only [Act.put,List.setIfInBounds_toArray,List.set_cons_zero,List.set_cons_succ]))
    (refine takeD (i:=13) (v:=undef) 161 rfl rfl (by kernel_rfl) (by kernel_rfl) (by kernel_rfl) (fun _ _ _ h=>h) (Or.inr ⟨by rfl,rfl⟩) HC.out ?_;(try simp only [Act.put,List.setIfInBounds_toArray,List.set_cons_zero,List.set_cons_succ]))
    (refine takeD (i:=14) (v:=undef) 162 rfl rfl (by kernel_rfl) (by kernel_rfl) (by kernel_rfl) (fun _ _ _ h=>h) (Or.inr ⟨by rfl,rfl⟩) HC.out ?_;(try simp only [Act.put,List.setIfInBounds_toArray,List.set_cons_zero,List.set_cons_succ]))
    (refine takeD (i:=15) (v:=undef) 163 rfl rfl (by kernel_rfl) (by kernel_rfl) (by kernel_rfl) (fun _ _ _ h=>h) (Or.inr ⟨by rfl,rfl⟩) HC.out ?_;(try simp only [Act.put,List.setIfInBounds_toArray,List.set_cons_zero,List.set_cons_succ]))
    (refine takeD (i:=16) (v:=.bool false) 164 rfl rfl (by kernel_rfl) (by kernel_rfl) (by kernel_rfl) (fun _ _ _ h=>h) (Or.inl ⟨by rfl,fun w hSw=>(by obtain ⟨t0,t1⟩:=hSw;have tb:=tcell t0 HV.out;go_simp)⟩) HC.out ?_;(try simp only [Act.put,List.setIfInBounds_toArray,List.set_cons_zero,List.set_cons_succ]))
    ((refine takeD (i:=17) (v:=.bool false) 165 rfl rfl (by kernel_rfl) (by kernel_rfl) (by kernel_rfl) (fun _ _ _ h=>h) (Or.inl ⟨by rfl,fun w hSw=>(by obtain ⟨t0,t1⟩:=hSw;have tb:=tcell t0 HV.out;go_simp)⟩) HC.out ?_;(try simp only [Act.put,List.setIfInBounds_toArray,List.set_cons_zero,List.set_cons_succ]));(refine takeD (i:=18) (v:=undef) 166 rfl rfl (by kernel_rfl) (by kernel_rfl) (by kernel_rfl) (fun _ _ _ h=>h) (Or.inr ⟨by rfl,rfl⟩) HC.out ?_;(try simp only [Act.put,List.setIfInBounds_toArray,List.set_cons_zero,List.set_cons_succ]));(refine takeD (i:=19) (v:=undef) 167 rfl rfl (by kernel_rfl) (by kernel_rfl) (by kernel_rfl) (fun _ _ _ h=>h) (Or.inr ⟨by rfl,rfl⟩) HC.out ?_;(try simp only [Act.put,List.setIfInBounds_toArray,List.set_cons_zero,List.set_cons_succ]));(refine takeD (i:=20) (v:=undef) 168 rfl rfl (by kernel_rfl) (by kernel_rfl) (by kernel_rfl) (fun _ _ _ h=>h) (Or.inr ⟨by rfl,rfl⟩) HC.out ?_;(try simp only [Act.put,List.setIfInBounds_toArray,List.set_cons_zero,List.set_cons_succ]));(refine takeD (i:=21) (v:=undef) 169 rfl rfl (by kernel_rfl) (by kernel_rfl) (by kernel_rfl) (fun _ _ _ h=>h) (Or.inr ⟨by rfl,rfl⟩) HC.out ?_;(try simp only [Act.put,List.setIfInBounds_toArray,List.set_cons_zero,List.set_cons_succ]));(refine takeD (i:=22) (v:=.bool false) 170 rfl rfl (by kernel_rfl) (by kernel_rfl) (by kernel_rfl) (fun _ _ _ h=>h) (Or.inl ⟨by rfl,fun w hSw=>(by obtain ⟨t0,t1⟩:=hSw;have tb:=tcell t0 HV.out;go_simp)⟩) HC.out ?_;(try simp only [Act.put,List.setIfInBounds_toArray,List.set_cons_zero,List.set_cons_succ]));(refine takeD (i:=23) (v:=.bool false) 2 rfl rfl (by kernel_rfl) (by kernel_rfl) (by kernel_rfl) (fun _ _ _ h=>h) (Or.inl ⟨by rfl,fun w hSw=>(by obtain ⟨t0,t1⟩:=hSw;have tb:=tcell t0 HV.out;go_simp)⟩) HC.out ?_;(try simp only [Act.put,List.setIfInBounds_toArray,List.set_cons_zero,List.set_cons_succ]));((refine wpAnyH_done (by kernel_rfl) ?_ _);(refine NoPanic.normal ?_);(go_wp2_with fail);go_ret;exact ⟨by rw [Hr.out];rfl,S4.out.b⟩))
   | true =>
    (refine takeD (i:=10) (v:=.bool true) 158 rfl rfl (by kernel_rfl) (by kernel_rfl) (by kernel_rfl) (fun _ _ _ h=>h) (Or.inl ⟨by rfl,fun w hSw=>(by obtain ⟨t0,t1⟩:=hSw;have tb:=tcell t0 HV.out;go_simp)⟩) HC.out ?_;(try simp only [Act.put,List.setIfInBounds_toArray,List.set_cons_zero,List.set_cons_succ]))
    (refine takeD (i:=11) (v:=.bool true) 159 rfl rfl (by kernel_rfl) (by kernel_rfl) (by kernel_rfl) (fun _ _ _ h=>h) (Or.inl ⟨by rfl,fun w hSw=>(by obtain ⟨t0,t1⟩:=hSw;have tb:=tcell t0 HV.out;go_simp)⟩) HC.out ?_;(try simp only [Act.put,List.setIfInBounds_toArray,List.set_cons_zero,List.set_cons_succ]))
    (refine takeD (i:=12) (v:=.bool true) 160 rfl rfl (by kernel_rfl) (by kernel_rfl) (by kernel_rfl) (fun _ _ _ h=>h) (Or.inl ⟨by rfl,fun w hSw=>(by obtain ⟨t0,t1⟩:=hSw;have tb:=tcell t0 HV.out;go_simp)⟩) HC.out ?_;(try simp only [Act.put,List.setIfInBounds_toArray,List.set_cons_zero,List.set_cons_succ]))
    (refine takeD (i:=13) (v:=.bool mB) 161 rfl rfl (by kernel_rfl) (by kernel_rfl) (by kernel_rfl) (fun _ _ _ h=>h) (Or.inl ⟨by rfl,fun w hSw=>(by obtain ⟨t0,t1⟩:=hSw;have tb:=tcell t0 HV.out;go_simp)⟩) HC.out ?_;(try simp only [Act.put,List.setIfInBounds_toArray,List.set_cons_zero,List.set_cons_succ]))
    (refine takeD (i:=14) (v:=.bool hmB) 162 rfl rfl (by kernel_rfl) (by kernel_rfl) (by kernel_rfl) (fun _ _ _ h=>h) (Or.inl ⟨by rfl,fun w hSw=>(by obtain ⟨t0,t1⟩:=hSw;have tb:=tcell t0 HV.out;go_simp)⟩) HC.out ?_;(try simp only [Act.put,List.setIfInBounds_toArray,List.set_cons_zero,List.set_cons_succ]))
    cases b2 with
    | false =>
     (refine takeD (i:=15) (v:=.bool false) 163 rfl rfl (by kernel_rfl) (by kernel_rfl) (by kernel_rfl) (fun _ _ _ h=>h) (Or.inl ⟨by rfl,fun w hSw=>(by obtain ⟨t0,t1⟩:=hSw;have tb:=tcell t0 HV.out;go_simp)⟩) HC.out ?_;(try simp only [Act.put,List.setIfInBounds_toArray,List.set_cons_zero,List.set_cons_succ]))
     (refine takeD (i:=16) (v:=.bool false) 164 rfl rfl (by kernel_rfl) (by kernel_rfl) (by kernel_rfl) (fun _ _ _ h=>h) (Or.inl ⟨by rfl,fun w hSw=>(by obtain ⟨t0,t1⟩:=hSw;have tb:=tcell t0 HV.out;go_simp)⟩) HC.out ?_;(try simp only [Act.put,List.setIfInBounds_toArray,List.set_cons_zero,List.set_cons_succ]))
     ((refine takeD (i:=17) (v:=.bool false) 165 rfl rfl (by kernel_rfl) (by kernel_rfl) (by kernel_rfl) (fun _ _ _ h=>h) (Or.inl ⟨by rfl,fun w hSw=>(by obtain ⟨t0,t1⟩:=hSw;have tb:=tcell t0 HV.out;go_simp)⟩) HC.out ?_;(try simp only [Act.put,List.setIfInBounds_toArray,List.set_cons_zero,List.set_cons_succ]));(refine takeD (i:=18) (v:=undef) 166 rfl rfl (by kernel_rfl) (by kernel_rfl) (by kernel_rfl) (fun _ _ _ h=>h) (Or.inr ⟨by rfl,rfl⟩) HC.out ?_;(try simp only [Act.put,List.setIfInBounds_toArray,List.set_cons_zero,List.set_cons_succ]));(refine takeD (i:=19) (v:=undef) 167 rfl rfl (by kernel_rfl) (by kernel_rfl) (by kernel_rfl) (fun _ _ _ h=>h) (Or.inr ⟨by rfl,rfl⟩) HC.out ?_;(try simp only [Act.put,List.setIfInBounds_toArray,List.set_cons_zero,List.set_cons_succ]));(refine takeD (i:=20) (v:=undef) 168 rfl rfl (by kernel_rfl) (by kernel_rfl) (by kernel_rfl) (fun _ _ _ h=>h) (Or.inr ⟨by rfl,rfl⟩) HC.out ?_;(try simp only [Act.put,List.setIfInBounds_toArray,List.set_cons_zero,List.set_cons_succ]));(refine takeD (i:=21) (v:=undef) 169 rfl rfl (by kernel_rfl) (by kernel_rfl) (by kernel_rfl) (fun _ _ _ h=>h) (Or.inr ⟨by rfl,rfl⟩) HC.out ?_;(try simp only [Act.put,List.setIfInBounds_toArray,List.set_cons_zero,List.set_cons_succ]));(refine takeD (i:=22) (v:=.bool false) 170 rfl rfl (by kernel_rfl) (by kernel_rfl) (by kernel_rfl) (fun _ _ _ h=>h) (Or.inl ⟨by rfl,fun w hSw=>(by obtain ⟨t0,t1⟩:=hSw;have tb:=tcell t0 HV.out;go_simp)⟩) HC.out ?_;(try simp only [Act.put,List.setIfInBounds_toArray,List.set_cons_zero,List.set_cons_succ]));(refine takeD (i:=23) (v:=.bool false) 2 rfl rfl (by kernel_rfl) (by kernel_rfl) (by kernel_rfl) (fun _ _ _ h=>h) (Or.inl ⟨by rfl,fun w hSw=>(by obtain ⟨t0,t1⟩:=hSw;have tb:=tcell t0 HV.out;go_simp)⟩) HC.out ?_;(try simp only [Act.put,List.setIfInBounds_toArray,List.set_cons_zero,List.set_cons_succ]));((refine wpAnyH_done (by kernel_rfl) ?_ _);(refine NoPanic.normal ?_);(go_wp2_with fail);go_ret;exact ⟨by rw [Hr.out];rfl,S4.out.b⟩))
    | true =>
     (refine takeD (i:=15) (v:=.bool true) 163 rfl rfl (by kernel_rfl) (by kernel_rfl) (by kernel_rfl) (fun _ _ _ h=>h) (Or.inl ⟨by rfl,fun w hSw=>(by obtain ⟨t0,t1⟩:=hSw;have tb:=tcell t0 HV.out;go_simp)⟩) HC.out ?_;(try simp only [Act.put,List.setIfInBounds_toArray,List.set_cons_zero,List.set_cons_succ]))
     (refine takeD (i:=16) (v:=.bool true) 164 rfl rfl (by kernel_rfl) (by kernel_rfl) (by kernel_rfl) (fun _ _ _ h=>h) (Or.inl ⟨by rfl,fun w hSw=>(by obtain ⟨t0,t1⟩:=hSw;have tb:=tcell t0 HV.out;go_simp)⟩) HC.out ?_;(try simp only [Act.put,List.setIfInBounds_toArray,List.set_cons_zero,List.set_cons_succ]))
     (refine takeD (i:=17) (v:=.bool true) 165 rfl rfl (by kernel_rfl) (by kernel_rfl) (by kernel_rfl) (fun _ _ _ h=>h) (Or.inl ⟨by rfl,fun w hSw=>(by obtain ⟨t0,t1⟩:=hSw;have tb:=tcell t0 HV.out;go_simp)⟩) HC.out ?_;(try simp only [Act.put,List.setIfInBounds_toArray,List.set_cons_zero,List.set_cons_succ]))
     (refine takeD (i:=18) (v:=.pointer (some ⟨B,36,none⟩)) 166 rfl rfl (by kernel_rfl) (by kernel_rfl) (by kernel_rfl) (fun _ _ _ h=>h) (Or.inl ⟨by rfl,fun w hSw=>(by obtain ⟨t0,t1⟩:=hSw;have tb:=tcell t0 HV.out;go_simp)⟩) HC.out ?_;(try simp only [Act.put,List.setIfInBounds_toArray,List.set_cons_zero,List.set_cons_succ]))
     (refine takeD (i:=19) (v:=.slice dl n dc) 167 rfl rfl (by kernel_rfl) (by kernel_rfl) (by kernel_rfl) (fun _ _ _ h=>h) (Or.inl ⟨by rfl,fun w hSw=>(by obtain ⟨t0,t1⟩:=hSw;have tb:=tcell t0 HV.out;go_simp)⟩) HC.out ?_;(try simp only [Act.put,List.setIfInBounds_toArray,List.set_cons_zero,List.set_cons_succ]))
     (refine takeD (i:=20) (v:=.int .i64 n) 168 rfl rfl (by kernel_rfl) (by kernel_rfl) (by kernel_rfl) (fun _ _ _ h=>h) (Or.inl ⟨by rfl,fun w hSw=>(by obtain ⟨t0,t1⟩:=hSw;have tb:=tcell t0 HV.out;go_simp)⟩) HC.out ?_;(try simp only [Act.put,List.setIfInBounds_toArray,List.set_cons_zero,List.set_cons_succ]))
     (refine takeD (i:=21) (v:=.bool b3) 169 rfl rfl (by kernel_rfl) (by kernel_rfl) (by kernel_rfl) (fun _ _ _ h=>h) (Or.inl ⟨by rfl,fun w hSw=>(by obtain ⟨t0,t1⟩:=hSw;have tb:=tcell t0 HV.out;go_simp)⟩) HC.out ?_;(try simp only [Act.put,List.setIfInBounds_toArray,List.set_cons_zero,List.set_cons_succ]))
     (refine takeD (i:=22) (v:=.bool b3) 170 rfl rfl (by kernel_rfl) (by kernel_rfl) (by kernel_rfl) (fun _ _ _ h=>h) (Or.inl ⟨by rfl,fun w hSw=>(by obtain ⟨t0,t1⟩:=hSw;have tb:=tcell t0 HV.out;go_simp)⟩) HC.out ?_;(try simp only [Act.put,List.setIfInBounds_toArray,List.set_cons_zero,List.set_cons_succ]))
     (refine takeD (i:=23) (v:=.bool b3) 2 rfl rfl (by kernel_rfl) (by kernel_rfl) (by kernel_rfl) (fun _ _ _ h=>h) (Or.inl ⟨by rfl,fun w hSw=>(by obtain ⟨t0,t1⟩:=hSw;have tb:=tcell t0 HV.out;go_simp)⟩) HC.out ?_;(try simp only [Act.put,List.setIfInBounds_toArray,List.set_cons_zero,List.set_cons_succ]))
     ((refine wpAnyH_done (by kernel_rfl) ?_ _);(refine NoPanic.normal ?_);(go_wp2_with fail);go_ret;exact ⟨by rw [Hr.out];rfl,S4.out.b⟩)
end Go.Proofs.YtogamdaomdoapaaGreat
namespace Go.Proofs.YtogamdaomdoapaaGreat
set_option maxRecDepth 20000
open Go.RowKit
def TailOk (K2:Act→World→Prop) (w:World) (V:Array Value) (B P:Nat) (dB mB r:Bool) (d:Wd) (n:Nat):Prop :=
 ∀ (w3:World) (X:Pl) (ok hdB hmB:Bool) (j9 j10 j11 j12 j13 j14 j15 j16 j17 j18 j19 j20 j21 j22 j23 j24 j25 j26 j27 j28 j29 j30 j31 j32 j33 j34 j35 j36 j37 j38 j39 j40 j41 j42 j43 j44 j45 j46 j47 j48 j49 j50 j51 j52 j53 j54 j55 j56 j57 j58 j59 j60 j61 j62 j63 j64 j65 j66 j67 j68 j69 j70 j71 j72 j73 j74 j75 j76 j77 j78 j79 j80 j81 j82 j83 j84 j85 j86 j87 j88 j89 j90 j91 j92 j93 j94 j95 j96 j97 j98 j99 j100 j101 j102 j103 j104 j105 j106 j107 j108 j109 j110 j111 j112 j113 j114 j115 j116 j117 j118 j119 j120 j121 j122 j123 j124 j125 j126 j127 j128 j129 j130 j131 j132 j133 j134 j135 j136 j137 j138 j139 j140 j141 j142 j143 j144 j145 j146 j147:Value),St w w3 [thObj P (.cells (plV X) 173 (0,0)),thObj B (.cells V 85 (0,0))]→r=(ok&&eqPl d.pl X&&(dB==hdB)&&(mB==hmB)&&decide (n≤131072))→K2 { tmps:=#[.agg V,.pointer (some ⟨B,0,none⟩),.bool false,.bool dB,.bool mB,.pointer (some ⟨P,0,none⟩),.bool ok,.bool hdB,.bool hmB,j9,j10,j11,j12,j13,j14,j15,j16,j17,j18,j19,j20,j21,j22,j23,j24,j25,j26,j27,j28,j29,j30,j31,j32,j33,j34,j35,j36,j37,j38,j39,j40,j41,j42,j43,j44,j45,j46,j47,j48,j49,j50,j51,j52,j53,j54,j55,j56,j57,j58,j59,j60,j61,j62,j63,j64,j65,j66,j67,j68,j69,j70,j71,j72,j73,j74,j75,j76,j77,j78,j79,j80,j81,j82,j83,j84,j85,j86,j87,j88,j89,j90,j91,j92,j93,j94,j95,j96,j97,j98,j99,j100,j101,j102,j103,j104,j105,j106,j107,j108,j109,j110,j111,j112,j113,j114,j115,j116,j117,j118,j119,j120,j121,j122,j123,j124,j125,j126,j127,j128,j129,j130,j131,j132,j133,j134,j135,j136,j137,j138,j139,j140,j141,j142,j143,j144,j145,j146,j147,undef,undef,undef,undef,undef,undef,undef,undef,undef,undef,undef,undef,undef,undef,undef,undef,undef,undef,undef,undef,undef,undef,undef],defers:=[] } w3
theorem anyH_name {P:Program} {md:Region.Mode} {ops:Array Oper} {Q:Exit→Act→World→Prop} {S:World→Prop} {fuel:Nat} {listed:Array Bool} {a:Act} {w:World} (h:∀ w3,w3=w→wpAnyH P md ops Q S fuel listed a w3):wpAnyH P md ops Q S fuel listed a w:=h w rfl
end Go.Proofs.YtogamdaomdoapaaGreat