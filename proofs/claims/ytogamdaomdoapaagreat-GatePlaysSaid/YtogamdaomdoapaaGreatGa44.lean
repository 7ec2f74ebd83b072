/- Texts put together: PyB, PyD, PyE, PyI, PyG. -/
import Derived.Test.YtogamdaomdoapaaGreatGa41
import Derived.Test.YtogamdaomdoapaaGreatGa43
namespace Go.Proofs.YtogamdaomdoapaaGreat
open Go.Value renaming int→aI,string→aS,bool→aB
open Go.IntKind renaming i64→aK
open List renaming setIfInBounds_toArray→lA,set_cons_zero→lZ,set_cons_succ→lS
open Go.Lib renaming hid→uH
set_option maxRecDepth 20000
open Go.RowKit
namespace G
def lpC:Code→Code | .loop b=>b | c=>c
def blC:Code→Code | .block _ b=>b | c=>c
def thnC:Code→Code | .cond _ a _=>a | c=>c
def elsC:Code→Code | .cond _ _ b=>b | c=>c
def opV (o:Rq):List Value:=[aI aK o.kind,aI aK o.client,aI aK o.seq,aS o.key,aS o.who,aS o.tkey,aS o.twho,aI aK o.item,aI aK o.count,aI aK o.price,aB o.buy,aI aK o.id]
theorem p0k (o:Rq) (w:World):(Op.equalIn 10000 30 (.agg (opV o).toArray) (.agg (opV o).toArray)).run Tryz.prog w=.ok true w:=by
 unfold opV
 go_simp
theorem m0x {w:World} {r:Nat} {g:Gt} {av:Value} {t:TypeId} {fr:Nat × Nat} (h:w.heap[r]?=some (.cells (rgV g av) t fr)):w.rangeAt r 5 (opV g.op)∧w.cell? ⟨r,17,none⟩=some (aB g.pend)∧w.cell? ⟨r,18,none⟩=some av:=by
 have hc:∀ k,w.cell? ⟨r,k,none⟩=(rgV g av)[k]?:=fun k=>cell_of_row w r k _ _ _ h
 refine ⟨fun j v hv=>?_,hc 17,hc 18⟩
 rw [hc]
 have hj:j<12:=(List.getElem?_eq_some_iff.1 hv).1
 match j,hj with
 | 0,_ | 1,_ | 2,_ | 3,_ | 4,_ | 5,_ | 6,_ | 7,_ | 8,_ | 9,_ | 10,_ | 11,_=>exact hv
def thMs (b:Nat) (f t:Int) (ao:Option Addr) (cap:Nat) (l:List UInt8):Th where
 T w:=w.heap[b]?=some (.cells #[aI aK f,aI aK t,.slice ao l.length cap] 52 (0,0))∧F.Sl w ao cap l
 F x:=x=b∨(0<l.length∧∃ a,ao=some a∧a.block=x)
 stay h k hS:=⟨(k.block b (lt_of_block h.1) (hS b (.inl rfl))).trans h.1,h.2.le,h.2.cm,h.2.n0,fun hp =>
  let ⟨g,o,e,hg,hr⟩:=h.2.at_ hp
  ⟨g,o,e,Nat.lt_of_lt_of_le hg k.size,hr.keeps hg k (hS g (.inr ⟨hp,_,e,rfl⟩))⟩⟩
 lt h hx:=by
  rcases hx with rfl | ⟨hp,a,ha,rfl⟩
  ·exact lt_of_block h.1
  ·obtain ⟨g,o,e,hg,-⟩:=h.2.at_ hp
   rw [ha] at e
   obtain rfl:=Option.some.inj e
   exact hg
theorem v0f {b:Nat} {f t:Int} {ao:Option Addr} {cap:Nat} {l:List UInt8} {w:World} (h:(thMs b f t ao cap l).T w):j0k w b f t l:=⟨ao,cap,h.1,h.2⟩
theorem st_ms {W w w':World} {L L':List Th} (h:St W w L) (h':St W w' L') (hF:∀ t∈L',∃ u∈L,∀ x,t.F x→u.F x) {b:Nat} {f t:Int} {l:List UInt8} (hm:j0l w.heap.size w' b f t l):∃ ao cap,St W w' (thMs b f t ao cap l::L'):=by
 obtain ⟨hb,ao,cap,h1,h2,h3⟩:=hm
 have hx:∀ x,(thMs b f t ao cap l).F x→w.heap.size≤x:=fun x hx=>by
  rcases hx with rfl | ⟨hp,a,ha,rfl⟩
  ·exact hb
  ·exact h3 hp a ha
 refine ⟨ao,cap,h'.b,⟨h1,h2⟩,fun x hf=>Nat.le_trans h.b.size (hx x hf),fun u hu x hf hux=>?_,h'.t⟩
 obtain ⟨v,hv,hvx⟩:=hF u hu
 have:=(h.t.lts v hv x (hvx x hux)).1
 have:=hx x hf
 omega
def NxPy (Q:Exit→Act→World→Prop) (W:World) (id hosts:Int) (sl:Value) (p r i m:Nat):Prop:=∀ (y3 y4 y5 y6 y7 y8 y14 y16 y17 y18 y19 y20 y21 y22 y23 y24 y25 y26 y27 y28 y29 y30 y31 y32 y33 y34 y35 y36 y37 y38 y39 y40 y41 y42 y43 y44 y45 y46 y47 y48 y49 y50 y51 y52 y53 y54 y55 y56 y57 y58 y59 y60 y61 y62 y63 y64 y65 y66 y67 y68 y69 y70 y71 y72 y73 y74 y75 y76 y77 y78 y79 y80 y81 y82 y83 y84 y85 y86 y87 y88 y89 y90 y91 y92 y93 y94 y95 y96 y97 y98 y99 y100 y101 y102 y103 y104 y105 y106 y107 y108 y109 y110 y111 y112 y113 y114 y115 y116 y117 y118 y119 y120 y121 y122 y123 y124 y125 y126 y127 y128 y129 y130 y131 y132 y133 y134 y135 y136 y137 y138 y139 y140 y141 y142 y143 y144 y145 y146 y147 y148 y149 y150 y151 y152 y153 y154 y155 y156 y157 y158 y159 y160 y161 y162 y163 y164 y165 y166 y167 y168 y169 y170 y171 y172 y173 y174 y175 y176 y177 y178 y179 y180 y181 y182 y183 y184 y185 y186 y187 y188 y189 y190 y191 y192 y193 y194 y195 y196 y197 y198 y199 y200 y201 y202 y203 y204 y205 y206 y207 y208 y209 y210 y211 y212 y213 y214 y215 y216:Value) (w':World) (g:Gt) (A:List An) (a1 a2:Option Addr) (c1 c2:Nat),Hid (Ok g)→A.length≤m→Hid (St W w' [thG p g (.slice a1 A.length c1),thA W.heap.size a1 c1 A,thR r g (.slice a2 A.length c2),thB W.heap.size a2 c2 A])→Q .normal { tmps:=#[aI aK id,aI aK hosts,sl,y3,y4,y5,y6,y7,y8,.pointer (some ⟨p,0,none⟩),aI aK 0,.pointer (some ⟨r,0,none⟩),aI aK 0,aI aK i,y14,aB true,y16,y17,y18,y19,y20,y21,y22,y23,y24,y25,y26,y27,y28,y29,y30,y31,y32,y33,y34,y35,y36,y37,y38,y39,y40,y41,y42,y43,y44,y45,y46,y47,y48,y49,y50,y51,y52,y53,y54,y55,y56,y57,y58,y59,y60,y61,y62,y63,y64,y65,y66,y67,y68,y69,y70,y71,y72,y73,y74,y75,y76,y77,y78,y79,y80,y81,y82,y83,y84,y85,y86,y87,y88,y89,y90,y91,y92,y93,y94,y95,y96,y97,y98,y99,y100,y101,y102,y103,y104,y105,y106,y107,y108,y109,y110,y111,y112,y113,y114,y115,y116,y117,y118,y119,y120,y121,y122,y123,y124,y125,y126,y127,y128,y129,y130,y131,y132,y133,y134,y135,y136,y137,y138,y139,y140,y141,y142,y143,y144,y145,y146,y147,y148,y149,y150,y151,y152,y153,y154,y155,y156,y157,y158,y159,y160,y161,y162,y163,y164,y165,y166,y167,y168,y169,y170,y171,y172,y173,y174,y175,y176,y177,y178,y179,y180,y181,y182,y183,y184,y185,y186,y187,y188,y189,y190,y191,y192,y193,y194,y195,y196,y197,y198,y199,y200,y201,y202,y203,y204,y205,y206,y207,y208,y209,y210,y211,y212,y213,y214,y215,y216],defers:=[] } w'
end G
set_option maxRecDepth 20000
open Go.RowKit
namespace G
set_option maxHeartbeats 8000000 in
theorem c2_py {c:Code} (hb:(Tryz.f4).body=some c) {W w:World} {id hosts:Int} {sl:Value} {p r i m:Nat} {g:Gt} {A:List An} {a1 a2:Option Addr} {c1 c2:Nat} (S0:Hid (St W w [thG p g (.slice a1 A.length c1),thA W.heap.size a1 c1 A,thR r g (.slice a2 A.length c2),thB W.heap.size a2 c2 A])) (hok:Hid (Ok g)) (hm:A.length≤m) {Q:Exit→Act→World→Prop} {x3 x4 x5 x6 x7 x8 x14 x16 x17 x18 x19 x20 x21 x22 x23 x24 x25 x26 x27 x28 x29 x30 x31 x32 x33 x34 x35 x36 x37 x38 x39 x40 x41 x42 x43 x44 x45 x46 x47 x48 x49 x50 x51 x52 x53 x54 x55 x56 x57 x58 x59 x60 x61 x62 x63 x64 x65 x66 x67 x68 x69 x70 x71 x72 x73 x74 x75 x76 x77 x78 x79 x80 x81 x82 x83 x84 x85 x86 x87 x88 x89 x90 x91 x92 x93 x94 x95 x96 x97 x98 x99 x100 x101 x102 x103 x104 x105 x106 x107 x108 x109 x110 x111 x112 x113 x114 x115 x116 x117 x118 x119 x120 x121 x122 x123 x124 x125 x126 x127 x128 x129 x130 x131 x132 x133 x134 x135 x136 x137 x138 x139 x140 x141 x142 x143 x144 x145 x146 x147 x148 x149 x150 x151 x152 x153 x154 x155 x156 x157 x158 x159 x160 x161 x162 x163 x164 x165 x166 x167 x168 x169 x170 x171 x172 x173 x174 x175 x176 x177 x178 x179 x180 x181 x182 x183 x184 x185 x186 x187 x188 x189 x190 x191 x192 x193 x194 x195 x196 x197 x198 x199 x200 x201 x202 x203 x204 x205 x206 x207 x208 x209 x210 x211 x212 x213 x214 x215 x216:Value}
 (hQ:Hid (NxPy Q W id hosts sl p r i m)):(thnC (sndC (elsC (sndC (blC (sndC (fstC (sndC (sndC (blC (fstC (sndC (lpC (blC (sndC (fstC (sndC (sndC (sndC (sndC (sndC (sndC (sndC c))))))))))))))))))))))).wp Tryz.prog Q { tmps:=#[aI aK id,aI aK hosts,sl,x3,x4,x5,x6,x7,x8,.pointer (some ⟨p,0,none⟩),aI aK 0,.pointer (some ⟨r,0,none⟩),aI aK 0,aI aK i,x14,aB true,x16,x17,x18,x19,x20,x21,x22,x23,x24,x25,x26,x27,x28,x29,x30,x31,x32,x33,x34,x35,x36,x37,x38,x39,x40,x41,x42,x43,x44,x45,x46,x47,x48,x49,x50,x51,x52,x53,x54,x55,x56,x57,x58,x59,x60,x61,x62,x63,x64,x65,x66,x67,x68,x69,x70,x71,x72,x73,x74,x75,x76,x77,x78,x79,x80,x81,x82,x83,x84,x85,x86,x87,x88,x89,x90,x91,x92,x93,x94,x95,x96,x97,x98,x99,x100,x101,x102,x103,x104,x105,x106,x107,x108,x109,x110,x111,x112,x113,x114,x115,x116,x117,x118,x119,x120,x121,x122,x123,x124,x125,x126,x127,x128,x129,x130,x131,x132,x133,x134,x135,x136,x137,x138,x139,x140,x141,x142,x143,x144,x145,x146,x147,x148,x149,x150,x151,x152,x153,x154,x155,x156,x157,x158,x159,x160,x161,x162,x163,x164,x165,x166,x167,x168,x169,x170,x171,x172,x173,x174,x175,x176,x177,x178,x179,x180,x181,x182,x183,x184,x185,x186,x187,x188,x189,x190,x191,x192,x193,x194,x195,x196,x197,x198,x199,x200,x201,x202,x203,x204,x205,x206,x207,x208,x209,x210,x211,x212,x213,x214,x215,x216],defers:=[] } w:=by
 cases hb
 simp only [sndC,fstC,lpC,blC,thnC,elsC]
 refine wp_region_lit ?_
 go_wp2_with fail
 refine (tick_g S0.out hok.out).mono ?_
 rintro e w1 ⟨hS,hM⟩
 cases hs:h0j g with
 | false =>
  rw [if_neg (by rw [hs];simp)] at hM
  subst hM
  have S1:=uH (hS.pull (A:=[_,_]))
  clear hS S0
  go_wp2_with fail
  refine (tick_r S1.out hok.out (by simp)).mono ?_
  rintro e w2 ⟨hS,hM⟩
  rw [if_neg (by rw [hs];simp)] at hM
  subst hM
  have S2:=uH ((hS.pull (A:=[_,_])).pull (A:=[_,_]))
  clear hS S1 hs
  go_wp2_with fail
  refine (p0a w2).mono ?_
  rintro e w3 ⟨rfl,hb⟩
  have S3:=uH (S2.out.grow hb)
  clear hb S2
  go_wp2_with fail
  (have hQ:=hQ.out;unfold NxPy at hQ;exact hQ _ _ _ _ _ _ _ _ _ _ _ _ _ _ _ _ _ _ _ _ _ _ _ _ _ _ _ _ _ _ _ _ _ _ _ _ _ _ _ _ _ _ _ _ _ _ _ _ _ _ _ _ _ _ _ _ _ _ _ _ _ _ _ _ _ _ _ _ _ _ _ _ _ _ _ _ _ _ _ _ _ _ _ _ _ _ _ _ _ _ _ _ _ _ _ _ _ _ _ _ _ _ _ _ _ _ _ _ _ _ _ _ _ _ _ _ _ _ _ _ _ _ _ _ _ _ _ _ _ _ _ _ _ _ _ _ _ _ _ _ _ _ _ _ _ _ _ _ _ _ _ _ _ _ _ _ _ _ _ _ _ _ _ _ _ _ _ _ _ _ _ _ _ _ _ _ _ _ _ _ _ _ _ _ _ _ _ _ _ _ _ _ _ _ _ _ _ _ _ _ _ _ _ _ _ _ _ _ _ _ _ _ _ _ _ (uH (v0e hok.out)) hm S3)
 | true =>
  rw [if_pos hs] at hM
  obtain ⟨b,rfl,hM⟩:=hM
  obtain ⟨mo,mc,hS⟩:=st_ms S0.out hS (fun t ht=>by
   rcases List.mem_cons.1 ht with rfl | ht
   ·exact ⟨_,List.mem_cons_self,fun _ h=>h⟩
   ·exact ⟨t,List.mem_cons_of_mem _ ht,fun _ h=>h⟩) hM
  have S1:=uH (hS.pull (A:=[_,_,_]))
  clear hS S0 hM
  go_wp2_with fail
  refine (tick_r S1.out hok.out (by simp)).mono ?_
  rintro e w2 ⟨hS,hM⟩
  rw [if_pos hs] at hM
  obtain ⟨b2,rfl,hM⟩:=hM
  have HM:=uH hM
  have S2:=uH (hS.pull (A:=[_]))
  clear hS S1 hs hM
  go_wp2_with fail
  refine (s0u (v0f S2.out.head) HM.out).mono ?_
  rintro e w3 ⟨rfl,hb⟩
  have S3:=uH ((((S2.out.grow hb).drop).pull (A:=[_,_])).pull (A:=[_,_]))
  clear hb S2 HM
  go_wp2_with fail
  (have hQ:=hQ.out;unfold NxPy at hQ;exact hQ _ _ _ _ _ _ _ _ _ _ _ _ _ _ _ _ _ _ _ _ _ _ _ _ _ _ _ _ _ _ _ _ _ _ _ _ _ _ _ _ _ _ _ _ _ _ _ _ _ _ _ _ _ _ _ _ _ _ _ _ _ _ _ _ _ _ _ _ _ _ _ _ _ _ _ _ _ _ _ _ _ _ _ _ _ _ _ _ _ _ _ _ _ _ _ _ _ _ _ _ _ _ _ _ _ _ _ _ _ _ _ _ _ _ _ _ _ _ _ _ _ _ _ _ _ _ _ _ _ _ _ _ _ _ _ _ _ _ _ _ _ _ _ _ _ _ _ _ _ _ _ _ _ _ _ _ _ _ _ _ _ _ _ _ _ _ _ _ _ _ _ _ _ _ _ _ _ _ _ _ _ _ _ _ _ _ _ _ _ _ _ _ _ _ _ _ _ _ _ _ _ _ _ _ _ _ _ _ _ _ _ _ _ _ _ (uH (v0e hok.out)) hm S3)
end G
set_option maxRecDepth 20000
open Go.RowKit
namespace G
theorem o0y {w:World} {b:Nat} {o:Rq} (h:w.heap[b]?=some (.cells (opV o).toArray 30 (0,0))):b<w.heap.size∧w.cell? ⟨b,0,none⟩=some (aI aK o.kind)∧w.cell? ⟨b,1,none⟩=some (aI aK o.client)∧w.cell? ⟨b,2,none⟩=some (aI aK o.seq)∧w.cell? ⟨b,3,none⟩=some (aS o.key)∧w.cell? ⟨b,4,none⟩=some (aS o.who)∧w.cell? ⟨b,5,none⟩=some (aS o.tkey)∧w.cell? ⟨b,6,none⟩=some (aS o.twho)∧w.cell? ⟨b,7,none⟩=some (aI aK o.item)∧w.cell? ⟨b,8,none⟩=some (aI aK o.count)∧w.cell? ⟨b,9,none⟩=some (aI aK o.price)∧w.cell? ⟨b,10,none⟩=some (aB o.buy)∧w.cell? ⟨b,11,none⟩=some (aI aK o.id):=by
 have hc:=(b0b h).1
 exact ⟨lt_of_block h,hc 0,hc 1,hc 2,hc 3,hc 4,hc 5,hc 6,hc 7,hc 8,hc 9,hc 10,hc 11⟩
set_option maxHeartbeats 8000000 in
theorem c1_py {c:Code} (hb:(Tryz.f4).body=some c) {W w:World} {id hosts:Int} {sl:Value} {p r i m:Nat} {g:Gt} {A:List An} {a1 a2:Option Addr} {c1 c2:Nat} {a:Ac} {B:Nat} (S0:Hid (St W w (a0c B (.cells (acV a).toArray 61 (0,0))::[thG p g (.slice a1 A.length c1),thA W.heap.size a1 c1 A,thR r g (.slice a2 A.length c2),thB W.heap.size a2 c2 A]))) (hok:Hid (Ok g)) (hm:A.length≤m) {Q:Exit→Act→World→Prop} {x3 x4 x5 x6 x7 x8 x16 x17 x18 x19 x20 x21 x22 x23 x24 x25 x26 x27 x28 x29 x30 x31 x32 x33 x34 x35 x36 x37 x38 x39 x40 x41 x42 x43 x44 x45 x46 x47 x48 x49 x50 x51 x52 x53 x54 x55 x56 x57 x58 x59 x60 x61 x62 x63 x64 x65 x66 x67 x68 x69 x70 x71 x72 x73 x74 x75 x76 x77 x78 x79 x80 x81 x82 x83 x84 x85 x86 x87 x88 x89 x90 x91 x92 x93 x94 x95 x96 x97 x98 x99 x100 x101 x102 x103 x104 x105 x106 x107 x108 x109 x110 x111 x112 x113 x114 x115 x116 x117 x118 x119 x120 x121 x122 x123 x124 x125 x126 x127 x128 x129 x130 x131 x132 x133 x134 x135 x136 x137 x138 x139 x140 x141 x142 x143 x144 x145 x146 x147 x148 x149 x150 x151 x152 x153 x154 x155 x156 x157 x158 x159 x160 x161 x162 x163 x164 x165 x166 x167 x168 x169 x170 x171 x172 x173 x174 x175 x176 x177 x178 x179 x180 x181 x182 x183 x184 x185 x186 x187 x188 x189 x190 x191 x192 x193 x194 x195 x196 x197 x198 x199 x200 x201 x202 x203 x204 x205 x206 x207 x208 x209 x210 x211 x212 x213 x214 x215 x216:Value}
 (hQ:Hid (NxPy Q W id hosts sl p r i m)):(thnC (sndC (blC (sndC (fstC (sndC (sndC (blC (fstC (sndC (lpC (blC (sndC (fstC (sndC (sndC (sndC (sndC (sndC (sndC (sndC c))))))))))))))))))))).wp Tryz.prog Q { tmps:=#[aI aK id,aI aK hosts,sl,x3,x4,x5,x6,x7,x8,.pointer (some ⟨p,0,none⟩),aI aK 0,.pointer (some ⟨r,0,none⟩),aI aK 0,aI aK i,.pointer (some ⟨B,0,none⟩),aB true,x16,x17,x18,x19,x20,x21,x22,x23,x24,x25,x26,x27,x28,x29,x30,x31,x32,x33,x34,x35,x36,x37,x38,x39,x40,x41,x42,x43,x44,x45,x46,x47,x48,x49,x50,x51,x52,x53,x54,x55,x56,x57,x58,x59,x60,x61,x62,x63,x64,x65,x66,x67,x68,x69,x70,x71,x72,x73,x74,x75,x76,x77,x78,x79,x80,x81,x82,x83,x84,x85,x86,x87,x88,x89,x90,x91,x92,x93,x94,x95,x96,x97,x98,x99,x100,x101,x102,x103,x104,x105,x106,x107,x108,x109,x110,x111,x112,x113,x114,x115,x116,x117,x118,x119,x120,x121,x122,x123,x124,x125,x126,x127,x128,x129,x130,x131,x132,x133,x134,x135,x136,x137,x138,x139,x140,x141,x142,x143,x144,x145,x146,x147,x148,x149,x150,x151,x152,x153,x154,x155,x156,x157,x158,x159,x160,x161,x162,x163,x164,x165,x166,x167,x168,x169,x170,x171,x172,x173,x174,x175,x176,x177,x178,x179,x180,x181,x182,x183,x184,x185,x186,x187,x188,x189,x190,x191,x192,x193,x194,x195,x196,x197,x198,x199,x200,x201,x202,x203,x204,x205,x206,x207,x208,x209,x210,x211,x212,x213,x214,x215,x216],defers:=[] } w:=by
 have Hg:=uH (r0t (S0.out.pull (A:=[_])) hok.out a.o)
 unfold g0q at Hg
 have Hr:=uH (fun (wx:World) (L:List Th) (S:St W wx (thR r g (.slice a2 A.length c2)::L))=>submit_r S hok.out a.o)
 unfold g0b at Hr
 have Hok:=uH (sub_ok hok.out a.o)
 obtain ⟨q,hq⟩:∃ q,q=subR g a.o:=⟨_,rfl⟩
 obtain ⟨ec,hec⟩:∃ ec,ec=subE g a.o:=⟨_,rfl⟩
 obtain ⟨g1,hg1⟩:∃ g1,g1=subG g a.o:=⟨_,rfl⟩
 rw [←hq,←hec,←hg1] at Hg Hr
 rw [←hg1] at Hok
 clear hq hec hg1
 cases hb
 simp only [sndC,fstC,lpC,blC,thnC]
 refine a0a fun C HC=>?_
 obtain ⟨bl,bc,-⟩:=S0.out.a0b 0 rfl
 have d0:w.cell? ⟨B,5,none⟩=some (aI aK a.o.kind):=bc 5
 have d1:w.cell? ⟨B,6,none⟩=some (aI aK a.o.client):=bc 6
 have d2:w.cell? ⟨B,7,none⟩=some (aI aK a.o.seq):=bc 7
 have d3:w.cell? ⟨B,8,none⟩=some (aS a.o.key):=bc 8
 have d4:w.cell? ⟨B,9,none⟩=some (aS a.o.who):=bc 9
 have d5:w.cell? ⟨B,10,none⟩=some (aS a.o.tkey):=bc 10
 have d6:w.cell? ⟨B,11,none⟩=some (aS a.o.twho):=bc 11
 have d7:w.cell? ⟨B,12,none⟩=some (aI aK a.o.item):=bc 12
 have d8:w.cell? ⟨B,13,none⟩=some (aI aK a.o.count):=bc 13
 have d9:w.cell? ⟨B,14,none⟩=some (aI aK a.o.price):=bc 14
 have d10:w.cell? ⟨B,15,none⟩=some (aB a.o.buy):=bc 15
 have d11:w.cell? ⟨B,16,none⟩=some (aI aK a.o.id):=bc 16
 clear bc
 go_wp2_with fail
 refine Hg.out.mono ?_
 rintro e w1 ⟨rfl,hS⟩
 have S1:=uH hS
 clear hS S0 Hg bl d0 d1 d2 d3 d4 d5 d6 d7 d8 d9 d10 d11
 go_wp2_with fail
 refine a0d fun w2 hw2=>?_
 obtain ⟨Y,hY⟩:∃ Y,Y=w1.heap.size:=⟨_,rfl⟩
 have S2:Hid (St W w2 (a0c Y (.cells (opV q).toArray 30 (0,0))::[thG p g1 (.slice a1 A.length c1),a0c B (.cells (acV a).toArray 61 (0,0)),thA W.heap.size a1 c1 A,thR r g (.slice a2 A.length c2),thB W.heap.size a2 c2 A])):=by
  rw [hw2]
  exact uH (S1.out.objN _ Y hY)
 rw [←hY]
 clear hw2 hY S1
 ((have hC:=HC.out);clear HC;subst hC)
 refine a0a fun C HC=>?_
 obtain ⟨bl,bc,-⟩:=S2.out.a0b 2 rfl
 have d0:w2.cell? ⟨B,5,none⟩=some (aI aK a.o.kind):=bc 5
 have d1:w2.cell? ⟨B,6,none⟩=some (aI aK a.o.client):=bc 6
 have d2:w2.cell? ⟨B,7,none⟩=some (aI aK a.o.seq):=bc 7
 have d3:w2.cell? ⟨B,8,none⟩=some (aS a.o.key):=bc 8
 have d4:w2.cell? ⟨B,9,none⟩=some (aS a.o.who):=bc 9
 have d5:w2.cell? ⟨B,10,none⟩=some (aS a.o.tkey):=bc 10
 have d6:w2.cell? ⟨B,11,none⟩=some (aS a.o.twho):=bc 11
 have d7:w2.cell? ⟨B,12,none⟩=some (aI aK a.o.item):=bc 12
 have d8:w2.cell? ⟨B,13,none⟩=some (aI aK a.o.count):=bc 13
 have d9:w2.cell? ⟨B,14,none⟩=some (aI aK a.o.price):=bc 14
 have d10:w2.cell? ⟨B,15,none⟩=some (aB a.o.buy):=bc 15
 have d11:w2.cell? ⟨B,16,none⟩=some (aI aK a.o.id):=bc 16
 clear bc
 go_wp2_with fail
 refine (Hr.out w2 _ (S2.out.pull (A:=[_,_,_,_]))).mono ?_
 rintro e w3 ⟨rfl,hS⟩
 have S3:=uH hS
 clear hS S2 Hr bl d0 d1 d2 d3 d4 d5 d6 d7 d8 d9 d10 d11
 go_wp2_with fail
 refine a0d fun w4 hw4=>?_
 obtain ⟨Z,hZ⟩:∃ Z,Z=w3.heap.size:=⟨_,rfl⟩
 have S4:Hid (St W w4 (a0c Z (.cells (opV q).toArray 30 (0,0))::[thR r g1 (.slice a2 A.length c2),a0c Y (.cells (opV q).toArray 30 (0,0)),thG p g1 (.slice a1 A.length c1),a0c B (.cells (acV a).toArray 61 (0,0)),thA W.heap.size a1 c1 A,thB W.heap.size a2 c2 A])):=by
  rw [hw4]
  exact uH (S3.out.objN _ Z hZ)
 rw [←hZ]
 clear hw4 hZ S3
 ((have hC:=HC.out);clear HC;subst hC)
 obtain ⟨yl,y0,y1,y2,y3,y4,y5,y6,y7,y8,y9,ya,yb⟩:=o0y (S4.out.head)
 obtain ⟨zl,z0,z1,z2,z3,z4,z5,z6,z7,z8,z9,za,zb⟩:=o0y ((S4.out.pull (A:=[_,_])).head)
 refine wp_region_lit ?_
 go_wp2_with fail
 clear yl y0 y1 y2 y3 y4 y5 y6 y7 y8 y9 ya yb
 clear zl z0 z1 z2 z3 z4 z5 z6 z7 z8 z9 za zb
 have S5:=uH ((((((S4.out.drop.pull (A:=[_])).drop).pull (A:=[_,_])).drop.pull (A:=[_,_])).pull (A:=[_,_])))
 clear S4
 (have hQ:=hQ.out;unfold NxPy at hQ;exact hQ _ _ _ _ _ _ _ _ _ _ _ _ _ _ _ _ _ _ _ _ _ _ _ _ _ _ _ _ _ _ _ _ _ _ _ _ _ _ _ _ _ _ _ _ _ _ _ _ _ _ _ _ _ _ _ _ _ _ _ _ _ _ _ _ _ _ _ _ _ _ _ _ _ _ _ _ _ _ _ _ _ _ _ _ _ _ _ _ _ _ _ _ _ _ _ _ _ _ _ _ _ _ _ _ _ _ _ _ _ _ _ _ _ _ _ _ _ _ _ _ _ _ _ _ _ _ _ _ _ _ _ _ _ _ _ _ _ _ _ _ _ _ _ _ _ _ _ _ _ _ _ _ _ _ _ _ _ _ _ _ _ _ _ _ _ _ _ _ _ _ _ _ _ _ _ _ _ _ _ _ _ _ _ _ _ _ _ _ _ _ _ _ _ _ _ _ _ _ _ _ _ _ _ _ _ _ _ _ _ _ _ _ _ _ _ Hok hm S5)
end G
set_option maxRecDepth 20000
open Go.RowKit
namespace G
theorem x0s (g:Gt) (f t:Int) (D:Wd × Int):(g0l g f t D).length≤1:=by
 unfold g0l
 split<;>simp
set_option maxHeartbeats 8000000 in
theorem h_py {c:Code} (hb:(Tryz.f4).body=some c) {W w:World} {id hosts:Int} {sl:Value} {p r i m:Nat} {g:Gt} {A:List An} {a1 a2:Option Addr} {c1 c2:Nat} {M:Nat} {f:Int} {bo:Option Addr} {bc:Nat} {l:List UInt8} {t:Th} (S0:Hid (St W w (a0c M (.cells #[aI aK f,aI aK id,.slice bo l.length bc] 52 (0,0))::t::[thG p g (.slice a1 A.length c1),thA W.heap.size a1 c1 A,thR r g (.slice a2 A.length c2),thB W.heap.size a2 c2 A]))) (hD:Hid (∀ (w':World),t.T w'→Below W.heap.size W w'→F.Sl w' bo bc l)) (hl:l.length≤2000) (hok:Hid (Ok g)) (hA:A.length≤500) (hm:A.length+1≤m) {Q:Exit→Act→World→Prop} {x3 x4 x5 x6 x7 x8 x14 x16 x17 x18 x19 x20 x22 x23 x24 x25 x26 x27 x28 x29 x30 x31 x32 x33 x34 x35 x36 x37 x38 x39 x40 x41 x42 x43 x44 x45 x46 x47 x48 x49 x50 x51 x52 x53 x54 x55 x56 x57 x58 x59 x60 x61 x62 x63 x64 x65 x66 x67 x68 x69 x70 x71 x72 x73 x74 x75 x76 x77 x78 x79 x80 x81 x82 x83 x84 x85 x86 x87 x88 x89 x90 x91 x92 x93 x94 x95 x96 x97 x98 x99 x100 x101 x102 x103 x104 x105 x106 x107 x108 x109 x110 x111 x112 x113 x114 x115 x116 x117 x118 x119 x120 x121 x122 x123 x124 x125 x126 x127 x128 x129 x130 x131 x132 x133 x134 x135 x136 x137 x138 x139 x140 x141 x142 x143 x144 x145 x146 x147 x148 x149 x150 x151 x152 x153 x154 x155 x156 x157 x158 x159 x160 x161 x162 x163 x164 x165 x166 x167 x168 x169 x170 x171 x172 x173 x174 x175 x176 x177 x178 x179 x180 x181 x182 x183 x184 x185 x186 x187 x188 x189 x190 x191 x192 x193 x194 x195 x196 x197 x198 x199 x200 x201 x202 x203 x204 x205 x206 x207 x208 x209 x210 x211 x212 x213 x214 x215 x216:Value}
 (hQ:Hid (NxPy Q W id hosts sl p r i m)):(sndC (sndC (sndC (sndC (thnC (sndC (elsC (sndC (elsC (sndC (blC (sndC (fstC (sndC (sndC (blC (fstC (sndC (lpC (blC (sndC (fstC (sndC (sndC (sndC (sndC (sndC (sndC (sndC c))))))))))))))))))))))))))))).wp Tryz.prog Q { tmps:=#[aI aK id,aI aK hosts,sl,x3,x4,x5,x6,x7,x8,.pointer (some ⟨p,0,none⟩),aI aK 0,.pointer (some ⟨r,0,none⟩),aI aK 0,aI aK i,x14,aB true,x16,x17,x18,x19,x20,.pointer (some ⟨M,0,none⟩),x22,x23,x24,x25,x26,x27,x28,x29,x30,x31,x32,x33,x34,x35,x36,x37,x38,x39,x40,x41,x42,x43,x44,x45,x46,x47,x48,x49,x50,x51,x52,x53,x54,x55,x56,x57,x58,x59,x60,x61,x62,x63,x64,x65,x66,x67,x68,x69,x70,x71,x72,x73,x74,x75,x76,x77,x78,x79,x80,x81,x82,x83,x84,x85,x86,x87,x88,x89,x90,x91,x92,x93,x94,x95,x96,x97,x98,x99,x100,x101,x102,x103,x104,x105,x106,x107,x108,x109,x110,x111,x112,x113,x114,x115,x116,x117,x118,x119,x120,x121,x122,x123,x124,x125,x126,x127,x128,x129,x130,x131,x132,x133,x134,x135,x136,x137,x138,x139,x140,x141,x142,x143,x144,x145,x146,x147,x148,x149,x150,x151,x152,x153,x154,x155,x156,x157,x158,x159,x160,x161,x162,x163,x164,x165,x166,x167,x168,x169,x170,x171,x172,x173,x174,x175,x176,x177,x178,x179,x180,x181,x182,x183,x184,x185,x186,x187,x188,x189,x190,x191,x192,x193,x194,x195,x196,x197,x198,x199,x200,x201,x202,x203,x204,x205,x206,x207,x208,x209,x210,x211,x212,x213,x214,x215,x216],defers:=[] } w:=by
 obtain ⟨nl,hnl⟩:∃ nl,nl=l.length:=⟨_,rfl⟩
 have Hnl:=uH hnl
 rw [←hnl] at S0
 have hlen:=x0s g f id (d0e l)
 obtain ⟨wd,hwd⟩:∃ wd,wd=w.drew:=⟨_,rfl⟩
 have S1:Hid (St W wd (thG p g (.slice a1 A.length c1)::thA W.heap.size a1 c1 A::[a0c M (.cells #[aI aK f,aI aK id,.slice bo nl bc] 52 (0,0)),t,thR r g (.slice a2 A.length c2),thB W.heap.size a2 c2 A])):=by
  rw [hwd]
  exact uH (((S0.out.grow (Below.refl _ _).drew).pull (A:=[_,_,_])).pull (A:=[_,_,_]))
 have hSl:=fun (w':World) (L:List Th) (S:St W w' (t::L))=>hD.out w' S.head S.b
 have Hsl:=uH hSl
 have hhe:=hear_g S1.out hok.out f id bo bc l (hSl _ _ (S1.out.pull (A:=[_,_,_]))) (by omega) (fun q hq=>r0w (by have:=w0x hq rfl;omega)) (by omega)
 rw [←hnl] at hhe
 have Hhe:=uH hhe
 have HC:Hid ((fun U:World=>U.heap[M]?=some (.cells #[aI aK f,aI aK id,.slice bo nl bc] 52 (0,0))) wd):=uH (S1.out.pull (A:=[_,_])).head
 clear hhe hSl hD S0 hnl
 cases hb
 simp only [sndC,fstC,lpC,blC,thnC,elsC]
 refine wp_region_noPanic ?_
 refine wp_region_held (S:=(fun U:World=>U.heap[M]?=some (.cells #[aI aK f,aI aK id,.slice bo nl bc] 52 (0,0)))) (by kernel_rfl) ?_
 change wpAnyH _ _ _ _ _ _ _ _ (World.drew _)
 rw [←hwd]
 clear hwd
 (refine tkD (i:=0) (v:=.pointer (some ⟨p,0,none⟩)) 176 rfl (fun w hSw=>(by clear hSw;go_simp)) HC.out ?_;(try simp only [Act.put,lA,lZ,lS]))
 (refine tkD (i:=1) (v:=.agg #[aI aK f,aI aK id,.slice bo nl bc]) 177 rfl (fun w hSw=>(by exact d0x 52 _ rfl M rfl _ #[aI aK f,aI aK id,.slice bo nl bc] _ _ hSw Tryz.underlying52 rfl (by kernel_rfl))) HC.out ?_;(try simp only [Act.put,lA,lZ,lS]))
 (refine tkD (i:=3) (v:=.pointer (some ⟨r,0,none⟩)) 179 rfl (fun w hSw=>(by clear hSw;go_simp)) HC.out ?_;(try simp only [Act.put,lA,lZ,lS]))
 (refine tkD (i:=4) (v:=.agg #[aI aK f,aI aK id,.slice bo nl bc]) 180 rfl (fun w hSw=>(by exact d0x 52 _ rfl M rfl _ #[aI aK f,aI aK id,.slice bo nl bc] _ _ hSw Tryz.underlying52 rfl (by kernel_rfl))) HC.out ?_;(try simp only [Act.put,lA,lZ,lS]))
 (refine oneD 2 rfl (fun K' hK'=>?_))
 go_simp
 refine Hhe.out.mono ?_
 rintro e w1 ⟨b1,k1,hsame,hS,hM⟩
 obtain ⟨D,hD⟩:∃ D,D=d0e l:=⟨_,rfl⟩
 have HDD:=uH hD
 rw [←hD] at hsame hS hM hlen
 have Hok:=uH (hear_ok hok.out f id D)
 obtain ⟨g1,hg1⟩:∃ g1,g1=h0w g f id D:=⟨_,rfl⟩
 obtain ⟨A1,hA1⟩:∃ A1,A1=A++g0l g f id D:=⟨_,rfl⟩
 have hA1l:A1.length≤m:=by rw [hA1,List.length_append];omega
 have Hg1:=uH hg1
 have HA1:=uH hA1
 rw [←hg1,←hA1] at hS
 rw [←hg1] at Hok
 clear hD hg1 hA1 Hhe
 cases hmv:h0v g f id D with
 | false =>
  rw [if_neg (by rw [hmv];simp)] at hM
  subst hM
  have S2:Hid (St W w1 (thR r g (.slice a2 A.length c2)::thB W.heap.size a2 c2 A::[thG p g1 (.slice b1 A1.length k1),thA W.heap.size b1 k1 A1,a0c M (.cells #[aI aK f,aI aK id,.slice bo nl bc] 52 (0,0)),t])):=uH ((hS.pull (A:=[_,_,_,_,_])).pull (A:=[_,_,_,_,_]))
  clear hS S1 hsame
  refine hK' _ _ ⟨(S2.out.pull (A:=[_,_,_,_])).head,?_⟩
  clear hK' K'
  (try simp only [Act.put,lA,lZ,lS])
  have hs2:=Hsl.out _ _ (S2.out.pull (A:=[_,_,_,_,_]))
  have hhe:=hear_r S2.out hok.out f id bo bc l (fun w3 hb=>s0j bo bc l w3 (hs2.grow hb) hl) (by omega)
  rw [←HDD.out,←Hnl.out] at hhe
  have Hhe:=uH hhe
  clear hhe hs2
  (refine oneD 5 rfl (fun K' hK'=>?_))
  go_simp
  refine Hhe.out.mono ?_
  rintro e w2 ⟨b2,k2,-,hS,hM⟩
  rw [if_neg (by rw [hmv];simp)] at hM
  subst hM
  rw [←Hg1.out,←HA1.out] at hS
  have S3:Hid (St W w2 (a0c M (.cells #[aI aK f,aI aK id,.slice bo nl bc] 52 (0,0))::[thR r g1 (.slice b2 A1.length k2),thB W.heap.size b2 k2 A1,thG p g1 (.slice b1 A1.length k1),thA W.heap.size b1 k1 A1,t])):=uH (hS.pull (A:=[_,_,_,_]))
  clear hS S2 Hhe
  refine hK' _ _ ⟨S3.out.head,?_⟩
  clear hK' K'
  (try simp only [Act.put,lA,lZ,lS])
  (refine oneD 6 rfl (fun K' hK'=>?_))
  go_simp
  refine (p0a w2).mono ?_
  rintro e w3 ⟨rfl,hb⟩
  have S4:=uH (S3.out.grow hb)
  clear hb S3
  refine hK' _ _ ⟨S4.out.head,?_⟩
  clear hK' K'
  (try simp only [Act.put,lA,lZ,lS])
  have HC:=uH S4.out.head
  have S5:=uH (((S4.out.drop.pull (A:=[_,_,_])).pull (A:=[_,_,_])))
  ((have S6:=uH (((((S5.out.pull (A:=[_,_,_,_])).drop)))));(refine tkD (i:=7) (v:=aB true) 15 rfl (fun w hSw=>(by clear hSw;go_simp)) HC.out ?_;(try simp only [Act.put,lA,lZ,lS]));(refine wpAnyH_done (by kernel_rfl) ?_ _);(refine NoPanic.normal ?_);(have hQ:=hQ.out;unfold NxPy at hQ;exact hQ _ _ _ _ _ _ _ _ _ _ _ _ _ _ _ _ _ _ _ _ _ _ _ _ _ _ _ _ _ _ _ _ _ _ _ _ _ _ _ _ _ _ _ _ _ _ _ _ _ _ _ _ _ _ _ _ _ _ _ _ _ _ _ _ _ _ _ _ _ _ _ _ _ _ _ _ _ _ _ _ _ _ _ _ _ _ _ _ _ _ _ _ _ _ _ _ _ _ _ _ _ _ _ _ _ _ _ _ _ _ _ _ _ _ _ _ _ _ _ _ _ _ _ _ _ _ _ _ _ _ _ _ _ _ _ _ _ _ _ _ _ _ _ _ _ _ _ _ _ _ _ _ _ _ _ _ _ _ _ _ _ _ _ _ _ _ _ _ _ _ _ _ _ _ _ _ _ _ _ _ _ _ _ _ _ _ _ _ _ _ _ _ _ _ _ _ _ _ _ _ _ _ _ _ _ _ _ _ _ _ _ _ _ _ _ Hok hA1l S6))
 | true =>
  rw [if_pos hmv] at hM
  obtain ⟨b,rfl,hM⟩:=hM
  obtain ⟨rfl,rfl⟩:=hsame hmv
  obtain ⟨mo,mc,hS⟩:=st_ms S1.out hS (fun t ht=>by
   rcases List.mem_cons.1 ht with rfl | ht
   ·exact ⟨_,List.mem_cons_self,fun _ h=>h⟩
   rcases List.mem_cons.1 ht with rfl | ht
   ·exact ⟨_,List.mem_cons_of_mem _ List.mem_cons_self,fun _ h=>h⟩
   ·exact ⟨t,List.mem_cons_of_mem _ (List.mem_cons_of_mem _ ht),fun _ h=>h⟩) hM
  have S2:Hid (St W w1 (thR r g (.slice a2 A.length c2)::thB W.heap.size a2 c2 A::[thMs b g.id D.1.host mo mc (encW (f0j g.op)),thG p g1 (.slice b1 A1.length k1),thA W.heap.size b1 k1 A1,a0c M (.cells #[aI aK f,aI aK id,.slice bo nl bc] 52 (0,0)),t])):=uH ((hS.pull (A:=[_,_,_,_,_,_])).pull (A:=[_,_,_,_,_,_]))
  clear hS S1 hM
  refine hK' _ _ ⟨(S2.out.pull (A:=[_,_,_,_,_])).head,?_⟩
  clear hK' K'
  (try simp only [Act.put,lA,lZ,lS])
  have hs2:=Hsl.out _ _ (S2.out.pull (A:=[_,_,_,_,_,_]))
  have hhe:=hear_r S2.out hok.out f id bo bc l (fun w3 hb=>s0j bo bc l w3 (hs2.grow hb) hl) (by omega)
  rw [←HDD.out,←Hnl.out] at hhe
  have Hhe:=uH hhe
  clear hhe hs2
  (refine oneD 5 rfl (fun K' hK'=>?_))
  go_simp
  refine Hhe.out.mono ?_
  rintro e w2 ⟨b2,k2,-,hS,hM⟩
  rw [if_pos hmv] at hM
  obtain ⟨d,rfl,hM⟩:=hM
  have HM:=uH hM
  rw [←Hg1.out,←HA1.out] at hS
  have S3:Hid (St W w2 (thMs b g.id D.1.host mo mc (encW (f0j g.op))::[a0c M (.cells #[aI aK f,aI aK id,.slice bo nl bc] 52 (0,0)),thR r g1 (.slice b2 A1.length k2),thB W.heap.size b2 k2 A1,thG p g1 (.slice b1 A1.length k1),thA W.heap.size b1 k1 A1,t])):=uH ((hS.pull (A:=[_,_,_,_,_])).pull (A:=[_,_,_]))
  clear hS S2 Hhe hM
  refine hK' _ _ ⟨(S3.out.pull (A:=[_])).head,?_⟩
  clear hK' K'
  (try simp only [Act.put,lA,lZ,lS])
  (refine oneD 6 rfl (fun K' hK'=>?_))
  go_simp
  refine (s0u (v0f S3.out.head) HM.out).mono ?_
  rintro e w3 ⟨rfl,hb⟩
  have S4:=uH ((S3.out.drop.grow hb))
  clear hb S3 HM
  refine hK' _ _ ⟨S4.out.head,?_⟩
  clear hK' K'
  (try simp only [Act.put,lA,lZ,lS])
  have HC:=uH S4.out.head
  have S5:=uH (((S4.out.drop.pull (A:=[_,_,_])).pull (A:=[_,_,_])))
  ((have S6:=uH (((((S5.out.pull (A:=[_,_,_,_])).drop)))));(refine tkD (i:=7) (v:=aB true) 15 rfl (fun w hSw=>(by clear hSw;go_simp)) HC.out ?_;(try simp only [Act.put,lA,lZ,lS]));(refine wpAnyH_done (by kernel_rfl) ?_ _);(refine NoPanic.normal ?_);(have hQ:=hQ.out;unfold NxPy at hQ;exact hQ _ _ _ _ _ _ _ _ _ _ _ _ _ _ _ _ _ _ _ _ _ _ _ _ _ _ _ _ _ _ _ _ _ _ _ _ _ _ _ _ _ _ _ _ _ _ _ _ _ _ _ _ _ _ _ _ _ _ _ _ _ _ _ _ _ _ _ _ _ _ _ _ _ _ _ _ _ _ _ _ _ _ _ _ _ _ _ _ _ _ _ _ _ _ _ _ _ _ _ _ _ _ _ _ _ _ _ _ _ _ _ _ _ _ _ _ _ _ _ _ _ _ _ _ _ _ _ _ _ _ _ _ _ _ _ _ _ _ _ _ _ _ _ _ _ _ _ _ _ _ _ _ _ _ _ _ _ _ _ _ _ _ _ _ _ _ _ _ _ _ _ _ _ _ _ _ _ _ _ _ _ _ _ _ _ _ _ _ _ _ _ _ _ _ _ _ _ _ _ _ _ _ _ _ _ _ _ _ _ _ _ _ _ _ _ Hok hA1l S6))
end G
set_option maxRecDepth 20000
open Go.RowKit
namespace G
def thBy (ao:Option Addr) (cap:Nat) (l:List UInt8):Th where
 T w:=F.Sl w ao cap l
 F x:=0<l.length∧∃ a,ao=some a∧a.block=x
 stay h k hS:=⟨h.le,h.cm,h.n0,fun hp =>
  let ⟨g,o,e,hg,hr⟩:=h.at_ hp
  ⟨g,o,e,Nat.lt_of_lt_of_le hg k.size,hr.keeps hg k (hS g ⟨hp,_,e,rfl⟩)⟩⟩
 lt h hx:=by
  obtain ⟨hp,a,ha,rfl⟩:=hx
  obtain ⟨g,o,e,hg,-⟩:=h.at_ hp
  rw [ha] at e
  obtain rfl:=Option.some.inj e
  exact hg
def thNo:Th where
 T _:=True
 F _:=False
 stay _ _ _:=trivial
 lt _ h:=h.elim
theorem st_no {W w:World} {L:List Th} (h:St W w L):St W w (thNo::L):=⟨h.b,trivial,fun _ h=>h.elim,fun _ _ _ h=>h.elim,h.t⟩
def anW (e h k c s:Int) (r:Rp):Wd:=⟨6,0,0,0,0,0,h,e,e0,e0,⟨k,c,s,e0,e0,e0,e0,0,0,0,false,0⟩,r,mp0,ch0,[]⟩
theorem y0z (e h k c s:Int) (r:Rp):Light (anW e h k c s r):=⟨O.MzB.of ⟨(by decide:(0:Nat)≤60),fun z hz=>by cases hz⟩,(by decide:(0:Nat)≤131072),(by decide:e0.size≤2000),(by decide:e0.size≤2000)⟩
theorem anW_len (e h k c s:Int) (r:Rp):(byG (anW e h k c s r)).length≤2000:=by
 unfold byG
 split
 ·have h1:=f0e (anW e h k c s r)
  have h2:=h0s (anW e h k c s r)
  have h3:(encS e0).length≤0+10:=a0t e0
  have h4:=i0p r
  have h5:=(a0o (encP r).length).1
  have hr:f0h (anW e h k c s r)=encP r:=rfl
  unfold encW
  rw [F.f0y]
  unfold wdB
  rw [hr]
  unfold a0n
  have e1:(anW e h k c s r).sf=e0:=rfl
  have e2:(anW e h k c s r).st=e0:=rfl
  rw [e1,e2]
  have h6:(encP r).length=(encs [r.err,r.id]).length+(j0t r.i).length:=by unfold encP;rw [List.length_append]
  simp only [List.length_append]
  omega
 ·simp
set_option maxHeartbeats 8000000 in
theorem m_py {c:Code} (hb:(Tryz.f4).body=some c) {W w:World} {id hosts:Int} {sl:Value} {p r i m:Nat} {g:Gt} {A:List An} {a1 a2:Option Addr} {c1 c2:Nat} {B E:Nat} {a:Ac} {e h k s q:Int} {rp:Rp} {V:Array Value} (hV:V=wdV (anW e h k q s rp) (.slice none 0 0) (.slice none 0 0)) (S0:Hid (St W w (a0c E (.cells V 49 (0,0))::a0c B (.cells (acV a).toArray 61 (0,0))::[thG p g (.slice a1 A.length c1),thA W.heap.size a1 c1 A,thR r g (.slice a2 A.length c2),thB W.heap.size a2 c2 A]))) (hsl:Hid (F.Sl W a.bo a.bc a.bl)) (hbl:a.bl.length≤300) (hok:Hid (Ok g)) (hA:A.length≤500) (hm:A.length+1≤m) {Q:Exit→Act→World→Prop} {x3 x4 x5 x6 x7 x8 x16 x17 x18 x19 x21 x22 x23 x24 x25 x26 x27 x28 x29 x30 x31 x32 x33 x34 x35 x36 x37 x38 x39 x40 x41 x42 x43 x44 x45 x46 x47 x48 x49 x50 x51 x52 x53 x54 x55 x56 x57 x58 x59 x60 x61 x62 x63 x64 x65 x66 x67 x68 x69 x70 x71 x72 x73 x74 x75 x76 x77 x78 x79 x80 x81 x82 x83 x84 x85 x86 x87 x88 x89 x90 x91 x92 x93 x94 x95 x96 x97 x98 x99 x100 x101 x102 x103 x104 x105 x106 x107 x108 x109 x110 x111 x112 x113 x114 x115 x116 x117 x118 x119 x120 x121 x122 x123 x124 x125 x126 x127 x128 x129 x130 x131 x132 x133 x134 x135 x136 x137 x138 x139 x140 x141 x142 x143 x144 x145 x146 x147 x148 x149 x150 x151 x152 x153 x154 x155 x156 x157 x158 x159 x160 x161 x162 x163 x164 x165 x166 x167 x168 x169 x170 x171 x172 x173 x174 x175 x176 x177 x178 x179 x180 x181 x182 x183 x184 x185 x186 x187 x188 x189 x190 x191 x192 x193 x194 x195 x196 x197 x198 x199 x200 x201 x202 x203 x204 x205 x206 x207 x208 x209 x210 x211 x212 x213 x214 x215 x216:Value}
 (hQ:Hid (NxPy Q W id hosts sl p r i m)):(sndC (sndC (thnC (sndC (elsC (sndC (elsC (sndC (blC (sndC (fstC (sndC (sndC (blC (fstC (sndC (lpC (blC (sndC (fstC (sndC (sndC (sndC (sndC (sndC (sndC (sndC c))))))))))))))))))))))))))).wp Tryz.prog Q { tmps:=#[aI aK id,aI aK hosts,sl,x3,x4,x5,x6,x7,x8,.pointer (some ⟨p,0,none⟩),aI aK 0,.pointer (some ⟨r,0,none⟩),aI aK 0,aI aK i,.pointer (some ⟨B,0,none⟩),aB true,x16,x17,x18,x19,.pointer (some ⟨E,0,none⟩),x21,x22,x23,x24,x25,x26,x27,x28,x29,x30,x31,x32,x33,x34,x35,x36,x37,x38,x39,x40,x41,x42,x43,x44,x45,x46,x47,x48,x49,x50,x51,x52,x53,x54,x55,x56,x57,x58,x59,x60,x61,x62,x63,x64,x65,x66,x67,x68,x69,x70,x71,x72,x73,x74,x75,x76,x77,x78,x79,x80,x81,x82,x83,x84,x85,x86,x87,x88,x89,x90,x91,x92,x93,x94,x95,x96,x97,x98,x99,x100,x101,x102,x103,x104,x105,x106,x107,x108,x109,x110,x111,x112,x113,x114,x115,x116,x117,x118,x119,x120,x121,x122,x123,x124,x125,x126,x127,x128,x129,x130,x131,x132,x133,x134,x135,x136,x137,x138,x139,x140,x141,x142,x143,x144,x145,x146,x147,x148,x149,x150,x151,x152,x153,x154,x155,x156,x157,x158,x159,x160,x161,x162,x163,x164,x165,x166,x167,x168,x169,x170,x171,x172,x173,x174,x175,x176,x177,x178,x179,x180,x181,x182,x183,x184,x185,x186,x187,x188,x189,x190,x191,x192,x193,x194,x195,x196,x197,x198,x199,x200,x201,x202,x203,x204,x205,x206,x207,x208,x209,x210,x211,x212,x213,x214,x215,x216],defers:=[] } w:=by
 have hsz:V.size=37:=by rw [hV];rfl
 have Hms:=uH (fun w=>x0e (d:=anW e h k q s rp) hV rfl rfl (y0z e h k q s rp) a.fr id w)
 have hxl:=anW_len e h k q s rp
 obtain ⟨X,hX⟩:∃ X,X=byG (anW e h k q s rp):=⟨_,rfl⟩
 rw [←hX] at Hms hxl
 clear hX hV
 cases hb
 simp only [sndC,fstC,lpC,blC,thnC,elsC]
 obtain ⟨bl,bc,-⟩:=S0.out.a0b 1 rfl
 have d3:w.cell? ⟨B,3,none⟩=some (aI aK a.fr):=bc 3
 clear bc
 refine a0a fun C HC=>?_
 refine wp_seq ?_
 refine wp_region_lit ?_
 ((refine a0s 3 fun LL HL=>?_);simp only [List.take_succ_cons,List.take_zero,List.cons_append,List.nil_append];(go_wp2_with fail))
 clear d3 bl
 ((have hL:=HL.out);clear HL;subst hL;simp only [List.drop_succ_cons,List.drop_zero])
 refine wpList_load_row rfl 49 _ rfl E rfl _ V _ _ S0.out.head Tryz.underlying49 rfl (by rw [hsz];kernel_rfl) ?_
 go_wp2_with fail
 refine (Hms.out w).mono ?_
 rintro e w1 ⟨xo,xc,rfl,hb1,hx,hof⟩
 have S1:=uH (S0.out.new hb1 (thBy xo xc X) hx (fun x hx=>by
  obtain ⟨-,a,ha,rfl⟩:=hx
  exact hof a ha))
 clear hb1 hx hof S0 Hms
 obtain ⟨nl,hnl⟩:∃ nl,nl=X.length:=⟨_,rfl⟩
 rw [←hnl]
 have Hnl:=uH hnl
 clear hnl
 go_wp2_with fail
 refine a0d fun w2 hw2=>?_
 obtain ⟨M,hM⟩:∃ M,M=w1.heap.size:=⟨_,rfl⟩
 have S2:Hid (St W w2 (a0c M (.cells #[aI aK a.fr,aI aK id,.slice xo nl xc] 52 (0,0))::thBy xo xc X::a0c E (.cells V 49 (0,0))::a0c B (.cells (acV a).toArray 61 (0,0))::[thG p g (.slice a1 A.length c1),thA W.heap.size a1 c1 A,thR r g (.slice a2 A.length c2),thB W.heap.size a2 c2 A])):=by
  rw [hw2]
  exact uH (S1.out.objN _ M hM)
 rw [←hM]
 clear hw2 hM S1
 ((have hC:=HC.out);clear HC;subst hC)
 refine a0a fun C HC=>?_
 obtain ⟨bl,bc,-⟩:=S2.out.a0b 3 rfl
 have d0:w2.cell? ⟨B,0,none⟩=some (aI aK a.kind):=bc 0
 have d23:w2.cell? ⟨B,23,none⟩=some (.slice a.bo a.bl.length a.bc):=bc 23
 clear bc
 by_cases h4:a.kind=4
 ·obtain ⟨ml,mc,mf⟩:=S2.out.a0b 0 rfl
  have h4b:(a.kind==4)=true:=beq_iff_eq.2 h4
  obtain ⟨nb,hnb⟩:∃ nb,nb=a.bl.length:=⟨_,rfl⟩
  rw [←hnb] at d23
  have Hnb:=uH hnb
  clear hnb h4
  go_wp2_with fail
  refine a0d fun w3 hw3=>?_
  have S3:Hid (St W w3 (a0c M (.cells #[aI aK a.fr,aI aK id,.slice a.bo a.bl.length a.bc] 52 (0,0))::thNo::[thG p g (.slice a1 A.length c1),thA W.heap.size a1 c1 A,thR r g (.slice a2 A.length c2),thB W.heap.size a2 c2 A])):=by
   rw [hw3,←Hnb.out]
   exact uH ((st_no (((((((S2.out.setObj 2 (.slice a.bo nb a.bc)).pull (A:=[_])).drop).pull (A:=[_])).drop).pull (A:=[_])).drop)).pull (A:=[_]))
  clear hw3 S2 ml mc mf d0 d23 h4b bl
  ((have hC:=HC.out);clear HC;subst hC)
  exact h_py rfl S3 (uH (fun w' _ hb=>hsl.out.grow hb)) (by omega) hok hA hm hQ
 ·have h4b:(a.kind==4)=false:=beq_eq_false_iff_ne.2 h4
  clear h4
  go_wp2_with fail
  rw [Hnl.out] at S2
  have S3:=uH ((((S2.out.pull (A:=[_,_])).drop).pull (A:=[_,_])).drop)
  clear S2 d0 d23 h4b bl
  ((have hC:=HC.out);clear HC;subst hC)
  exact h_py rfl S3 (uH (fun w' h _=>h)) (by omega) hok hA hm hQ
end G
end Go.Proofs.YtogamdaomdoapaaGreat