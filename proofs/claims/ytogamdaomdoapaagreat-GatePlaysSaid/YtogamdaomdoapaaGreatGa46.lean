/- Texts put together: PyS. -/
import Derived.Test.YtogamdaomdoapaaGreatGa44
import Derived.Test.YtogamdaomdoapaaGreatGa45
namespace Go.Proofs.YtogamdaomdoapaaGreat
open Go.Value renaming int→aI,string→aS
open Go.IntKind renaming i64→aK
open Go.Lib renaming hid→uH
set_option maxRecDepth 20000
open Go.RowKit
namespace G
set_option maxHeartbeats 8000000 in
theorem s_py {c:Code} (hb:(Tryz.f4).body=some c) {W w:World} {id hosts:Int} {sl:Value} {p r i m:Nat} {g:Gt} {A:List An} {a1 a2:Option Addr} {c1 c2:Nat} {B:Nat} {a:Ac} (S0:Hid (St W w (a0c B (.cells (acV a).toArray 61 (0,0))::[thG p g (.slice a1 A.length c1),thA W.heap.size a1 c1 A,thR r g (.slice a2 A.length c2),thB W.heap.size a2 c2 A]))) (hsl:Hid (F.Sl W a.bo a.bc a.bl)) (hbl:a.bl.length≤300) (hok:Hid (Ok g)) (hA:A.length≤500) (hm:A.length+1≤m) {Q:Exit→Act→World→Prop} {x3 x4 x5 x6 x7 x8 x16 x17 x18 x19 x20 x21 x22 x23 x24 x25 x26 x27 x28 x29 x30 x31 x32 x33 x34 x35 x36 x37 x38 x39 x40 x41 x42 x43 x44 x45 x46 x47 x48 x49 x50 x51 x52 x53 x54 x55 x56 x57 x58 x59 x60 x61 x62 x63 x64 x65 x66 x67 x68 x69 x70 x71 x72 x73 x74 x75 x76 x77 x78 x79 x80 x81 x82 x83 x84 x85 x86 x87 x88 x89 x90 x91 x93 x94 x95 x96 x97 x98 x99 x100 x101 x102 x103 x104 x105 x106 x107 x108 x109 x110 x111 x112 x113 x114 x115 x116 x117 x118 x119 x120 x121 x122 x123 x124 x125 x126 x127 x128 x129 x130 x131 x132 x133 x134 x135 x136 x137 x138 x139 x140 x141 x142 x143 x144 x145 x146 x147 x148 x149 x150 x151 x152 x153 x154 x155 x156 x157 x158 x159 x160 x161 x162 x163 x164 x165 x166 x167 x168 x169 x170 x171 x172 x173 x174 x175 x176 x177 x178 x179 x180 x181 x182 x183 x184 x185 x186 x187 x188 x189 x190 x191 x192 x193 x194 x195 x196 x197 x198 x199 x200 x201 x202 x203 x204 x205 x206 x207 x208 x209 x210 x211 x212 x213 x214 x215 x216:Value}
 (hQ:Hid (NxPy Q W id hosts sl p r i m)):(blC (sndC (fstC (sndC (sndC (blC (fstC (sndC (lpC (blC (sndC (fstC (sndC (sndC (sndC (sndC (sndC (sndC (sndC c))))))))))))))))))).wp Tryz.prog Q { tmps:=#[aI aK id,aI aK hosts,sl,x3,x4,x5,x6,x7,x8,.pointer (some ⟨p,0,none⟩),aI aK 0,.pointer (some ⟨r,0,none⟩),aI aK 0,aI aK i,.pointer (some ⟨B,0,none⟩),.bool true,x16,x17,x18,x19,x20,x21,x22,x23,x24,x25,x26,x27,x28,x29,x30,x31,x32,x33,x34,x35,x36,x37,x38,x39,x40,x41,x42,x43,x44,x45,x46,x47,x48,x49,x50,x51,x52,x53,x54,x55,x56,x57,x58,x59,x60,x61,x62,x63,x64,x65,x66,x67,x68,x69,x70,x71,x72,x73,x74,x75,x76,x77,x78,x79,x80,x81,x82,x83,x84,x85,x86,x87,x88,x89,x90,x91,aI aK a.kind,x93,x94,x95,x96,x97,x98,x99,x100,x101,x102,x103,x104,x105,x106,x107,x108,x109,x110,x111,x112,x113,x114,x115,x116,x117,x118,x119,x120,x121,x122,x123,x124,x125,x126,x127,x128,x129,x130,x131,x132,x133,x134,x135,x136,x137,x138,x139,x140,x141,x142,x143,x144,x145,x146,x147,x148,x149,x150,x151,x152,x153,x154,x155,x156,x157,x158,x159,x160,x161,x162,x163,x164,x165,x166,x167,x168,x169,x170,x171,x172,x173,x174,x175,x176,x177,x178,x179,x180,x181,x182,x183,x184,x185,x186,x187,x188,x189,x190,x191,x192,x193,x194,x195,x196,x197,x198,x199,x200,x201,x202,x203,x204,x205,x206,x207,x208,x209,x210,x211,x212,x213,x214,x215,x216],defers:=[] } w:=by
 have hm':A.length≤m:=by omega
 cases hb
 simp only [sndC,fstC,lpC,blC]
 refine a0a fun C HC=>?_
 by_cases k1:a.kind=1
 ·have kb:(a.kind==1)=true:=beq_iff_eq.2 k1
  clear k1
  go_wp2_with fail
  ((have hC:=HC.out);clear HC;subst hC)
  refine wp_cond_true rfl ?_
  exact c1_py rfl S0 hok hm' hQ
 have kb:(a.kind==1)=false:=beq_eq_false_iff_ne.2 k1
 clear k1
 go_wp2_with fail
 ((have hC:=HC.out);clear HC;subst hC)
 refine wp_cond_false rfl ?_
 clear kb
 refine a0a fun C HC=>?_
 by_cases k2:a.kind=2
 ·have kb:(a.kind==2)=true:=beq_iff_eq.2 k2
  clear k2
  go_wp2_with fail
  ((have hC:=HC.out);clear HC;subst hC)
  refine wp_cond_true rfl ?_
  exact c2_py rfl (uH S0.out.drop) hok hm' hQ
 have kb:(a.kind==2)=false:=beq_eq_false_iff_ne.2 k2
 clear k2
 go_wp2_with fail
 ((have hC:=HC.out);clear HC;subst hC)
 refine wp_cond_false rfl ?_
 clear kb
 refine a0a fun C HC=>?_
 by_cases k3:a.kind=3
 ·have kb:(a.kind==3)=true:=beq_iff_eq.2 k3
  clear k3
  go_wp2_with fail
  ((have hC:=HC.out);clear HC;subst hC)
  refine wp_cond_true rfl ?_
  exact c3_py rfl S0 hsl hbl hok hA hm hQ
 have kb:(a.kind==3)=false:=beq_eq_false_iff_ne.2 k3
 clear k3
 by_cases k4:a.kind=4
 ·have kd:(a.kind==4)=true:=beq_iff_eq.2 k4
  clear k4
  go_wp2_with fail
  ((have hC:=HC.out);clear HC;subst hC)
  refine wp_cond_true rfl ?_
  exact c3_py rfl S0 hsl hbl hok hA hm hQ
 have kd:(a.kind==4)=false:=beq_eq_false_iff_ne.2 k4
 clear k4
 go_wp2_with fail
 ((have hC:=HC.out);clear HC;subst hC)
 refine wp_cond_false rfl ?_
 refine wp_skip ?_
 have S1:=uH S0.out.drop
 (have hQ:=hQ.out;unfold NxPy at hQ;exact hQ _ _ _ _ _ _ _ _ _ _ _ _ _ _ _ _ _ _ _ _ _ _ _ _ _ _ _ _ _ _ _ _ _ _ _ _ _ _ _ _ _ _ _ _ _ _ _ _ _ _ _ _ _ _ _ _ _ _ _ _ _ _ _ _ _ _ _ _ _ _ _ _ _ _ _ _ _ _ _ _ _ _ _ _ _ _ _ _ _ _ _ _ _ _ _ _ _ _ _ _ _ _ _ _ _ _ _ _ _ _ _ _ _ _ _ _ _ _ _ _ _ _ _ _ _ _ _ _ _ _ _ _ _ _ _ _ _ _ _ _ _ _ _ _ _ _ _ _ _ _ _ _ _ _ _ _ _ _ _ _ _ _ _ _ _ _ _ _ _ _ _ _ _ _ _ _ _ _ _ _ _ _ _ _ _ _ _ _ _ _ _ _ _ _ _ _ _ _ _ _ _ _ _ _ _ _ _ _ _ _ _ _ _ _ _ hok hm' S1)
inductive LpI (W:World) (id hosts:Int) (sl:Value) (p r N:Nat):Act→World→Prop
 | mk (y3 y4 y5 y6 y7 y8 y14 y15 y16 y17 y18 y19 y20 y21 y22 y23 y24 y25 y26 y27 y28 y29 y30 y31 y32 y33 y34 y35 y36 y37 y38 y39 y40 y41 y42 y43 y44 y45 y46 y47 y48 y49 y50 y51 y52 y53 y54 y55 y56 y57 y58 y59 y60 y61 y62 y63 y64 y65 y66 y67 y68 y69 y70 y71 y72 y73 y74 y75 y76 y77 y78 y79 y80 y81 y82 y83 y84 y85 y86 y87 y88 y89 y90 y91 y92 y93 y94 y95 y96 y97 y98 y99 y100 y101 y102 y103 y104 y105 y106 y107 y108 y109 y110 y111 y112 y113 y114 y115 y116 y117 y118 y119 y120 y121 y122 y123 y124 y125 y126 y127 y128 y129 y130 y131 y132 y133 y134 y135 y136 y137 y138 y139 y140 y141 y142 y143 y144 y145 y146 y147 y148 y149 y150 y151 y152 y153 y154 y155 y156 y157 y158 y159 y160 y161 y162 y163 y164 y165 y166 y167 y168 y169 y170 y171 y172 y173 y174 y175 y176 y177 y178 y179 y180 y181 y182 y183 y184 y185 y186 y187 y188 y189 y190 y191 y192 y193 y194 y195 y196 y197 y198 y199 y200 y201 y202 y203 y204 y205 y206 y207 y208 y209 y210 y211 y212 y213 y214 y215 y216:Value) (i:Nat) (g:Gt) (A:List An) (a1 a2:Option Addr) (c1 c2:Nat) (w:World) (hi:i≤N) (hA:A.length≤i) (ho:Hid (Ok g)) (S:Hid (St W w [thG p g (.slice a1 A.length c1),thA W.heap.size a1 c1 A,thR r g (.slice a2 A.length c2),thB W.heap.size a2 c2 A])):LpI W id hosts sl p r N { tmps:=#[aI aK id,aI aK hosts,sl,y3,y4,y5,y6,y7,y8,.pointer (some ⟨p,0,none⟩),aI aK 0,.pointer (some ⟨r,0,none⟩),aI aK 0,aI aK i,y14,y15,y16,y17,y18,y19,y20,y21,y22,y23,y24,y25,y26,y27,y28,y29,y30,y31,y32,y33,y34,y35,y36,y37,y38,y39,y40,y41,y42,y43,y44,y45,y46,y47,y48,y49,y50,y51,y52,y53,y54,y55,y56,y57,y58,y59,y60,y61,y62,y63,y64,y65,y66,y67,y68,y69,y70,y71,y72,y73,y74,y75,y76,y77,y78,y79,y80,y81,y82,y83,y84,y85,y86,y87,y88,y89,y90,y91,y92,y93,y94,y95,y96,y97,y98,y99,y100,y101,y102,y103,y104,y105,y106,y107,y108,y109,y110,y111,y112,y113,y114,y115,y116,y117,y118,y119,y120,y121,y122,y123,y124,y125,y126,y127,y128,y129,y130,y131,y132,y133,y134,y135,y136,y137,y138,y139,y140,y141,y142,y143,y144,y145,y146,y147,y148,y149,y150,y151,y152,y153,y154,y155,y156,y157,y158,y159,y160,y161,y162,y163,y164,y165,y166,y167,y168,y169,y170,y171,y172,y173,y174,y175,y176,y177,y178,y179,y180,y181,y182,y183,y184,y185,y186,y187,y188,y189,y190,y191,y192,y193,y194,y195,y196,y197,y198,y199,y200,y201,y202,y203,y204,y205,y206,y207,y208,y209,y210,y211,y212,y213,y214,y215,y216],defers:=[] } w
set_option maxHeartbeats 8000000 in
theorem x_py {c:Code} (hb:(Tryz.f4).body=some c) {W w:World} {id hosts:Int} {sl:Value} {p r i m:Nat} {g:Gt} {A:List An} {a1 a2:Option Addr} {c1 c2:Nat} {a:Ac} {b off n cap:Nat} (S0:Hid (St W w [thG p g (.slice a1 A.length c1),thA W.heap.size a1 c1 A,thR r g (.slice a2 A.length c2),thB W.heap.size a2 c2 A])) (hsa:sl=.slice (some ⟨b,off,none⟩) n cap) (hin:i<n) (hac:Hid (∀ (j:Nat) v,(acV a)[j]?=some v→W.cell? ⟨b,off+i * 24+j,none⟩=some v)) (hbW:b<W.heap.size) (hsl:Hid (F.Sl W a.bo a.bc a.bl)) (hbl:a.bl.length≤300) (hok:Hid (Ok g)) (hA:A.length≤500) (hm:A.length+1≤m) (hm5:m≤1000) {Q:Exit→Act→World→Prop} {x3 x4 x5 x6 x7 x8 x14 x15 x16 x17 x18 x19 x20 x21 x22 x23 x24 x25 x26 x27 x28 x29 x30 x31 x32 x33 x34 x35 x36 x37 x38 x39 x40 x41 x42 x43 x44 x45 x46 x47 x48 x49 x50 x51 x52 x53 x54 x55 x56 x57 x58 x59 x60 x61 x62 x63 x64 x65 x66 x67 x68 x69 x70 x71 x72 x73 x74 x75 x76 x77 x78 x79 x80 x81 x82 x83 x84 x85 x86 x87 x88 x89 x90 x91 x92 x93 x94 x95 x96 x97 x98 x99 x100 x101 x102 x103 x104 x105 x106 x107 x108 x109 x110 x111 x112 x113 x114 x115 x116 x117 x118 x119 x120 x121 x122 x123 x124 x125 x126 x127 x128 x129 x130 x131 x132 x133 x134 x135 x136 x137 x138 x139 x140 x141 x142 x143 x144 x145 x146 x147 x148 x149 x150 x151 x152 x153 x154 x155 x156 x157 x158 x159 x160 x161 x162 x163 x164 x165 x166 x167 x168 x169 x170 x171 x172 x173 x174 x175 x176 x177 x178 x179 x180 x181 x182 x183 x184 x185 x186 x187 x188 x189 x190 x191 x192 x193 x194 x195 x196 x197 x198 x199 x200 x201 x202 x203 x204 x205 x206 x207 x208 x209 x210 x211 x212 x213 x214 x215 x216:Value}
 (hQ:Hid (∀ (y3 y4 y5 y6 y7 y8 y14 y15 y16 y17 y18 y19 y20 y21 y22 y23 y24 y25 y26 y27 y28 y29 y30 y31 y32 y33 y34 y35 y36 y37 y38 y39 y40 y41 y42 y43 y44 y45 y46 y47 y48 y49 y50 y51 y52 y53 y54 y55 y56 y57 y58 y59 y60 y61 y62 y63 y64 y65 y66 y67 y68 y69 y70 y71 y72 y73 y74 y75 y76 y77 y78 y79 y80 y81 y82 y83 y84 y85 y86 y87 y88 y89 y90 y91 y92 y93 y94 y95 y96 y97 y98 y99 y100 y101 y102 y103 y104 y105 y106 y107 y108 y109 y110 y111 y112 y113 y114 y115 y116 y117 y118 y119 y120 y121 y122 y123 y124 y125 y126 y127 y128 y129 y130 y131 y132 y133 y134 y135 y136 y137 y138 y139 y140 y141 y142 y143 y144 y145 y146 y147 y148 y149 y150 y151 y152 y153 y154 y155 y156 y157 y158 y159 y160 y161 y162 y163 y164 y165 y166 y167 y168 y169 y170 y171 y172 y173 y174 y175 y176 y177 y178 y179 y180 y181 y182 y183 y184 y185 y186 y187 y188 y189 y190 y191 y192 y193 y194 y195 y196 y197 y198 y199 y200 y201 y202 y203 y204 y205 y206 y207 y208 y209 y210 y211 y212 y213 y214 y215 y216:Value) (w':World) (g:Gt) (A:List An) (a1 a2:Option Addr) (c1 c2:Nat),Hid (Ok g)→A.length≤m→Hid (St W w' [thG p g (.slice a1 A.length c1),thA W.heap.size a1 c1 A,thR r g (.slice a2 A.length c2),thB W.heap.size a2 c2 A])→Q .normal { tmps:=#[aI aK id,aI aK hosts,sl,y3,y4,y5,y6,y7,y8,.pointer (some ⟨p,0,none⟩),aI aK 0,.pointer (some ⟨r,0,none⟩),aI aK 0,aI aK i,y14,y15,y16,y17,y18,y19,y20,y21,y22,y23,y24,y25,y26,y27,y28,y29,y30,y31,y32,y33,y34,y35,y36,y37,y38,y39,y40,y41,y42,y43,y44,y45,y46,y47,y48,y49,y50,y51,y52,y53,y54,y55,y56,y57,y58,y59,y60,y61,y62,y63,y64,y65,y66,y67,y68,y69,y70,y71,y72,y73,y74,y75,y76,y77,y78,y79,y80,y81,y82,y83,y84,y85,y86,y87,y88,y89,y90,y91,y92,y93,y94,y95,y96,y97,y98,y99,y100,y101,y102,y103,y104,y105,y106,y107,y108,y109,y110,y111,y112,y113,y114,y115,y116,y117,y118,y119,y120,y121,y122,y123,y124,y125,y126,y127,y128,y129,y130,y131,y132,y133,y134,y135,y136,y137,y138,y139,y140,y141,y142,y143,y144,y145,y146,y147,y148,y149,y150,y151,y152,y153,y154,y155,y156,y157,y158,y159,y160,y161,y162,y163,y164,y165,y166,y167,y168,y169,y170,y171,y172,y173,y174,y175,y176,y177,y178,y179,y180,y181,y182,y183,y184,y185,y186,y187,y188,y189,y190,y191,y192,y193,y194,y195,y196,y197,y198,y199,y200,y201,y202,y203,y204,y205,y206,y207,y208,y209,y210,y211,y212,y213,y214,y215,y216],defers:=[] } w')):(blC (fstC (sndC (lpC (blC (sndC (fstC (sndC (sndC (sndC (sndC (sndC (sndC (sndC c)))))))))))))).wp Tryz.prog Q { tmps:=#[aI aK id,aI aK hosts,sl,x3,x4,x5,x6,x7,x8,.pointer (some ⟨p,0,none⟩),aI aK 0,.pointer (some ⟨r,0,none⟩),aI aK 0,aI aK i,x14,x15,x16,x17,x18,x19,x20,x21,x22,x23,x24,x25,x26,x27,x28,x29,x30,x31,x32,x33,x34,x35,x36,x37,x38,x39,x40,x41,x42,x43,x44,x45,x46,x47,x48,x49,x50,x51,x52,x53,x54,x55,x56,x57,x58,x59,x60,x61,x62,x63,x64,x65,x66,x67,x68,x69,x70,x71,x72,x73,x74,x75,x76,x77,x78,x79,x80,x81,x82,x83,x84,x85,x86,x87,x88,x89,x90,x91,x92,x93,x94,x95,x96,x97,x98,x99,x100,x101,x102,x103,x104,x105,x106,x107,x108,x109,x110,x111,x112,x113,x114,x115,x116,x117,x118,x119,x120,x121,x122,x123,x124,x125,x126,x127,x128,x129,x130,x131,x132,x133,x134,x135,x136,x137,x138,x139,x140,x141,x142,x143,x144,x145,x146,x147,x148,x149,x150,x151,x152,x153,x154,x155,x156,x157,x158,x159,x160,x161,x162,x163,x164,x165,x166,x167,x168,x169,x170,x171,x172,x173,x174,x175,x176,x177,x178,x179,x180,x181,x182,x183,x184,x185,x186,x187,x188,x189,x190,x191,x192,x193,x194,x195,x196,x197,x198,x199,x200,x201,x202,x203,x204,x205,x206,x207,x208,x209,x210,x211,x212,x213,x214,x215,x216],defers:=[] } w:=by
 cases hb
 simp only [sndC,fstC,lpC,blC]
 obtain ⟨vs,hvs⟩:∃ vs,vs=acV a:=⟨_,rfl⟩
 have hln:vs.length=24:=by rw [hvs];rfl
 have x1:Hid (w.rangeAt b (off+i * 24) vs):=uH (fun j v hv=>by
  rw [S0.out.b.cell (p:=⟨b,off+i * 24+j,none⟩) hbW]
  exact hac.out j v (by rw [←hvs];exact hv))
 have hvz:vs.toArray.size=24:=by rw [List.size_toArray,hln]
 have hone:vs.toArray.all (·.oneCell')=true:=by rw [hvs];simp [acV,Value.oneCell']
 have Hone:=uH hone
 have Hvs:=uH hvs
 subst hsa
 have hI:(i:Int)<n:=by omega
 clear hvs hone hac
 refine a0a fun C HC=>?_
 refine wp_seq ?_
 refine wp_region_lit ?_
 ((refine a0s 3 fun LL HL=>?_);simp only [List.take_succ_cons,List.take_zero,List.cons_append,List.nil_append];(go_wp2_with fail))
 ((have hL:=HL.out);clear HL;subst hL;simp only [List.drop_succ_cons,List.drop_zero])
 refine wpList_load_mid rfl 61 _ rfl b (off+i * 24) rfl vs _ x1.out Tryz.underlying61 rfl (by rw [hln];kernel_rfl) ?_
 ((refine a0s 1 fun LL HL=>?_);simp only [List.take_succ_cons,List.take_zero,List.cons_append,List.nil_append];(go_wp2_with fail))
 refine b0l fun wn hwn=>?_
 obtain ⟨B,hB⟩:∃ B,B=w.heap.size:=⟨_,rfl⟩
 have S1:=uH (S0.out.objN (.cells #[aI aK 0,aI aK 0,aI aK 0,aI aK 0,aI aK 0,aI aK 0,aI aK 0,aI aK 0,aS ⟨#[]⟩,aS ⟨#[]⟩,aS ⟨#[]⟩,aS ⟨#[]⟩,aI aK 0,aI aK 0,aI aK 0,.bool false,aI aK 0,aI aK 0,aI aK 0,aI aK 0,aI aK 0,aI aK 0,aI aK 0,.slice none 0 0] 61) B hB)
 rw [←hwn] at S1
 rw [←hB]
 clear hwn hB S0 x1
 ((have hL:=HL.out);clear HL;subst hL;simp only [List.drop_succ_cons,List.drop_zero])
 refine wpList_store_row rfl 61 _ _ rfl B vs.toArray rfl rfl 61 _ S1.out.head (by rw [hvz];kernel_rfl) (by rw [hvz];rfl) Hone.out ?_
 have S2:=uH (S1.out.c0m vs.toArray)
 refine b0l fun wd hwd=>?_
 rw [←hwd,Hvs.out] at S2
 clear hwd S1 Hone
 go_wp2_with fail
 ((have hC:=HC.out);clear HC;subst hC)
 refine a0a fun C HC=>?_
 go_wp2_with fail
 ((have hC:=HC.out);clear HC;subst hC)
 refine a0a fun C HC=>?_
 refine wp_seq ?_
 obtain ⟨bl,bc,-⟩:=S2.out.a0b 0 rfl
 have d0:wd.cell? ⟨B,0,none⟩=some (aI aK a.kind):=bc 0
 clear bc
 refine a0a fun D HD=>?_
 go_wp2_with fail
 (have hD:=HD.out)
 clear HD d0 bl
 subst hD
 refine wp_block ?_
 refine s_py rfl S2 hsl hbl hok hA hm (uH ?_)
 unfold NxPy
 intro y3 y4 y5 y6 y7 y8 y14 y16 y17 y18 y19 y20 y21 y22 y23 y24 y25 y26 y27 y28 y29 y30 y31 y32 y33 y34 y35 y36 y37 y38 y39 y40 y41 y42 y43 y44 y45 y46 y47 y48 y49 y50 y51 y52 y53 y54 y55 y56 y57 y58 y59 y60 y61 y62 y63 y64 y65 y66 y67 y68 y69 y70 y71 y72 y73 y74 y75 y76 y77 y78 y79 y80 y81 y82 y83 y84 y85 y86 y87 y88 y89 y90 y91 y92 y93 y94 y95 y96 y97 y98 y99 y100 y101 y102 y103 y104 y105 y106 y107 y108 y109 y110 y111 y112 y113 y114 y115 y116 y117 y118 y119 y120 y121 y122 y123 y124 y125 y126 y127 y128 y129 y130 y131 y132 y133 y134 y135 y136 y137 y138 y139 y140 y141 y142 y143 y144 y145 y146 y147 y148 y149 y150 y151 y152 y153 y154 y155 y156 y157 y158 y159 y160 y161 y162 y163 y164 y165 y166 y167 y168 y169 y170 y171 y172 y173 y174 y175 y176 y177 y178 y179 y180 y181 y182 y183 y184 y185 y186 y187 y188 y189 y190 y191 y192 y193 y194 y195 y196 y197 y198 y199 y200 y201 y202 y203 y204 y205 y206 y207 y208 y209 y210 y211 y212 y213 y214 y215 y216 w' g A a1 a2 c1 c2 hok hA S
 show C.wp _ _ _ _
 ((have hC:=HC.out);clear HC;subst hC)
 exact tail_py rfl S (by omega) (uH (fun y3 y4 y5 y6 y7 y8 y14 y15 y16 y17 y18 y19 y20 y21 y22 y23 y24 y25 y26 y27 y28 y29 y30 y31 y32 y33 y34 y35 y36 y37 y38 y39 y40 y41 y42 y43 y44 y45 y46 y47 y48 y49 y50 y51 y52 y53 y54 y55 y56 y57 y58 y59 y60 y61 y62 y63 y64 y65 y66 y67 y68 y69 y70 y71 y72 y73 y74 y75 y76 y77 y78 y79 y80 y81 y82 y83 y84 y85 y86 y87 y88 y89 y90 y91 y92 y93 y94 y95 y96 y97 y98 y99 y100 y101 y102 y103 y104 y105 y106 y107 y108 y109 y110 y111 y112 y113 y114 y115 y116 y117 y118 y119 y120 y121 y122 y123 y124 y125 y126 y127 y128 y129 y130 y131 y132 y133 y134 y135 y136 y137 y138 y139 y140 y141 y142 y143 y144 y145 y146 y147 y148 y149 y150 y151 y152 y153 y154 y155 y156 y157 y158 y159 y160 y161 y162 y163 y164 y165 y166 y167 y168 y169 y170 y171 y172 y173 y174 y175 y176 y177 y178 y179 y180 y181 y182 y183 y184 y185 y186 y187 y188 y189 y190 y191 y192 y193 y194 y195 y196 y197 y198 y199 y200 y201 y202 y203 y204 y205 y206 y207 y208 y209 y210 y211 y212 y213 y214 y215 y216 w' S=>hQ.out y3 y4 y5 y6 y7 y8 y14 y15 y16 y17 y18 y19 y20 y21 y22 y23 y24 y25 y26 y27 y28 y29 y30 y31 y32 y33 y34 y35 y36 y37 y38 y39 y40 y41 y42 y43 y44 y45 y46 y47 y48 y49 y50 y51 y52 y53 y54 y55 y56 y57 y58 y59 y60 y61 y62 y63 y64 y65 y66 y67 y68 y69 y70 y71 y72 y73 y74 y75 y76 y77 y78 y79 y80 y81 y82 y83 y84 y85 y86 y87 y88 y89 y90 y91 y92 y93 y94 y95 y96 y97 y98 y99 y100 y101 y102 y103 y104 y105 y106 y107 y108 y109 y110 y111 y112 y113 y114 y115 y116 y117 y118 y119 y120 y121 y122 y123 y124 y125 y126 y127 y128 y129 y130 y131 y132 y133 y134 y135 y136 y137 y138 y139 y140 y141 y142 y143 y144 y145 y146 y147 y148 y149 y150 y151 y152 y153 y154 y155 y156 y157 y158 y159 y160 y161 y162 y163 y164 y165 y166 y167 y168 y169 y170 y171 y172 y173 y174 y175 y176 y177 y178 y179 y180 y181 y182 y183 y184 y185 y186 y187 y188 y189 y190 y191 y192 y193 y194 y195 y196 y197 y198 y199 y200 y201 y202 y203 y204 y205 y206 y207 y208 y209 y210 y211 y212 y213 y214 y215 y216 w' g A a1 a2 c1 c2 hok hA S))
end G
end Go.Proofs.YtogamdaomdoapaaGreat