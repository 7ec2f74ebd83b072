/- Texts put together: PyF, PyT. -/
import Derived.Test.YtogamdaomdoapaaGreatGa44
namespace Go.Proofs.YtogamdaomdoapaaGreat
open Go.Value renaming int→aI,string→aS,bool→aB
open Go.IntKind renaming i64→aK
open List renaming setIfInBounds_toArray→lA,set_cons_zero→lZ,set_cons_succ→lS
open Go.Lib renaming hid→uH
set_option maxRecDepth 20000
open Go.RowKit
namespace G
set_option maxHeartbeats 8000000 in
theorem a_py {c:Code} (hb:(Tryz.f4).body=some c) {W w:World} {id hosts:Int} {sl:Value} {p r i m:Nat} {g:Gt} {A:List An} {a1 a2:Option Addr} {c1 c2:Nat} {B E:Nat} {a:Ac} {e h k s q:Int} {rp:Rp} {V:Array Value} (hV:V=wdV (anW e h k q s rp) (.slice none 0 0) (.slice none 0 0)) (S0:Hid (St W w (a0c E (.cells V 49 (0,0))::a0c B (.cells (acV a).toArray 61 (0,0))::[thG p g (.slice a1 A.length c1),thA W.heap.size a1 c1 A,thR r g (.slice a2 A.length c2),thB W.heap.size a2 c2 A]))) (hsl:Hid (F.Sl W a.bo a.bc a.bl)) (hbl:a.bl.length≤300) (hok:Hid (Ok g)) (hA:A.length≤500) (hm:A.length+1≤m) {Q:Exit→Act→World→Prop} {x3 x4 x5 x6 x7 x8 x16 x17 x18 x19 x21 x22 x23 x24 x25 x26 x27 x28 x29 x30 x31 x32 x33 x34 x35 x36 x37 x38 x39 x40 x41 x42 x43 x44 x45 x46 x47 x48 x49 x50 x51 x52 x53 x54 x55 x56 x57 x58 x59 x60 x61 x62 x63 x64 x65 x66 x67 x68 x69 x70 x71 x72 x73 x74 x75 x76 x77 x78 x79 x80 x81 x82 x83 x84 x85 x86 x87 x88 x89 x90 x91 x92 x93 x94 x95 x96 x97 x98 x99 x100 x101 x102 x103 x104 x105 x106 x107 x108 x109 x110 x111 x112 x113 x114 x115 x116 x117 x118 x119 x120 x121 x122 x123 x124 x125 x126 x127 x128 x129 x130 x131 x132 x133 x134 x135 x136 x137 x138 x139 x140 x141 x142 x143 x144 x145 x146 x147 x148 x149 x150 x151 x152 x153 x154 x155 x156 x157 x158 x159 x160 x161 x162 x163 x164 x165 x166 x167 x168 x169 x170 x171 x172 x173 x174 x175 x176 x177 x178 x179 x180 x181 x182 x183 x184 x185 x186 x187 x188 x189 x190 x191 x192 x193 x194 x195 x196 x197 x198 x199 x200 x201 x202 x203 x204 x205 x206 x207 x208 x209 x210 x211 x212 x213 x214 x215 x216:Value}
 (hQ:Hid (NxPy Q W id hosts sl p r i m)):(sndC (thnC (sndC (elsC (sndC (elsC (sndC (blC (sndC (fstC (sndC (sndC (blC (fstC (sndC (lpC (blC (sndC (fstC (sndC (sndC (sndC (sndC (sndC (sndC (sndC c)))))))))))))))))))))))))).wp Tryz.prog Q { tmps:=#[aI aK id,aI aK hosts,sl,x3,x4,x5,x6,x7,x8,.pointer (some ⟨p,0,none⟩),aI aK 0,.pointer (some ⟨r,0,none⟩),aI aK 0,aI aK i,.pointer (some ⟨B,0,none⟩),aB true,x16,x17,x18,x19,.pointer (some ⟨E,0,none⟩),x21,x22,x23,x24,x25,x26,x27,x28,x29,x30,x31,x32,x33,x34,x35,x36,x37,x38,x39,x40,x41,x42,x43,x44,x45,x46,x47,x48,x49,x50,x51,x52,x53,x54,x55,x56,x57,x58,x59,x60,x61,x62,x63,x64,x65,x66,x67,x68,x69,x70,x71,x72,x73,x74,x75,x76,x77,x78,x79,x80,x81,x82,x83,x84,x85,x86,x87,x88,x89,x90,x91,x92,x93,x94,x95,x96,x97,x98,x99,x100,x101,x102,x103,x104,x105,x106,x107,x108,x109,x110,x111,x112,x113,x114,x115,x116,x117,x118,x119,x120,x121,x122,x123,x124,x125,x126,x127,x128,x129,x130,x131,x132,x133,x134,x135,x136,x137,x138,x139,x140,x141,x142,x143,x144,x145,x146,x147,x148,x149,x150,x151,x152,x153,x154,x155,x156,x157,x158,x159,x160,x161,x162,x163,x164,x165,x166,x167,x168,x169,x170,x171,x172,x173,x174,x175,x176,x177,x178,x179,x180,x181,x182,x183,x184,x185,x186,x187,x188,x189,x190,x191,x192,x193,x194,x195,x196,x197,x198,x199,x200,x201,x202,x203,x204,x205,x206,x207,x208,x209,x210,x211,x212,x213,x214,x215,x216],defers:=[] } w:=by
 cases hb
 simp only [sndC,fstC,lpC,blC,thnC,elsC]
 have HV:=uH hV
 clear hV
 obtain ⟨bl,bc,bf⟩:=S0.out.a0b 0 rfl
 have d7:w.cell? ⟨E,7,none⟩=some (aI aK e):=by rw [bc 7,HV.out];rfl
 have d22:w.cell? ⟨E,22,none⟩=some (aI aK rp.err):=by rw [bc 22,HV.out];rfl
 have d23:w.cell? ⟨E,23,none⟩=some (aI aK rp.id):=by rw [bc 23,HV.out];rfl
 have d24:w.cell? ⟨E,24,none⟩=some (aI aK rp.i.a):=by rw [bc 24,HV.out];rfl
 have d25:w.cell? ⟨E,25,none⟩=some (aI aK rp.i.b):=by rw [bc 25,HV.out];rfl
 have d26:w.cell? ⟨E,26,none⟩=some (aI aK rp.i.c):=by rw [bc 26,HV.out];rfl
 have d27:w.cell? ⟨E,27,none⟩=some (aI aK rp.i.d):=by rw [bc 27,HV.out];rfl
 clear bc
 refine a0a fun C HC=>?_
 by_cases h0:e=0
 ·have h0b:(e != 0)=false:=by simp [h0]
  clear h0
  go_wp2_with fail
  clear d7 d22 d23 d24 d25 d26 d27 h0b bl bf
  ((have hC:=HC.out);clear HC;subst hC)
  exact m_py rfl HV.out S0 hsl hbl hok hA hm hQ
 ·have h0b:(e != 0)=true:=bne_iff_ne.2 h0
  clear h0
  go_wp2_with fail
  refine a0d fun w1 hw1=>?_
  obtain ⟨V1,hV1⟩:∃ V1,V1=wdV (anW e h k q s zRp) (.slice none 0 0) (.slice none 0 0):=⟨_,rfl⟩
  have S1:Hid (St W w1 (a0c E (.cells V1 49 (0,0))::a0c B (.cells (acV a).toArray 61 (0,0))::[thG p g (.slice a1 A.length c1),thA W.heap.size a1 c1 A,thR r g (.slice a2 A.length c2),thB W.heap.size a2 c2 A])):=by
   have h:=((((((S0.out.setObj 22 (aI aK 0)).setObj 23 (aI aK 0)).setObj 24 (aI aK 0)).setObj 25 (aI aK 0)).setObj 26 (aI aK 0)).setObj 27 (aI aK 0))
   have eV:((((((V.setIfInBounds 22 (aI aK 0)).setIfInBounds 23 (aI aK 0)).setIfInBounds 24 (aI aK 0)).setIfInBounds 25 (aI aK 0)).setIfInBounds 26 (aI aK 0)).setIfInBounds 27 (aI aK 0))=V1:=by
    rw [HV.out,hV1]
    unfold wdV
    simp only [lA,lZ,lS]
    rfl
   rw [←hw1,eV] at h
   exact uH h
  clear hw1 S0 d7 d22 d23 d24 d25 d26 d27 h0b bl bf HV
  ((have hC:=HC.out);clear HC;subst hC)
  exact m_py rfl hV1 S1 hsl hbl hok hA hm hQ
def rpV (r:Rp):List Value:=[aI aK r.err,aI aK r.id,aI aK r.i.a,aI aK r.i.b,aI aK r.i.c,aI aK r.i.d]
theorem m0n {P:Program} {ev:Operand→Value} {o:Oper} {w:World} (t:TypeId) (parts:Array (Nat × Operand)) (ho:o.op=.build t parts) (cs:Array Value) (hf:P.built t (parts.map fun (i,x)=>(i,ev x)).toList=some cs):(execOp ev o).run P w=.ok (.value (.agg cs)) w:=by
 unfold execOp
 simp only [ho,Sem.run_bind,run_build w t _ cs hf,Result.andThen_ok,Sem.run_pure]
theorem i0s {w:World} {B:Nat} {a:Ac} (h:w.heap[B]?=some (.cells (acV a).toArray 61 (0,0))):B<w.heap.size∧w.cell? ⟨B,1,none⟩=some (aI aK a.n)∧w.cell? ⟨B,2,none⟩=some (aI aK a.m)∧w.cell? ⟨B,4,none⟩=some (aI aK a.host)∧w.rangeAt B 17 (rpV a.r):=by
 have hc:=(b0b h).1
 refine ⟨lt_of_block h,hc 1,hc 2,hc 4,fun j v hv=>?_⟩
 rw [hc]
 have hj:j<6:=(List.getElem?_eq_some_iff.1 hv).1
 match j,hj with
 | 0,_ | 1,_ | 2,_ | 3,_ | 4,_ | 5,_=>exact hv
theorem m0y {w:World} {r:Nat} {g:Gt} {av:Value} {t:TypeId} {fr:Nat × Nat} (h:w.heap[r]?=some (.cells (rgV g av) t fr)):r<w.heap.size∧w.cell? ⟨r,5,none⟩=some (aI aK g.op.kind)∧w.cell? ⟨r,6,none⟩=some (aI aK g.op.client)∧w.cell? ⟨r,7,none⟩=some (aI aK g.op.seq):=by
 have hc:∀ k,w.cell? ⟨r,k,none⟩=(rgV g av)[k]?:=fun k=>cell_of_row w r k _ _ _ h
 exact ⟨lt_of_block h,hc 5,hc 6,hc 7⟩
set_option maxHeartbeats 8000000 in
theorem c3_py {c:Code} (hb:(Tryz.f4).body=some c) {W w:World} {id hosts:Int} {sl:Value} {p r i m:Nat} {g:Gt} {A:List An} {a1 a2:Option Addr} {c1 c2:Nat} {B:Nat} {a:Ac} (S0:Hid (St W w (a0c B (.cells (acV a).toArray 61 (0,0))::[thG p g (.slice a1 A.length c1),thA W.heap.size a1 c1 A,thR r g (.slice a2 A.length c2),thB W.heap.size a2 c2 A]))) (hsl:Hid (F.Sl W a.bo a.bc a.bl)) (hbl:a.bl.length≤300) (hok:Hid (Ok g)) (hA:A.length≤500) (hm:A.length+1≤m) {Q:Exit→Act→World→Prop} {x3 x4 x5 x6 x7 x8 x16 x17 x18 x19 x20 x21 x22 x23 x24 x25 x26 x27 x28 x29 x30 x31 x32 x33 x34 x35 x36 x37 x38 x39 x40 x41 x42 x43 x44 x45 x46 x47 x48 x49 x50 x51 x52 x53 x54 x55 x56 x57 x58 x59 x60 x61 x62 x63 x64 x65 x66 x67 x68 x69 x70 x71 x72 x73 x74 x75 x76 x77 x78 x79 x80 x81 x82 x83 x84 x85 x86 x87 x88 x89 x90 x91 x92 x93 x94 x95 x96 x97 x98 x99 x100 x101 x102 x103 x104 x105 x106 x107 x108 x109 x110 x111 x112 x113 x114 x115 x116 x117 x118 x119 x120 x121 x122 x123 x124 x125 x126 x127 x128 x129 x130 x131 x132 x133 x134 x135 x136 x137 x138 x139 x140 x141 x142 x143 x144 x145 x146 x147 x148 x149 x150 x151 x152 x153 x154 x155 x156 x157 x158 x159 x160 x161 x162 x163 x164 x165 x166 x167 x168 x169 x170 x171 x172 x173 x174 x175 x176 x177 x178 x179 x180 x181 x182 x183 x184 x185 x186 x187 x188 x189 x190 x191 x192 x193 x194 x195 x196 x197 x198 x199 x200 x201 x202 x203 x204 x205 x206 x207 x208 x209 x210 x211 x212 x213 x214 x215 x216:Value}
 (hQ:Hid (NxPy Q W id hosts sl p r i m)):(thnC (sndC (elsC (sndC (elsC (sndC (blC (sndC (fstC (sndC (sndC (blC (fstC (sndC (lpC (blC (sndC (fstC (sndC (sndC (sndC (sndC (sndC (sndC (sndC c))))))))))))))))))))))))).wp Tryz.prog Q { tmps:=#[aI aK id,aI aK hosts,sl,x3,x4,x5,x6,x7,x8,.pointer (some ⟨p,0,none⟩),aI aK 0,.pointer (some ⟨r,0,none⟩),aI aK 0,aI aK i,.pointer (some ⟨B,0,none⟩),aB true,x16,x17,x18,x19,x20,x21,x22,x23,x24,x25,x26,x27,x28,x29,x30,x31,x32,x33,x34,x35,x36,x37,x38,x39,x40,x41,x42,x43,x44,x45,x46,x47,x48,x49,x50,x51,x52,x53,x54,x55,x56,x57,x58,x59,x60,x61,x62,x63,x64,x65,x66,x67,x68,x69,x70,x71,x72,x73,x74,x75,x76,x77,x78,x79,x80,x81,x82,x83,x84,x85,x86,x87,x88,x89,x90,x91,x92,x93,x94,x95,x96,x97,x98,x99,x100,x101,x102,x103,x104,x105,x106,x107,x108,x109,x110,x111,x112,x113,x114,x115,x116,x117,x118,x119,x120,x121,x122,x123,x124,x125,x126,x127,x128,x129,x130,x131,x132,x133,x134,x135,x136,x137,x138,x139,x140,x141,x142,x143,x144,x145,x146,x147,x148,x149,x150,x151,x152,x153,x154,x155,x156,x157,x158,x159,x160,x161,x162,x163,x164,x165,x166,x167,x168,x169,x170,x171,x172,x173,x174,x175,x176,x177,x178,x179,x180,x181,x182,x183,x184,x185,x186,x187,x188,x189,x190,x191,x192,x193,x194,x195,x196,x197,x198,x199,x200,x201,x202,x203,x204,x205,x206,x207,x208,x209,x210,x211,x212,x213,x214,x215,x216],defers:=[] } w:=by
 cases hb
 simp only [sndC,fstC,lpC,blC,thnC,elsC]
 refine a0a fun C HC=>?_
 refine wp_seq ?_
 obtain ⟨z1,hz1⟩:∃ z,bits .and .i64 a.n 31=z:=⟨_,rfl⟩
 obtain ⟨z2,hz2⟩:∃ z,bits .and .i64 a.m 1=z:=⟨_,rfl⟩
 obtain ⟨z3,hz3⟩:∃ z,IntKind.i64.wrap (g.op.kind+z2)=z:=⟨_,rfl⟩
 obtain ⟨z4,hz4⟩:∃ z,a.m / 2=z:=⟨_,rfl⟩
 obtain ⟨z5,hz5⟩:∃ z,bits .and .i64 z4 1=z:=⟨_,rfl⟩
 obtain ⟨z6,hz6⟩:∃ z,IntKind.i64.wrap (g.op.seq+z5)=z:=⟨_,rfl⟩
 obtain ⟨V,hV⟩:∃ V,V=wdV (anW z1 a.host z3 g.op.client z6 a.r) (.slice none 0 0) (.slice none 0 0):=⟨_,rfl⟩
 have HV:=uH hV
 obtain ⟨w3,hw3⟩:∃ w3,w3=w.drew:=⟨_,rfl⟩
 have S1:Hid (St W w3 (a0c B (.cells (acV a).toArray 61 (0,0))::[thG p g (.slice a1 A.length c1),thA W.heap.size a1 c1 A,thR r g (.slice a2 A.length c2),thB W.heap.size a2 c2 A])):=by rw [hw3];exact uH (S0.out.grow (Below.refl _ _).drew)
 have Hsu:Hid (∀ w' t,St W w' (t::a0c B (.cells (acV a).toArray 61 (0,0))::[thG p g (.slice a1 A.length c1),thA W.heap.size a1 c1 A,thR r g (.slice a2 A.length c2),thB W.heap.size a2 c2 A])→(fun U:World=>U.heap[B]?=some (.cells (acV a).toArray 61 (0,0))∧U.heap[r]?=some (.cells (rgV g (.slice a2 A.length c2)) 71 (0,0))) w'):=uH (fun w' t h=>⟨(h.pull (A:=[_])).head,(h.pull (A:=[_,_,_,_])).head⟩)
 have HC:Hid ((fun U:World=>U.heap[B]?=some (.cells (acV a).toArray 61 (0,0))∧U.heap[r]?=some (.cells (rgV g (.slice a2 A.length c2)) 71 (0,0))) w3):=uH ⟨S1.out.head,(S1.out.pull (A:=[_,_,_])).head⟩
 clear hV S0
 refine wp_region_noPanic ?_
 refine wp_region_held (S:=(fun U:World=>U.heap[B]?=some (.cells (acV a).toArray 61 (0,0))∧U.heap[r]?=some (.cells (rgV g (.slice a2 A.length c2)) 71 (0,0)))) (by kernel_rfl) ?_
 change wpAnyH _ _ _ _ _ _ _ _ (World.drew _)
 rw [←hw3]
 clear hw3
 (refine tkD (i:=0) (v:=.pointer (some ⟨B,1,none⟩)) 127 rfl (fun w hSw=>(by (clear hSw;go_simp))) HC.out ?_;(try simp only [Act.put,lA,lZ,lS]))
 (refine tkD (i:=1) (v:=aI aK a.n) 128 rfl (fun w hSw=>(by ((obtain ⟨al,a1c,a2c,a4c,-⟩:=i0s hSw.1);clear hSw;go_simp))) HC.out ?_;(try simp only [Act.put,lA,lZ,lS]))
 (refine tkD (i:=2) (v:=aI aK z1) 129 rfl (fun w hSw=>(by (clear hSw;go_simp))) HC.out ?_;(try simp only [Act.put,lA,lZ,lS]))
 (refine tkD (i:=3) (v:=.pointer (some ⟨B,4,none⟩)) 130 rfl (fun w hSw=>(by (clear hSw;go_simp))) HC.out ?_;(try simp only [Act.put,lA,lZ,lS]))
 (refine tkD (i:=4) (v:=aI aK a.host) 131 rfl (fun w hSw=>(by ((obtain ⟨al,a1c,a2c,a4c,-⟩:=i0s hSw.1);clear hSw;go_simp))) HC.out ?_;(try simp only [Act.put,lA,lZ,lS]))
 (refine tkD (i:=5) (v:=.pointer (some ⟨B,17,none⟩)) 132 rfl (fun w hSw=>(by (clear hSw;go_simp))) HC.out ?_;(try simp only [Act.put,lA,lZ,lS]))
 (refine tkD (i:=6) (v:=.agg (rpV a.r).toArray) 133 rfl (fun w hSw=>(by exact e0n 41 _ rfl B 17 rfl (rpV a.r) _ (i0s hSw.1).2.2.2.2 Tryz.underlying41 rfl (by kernel_rfl))) HC.out ?_;(try simp only [Act.put,lA,lZ,lS]))
 (refine tkD (i:=7) (v:=.pointer (some ⟨r,0,none⟩)) 134 rfl (fun w hSw=>(by (clear hSw;go_simp))) HC.out ?_;(try simp only [Act.put,lA,lZ,lS]))
 (refine tkD (i:=8) (v:=.pointer (some ⟨r,0,none⟩)) 135 rfl (fun w hSw=>(by (clear hSw;go_simp))) HC.out ?_;(try simp only [Act.put,lA,lZ,lS]))
 (refine tkD (i:=9) (v:=.pointer (some ⟨r,5,none⟩)) 136 rfl (fun w hSw=>(by (clear hSw;go_simp))) HC.out ?_;(try simp only [Act.put,lA,lZ,lS]))
 (refine tkD (i:=10) (v:=.pointer (some ⟨r,5,none⟩)) 137 rfl (fun w hSw=>(by (clear hSw;go_simp))) HC.out ?_;(try simp only [Act.put,lA,lZ,lS]))
 (refine tkD (i:=11) (v:=aI aK g.op.kind) 138 rfl (fun w hSw=>(by ((obtain ⟨rl,r5c,r6c,r7c⟩:=m0y hSw.2);clear hSw;go_simp))) HC.out ?_;(try simp only [Act.put,lA,lZ,lS]))
 (refine tkD (i:=12) (v:=.pointer (some ⟨B,2,none⟩)) 139 rfl (fun w hSw=>(by (clear hSw;go_simp))) HC.out ?_;(try simp only [Act.put,lA,lZ,lS]))
 (refine tkD (i:=13) (v:=aI aK a.m) 140 rfl (fun w hSw=>(by ((obtain ⟨al,a1c,a2c,a4c,-⟩:=i0s hSw.1);clear hSw;go_simp))) HC.out ?_;(try simp only [Act.put,lA,lZ,lS]))
 (refine tkD (i:=14) (v:=aI aK z2) 141 rfl (fun w hSw=>(by (clear hSw;go_simp))) HC.out ?_;(try simp only [Act.put,lA,lZ,lS]))
 (refine tkD (i:=15) (v:=aI aK z3) 142 rfl (fun w hSw=>(by (clear hSw;go_simp))) HC.out ?_;(try simp only [Act.put,lA,lZ,lS]))
 (refine tkD (i:=16) (v:=.pointer (some ⟨r,0,none⟩)) 143 rfl (fun w hSw=>(by (clear hSw;go_simp))) HC.out ?_;(try simp only [Act.put,lA,lZ,lS]))
 (refine tkD (i:=17) (v:=.pointer (some ⟨r,0,none⟩)) 144 rfl (fun w hSw=>(by (clear hSw;go_simp))) HC.out ?_;(try simp only [Act.put,lA,lZ,lS]))
 (refine tkD (i:=18) (v:=.pointer (some ⟨r,5,none⟩)) 145 rfl (fun w hSw=>(by (clear hSw;go_simp))) HC.out ?_;(try simp only [Act.put,lA,lZ,lS]))
 (refine tkD (i:=19) (v:=.pointer (some ⟨r,6,none⟩)) 146 rfl (fun w hSw=>(by (clear hSw;go_simp))) HC.out ?_;(try simp only [Act.put,lA,lZ,lS]))
 (refine tkD (i:=20) (v:=aI aK g.op.client) 147 rfl (fun w hSw=>(by ((obtain ⟨rl,r5c,r6c,r7c⟩:=m0y hSw.2);clear hSw;go_simp))) HC.out ?_;(try simp only [Act.put,lA,lZ,lS]))
 (refine tkD (i:=21) (v:=.pointer (some ⟨r,0,none⟩)) 148 rfl (fun w hSw=>(by (clear hSw;go_simp))) HC.out ?_;(try simp only [Act.put,lA,lZ,lS]))
 (refine tkD (i:=22) (v:=.pointer (some ⟨r,0,none⟩)) 149 rfl (fun w hSw=>(by (clear hSw;go_simp))) HC.out ?_;(try simp only [Act.put,lA,lZ,lS]))
 (refine tkD (i:=23) (v:=.pointer (some ⟨r,5,none⟩)) 150 rfl (fun w hSw=>(by (clear hSw;go_simp))) HC.out ?_;(try simp only [Act.put,lA,lZ,lS]))
 (refine tkD (i:=24) (v:=.pointer (some ⟨r,7,none⟩)) 151 rfl (fun w hSw=>(by (clear hSw;go_simp))) HC.out ?_;(try simp only [Act.put,lA,lZ,lS]))
 (refine tkD (i:=25) (v:=aI aK g.op.seq) 152 rfl (fun w hSw=>(by ((obtain ⟨rl,r5c,r6c,r7c⟩:=m0y hSw.2);clear hSw;go_simp))) HC.out ?_;(try simp only [Act.put,lA,lZ,lS]))
 (refine tkD (i:=26) (v:=.pointer (some ⟨B,2,none⟩)) 153 rfl (fun w hSw=>(by (clear hSw;go_simp))) HC.out ?_;(try simp only [Act.put,lA,lZ,lS]))
 (refine tkD (i:=27) (v:=aI aK a.m) 154 rfl (fun w hSw=>(by ((obtain ⟨al,a1c,a2c,a4c,-⟩:=i0s hSw.1);clear hSw;go_simp))) HC.out ?_;(try simp only [Act.put,lA,lZ,lS]))
 (refine tkD (i:=28) (v:=aI aK z4) 155 rfl (fun w hSw=>(by (clear hSw;go_simp))) HC.out ?_;(try simp only [Act.put,lA,lZ,lS]))
 (refine tkD (i:=29) (v:=aI aK z5) 156 rfl (fun w hSw=>(by (clear hSw;go_simp))) HC.out ?_;(try simp only [Act.put,lA,lZ,lS]))
 (refine tkD (i:=30) (v:=aI aK z6) 157 rfl (fun w hSw=>(by (clear hSw;go_simp))) HC.out ?_;(try simp only [Act.put,lA,lZ,lS]))
 (refine tkD (i:=31) (v:=.agg #[aI aK z3,aI aK g.op.client,aI aK z6,aS ⟨#[]⟩,aS ⟨#[]⟩,aS ⟨#[]⟩,aS ⟨#[]⟩,aI aK 0,aI aK 0,aI aK 0,aB false,aI aK 0]) 158 rfl (fun w hSw=>(by exact m0n 30 _ rfl _ (by kernel_rfl))) HC.out ?_;(try simp only [Act.put,lA,lZ,lS]))
 (refine tkD (i:=32) (v:=.agg V) 159 rfl (fun w hSw=>(by exact m0n 49 _ rfl _ (by rw [HV.out];kernel_rfl))) HC.out ?_;(try simp only [Act.put,lA,lZ,lS]))
 (refine oneD 33 rfl (fun K' hK'=>?_))
 go_simp
 obtain ⟨E,hE⟩:∃ E,E=w3.heap.size:=⟨_,rfl⟩
 have S2:=uH (S1.out.objN (.cells #[aI aK 0,aI aK 0,aI aK 0,aI aK 0,aI aK 0,aI aK 0,aI aK 0,aI aK 0,aS ⟨#[]⟩,aS ⟨#[]⟩,aI aK 0,aI aK 0,aI aK 0,aS ⟨#[]⟩,aS ⟨#[]⟩,aS ⟨#[]⟩,aS ⟨#[]⟩,aI aK 0,aI aK 0,aI aK 0,aB false,aI aK 0,aI aK 0,aI aK 0,aI aK 0,aI aK 0,aI aK 0,aI aK 0,aI aK 0,aI aK 0,.slice none 0 0,aI aK 0,aI aK 0,aI aK 0,aI aK 0,aS ⟨#[]⟩,.slice none 0 0] 49) E hE)
 obtain ⟨w4,hw4⟩:∃ w4,w4=w3.alloc (.cells #[aI aK 0,aI aK 0,aI aK 0,aI aK 0,aI aK 0,aI aK 0,aI aK 0,aI aK 0,aS ⟨#[]⟩,aS ⟨#[]⟩,aI aK 0,aI aK 0,aI aK 0,aS ⟨#[]⟩,aS ⟨#[]⟩,aS ⟨#[]⟩,aS ⟨#[]⟩,aI aK 0,aI aK 0,aI aK 0,aB false,aI aK 0,aI aK 0,aI aK 0,aI aK 0,aI aK 0,aI aK 0,aI aK 0,aI aK 0,aI aK 0,.slice none 0 0,aI aK 0,aI aK 0,aI aK 0,aI aK 0,aS ⟨#[]⟩,.slice none 0 0] 49):=⟨_,rfl⟩
 rw [←hw4] at S2 ⊢
 rw [←hE]
 clear hw4 hE S1 HC
 refine hK' _ _ ⟨Hsu.out _ _ S2.out,?_⟩
 clear hK' K'
 (try simp only [Act.put,lA,lZ,lS])
 have hsz:V.size=37:=by rw [HV.out];rfl
 have hone:V.all (·.oneCell')=true:=by rw [HV.out];simp [wdV,Value.oneCell']
 (refine oneD 34 rfl (fun K' hK'=>?_))
 rw [if_pos (by rfl)]
 refine wp_store_row 49 _ _ rfl E V rfl rfl 49 _ S2.out.head (by rw [hsz];kernel_rfl) (by rw [hsz];rfl) hone ?_
 have S3:=uH (S2.out.c0m V)
 obtain ⟨w5,hw5⟩:∃ w5,w5=w4.setRow E V:=⟨_,rfl⟩
 rw [←hw5] at S3 ⊢
 clear hw5 S2 hone
 refine hK' _ _ ⟨Hsu.out _ _ S3.out,?_⟩
 clear hK' K'
 (try simp only [Act.put])
 refine wpAnyH_done (by kernel_rfl) ?_ _
 refine NoPanic.normal ?_
 ((have hC:=HC.out);clear HC;subst hC)
 exact a_py rfl HV.out S3 hsl hbl hok hA hm hQ
end G
set_option maxRecDepth 20000
open Go.RowKit
namespace G
set_option maxHeartbeats 8000000 in
theorem tail_py {c:Code} (hb:(Tryz.f4).body=some c) {W w:World} {id hosts:Int} {sl:Value} {p r i:Nat} {g:Gt} {A:List An} {a1 a2:Option Addr} {c1 c2:Nat} (S0:Hid (St W w [thG p g (.slice a1 A.length c1),thA W.heap.size a1 c1 A,thR r g (.slice a2 A.length c2),thB W.heap.size a2 c2 A])) (hA:A.length≤1000) {Q:Exit→Act→World→Prop} {x3 x4 x5 x6 x7 x8 x14 x16 x17 x18 x19 x20 x21 x22 x23 x24 x25 x26 x27 x28 x29 x30 x31 x32 x33 x34 x35 x36 x37 x38 x39 x40 x41 x42 x43 x44 x45 x46 x47 x48 x49 x50 x51 x52 x53 x54 x55 x56 x57 x58 x59 x60 x61 x62 x63 x64 x65 x66 x67 x68 x69 x70 x71 x72 x73 x74 x75 x76 x77 x78 x79 x80 x81 x82 x83 x84 x85 x86 x87 x88 x89 x90 x91 x92 x93 x94 x95 x96 x97 x98 x99 x100 x101 x102 x103 x104 x105 x106 x107 x108 x109 x110 x111 x112 x113 x114 x115 x116 x117 x118 x119 x120 x121 x122 x123 x124 x125 x126 x127 x128 x129 x130 x131 x132 x133 x134 x135 x136 x137 x138 x139 x140 x141 x142 x143 x144 x145 x146 x147 x148 x149 x150 x151 x152 x153 x154 x155 x156 x157 x158 x159 x160 x161 x162 x163 x164 x165 x166 x167 x168 x169 x170 x171 x172 x173 x174 x175 x176 x177 x178 x179 x180 x181 x182 x183 x184 x185 x186 x187 x188 x189 x190 x191 x192 x193 x194 x195 x196 x197 x198 x199 x200 x201 x202 x203 x204 x205 x206 x207 x208 x209 x210 x211 x212 x213 x214 x215 x216:Value}
 (hQ:Hid (∀ (y3 y4 y5 y6 y7 y8 y14 y15 y16 y17 y18 y19 y20 y21 y22 y23 y24 y25 y26 y27 y28 y29 y30 y31 y32 y33 y34 y35 y36 y37 y38 y39 y40 y41 y42 y43 y44 y45 y46 y47 y48 y49 y50 y51 y52 y53 y54 y55 y56 y57 y58 y59 y60 y61 y62 y63 y64 y65 y66 y67 y68 y69 y70 y71 y72 y73 y74 y75 y76 y77 y78 y79 y80 y81 y82 y83 y84 y85 y86 y87 y88 y89 y90 y91 y92 y93 y94 y95 y96 y97 y98 y99 y100 y101 y102 y103 y104 y105 y106 y107 y108 y109 y110 y111 y112 y113 y114 y115 y116 y117 y118 y119 y120 y121 y122 y123 y124 y125 y126 y127 y128 y129 y130 y131 y132 y133 y134 y135 y136 y137 y138 y139 y140 y141 y142 y143 y144 y145 y146 y147 y148 y149 y150 y151 y152 y153 y154 y155 y156 y157 y158 y159 y160 y161 y162 y163 y164 y165 y166 y167 y168 y169 y170 y171 y172 y173 y174 y175 y176 y177 y178 y179 y180 y181 y182 y183 y184 y185 y186 y187 y188 y189 y190 y191 y192 y193 y194 y195 y196 y197 y198 y199 y200 y201 y202 y203 y204 y205 y206 y207 y208 y209 y210 y211 y212 y213 y214 y215 y216:Value) (w':World),Hid (St W w' [thG p g (.slice a1 A.length c1),thA W.heap.size a1 c1 A,thR r g (.slice a2 A.length c2),thB W.heap.size a2 c2 A])→Q .normal { tmps:=#[aI aK id,aI aK hosts,sl,y3,y4,y5,y6,y7,y8,.pointer (some ⟨p,0,none⟩),aI aK 0,.pointer (some ⟨r,0,none⟩),aI aK 0,aI aK i,y14,y15,y16,y17,y18,y19,y20,y21,y22,y23,y24,y25,y26,y27,y28,y29,y30,y31,y32,y33,y34,y35,y36,y37,y38,y39,y40,y41,y42,y43,y44,y45,y46,y47,y48,y49,y50,y51,y52,y53,y54,y55,y56,y57,y58,y59,y60,y61,y62,y63,y64,y65,y66,y67,y68,y69,y70,y71,y72,y73,y74,y75,y76,y77,y78,y79,y80,y81,y82,y83,y84,y85,y86,y87,y88,y89,y90,y91,y92,y93,y94,y95,y96,y97,y98,y99,y100,y101,y102,y103,y104,y105,y106,y107,y108,y109,y110,y111,y112,y113,y114,y115,y116,y117,y118,y119,y120,y121,y122,y123,y124,y125,y126,y127,y128,y129,y130,y131,y132,y133,y134,y135,y136,y137,y138,y139,y140,y141,y142,y143,y144,y145,y146,y147,y148,y149,y150,y151,y152,y153,y154,y155,y156,y157,y158,y159,y160,y161,y162,y163,y164,y165,y166,y167,y168,y169,y170,y171,y172,y173,y174,y175,y176,y177,y178,y179,y180,y181,y182,y183,y184,y185,y186,y187,y188,y189,y190,y191,y192,y193,y194,y195,y196,y197,y198,y199,y200,y201,y202,y203,y204,y205,y206,y207,y208,y209,y210,y211,y212,y213,y214,y215,y216],defers:=[] } w')):(sndC (sndC (sndC (blC (fstC (sndC (lpC (blC (sndC (fstC (sndC (sndC (sndC (sndC (sndC (sndC (sndC c))))))))))))))))).wp Tryz.prog Q { tmps:=#[aI aK id,aI aK hosts,sl,x3,x4,x5,x6,x7,x8,.pointer (some ⟨p,0,none⟩),aI aK 0,.pointer (some ⟨r,0,none⟩),aI aK 0,aI aK i,x14,aB true,x16,x17,x18,x19,x20,x21,x22,x23,x24,x25,x26,x27,x28,x29,x30,x31,x32,x33,x34,x35,x36,x37,x38,x39,x40,x41,x42,x43,x44,x45,x46,x47,x48,x49,x50,x51,x52,x53,x54,x55,x56,x57,x58,x59,x60,x61,x62,x63,x64,x65,x66,x67,x68,x69,x70,x71,x72,x73,x74,x75,x76,x77,x78,x79,x80,x81,x82,x83,x84,x85,x86,x87,x88,x89,x90,x91,x92,x93,x94,x95,x96,x97,x98,x99,x100,x101,x102,x103,x104,x105,x106,x107,x108,x109,x110,x111,x112,x113,x114,x115,x116,x117,x118,x119,x120,x121,x122,x123,x124,x125,x126,x127,x128,x129,x130,x131,x132,x133,x134,x135,x136,x137,x138,x139,x140,x141,x142,x143,x144,x145,x146,x147,x148,x149,x150,x151,x152,x153,x154,x155,x156,x157,x158,x159,x160,x161,x162,x163,x164,x165,x166,x167,x168,x169,x170,x171,x172,x173,x174,x175,x176,x177,x178,x179,x180,x181,x182,x183,x184,x185,x186,x187,x188,x189,x190,x191,x192,x193,x194,x195,x196,x197,x198,x199,x200,x201,x202,x203,x204,x205,x206,x207,x208,x209,x210,x211,x212,x213,x214,x215,x216],defers:=[] } w:=by
 cases hb
 simp only [sndC,fstC,lpC,blC]
 refine a0a fun C HC=>?_
 go_wp2_with fail
 refine (w0r S0.out).mono ?_
 rintro e w1 ⟨rfl,hb⟩
 have S1:=uH (S0.out.grow hb)
 clear hb S0
 go_wp2_with fail
 refine a0d fun w2 hw2=>?_
 obtain ⟨Z,hZ⟩:∃ Z,Z=w1.heap.size:=⟨_,rfl⟩
 obtain ⟨vs,hvs⟩:∃ vs,vs=opV g.op:=⟨_,rfl⟩
 have hln:vs.length=12:=by rw [hvs];rfl
 have S2:Hid (St W w2 (a0c Z (.cells vs.toArray 30 (0,0))::[thR r g (.slice a2 A.length c2),thG p g (.slice a1 A.length c1),thA W.heap.size a1 c1 A,thB W.heap.size a2 c2 A])):=by
  rw [hw2,hvs]
  exact uH ((S1.out.pull (A:=[_,_])).objN _ Z hZ)
 rw [←hZ]
 clear hw2 hZ S1
 ((have hC:=HC.out);clear HC;subst hC)
 have Hsu:Hid (∀ w',St W w' (a0c Z (.cells vs.toArray 30 (0,0))::[thR r g (.slice a2 A.length c2),thG p g (.slice a1 A.length c1),thA W.heap.size a1 c1 A,thB W.heap.size a2 c2 A])→(fun U:World=>U.heap[Z]?=some (.cells vs.toArray 30 (0,0))∧U.heap[r]?=some (.cells (rgV g (.slice a2 A.length c2)) 71 (0,0))) w'):=uH fun w' h=>⟨h.head,(h.pull (A:=[_])).head⟩
 have heq:=fun w=>p0k g.op w
 rw [←hvs] at heq
 have Heq:=uH heq
 have Hvs:=uH hvs
 clear heq hvs
 obtain ⟨pd,hpd⟩:∃ pd,pd=g.pend:=⟨_,rfl⟩
 obtain ⟨n,hn⟩:∃ n,n=A.length:=⟨_,rfl⟩
 rw [←hpd]
 have Hpd:=uH hpd
 have Hn:=uH hn
 clear hpd hn
 refine wp_seq ?_
 have HC:=uH (Hsu.out w2.drew (S2.out.grow (Below.refl _ _).drew))
 have S3:=uH (S2.out.grow (Below.refl _ _).drew)
 clear S2
 refine wp_region_noPanic ?_
 refine wp_region_held (S:=(fun U:World=>U.heap[Z]?=some (.cells vs.toArray 30 (0,0))∧U.heap[r]?=some (.cells (rgV g (.slice a2 A.length c2)) 71 (0,0)))) (by kernel_rfl) ?_
 change wpAnyH _ _ _ _ _ _ _ _ (World.drew _)
 obtain ⟨w3,hw3⟩:∃ w3,w3=w2.drew:=⟨_,rfl⟩
 rw [←hw3] at HC S3 ⊢
 clear hw3
 (refine tkD (i:=0) (v:=aB true) 188 rfl (fun w hSw=>(by clear hSw;go_simp)) HC.out ?_;(try simp only [Act.put,lA,lZ,lS]))
 (refine tkD (i:=1) (v:=aB false) 189 rfl (fun w hSw=>(by clear hSw;go_simp)) HC.out ?_;(try simp only [Act.put,lA,lZ,lS]))
 (refine tkD (i:=2) (v:=aB false) 190 rfl (fun w hSw=>(by clear hSw;go_simp)) HC.out ?_;(try simp only [Act.put,lA,lZ,lS]))
 (refine tkD (i:=3) (v:=.agg vs.toArray) 191 rfl (fun w hSw=>(by exact d0x 30 _ rfl Z rfl _ vs.toArray _ _ hSw.1 Tryz.underlying30 rfl (by rw [List.size_toArray,hln];kernel_rfl))) HC.out ?_;(try simp only [Act.put,lA,lZ,lS]))
 (refine tkD (i:=4) (v:=.pointer (some ⟨r,0,none⟩)) 192 rfl (fun w hSw=>(by clear hSw;go_simp)) HC.out ?_;(try simp only [Act.put,lA,lZ,lS]))
 (refine tkD (i:=5) (v:=.pointer (some ⟨r,0,none⟩)) 193 rfl (fun w hSw=>(by clear hSw;go_simp)) HC.out ?_;(try simp only [Act.put,lA,lZ,lS]))
 (refine tkD (i:=6) (v:=.pointer (some ⟨r,5,none⟩)) 194 rfl (fun w hSw=>(by clear hSw;go_simp)) HC.out ?_;(try simp only [Act.put,lA,lZ,lS]))
 (refine tkD (i:=7) (v:=.agg vs.toArray) 195 rfl (fun w hSw=>(by (have hr:=(m0x hSw.2).1;rw [←Hvs.out] at hr;exact e0n 30 _ rfl r 5 rfl vs _ hr Tryz.underlying30 rfl (by rw [hln];kernel_rfl)))) HC.out ?_;(try simp only [Act.put,lA,lZ,lS]))
 (refine tkD (i:=8) (v:=aB false) 196 rfl (fun w hSw=>(by (have heq:=Heq.out);clear hSw;go_simp)) HC.out ?_;(try simp only [Act.put,lA,lZ,lS]))
 (refine tkD (i:=9) (v:=aB false) 197 rfl (fun w hSw=>(by clear hSw;go_simp)) HC.out ?_;(try simp only [Act.put,lA,lZ,lS]))
 (refine tkD (i:=10) (v:=aB false) 198 rfl (fun w hSw=>(by clear hSw;go_simp)) HC.out ?_;(try simp only [Act.put,lA,lZ,lS]))
 (refine tkD (i:=11) (v:=aB pd) 199 rfl (fun w hSw=>(by clear hSw;go_simp)) HC.out ?_;(try simp only [Act.put,lA,lZ,lS]))
 (refine tkD (i:=12) (v:=.pointer (some ⟨r,0,none⟩)) 200 rfl (fun w hSw=>(by clear hSw;go_simp)) HC.out ?_;(try simp only [Act.put,lA,lZ,lS]))
 (refine tkD (i:=13) (v:=.pointer (some ⟨r,0,none⟩)) 201 rfl (fun w hSw=>(by clear hSw;go_simp)) HC.out ?_;(try simp only [Act.put,lA,lZ,lS]))
 (refine tkD (i:=14) (v:=.pointer (some ⟨r,17,none⟩)) 202 rfl (fun w hSw=>(by clear hSw;go_simp)) HC.out ?_;(try simp only [Act.put,lA,lZ,lS]))
 (refine tkD (i:=15) (v:=aB pd) 203 rfl (fun w hSw=>(by (have hr:=(m0x hSw.2).2.1;rw [←Hpd.out] at hr;(have hl:=lt_of_block hSw.2);clear hSw;go_simp))) HC.out ?_;(try simp only [Act.put,lA,lZ,lS]))
 (refine tkD (i:=16) (v:=aB false) 204 rfl (fun w hSw=>(by clear hSw;go_simp)) HC.out ?_;(try simp only [Act.put,lA,lZ,lS]))
 (refine tkD (i:=17) (v:=aB false) 205 rfl (fun w hSw=>(by clear hSw;go_simp)) HC.out ?_;(try simp only [Act.put,lA,lZ,lS]))
 (refine tkD (i:=18) (v:=aB false) 206 rfl (fun w hSw=>(by clear hSw;go_simp)) HC.out ?_;(try simp only [Act.put,lA,lZ,lS]))
 (refine tkD (i:=19) (v:=.pointer (some ⟨p,0,none⟩)) 207 rfl (fun w hSw=>(by clear hSw;go_simp)) HC.out ?_;(try simp only [Act.put,lA,lZ,lS]))
 (refine tkD (i:=21) (v:=.pointer (some ⟨r,0,none⟩)) 209 rfl (fun w hSw=>(by clear hSw;go_simp)) HC.out ?_;(try simp only [Act.put,lA,lZ,lS]))
 (refine tkD (i:=22) (v:=.pointer (some ⟨r,0,none⟩)) 210 rfl (fun w hSw=>(by clear hSw;go_simp)) HC.out ?_;(try simp only [Act.put,lA,lZ,lS]))
 (refine tkD (i:=23) (v:=.pointer (some ⟨r,18,none⟩)) 211 rfl (fun w hSw=>(by clear hSw;go_simp)) HC.out ?_;(try simp only [Act.put,lA,lZ,lS]))
 (refine tkD (i:=24) (v:=.slice a2 n c2) 212 rfl (fun w hSw=>(by (have hr:=(m0x hSw.2).2.2;rw [←Hn.out] at hr;(have hl:=lt_of_block hSw.2);clear hSw;go_simp))) HC.out ?_;(try simp only [Act.put,lA,lZ,lS]))
 (refine oneD 20 rfl (fun K' hK'=>?_))
 go_simp
 obtain rfl:=Hn.out
 refine (y0x ((S3.out.pull (A:=[_,_,_])).pull (A:=[_,_,_])) hA).mono ?_
 rintro e w4 ⟨co,kk,rfl,hS⟩
 have S4:=uH hS
 have hT2:=(hS.pull (A:=[_,_,_,_,_])).head
 refine hK' _ _ ⟨Hsu.out w4 ((hS.drop.pull (A:=[_,_,_])).pull (A:=[_,_,_])),?_⟩
 clear hK' K' HC S3
 (try simp only [Act.put,lA,lZ,lS])
 (refine oneD 25 rfl (fun K' hK'=>?_))
 go_simp
 refine (r0k hS.head hT2 hA).mono ?_
 rintro e w5 ⟨rfl,hb⟩
 have S5:=uH (S4.out.drop.grow hb)
 have HC:=uH (Hsu.out w5 ((S5.out.pull (A:=[_,_,_])).pull (A:=[_,_,_])))
 refine hK' _ _ ⟨HC.out,?_⟩
 clear hK' K' hS hT2 hb S4
 (try simp only [Act.put,lA,lZ,lS])
 (refine tkD (i:=26) (v:=aB false) 214 rfl (fun w hSw=>(by clear hSw;go_simp)) HC.out ?_;(try simp only [Act.put,lA,lZ,lS]))
 (refine tkD (i:=27) (v:=aB false) 215 rfl (fun w hSw=>(by clear hSw;go_simp)) HC.out ?_;(try simp only [Act.put,lA,lZ,lS]))
 refine wpAnyH_done (by kernel_rfl) ?_ _
 refine NoPanic.normal ?_
 refine wp_cond_false rfl ?_
 refine wp_skip ?_
 exact hQ.out _ _ _ _ _ _ _ _ _ _ _ _ _ _ _ _ _ _ _ _ _ _ _ _ _ _ _ _ _ _ _ _ _ _ _ _ _ _ _ _ _ _ _ _ _ _ _ _ _ _ _ _ _ _ _ _ _ _ _ _ _ _ _ _ _ _ _ _ _ _ _ _ _ _ _ _ _ _ _ _ _ _ _ _ _ _ _ _ _ _ _ _ _ _ _ _ _ _ _ _ _ _ _ _ _ _ _ _ _ _ _ _ _ _ _ _ _ _ _ _ _ _ _ _ _ _ _ _ _ _ _ _ _ _ _ _ _ _ _ _ _ _ _ _ _ _ _ _ _ _ _ _ _ _ _ _ _ _ _ _ _ _ _ _ _ _ _ _ _ _ _ _ _ _ _ _ _ _ _ _ _ _ _ _ _ _ _ _ _ _ _ _ _ _ _ _ _ _ _ _ _ _ _ _ _ _ _ _ _ w5 (uH ((S5.out.pull (A:=[_,_])).drop))
end G
end Go.Proofs.YtogamdaomdoapaaGreat