/- Texts put together: WDe, RPut. -/
import Derived.Test.YtogamdaomdoapaaGreatGa02
import Derived.Test.YtogamdaomdoapaaGreatGa04
import Derived.Test.YtogamdaomdoapaaGreatGa05
import Derived.Test.YtogamdaomdoapaaGreatGa27
import Derived.Test.YtogamdaomdoapaaGreatGa29
import Derived.Deep.DrawnRows
import Derived.Deep.RegionLaw
namespace Go.Proofs.YtogamdaomdoapaaGreat
open Go.Value renaming int→aI,string→aS,bool→aB
open Go.IntKind renaming i64→aK
open Go.Lib renaming hid→uH
set_option maxRecDepth 20000
open Go.RowKit
def b0z (w:World) (l:List UInt8) (e:Ending) (w':World):Prop:=∃ mo zc dl dc,e=.returned (.tuple #[.agg (wdV (d0e l).1 (.slice mo (d0e l).1.mp.zs.length zc) (.slice dl (d0e l).1.data.length dc)),aI aK (d0e l).2])∧Below w.heap.size w w'∧O.ZsAt w' mo (d0e l).1.mp.zs∧F.Sl w' dl dc (d0e l).1.data
theorem own_neP {w:World} {base Q:Nat} {ao:Option Addr} {cap:Nat} {l:List UInt8} (h:OwnB w base ao cap l) (hq:Q<base):0<l.length→∀ a,ao=some a→a.block≠Q:=fun _ a ha=>by
 subst ha
 have:=(d0a h a.block rfl).2
 omega
theorem v0z {w:World} {Q g x:Nat} {cs:Array Value} (h:g≠Q):(w.setRow Q cs).cell? ⟨g,x,none⟩=w.cell? ⟨g,x,none⟩:=by
 unfold World.cell?
 rw [show (w.setRow Q cs).heap[(⟨g,x,none⟩:Addr).block]?=w.heap[(⟨g,x,none⟩:Addr).block]? from setRow_other w Q g cs h]
theorem r0o {w:World} {Q:Nat} {cs:Array Value} {zo:Option Addr} {l:List Zn} (h:O.ZsAt w zo l) (hg:0<l.length→∀ a,zo=some a→a.block≠Q):O.ZsAt (w.setRow Q cs) zo l:=fun hp=>by
 obtain ⟨g,x,e,hz⟩:=h hp
 have hne:g≠Q:=hg hp _ e
 exact ⟨g,x,e,by simpa using hz.lt,fun i hi j v hv=>by rw [v0z hne];exact hz.cell i hi j v hv⟩
theorem r0y {w:World} {Q:Nat} {cs:Array Value} {ao:Option Addr} {c:Nat} {l:List UInt8} (h:F.Sl w ao c l) (hg:0<l.length→∀ a,ao=some a→a.block≠Q):F.Sl (w.setRow Q cs) ao c l :=
 ⟨h.le,h.cm,h.n0,fun hp=>by
  obtain ⟨b,x,e,hb,hr⟩:=h.at_ hp
  have hne:b≠Q:=hg hp _ e
  exact ⟨b,x,e,by simpa using hb,fun i hi=>by rw [v0z hne];exact hr i hi⟩⟩
def isU8:Value→Bool
 | aI .u8 _=>true
 | _=>false
theorem r0z {w:World} {Q:Nat} {d:Wd} {a1 a2:Option Addr} {n1 k1 n2 k2:Nat} {t:TypeId} {fr:Nat × Nat} (hq:w.heap[Q]?=some (.cells (wdV d (.slice a1 n1 k1) (.slice a2 n2 k2)) t fr)) {ao:Option Addr} {c:Nat} {l:List UInt8} (h:F.Sl w ao c l):0<l.length→∀ a,ao=some a→a.block≠Q:=by
 intro hp a ha he
 obtain ⟨g,o,e,hz,hr⟩:=h.at_ hp
 rw [ha] at e
 obtain rfl:=Option.some.inj e
 simp only at he
 subst he
 have h1:=hr 0 hp
 rw [cell_of_row w g _ _ _ _ hq] at h1
 have hk:((wdV d (.slice a1 n1 k1) (.slice a2 n2 k2)).toList.map isU8)=List.replicate 37 false:=rfl
 have h2:=congrArg (Option.map isU8) h1
 rw [←Array.getElem?_toList,←List.getElem?_map,hk,List.getElem?_replicate] at h2
 split at h2<;>simp [isU8] at h2
theorem m0u {d:Wd} {ms ds:Value} (i:Nat) (v:Value) (X:Array Value) (h:(wdV d ms ds).setIfInBounds i v=X:=by rfl):(wdV d ms ds).setIfInBounds i v=X:=h
theorem putW8 (Q E:Nat) (T:TypeId) (k0 k1 k2 k3 k4 k5 k6 k7:Nat) (val:Nat→Nat) (h0:k0=val 0) (h1:k1=val 1) (h2:k2=val 2) (h3:k3=val 3) (h4:k4=val 4) (h5:k5=val 5) (h6:k6=val 6) (h7:k7=val 7) :
 f0p [(Q,wdV zWd (.slice none 0 0) (.slice none 0 0),85),(E,#[aI aK 0],T)] [(0,0),(0,1),(0,2),(0,3),(0,4),(0,5),(0,6),(1,0)] val 8 =
  [(Q,wdV ⟨k0,k1,k2,k3,k4,k5,k6,0,e0,e0,rq0,zRp,mp0,ch0,[]⟩ (.slice none 0 0) (.slice none 0 0),85),(E,#[aI aK (k7:Nat)],T)]:=by
 subst h0 h1 h2 h3 h4 h5 h6 h7
 simp only [f0p,n0d,List.getElem?_cons_zero,List.getElem?_cons_succ,wdV,zWd,List.setIfInBounds_toArray,List.set_cons_zero,List.set_cons_succ]
theorem putW3 (Q E:Nat) (T:TypeId) (D:Wd) (h0:D.op=rq0) (m0 m1 m2:Nat) (cs:Array Value) (val:Nat→Nat) (e0:m0=val 0) (e1:m1=val 1) (e2:m2=val 2) :
 f0p [(Q,wdV D (.slice none 0 0) (.slice none 0 0),85),(E,cs,T)] [(0,10),(0,11),(0,12)] val 3 =
  [(Q,wdV { D with op:={ rq0 with kind:=m0,client:=m1,seq:=m2 } } (.slice none 0 0) (.slice none 0 0),85),(E,cs,T)]:=by
 subst e0 e1 e2
 obtain ⟨a1,a2,a3,a4,a5,a6,a7,a8,a9,a10,a11,a12,a13,a14,a15⟩:=D
 simp only at h0
 subst h0
 simp only [f0p,n0d,List.getElem?_cons_zero,List.getElem?_cons_succ,wdV,rq0,List.setIfInBounds_toArray,List.set_cons_zero,List.set_cons_succ]
set_option maxHeartbeats 4000000 in
theorem y0j (ao:Option Addr) (cap:Nat) (l:List UInt8) (w:World) (h:F.Sl w ao cap l) (hm:l.length≤140737488351232) (p:List UInt8) (hp:F.oneB l=(p,0)) (hs:SmW p) :
 Calls Tryz.prog 27 #[.slice ao l.length cap] w (b0z w l):=by
 obtain ⟨n,hn⟩:∃ n,n=l.length:=⟨_,rfl⟩
 have Hone:=uH (fun (w3:World) (hb:Below w.heap.size w w3)=>F.n0f ao cap l w3 (h.grow hb) hm)
 unfold F.j0j at Hone
 have hback:=k0w (l:=l) (by rw [hp])
 rw [hp] at hback
 have Hl:Hid (l=F.d0w p):=hback.1
 have Hpl:Hid (p.length≤1048576):=hback.2
 have Hdec:Hid (d0e l=if j0f p=true then (wdOf p,0) else (zWd,3)):=by unfold d0e;rw [hp];exact uH rfl
 rw [hp] at Hone
 rw [←hn] at Hone ⊢
 simp only at Hone
 have Hn:=uH hn
 have H:=uH h
 have Hs:=uH hs
 obtain ⟨k0,k1,k2,k3,k4,k5,k6,k7,m0,m1,m2,e1,b1,sf,e2,b2,st,e3,b3,e4,b4,r,e5,b5,hI⟩:=wis p
 have HI:=uH hI
 clear hp h hn hs hback hI
 go_enter Tryz.func27,Tryz.ntmps27
 refine d0m fun R HR=>?_
 refine a0a fun C HC=>?_
 go_wp2_with fail
 refine a0d fun wa hwa=>?_
 obtain ⟨B,hB⟩:∃ B,B=w.heap.size:=⟨_,rfl⟩
 have S:Hid (St w wa [a0c B (.cells #[aI aK 0,aI aK 0,aI aK 0,aI aK 0,aI aK 0,aI aK 0,aI aK 0,aI aK 0,aS ⟨#[]⟩,aS ⟨#[]⟩,aI aK 0,aI aK 0,aI aK 0,aS ⟨#[]⟩,aS ⟨#[]⟩,aS ⟨#[]⟩,aS ⟨#[]⟩,aI aK 0,aI aK 0,aI aK 0,aB false,aI aK 0,aI aK 0,aI aK 0,aI aK 0,aI aK 0,aI aK 0,aI aK 0,aI aK 0,aI aK 0,.slice none 0 0,aI aK 0,aI aK 0,aI aK 0,aI aK 0,aS ⟨#[]⟩,.slice none 0 0] 85 (0,0))]):=by rw [hwa];exact uH ((St.start w).objN _ B hB)
 rw [←hB]
 clear hwa hB
 ((have hC:=HC.out);clear HC;subst hC)
 refine a0a fun C HC=>?_
 go_wp2_with fail
 refine (Hone.out wa S.out.b).mono ?_
 rintro e w1 ⟨qo,qc,rfl,ho,hb1⟩
 have S:=uH (S.out.grow hb1)
 have Ho:=uH ho.sl
 clear hb1 ho
 go_wp2_with fail
 ((have hC:=HC.out);clear HC;subst hC)
 refine a0a fun C HC=>?_
 go_wp2_with fail
 ((have hC:=HC.out);clear HC;subst hC)
 refine a0a fun C HC=>?_
 go_wp2_with fail
 refine a0d fun w2 hw2=>?_
 obtain ⟨Q,hQ⟩:∃ Q,Q=w1.heap.size:=⟨_,rfl⟩
 have S2:Hid (St w w2 [a0c Q (.cells (wdV zWd (.slice none 0 0) (.slice none 0 0)) 85 (0,0)),a0c B (.cells #[aI aK 0,aI aK 0,aI aK 0,aI aK 0,aI aK 0,aI aK 0,aI aK 0,aI aK 0,aS ⟨#[]⟩,aS ⟨#[]⟩,aI aK 0,aI aK 0,aI aK 0,aS ⟨#[]⟩,aS ⟨#[]⟩,aS ⟨#[]⟩,aS ⟨#[]⟩,aI aK 0,aI aK 0,aI aK 0,aB false,aI aK 0,aI aK 0,aI aK 0,aI aK 0,aI aK 0,aI aK 0,aI aK 0,aI aK 0,aI aK 0,.slice none 0 0,aI aK 0,aI aK 0,aI aK 0,aI aK 0,aS ⟨#[]⟩,.slice none 0 0] 85 (0,0))]):=by rw [hw2];exact uH (S.out.objN _ Q hQ)
 have Ho2:Hid (F.Sl w2 qo qc p):=uH (by rw [hw2];exact Ho.out.grow (a0p _ _))
 rw [←hQ]
 clear hw2 hQ S Ho
 ((have hC:=HC.out);clear HC;subst hC)
 refine a0a fun C HC=>?_
 go_wp2_with fail
 refine a0d fun w3 hw3=>?_
 obtain ⟨E,hE⟩:∃ E,E=w2.heap.size:=⟨_,rfl⟩
 have S3:Hid (St w w3 [a0c E (.cells #[aI aK 0] 3 (0,0)),a0c Q (.cells (wdV zWd (.slice none 0 0) (.slice none 0 0)) 85 (0,0)),a0c B (.cells #[aI aK 0,aI aK 0,aI aK 0,aI aK 0,aI aK 0,aI aK 0,aI aK 0,aI aK 0,aS ⟨#[]⟩,aS ⟨#[]⟩,aI aK 0,aI aK 0,aI aK 0,aS ⟨#[]⟩,aS ⟨#[]⟩,aS ⟨#[]⟩,aS ⟨#[]⟩,aI aK 0,aI aK 0,aI aK 0,aB false,aI aK 0,aI aK 0,aI aK 0,aI aK 0,aI aK 0,aI aK 0,aI aK 0,aI aK 0,aI aK 0,.slice none 0 0,aI aK 0,aI aK 0,aI aK 0,aI aK 0,aS ⟨#[]⟩,.slice none 0 0] 85 (0,0))]):=by rw [hw3];exact uH ((S2.out.objN (.cells #[aI aK 0] 3) E hE))
 have Ho3:Hid (F.Sl w3 qo qc p):=uH (by rw [hw3];exact Ho2.out.grow (a0p _ _))
 rw [←hE]
 clear hw3 hE S2 Ho2
 ((have hC:=HC.out);clear HC;subst hC)
 refine a0a fun C HC=>?_
 go_wp2_with fail
 refine (d0u qo qc p w3 Ho3.out.n0 Ho3.out.at_ (by have:=Hpl.out;omega)).mono ?_
 rintro e w4 ⟨g,gb,rfl,hr,hb,hp1,hg1⟩
 have S4:=uH (((S3.out.x0d hr hb hp1 hg1).pull (A:=[_,_])).pull (A:=[_]))
 clear hr hb hp1 hg1 S3 Ho3
 go_wp2_with fail
 ((have hC:=HC.out);clear HC;subst hC)
 refine a0a fun C HC=>?_
 go_wp2_with fail
 refine (St.f0b (O:=[(Q,wdV zWd (.slice none 0 0) (.slice none 0 0),85),(E,#[aI aK 0],3)]) (L:=[a0c B (.cells #[aI aK 0,aI aK 0,aI aK 0,aI aK 0,aI aK 0,aI aK 0,aI aK 0,aI aK 0,aS ⟨#[]⟩,aS ⟨#[]⟩,aI aK 0,aI aK 0,aI aK 0,aS ⟨#[]⟩,aS ⟨#[]⟩,aS ⟨#[]⟩,aS ⟨#[]⟩,aI aK 0,aI aK 0,aI aK 0,aB false,aI aK 0,aI aK 0,aI aK 0,aI aK 0,aI aK 0,aI aK 0,aI aK 0,aI aK 0,aI aK 0,.slice none 0 0,aI aK 0,aI aK 0,aI aK 0,aI aK 0,aS ⟨#[]⟩,.slice none 0 0] 85 (0,0))]) S4.out (by have:=Hpl.out;omega) [(0,0),(0,1),(0,2),(0,3),(0,4),(0,5),(0,6),(1,0)] ?_ w4.heap.size 8 rfl rfl (by simp) _ _ rfl).mono ?_
 ·intro q hq
  simp only [List.mem_cons,List.not_mem_nil,or_false] at hq
  rcases hq with rfl | rfl | rfl | rfl | rfl | rfl | rfl | rfl<;>exact ⟨_,_,rfl,rfl⟩
 rintro e w5 ⟨rfl,hS⟩
 obtain ⟨D1,hD1⟩:∃ D:Wd,D=⟨k0,k1,k2,k3,k4,k5,k6,0,e0,e0,rq0,zRp,mp0,ch0,[]⟩:=⟨_,rfl⟩
 rw [putW8 Q E _ k0 k1 k2 k3 k4 k5 k6 k7 _ HI.out.v0 HI.out.v1 HI.out.v2 HI.out.v3 HI.out.v4 HI.out.v5 HI.out.v6 HI.out.v7,←HI.out.hE1,←HI.out.hE2,←hD1] at hS
 have S5:Hid (St w w5 [thRd g gb e1 b1,a0c Q (.cells (wdV D1 (.slice none 0 0) (.slice none 0 0)) 85 (0,0)),a0c E (.cells #[aI aK (k7:Nat)] 3 (0,0)),a0c B (.cells #[aI aK 0,aI aK 0,aI aK 0,aI aK 0,aI aK 0,aI aK 0,aI aK 0,aI aK 0,aS ⟨#[]⟩,aS ⟨#[]⟩,aI aK 0,aI aK 0,aI aK 0,aS ⟨#[]⟩,aS ⟨#[]⟩,aS ⟨#[]⟩,aS ⟨#[]⟩,aI aK 0,aI aK 0,aI aK 0,aB false,aI aK 0,aI aK 0,aI aK 0,aI aK 0,aI aK 0,aI aK 0,aI aK 0,aI aK 0,aI aK 0,.slice none 0 0,aI aK 0,aI aK 0,aI aK 0,aI aK 0,aS ⟨#[]⟩,.slice none 0 0] 85 (0,0))]):=hS
 have HD1:=uH hD1
 clear hS S4 hD1
 go_wp2_with fail
 ((have hC:=HC.out);clear HC;subst hC)
 refine a0a fun C HC=>?_
 obtain ⟨q1,q2,-⟩:=S5.out.a0b 2 rfl
 obtain ⟨s1,-,s3⟩:=S5.out.a0b 1 rfl
 obtain ⟨c0,c1,c2,c3,c4,c5,c6,c7,c8,c9,c10,c11,c12,c13,c14,c15,c16,c17,c18,c19,c20,c21,c22,c23,c24,c25,c26,c27,c28,c29,c30,c31,c32,c33,c34,c35,c36⟩:=wbox (show w5.heap[Q]?=some (.cells (wdV D1 (.slice none 0 0) (.slice none 0 0)) 85 (0,0)) from (S5.out.pull (A:=[_])).head)
 clear c0 c1 c2 c3 c4 c5 c6 c8 c9 c10 c11 c12 c13 c14 c15 c16 c17 c18 c19 c20 c21 c22 c23 c24 c25 c26 c27 c28 c29 c30 c31 c32 c33 c34 c35 c36
 go_wp2_with fail
 refine a0d fun w6 hw6=>?_
 obtain ⟨D2,hD2⟩:∃ D:Wd,D=⟨k0,k1,k2,k3,k4,k5,k6,k7,e0,e0,rq0,zRp,mp0,ch0,[]⟩:=⟨_,rfl⟩
 have S6:Hid (St w w6 [thRd g gb e1 b1,a0c Q (.cells (wdV D2 (.slice none 0 0) (.slice none 0 0)) 85 (0,0)),a0c E (.cells #[aI aK (k7:Nat)] 3 (0,0)),a0c B (.cells #[aI aK 0,aI aK 0,aI aK 0,aI aK 0,aI aK 0,aI aK 0,aI aK 0,aI aK 0,aS ⟨#[]⟩,aS ⟨#[]⟩,aI aK 0,aI aK 0,aI aK 0,aS ⟨#[]⟩,aS ⟨#[]⟩,aS ⟨#[]⟩,aS ⟨#[]⟩,aI aK 0,aI aK 0,aI aK 0,aB false,aI aK 0,aI aK 0,aI aK 0,aI aK 0,aI aK 0,aI aK 0,aI aK 0,aI aK 0,aI aK 0,.slice none 0 0,aI aK 0,aI aK 0,aI aK 0,aI aK 0,aS ⟨#[]⟩,.slice none 0 0] 85 (0,0))]):=by
  have h:=(S5.out.pull (A:=[_])).setObj 7 (aI aK k7)
  rw [m0u (d:=D1) 7 (aI aK k7) (wdV D2 (.slice none 0 0) (.slice none 0 0)) (by rw [HD1.out,hD2];rfl),←hw6] at h
  exact h.pull (A:=[_])
 have HD2:=uH hD2
 clear hw6 hD2 q1 q2 s1 s3 c7 S5 HD1
 ((have hC:=HC.out);clear HC;subst hC)
 refine a0a fun C HC=>?_
 go_wp2_with fail
 have hcall:=St.c0u S6.out (by have:=HI.out.l1;have:=Hpl.out;omega)
 rw [HI.out.hF] at hcall
 refine hcall.mono ?_
 clear hcall
 rintro e w7a ⟨yo,yc,rfl,ho,hS⟩
 have T:=uH hS
 dsimp only at T ⊢
 have hcv:=b0c ho.at yc
 obtain ⟨s1,-,s3⟩:=T.out.a0b 1 rfl
 obtain ⟨c0,c1,c2,c3,c4,c5,c6,c7,c8,c9,c10,c11,c12,c13,c14,c15,c16,c17,c18,c19,c20,c21,c22,c23,c24,c25,c26,c27,c28,c29,c30,c31,c32,c33,c34,c35,c36⟩:=wbox (show w7a.heap[Q]?=some (.cells (wdV D2 (.slice none 0 0) (.slice none 0 0)) 85 (0,0)) from (T.out.pull (A:=[_])).head)
 clear ho hS S6 c0 c1 c2 c3 c4 c5 c6 c7 c9 c10 c11 c12 c13 c14 c15 c16 c17 c18 c19 c20 c21 c22 c23 c24 c25 c26 c27 c28 c29 c30 c31 c32 c33 c34 c35 c36
 go_wp2_with fail
 refine a0d fun w7 hw=>?_
 obtain ⟨D3,hD⟩:∃ D:Wd,D=⟨k0,k1,k2,k3,k4,k5,k6,k7,⟨sf.toArray⟩,e0,rq0,zRp,mp0,ch0,[]⟩:=⟨_,rfl⟩
 have S7:Hid (St w w7 [thRd g gb e2 b2,a0c Q (.cells (wdV D3 (.slice none 0 0) (.slice none 0 0)) 85 (0,0)),a0c E (.cells #[aI aK (k7:Nat)] 3 (0,0)),a0c B (.cells #[aI aK 0,aI aK 0,aI aK 0,aI aK 0,aI aK 0,aI aK 0,aI aK 0,aI aK 0,aS ⟨#[]⟩,aS ⟨#[]⟩,aI aK 0,aI aK 0,aI aK 0,aS ⟨#[]⟩,aS ⟨#[]⟩,aS ⟨#[]⟩,aS ⟨#[]⟩,aI aK 0,aI aK 0,aI aK 0,aB false,aI aK 0,aI aK 0,aI aK 0,aI aK 0,aI aK 0,aI aK 0,aI aK 0,aI aK 0,aI aK 0,.slice none 0 0,aI aK 0,aI aK 0,aI aK 0,aI aK 0,aS ⟨#[]⟩,.slice none 0 0] 85 (0,0))]):=by
  have h:=(T.out.pull (A:=[_])).setObj 8 (aS ⟨sf.toArray⟩)
  rw [m0u (d:=D2) 8 (aS ⟨sf.toArray⟩) (wdV D3 (.slice none 0 0) (.slice none 0 0)) (by rw [HD2.out,hD];rfl),←hw] at h
  exact h.pull (A:=[_])
 have HD3:=uH hD
 clear hw hD T hcv s1 s3 c8 HD2
 ((have hC:=HC.out);clear HC;subst hC)
 refine a0a fun C HC=>?_
 go_wp2_with fail
 have hcall:=St.c0u S7.out (by have:=HI.out.l2;have:=Hpl.out;omega)
 rw [HI.out.hG] at hcall
 refine hcall.mono ?_
 clear hcall
 rintro e w8a ⟨yo,yc,rfl,ho,hS⟩
 have T:=uH hS
 dsimp only at T ⊢
 have hcv:=b0c ho.at yc
 obtain ⟨s1,-,s3⟩:=T.out.a0b 1 rfl
 obtain ⟨c0,c1,c2,c3,c4,c5,c6,c7,c8,c9,c10,c11,c12,c13,c14,c15,c16,c17,c18,c19,c20,c21,c22,c23,c24,c25,c26,c27,c28,c29,c30,c31,c32,c33,c34,c35,c36⟩:=wbox (show w8a.heap[Q]?=some (.cells (wdV D3 (.slice none 0 0) (.slice none 0 0)) 85 (0,0)) from (T.out.pull (A:=[_])).head)
 clear ho hS S7 c0 c1 c2 c3 c4 c5 c6 c7 c8 c10 c11 c12 c13 c14 c15 c16 c17 c18 c19 c20 c21 c22 c23 c24 c25 c26 c27 c28 c29 c30 c31 c32 c33 c34 c35 c36
 go_wp2_with fail
 refine a0d fun w8 hw=>?_
 obtain ⟨D4,hD⟩:∃ D:Wd,D=⟨k0,k1,k2,k3,k4,k5,k6,k7,⟨sf.toArray⟩,⟨st.toArray⟩,rq0,zRp,mp0,ch0,[]⟩:=⟨_,rfl⟩
 have S8:Hid (St w w8 [thRd g gb e3 b3,a0c Q (.cells (wdV D4 (.slice none 0 0) (.slice none 0 0)) 85 (0,0)),a0c E (.cells #[aI aK (k7:Nat)] 3 (0,0)),a0c B (.cells #[aI aK 0,aI aK 0,aI aK 0,aI aK 0,aI aK 0,aI aK 0,aI aK 0,aI aK 0,aS ⟨#[]⟩,aS ⟨#[]⟩,aI aK 0,aI aK 0,aI aK 0,aS ⟨#[]⟩,aS ⟨#[]⟩,aS ⟨#[]⟩,aS ⟨#[]⟩,aI aK 0,aI aK 0,aI aK 0,aB false,aI aK 0,aI aK 0,aI aK 0,aI aK 0,aI aK 0,aI aK 0,aI aK 0,aI aK 0,aI aK 0,.slice none 0 0,aI aK 0,aI aK 0,aI aK 0,aI aK 0,aS ⟨#[]⟩,.slice none 0 0] 85 (0,0))]):=by
  have h:=(T.out.pull (A:=[_])).setObj 9 (aS ⟨st.toArray⟩)
  rw [m0u (d:=D3) 9 (aS ⟨st.toArray⟩) (wdV D4 (.slice none 0 0) (.slice none 0 0)) (by rw [HD3.out,hD];rfl),←hw] at h
  exact h.pull (A:=[_])
 have HD4:=uH hD
 clear hw hD T hcv s1 s3 c9 HD3
 ((have hC:=HC.out);clear HC;subst hC)
 refine a0a fun C HC=>?_
 obtain ⟨s1,-,s3⟩:=S8.out.a0b 1 rfl
 obtain ⟨c0,c1,c2,c3,c4,c5,c6,c7,c8,c9,c10,c11,c12,c13,c14,c15,c16,c17,c18,c19,c20,c21,c22,c23,c24,c25,c26,c27,c28,c29,c30,c31,c32,c33,c34,c35,c36⟩:=wbox (show w8.heap[Q]?=some (.cells (wdV D4 (.slice none 0 0) (.slice none 0 0)) 85 (0,0)) from (S8.out.pull (A:=[_])).head)
 clear c1 c2 c3 c4 c5 c6 c7 c8 c9 c10 c11 c12 c13 c14 c15 c16 c17 c18 c19 c20 c21 c22 c23 c24 c25 c26 c27 c28 c29 c30 c31 c32 c33 c34 c35 c36
 have hk0:D4.kind=k0:=by rw [HD4.out]
 rw [hk0] at c0
 clear hk0
 by_cases h6:(k0:Int)=6
 case' pos =>
  have t6:((k0:Int)==6)=true:=by rw [h6];rfl
  go_wp2_with fail
  clear c0 s1 s3
  refine (St.f0b (O:=[(Q,wdV D4 (.slice none 0 0) (.slice none 0 0),85),(E,#[aI aK (k7:Nat)],3)]) (L:=[a0c B (.cells #[aI aK 0,aI aK 0,aI aK 0,aI aK 0,aI aK 0,aI aK 0,aI aK 0,aI aK 0,aS ⟨#[]⟩,aS ⟨#[]⟩,aI aK 0,aI aK 0,aI aK 0,aS ⟨#[]⟩,aS ⟨#[]⟩,aS ⟨#[]⟩,aS ⟨#[]⟩,aI aK 0,aI aK 0,aI aK 0,aB false,aI aK 0,aI aK 0,aI aK 0,aI aK 0,aI aK 0,aI aK 0,aI aK 0,aI aK 0,aI aK 0,.slice none 0 0,aI aK 0,aI aK 0,aI aK 0,aI aK 0,aS ⟨#[]⟩,.slice none 0 0] 85 (0,0))]) S8.out (by have:=HI.out.l3;have:=Hpl.out;omega) [(0,10),(0,11),(0,12)] ?_ w8.heap.size 3 rfl rfl (by simp) _ _ rfl).mono ?_
  ·intro q hq
   simp only [List.mem_cons,List.not_mem_nil,or_false] at hq
   rcases hq with rfl | rfl | rfl<;>exact ⟨_,_,rfl,rfl⟩
  rintro e w9 ⟨rfl,hS⟩
  obtain ⟨D5,hD5⟩:∃ D:Wd,D=j0i p:=⟨_,rfl⟩
  rw [putW3 Q E _ D4 (by rw [HD4.out]) m0 m1 m2 _ _ HI.out.n0 HI.out.n1 HI.out.n2,←HI.out.hS1 (by omega),←HI.out.hS2 (by omega),show ({ D4 with op:={ rq0 with kind:=m0,client:=m1,seq:=m2 } }:Wd)=D5 from by rw [hD5,HI.out.base,HD4.out,if_pos h6]] at hS
  have S9:Hid (St w w9 [thRd g gb e4 b4,a0c Q (.cells (wdV D5 (.slice none 0 0) (.slice none 0 0)) 85 (0,0)),a0c E (.cells #[aI aK (k7:Nat)] 3 (0,0)),a0c B (.cells #[aI aK 0,aI aK 0,aI aK 0,aI aK 0,aI aK 0,aI aK 0,aI aK 0,aI aK 0,aS ⟨#[]⟩,aS ⟨#[]⟩,aI aK 0,aI aK 0,aI aK 0,aS ⟨#[]⟩,aS ⟨#[]⟩,aS ⟨#[]⟩,aS ⟨#[]⟩,aI aK 0,aI aK 0,aI aK 0,aB false,aI aK 0,aI aK 0,aI aK 0,aI aK 0,aI aK 0,aI aK 0,aI aK 0,aI aK 0,aI aK 0,.slice none 0 0,aI aK 0,aI aK 0,aI aK 0,aI aK 0,aS ⟨#[]⟩,.slice none 0 0] 85 (0,0))]):=hS
  have HD5:=uH hD5
  clear hS hD5 HD4 S8 t6 h6
  go_wp2_with fail
 case' neg =>
  have t6:((k0:Int)==6)=false:=by rw [beq_eq_false_iff_ne];exact h6
  go_wp2_with fail
  refine a0d fun w9 hw9=>?_
  obtain ⟨D5,hD5⟩:∃ D:Wd,D=j0i p:=⟨_,rfl⟩
  have S9:Hid (St w w9 [thRd g gb e4 b4,a0c Q (.cells (wdV D5 (.slice none 0 0) (.slice none 0 0)) 85 (0,0)),a0c E (.cells #[aI aK (k7:Nat)] 3 (0,0)),a0c B (.cells #[aI aK 0,aI aK 0,aI aK 0,aI aK 0,aI aK 0,aI aK 0,aI aK 0,aI aK 0,aS ⟨#[]⟩,aS ⟨#[]⟩,aI aK 0,aI aK 0,aI aK 0,aS ⟨#[]⟩,aS ⟨#[]⟩,aS ⟨#[]⟩,aS ⟨#[]⟩,aI aK 0,aI aK 0,aI aK 0,aB false,aI aK 0,aI aK 0,aI aK 0,aI aK 0,aI aK 0,aI aK 0,aI aK 0,aI aK 0,aI aK 0,.slice none 0 0,aI aK 0,aI aK 0,aI aK 0,aI aK 0,aS ⟨#[]⟩,.slice none 0 0] 85 (0,0))]):=by
   rw [hw9,hD5,HI.out.base,if_neg h6,HI.out.hN1 (by omega),HI.out.hN2 (by omega),←HD4.out]
   exact S8
  have HD5:=uH hD5
  clear hw9 hD5 HD4 S8 t6 h6 c0 s1 s3
 all_goals
  ((have hC:=HC.out);clear HC;subst hC)
  refine a0a fun C HC=>?_
  go_wp2_with fail
  have hcall:=St.c0u S9.out (by have:=HI.out.l4;have:=Hpl.out;omega)
  rw [HI.out.hR] at hcall
  refine hcall.mono ?_
  clear hcall
  rintro e wA ⟨ro,rc,rfl,ho,hS⟩
  dsimp only at ho hS ⊢
  have HqA:=uH (own_neP ho (S9.out.a0b 1 rfl).1)
  have HrA:=uH ho.sl
  have SA:=uH hS
  clear ho hS S9
  go_wp2_with fail
  ((have hC:=HC.out);clear HC;subst hC)
  refine a0a fun CT HCT=>?_
  refine wp_seq ?_
  refine a0a fun C HC=>?_
  obtain ⟨q,hq⟩:∃ q,q=(!b5&&e5.isEmpty):=⟨_,rfl⟩
  have hwh:=f0m g gb e5 b5 wA SA.out.head (by have:=HI.out.l5;have:=Hpl.out;omega)
  rw [←hq] at hwh
  have Hwh:=uH hwh
  have Hq:Hid (i0c p=q):=by rw [HI.out.wh,hq];exact uH rfl
  clear hwh hq
  cases q with
  | false =>
   have Hd3:Hid (d0e l=(zWd,3)):=by
    rw [Hdec.out,if_neg]
    ·exact uH rfl
    ·unfold j0f;rw [Hq.out];simp
   go_wp2_with fail
   refine Hwh.out.mono ?_
   rintro e wB ⟨rfl,rfl⟩
   go_wp2_with fail
   ((have hC:=HC.out);clear HC;subst hC)
   ((refine wp_cond_true rfl ?_);(refine wp_seq ?_);(refine wp_region_lit ?_);(refine a0s 1 fun L HL=>?_);(simp only [List.take_succ_cons,List.take_zero,List.cons_append,List.nil_append]);(go_wp2_with fail);(have hL:=HL.out);clear HL;subst hL;(simp only [List.drop_succ_cons,List.drop_zero]);(refine wpList_store_row rfl 85 _ _ rfl B #[aI aK 0,aI aK 0,aI aK 0,aI aK 0,aI aK 0,aI aK 0,aI aK 0,aI aK 0,aS ⟨#[]⟩,aS ⟨#[]⟩,aI aK 0,aI aK 0,aI aK 0,aS ⟨#[]⟩,aS ⟨#[]⟩,aS ⟨#[]⟩,aS ⟨#[]⟩,aI aK 0,aI aK 0,aI aK 0,aB false,aI aK 0,aI aK 0,aI aK 0,aI aK 0,aI aK 0,aI aK 0,aI aK 0,aI aK 0,aI aK 0,.slice none 0 0,aI aK 0,aI aK 0,aI aK 0,aI aK 0,aS ⟨#[]⟩,.slice none 0 0] rfl rfl 85 _ ((SA.out.pull (A:=[_,_,_]))).head (by kernel_rfl) rfl (by simp [Value.oneCell']) ?_);(have S2:=uH (St.c0m ((SA.out.pull (A:=[_,_,_]))) #[aI aK 0,aI aK 0,aI aK 0,aI aK 0,aI aK 0,aI aK 0,aI aK 0,aI aK 0,aS ⟨#[]⟩,aS ⟨#[]⟩,aI aK 0,aI aK 0,aI aK 0,aS ⟨#[]⟩,aS ⟨#[]⟩,aS ⟨#[]⟩,aS ⟨#[]⟩,aI aK 0,aI aK 0,aI aK 0,aB false,aI aK 0,aI aK 0,aI aK 0,aI aK 0,aI aK 0,aI aK 0,aI aK 0,aI aK 0,aI aK 0,.slice none 0 0,aI aK 0,aI aK 0,aI aK 0,aI aK 0,aS ⟨#[]⟩,.slice none 0 0]));(refine b0l fun w2 hw2=>?_);(rw [←hw2] at S2);clear hw2 SA;(go_wp2_with fail);(have hR:=HR.out);clear HR;subst hR;(go_wp2_with fail);(refine bodyPost_ret (b0h rfl _ _ B 85 _ (0,0) _ rfl S2.out.head Tryz.underlying85 rfl (by kernel_rfl)) rfl ?_);(unfold b0z;rw [Hd3.out];exact ⟨none,0,none,0,rfl,S2.out.b,d0c _,d0p _⟩))
  | true =>
   go_wp2_with fail
   refine Hwh.out.mono ?_
   rintro e wB ⟨rfl,rfl⟩
   go_wp2_with fail
   have hk5:D5.kind=k0:=by rw [HD5.out];exact HI.out.dk
   refine (w0j (d:=D5) (SA.out.pull (A:=[_])) rfl (by rw [HD5.out];rfl) (by rw [HD5.out];rfl) ro rc r HrA.out HqA.out ⟨by have:=Hs.out.r;rw [HI.out.dr] at this;exact this,by rw [hk5];have:=Hs.out.k;rw [HI.out.dr,HI.out.dk] at this;exact this⟩).mono ?_
   rintro e wB ⟨VQ,hS,rfl,hok⟩
   have SB:Hid (St w wB [a0c Q (.cells VQ 85 (0,0)),thRd g gb e5 b5,a0c E (.cells #[aI aK (k7:Nat)] 3 (0,0)),a0c B (.cells #[aI aK 0,aI aK 0,aI aK 0,aI aK 0,aI aK 0,aI aK 0,aI aK 0,aI aK 0,aS ⟨#[]⟩,aS ⟨#[]⟩,aI aK 0,aI aK 0,aI aK 0,aS ⟨#[]⟩,aS ⟨#[]⟩,aS ⟨#[]⟩,aS ⟨#[]⟩,aI aK 0,aI aK 0,aI aK 0,aB false,aI aK 0,aI aK 0,aI aK 0,aI aK 0,aI aK 0,aI aK 0,aI aK 0,aI aK 0,aI aK 0,.slice none 0 0,aI aK 0,aI aK 0,aI aK 0,aI aK 0,aS ⟨#[]⟩,.slice none 0 0] 85 (0,0))]):=hS
   obtain ⟨ok,hokb⟩:∃ b,b=b0p D5.kind r:=⟨_,rfl⟩
   rw [←hokb] at hok ⊢
   have Hok:Hid (b0p (dK p) (dR p).1=ok):=by rw [HI.out.dr,hokb,hk5,HI.out.dk];exact uH rfl
   have HO:=uH hok
   clear hS SA hokb hok hk5 HrA HqA Hwh
   cases ok with
   | false =>
    have Hd3:Hid (d0e l=(zWd,3)):=by
     rw [Hdec.out,if_neg]
     ·exact uH rfl
     ·unfold j0f;rw [Hok.out];simp
    go_wp2_with fail
    ((have hC:=HC.out);clear HC;subst hC)
    ((refine wp_cond_true rfl ?_);(refine wp_seq ?_);(refine wp_region_lit ?_);(refine a0s 1 fun L HL=>?_);(simp only [List.take_succ_cons,List.take_zero,List.cons_append,List.nil_append]);(go_wp2_with fail);(have hL:=HL.out);clear HL;subst hL;(simp only [List.drop_succ_cons,List.drop_zero]);(refine wpList_store_row rfl 85 _ _ rfl B #[aI aK 0,aI aK 0,aI aK 0,aI aK 0,aI aK 0,aI aK 0,aI aK 0,aI aK 0,aS ⟨#[]⟩,aS ⟨#[]⟩,aI aK 0,aI aK 0,aI aK 0,aS ⟨#[]⟩,aS ⟨#[]⟩,aS ⟨#[]⟩,aS ⟨#[]⟩,aI aK 0,aI aK 0,aI aK 0,aB false,aI aK 0,aI aK 0,aI aK 0,aI aK 0,aI aK 0,aI aK 0,aI aK 0,aI aK 0,aI aK 0,.slice none 0 0,aI aK 0,aI aK 0,aI aK 0,aI aK 0,aS ⟨#[]⟩,.slice none 0 0] rfl rfl 85 _ ((SB.out.pull (A:=[_,_,_]))).head (by kernel_rfl) rfl (by simp [Value.oneCell']) ?_);(have S2:=uH (St.c0m ((SB.out.pull (A:=[_,_,_]))) #[aI aK 0,aI aK 0,aI aK 0,aI aK 0,aI aK 0,aI aK 0,aI aK 0,aI aK 0,aS ⟨#[]⟩,aS ⟨#[]⟩,aI aK 0,aI aK 0,aI aK 0,aS ⟨#[]⟩,aS ⟨#[]⟩,aS ⟨#[]⟩,aS ⟨#[]⟩,aI aK 0,aI aK 0,aI aK 0,aB false,aI aK 0,aI aK 0,aI aK 0,aI aK 0,aI aK 0,aI aK 0,aI aK 0,aI aK 0,aI aK 0,.slice none 0 0,aI aK 0,aI aK 0,aI aK 0,aI aK 0,aS ⟨#[]⟩,.slice none 0 0]));(refine b0l fun w2 hw2=>?_);(rw [←hw2] at S2);clear hw2 SB;(go_wp2_with fail);(have hR:=HR.out);clear HR;subst hR;(go_wp2_with fail);(refine bodyPost_ret (b0h rfl _ _ B 85 _ (0,0) _ rfl S2.out.head Tryz.underlying85 rfl (by kernel_rfl)) rfl ?_);(unfold b0z;rw [Hd3.out];exact ⟨none,0,none,0,rfl,S2.out.b,d0c _,d0p _⟩))
   | true =>
    obtain ⟨mo,zc,dl,dc,hVQ,hz,hsl⟩:=HO.out rfl
    have hwd:c0j D5 r=wdOf p:=by unfold wdOf;rw [HD5.out,HI.out.dr]
    rw [hwd] at hVQ hz hsl
    obtain ⟨X,hX⟩:∃ X,X=wdOf p:=⟨_,rfl⟩
    rw [←hX] at hVQ hz hsl
    have HLi:Hid (Light X):=uH (by rw [hX];exact Hs.out.li Hq.out Hok.out)
    have hsz:VQ.size=37:=by rw [hVQ];rfl
    have Hen:=uH (r0q hVQ mo dl zc dc rfl rfl wB hz hsl HLi.out)
    have HVQ:=uH hVQ
    have HZ:=uH hz
    have HSl:=uH hsl
    have HX:=uH hX
    clear hVQ hz hsl hX hwd HO HD5 HI
    go_wp2_with fail
    ((have hC:=HC.out);clear HC;subst hC)
    refine wp_cond_false rfl ?_
    go_wp2_with fail
    (have hC:=HCT.out);clear HCT;subst hC
    refine a0a fun CT HCT=>?_
    refine wp_seq ?_
    refine a0a fun C HC=>?_
    refine wp_seq ?_
    refine wp_region_lit ?_
    refine wpList_load_row rfl 85 _ rfl Q rfl _ _ _ _ SB.out.head Tryz.underlying85 rfl (by rw [hsz];kernel_rfl) ?_
    go_wp2_with fail
    refine Hen.out.mono ?_
    rintro e wC ⟨hbC,h⟩
    have SC:=uH (SB.out.grow hbC)
    have HZC:=uH (HZ.out.grow hbC)
    have HSC:=uH (HSl.out.grow hbC)
    have HbC:=uH hbC
    clear hbC SB HZ HSl Hen
    obtain ⟨my,hmy⟩:∃ b,b=mayW X:=⟨_,rfl⟩
    cases my with
    | false =>
     rw [if_neg (by rw [←hmy];simp)] at h
     subst h
     have Hd3:Hid (d0e l=(zWd,3)):=by
      rw [Hdec.out,if_neg]
      ·exact uH rfl
      ·unfold j0f;rw [←HX.out,←hmy];simp
     clear hmy
     go_wp2_with fail
     ((have hC:=HC.out);clear HC;subst hC)
     refine a0a fun C HC=>?_
     go_wp2_with fail
     ((have hC:=HC.out);clear HC;subst hC)
     ((refine wp_cond_true rfl ?_);(refine wp_seq ?_);(refine wp_region_lit ?_);(refine a0s 1 fun L HL=>?_);(simp only [List.take_succ_cons,List.take_zero,List.cons_append,List.nil_append]);(go_wp2_with fail);(have hL:=HL.out);clear HL;subst hL;(simp only [List.drop_succ_cons,List.drop_zero]);(refine wpList_store_row rfl 85 _ _ rfl B #[aI aK 0,aI aK 0,aI aK 0,aI aK 0,aI aK 0,aI aK 0,aI aK 0,aI aK 0,aS ⟨#[]⟩,aS ⟨#[]⟩,aI aK 0,aI aK 0,aI aK 0,aS ⟨#[]⟩,aS ⟨#[]⟩,aS ⟨#[]⟩,aS ⟨#[]⟩,aI aK 0,aI aK 0,aI aK 0,aB false,aI aK 0,aI aK 0,aI aK 0,aI aK 0,aI aK 0,aI aK 0,aI aK 0,aI aK 0,aI aK 0,.slice none 0 0,aI aK 0,aI aK 0,aI aK 0,aI aK 0,aS ⟨#[]⟩,.slice none 0 0] rfl rfl 85 _ ((SC.out.pull (A:=[_,_,_]))).head (by kernel_rfl) rfl (by simp [Value.oneCell']) ?_);(have S2:=uH (St.c0m ((SC.out.pull (A:=[_,_,_]))) #[aI aK 0,aI aK 0,aI aK 0,aI aK 0,aI aK 0,aI aK 0,aI aK 0,aI aK 0,aS ⟨#[]⟩,aS ⟨#[]⟩,aI aK 0,aI aK 0,aI aK 0,aS ⟨#[]⟩,aS ⟨#[]⟩,aS ⟨#[]⟩,aS ⟨#[]⟩,aI aK 0,aI aK 0,aI aK 0,aB false,aI aK 0,aI aK 0,aI aK 0,aI aK 0,aI aK 0,aI aK 0,aI aK 0,aI aK 0,aI aK 0,.slice none 0 0,aI aK 0,aI aK 0,aI aK 0,aI aK 0,aS ⟨#[]⟩,.slice none 0 0]));(refine b0l fun w2 hw2=>?_);(rw [←hw2] at S2);clear hw2 SC;(go_wp2_with fail);(have hR:=HR.out);clear HR;subst hR;(go_wp2_with fail);(refine bodyPost_ret (b0h rfl _ _ B 85 _ (0,0) _ rfl S2.out.head Tryz.underlying85 rfl (by kernel_rfl)) rfl ?_);(unfold b0z;rw [Hd3.out];exact ⟨none,0,none,0,rfl,S2.out.b,d0c _,d0p _⟩))
    | true =>
     rw [if_pos hmy.symm] at h
     have hgd:j0f p=true:=by unfold j0f;rw [Hq.out,Hok.out,←HX.out,←hmy];rfl
     have hE:encW X=l:=by rw [Hl.out,HX.out];exact n0q hgd
     have Hd0:Hid (d0e l=(X,0)):=by rw [Hdec.out,if_pos hgd,HX.out];exact uH rfl
     rw [hE] at h
     obtain ⟨co,cc,rfl,ho⟩:=h
     have hq:=f0q ao co cap cc l l wC (H.out.grow SC.out.b).at_ ho.sl.at_
     rw [←Hn.out,beq_self_eq_true] at hq
     have HEq:=uH hq
     rw [←Hn.out]
     clear hmy hgd hE ho hq
     go_wp2_with fail
     ((have hC:=HC.out);clear HC;subst hC)
     refine a0a fun C HC=>?_
     go_wp2_with fail
     refine HEq.out.mono ?_
     rintro e wD ⟨rfl,rfl⟩
     go_wp2_with fail
     ((have hC:=HC.out);clear HC;subst hC)
     refine wp_cond_false rfl ?_
     go_wp2_with fail
     (have hC:=HCT.out);clear HCT;subst hC
     refine wp_seq ?_
     refine wp_region_lit ?_
     refine wpList_load_row rfl 85 _ rfl Q rfl _ _ _ _ SC.out.head Tryz.underlying85 rfl (by rw [hsz];kernel_rfl) ?_
     have h1:VQ.all (·.oneCell')=true:=by rw [HVQ.out];simp [wdV,Value.oneCell']
     have hBh:=(SC.out.pull (A:=[_,_,_])).head
     refine wpList_store_row rfl 85 _ _ rfl B VQ rfl rfl 85 _ hBh (by rw [hsz];kernel_rfl) (by rw [hsz];rfl) h1 ?_
     have S2:=uH (St.c0m (SC.out.pull (A:=[_,_,_])) VQ)
     have HZ2:=uH (r0o (cs:=VQ) HZC.out (j0z (d:=zWd) hBh HZC.out))
     have HS2:=uH (r0y (cs:=VQ) HSC.out (r0z (d:=zWd) hBh HSC.out))
     refine b0l fun w2 hw2=>?_
     rw [←hw2] at S2 HZ2 HS2
     clear hw2 SC h1 hBh
     go_wp2_with fail
     (have hR:=HR.out);clear HR;subst hR
     go_wp2_with fail
     refine bodyPost_ret (b0h rfl _ _ B 85 _ (0,0) _ rfl S2.out.head Tryz.underlying85 rfl (by rw [hsz];kernel_rfl)) rfl ?_
     unfold b0z
     rw [Hd0.out]
     exact ⟨mo,zc,dl,dc,by rw [HVQ.out];rfl,S2.out.b,HZ2.out,HS2.out⟩
open Go.RowKit
attribute [local go_sem ↓] Go.wp_at_zero Go.wp_at_succ
theorem n0f (b:Bool) (w:World):Calls Tryz.prog 129 #[aB b] w fun e w'=>e=.returned (aI aK (b1 b))∧w=w':=by
 cases b with
 | true =>
  go_enter Tryz.func129,Tryz.ntmps129
  go_wp2_with fail
  go_ret
  exact ⟨rfl,rfl⟩
 | false =>
  go_enter Tryz.func129,Tryz.ntmps129
  go_wp2_with fail
  go_ret
  exact ⟨rfl,rfl⟩
theorem l0x (s:ByteArray) (h:s.size≤16):(encS s).length≤26:=by
 have:=(a0o s.data.toList.length).1
 simp only [encS,a0n,List.length_append,Array.length_toList,ByteArray.size] at this h ⊢
 omega
set_option maxHeartbeats 2000000 in
set_option maxRecDepth 20000 in
theorem put_any (k v:ByteArray) (hk:k.size≤16) (hv:v.size≤16) (w:World) :
 Calls Tryz.prog 128 #[.agg #[aS k,aS v]] w (d0b w (encS k++encS v)):=by
 obtain ⟨i0,hi,hz0,hz1,hz2⟩:=info_parts c0h
 have hcv:=b0y
 have hek:=l0x k hk
 have hev:=l0x v hv
 have hk2:k.data.toList.length≤1000000:=by rw [Array.length_toList];exact Nat.le_trans hk (by decide)
 have hv2:v.data.toList.length≤1000000:=by rw [Array.length_toList];exact Nat.le_trans hv (by decide)
 go_enter Tryz.func128,Tryz.ntmps128
 go_wp2_with fail
 (refine a0d fun wa hwa=>?_;have wa_s0:=sg w.heap.size hwa;obtain ⟨wa_c0,wa_c1⟩:=kk2 hwa w.heap.size 0 (aS k) w.heap.size 1 (aS v);have wa_b:Below w.heap.size w wa:=(by rw [hwa];exact bg);clear hwa)
 have Hk:=uH (⟨hk2,hek⟩:_∧_)
 have Hv:=uH (⟨hv2,hev⟩:_∧_)
 clear hk2 hek hv2 hev hk hv
 have ga:=fun s=>((bytesWorld_below wa.drew s).cell (p:=⟨w.heap.size,0,none⟩) wa_s0).trans wa_c0
 have gb:=fun s=>((bytesWorld_below wa.drew s).cell (p:=⟨w.heap.size,1,none⟩) wa_s0).trans wa_c1
 go_region_law (first
  | (refine y0w _ _ (by rfl) ?_;go_must (refine d0o _ (by rfl) (.tmp 6) (.tmp 10) 47 (by rfl) wa.heap.size 5 i0 (aI .u8 0) 1 1 Tryz.underlying47 hi hz0 hz1 hz2 rfl (by decide) (.slice co1 (encS k).length cc1) (encS k).length (bytV (encS k)) (by rfl) ?_ co2 (encS v).length cc2 (bytV (encS v)) (by rfl) ho2.none (by rw [a0u,Nat.mul_one]) ho2.at.cells (a0x _) (by have h1:=Hk.out.2;have h2:=Hv.out.2;unfold maxLen;omega) (by have h1:=Hk.out.2;have h2:=Hv.out.2;omega) ?_ ?_;(focus (go_must (exact b0a (c0v ho1 (by first | exact hb2 | exact (bytesWorld_below _ _).trans (hb2.mono (by (try rw [a0g]);(try rw [a0g]);(try simp only [World.drew]);first | omega | (simp;omega))))) (by (try rw [a0g]);(try rw [a0g]);(try simp only [World.drew]);first | omega | (simp;omega)))));(focus (go_must (exact (by have h1:=hb1.size;have h2:=hb2.size;(try rw [a0g] at h1);(try rw [a0g] at h1);(try rw [a0g] at h2);(try rw [a0g] at h2);(try simp only [World.drew] at h1 h2);omega))));intro vv w3 hown hgrow;have hbw:Below wa.heap.size wa w2:=(by first | exact p0u (p0u (p0u (p0u (Below.refl _ _).drew (bytesWorld_below _ _)) hb1) (bytesWorld_below _ _)) hb2 | exact p0u (p0u (p0u (p0u (Below.refl _ _).drew (bytesWorld_below _ _)) (bytesWorld_below _ _)) hb1) hb2);have hb3:Below w.heap.size w w3:=wa_b.trans ((below_grown hbw hbw.size hgrow (fun j hj=>b0o (b0a (c0v ho1 (by first | exact hb2 | exact (bytesWorld_below _ _).trans (hb2.mono (by (try rw [a0g]);(try rw [a0g]);(try simp only [World.drew]);first | omega | (simp;omega))))) (by (try rw [a0g]);(try rw [a0g]);(try simp only [World.drew]);first | omega | (simp;omega))) hj)).mono (by omega));obtain ⟨bo,bc,rfl,ho3⟩:=c0n (l:=encS k++encS v) (by rw [←a0y];exact hown) (by rw [List.length_append]);clear hown hgrow hbw))
  | (refine at_go 55 _ _ (by rfl) ?_;go_simp;go_at_call 55;(with_reducible refine (c0l k _ _ _ ?_ Hk.out.1).mono ?_);(focus (first | exact g0c wa.drew k _ rfl | exact (g0c wa.drew k _ rfl).below (bytesWorld_below _ _) | exact g0c (Lib.bytesWorld wa.drew 5 v) k _ (by rw [a0g];rfl) | exact g0c w1 k _ rfl | exact (g0c (Lib.bytesWorld wa.drew 5 v) k _ (by rw [a0g];rfl)).below hb1 | exact ((g0c wa.drew k _ rfl).below (bytesWorld_below _ _)).below hb1));rintro e w1 ⟨co1,cc1,rfl,ho1,hb1⟩;have e1:w1.cell? ⟨w.heap.size,1,none⟩=some (aS v):=(by go_must (first | exact (hb1.cell (p:=⟨w.heap.size,1,none⟩) (by (try rw [a0g]);(try rw [a0g]);(try simp only [World.drew]);first | omega | (simp;omega))).trans (((bytesWorld_below _ _).cell (p:=⟨w.heap.size,1,none⟩) (by (try rw [a0g]);(try rw [a0g]);(try simp only [World.drew]);first | omega | (simp;omega))).trans wa_c1) | exact (hb1.cell (p:=⟨w.heap.size,1,none⟩) (by (try rw [a0g]);(try rw [a0g]);(try simp only [World.drew]);first | omega | (simp;omega))).trans (((bytesWorld_below _ _).cell (p:=⟨w.heap.size,1,none⟩) (by (try rw [a0g]);(try rw [a0g]);(try simp only [World.drew]);first | omega | (simp;omega))).trans (((bytesWorld_below _ _).cell (p:=⟨w.heap.size,1,none⟩) (by (try rw [a0g]);(try rw [a0g]);(try simp only [World.drew]);first | omega | (simp;omega))).trans wa_c1)))))
  | (refine at_go 55 _ _ (by rfl) ?_;go_simp;go_at_call 55;(with_reducible refine (c0l v _ _ _ ?_ Hv.out.1).mono ?_);(focus (go_must (first | exact g0c wa.drew v _ rfl | exact (g0c wa.drew v _ rfl).below (bytesWorld_below _ _) | exact g0c (Lib.bytesWorld wa.drew 5 k) v _ (by rw [a0g];rfl) | exact g0c w1 v _ rfl | exact (g0c (Lib.bytesWorld wa.drew 5 k) v _ (by rw [a0g];rfl)).below hb1 | exact ((g0c wa.drew v _ rfl).below (bytesWorld_below _ _)).below hb1)));rintro e w2 ⟨co2,cc2,rfl,ho2,hb2⟩)
  | fail)
 all_goals
  have Ho:=uH (b0a ho3 (Nat.le_of_lt wa_s0))
  have Hb:=uH hb3
  clear ho1 ho2 hb1 hb2 e1 ga gb ho3 hb3
  go_wp2_with fail
  go_ret
  exact ⟨bo,bc,by rw [List.length_append];rfl,Ho.out,Hb.out⟩
end Go.Proofs.YtogamdaomdoapaaGreat