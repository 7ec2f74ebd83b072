/- Texts put together: WDe. -/
import Derived.Test.YtogamdaomdoapaaGreatSa33
import Derived.Test.YtogamdaomdoapaaGreatSa35
namespace Go.Proofs.YtogamdaomdoapaaGreat
set_option maxRecDepth 20000
open Go.RowKit
def DecWPost (w:World) (l:List UInt8) (e:Ending) (w':World):Prop:=∃ mo zc dl dc,e=.returned (.tuple #[.agg (wdV (wdDec l).1 (.slice mo (wdDec l).1.mp.zs.length zc) (.slice dl (wdDec l).1.data.length dc)),.int .i64 (wdDec l).2])∧Below w.heap.size w w'∧O.ZsAt w' mo (wdDec l).1.mp.zs∧F.Sl w' dl dc (wdDec l).1.data
theorem own_neP {w:World} {base Q:Nat} {ao:Option Addr} {cap:Nat} {l:List UInt8} (h:OwnB w base ao cap l) (hq:Q<base):0<l.length→∀ a,ao=some a→a.block≠Q:=fun _ a ha=>by
 subst ha
 have:=(own_lt h a.block rfl).2
 omega
theorem row_blk {w:World} {Q g x:Nat} {cs:Array Value} (h:g≠Q):(w.setRow Q cs).cell? ⟨g,x,none⟩=w.cell? ⟨g,x,none⟩:=by
 unfold World.cell?
 rw [show (w.setRow Q cs).heap[(⟨g,x,none⟩:Addr).block]?=w.heap[(⟨g,x,none⟩:Addr).block]? from setRow_other w Q g cs h]
theorem zsat_row {w:World} {Q:Nat} {cs:Array Value} {zo:Option Addr} {l:List Zn} (h:O.ZsAt w zo l) (hg:0<l.length→∀ a,zo=some a→a.block≠Q):O.ZsAt (w.setRow Q cs) zo l:=fun hp=>by
 obtain ⟨g,x,e,hz⟩:=h hp
 have hne:g≠Q:=hg hp _ e
 exact ⟨g,x,e,by simpa using hz.lt,fun i hi j v hv=>by rw [row_blk hne];exact hz.cell i hi j v hv⟩
theorem slof_row {w:World} {Q:Nat} {cs:Array Value} {ao:Option Addr} {c:Nat} {l:List UInt8} (h:F.Sl w ao c l) (hg:0<l.length→∀ a,ao=some a→a.block≠Q):F.Sl (w.setRow Q cs) ao c l :=
 ⟨h.le,h.cm,h.n0,fun hp=>by
  obtain ⟨b,x,e,hb,hr⟩:=h.at_ hp
  have hne:b≠Q:=hg hp _ e
  exact ⟨b,x,e,by simpa using hb,fun i hi=>by rw [row_blk hne];exact hr i hi⟩⟩
def isU8:Value→Bool
 | .int .u8 _=>true
 | _=>false
theorem sl_apart {w:World} {Q:Nat} {d:Wd} {a1 a2:Option Addr} {n1 k1 n2 k2:Nat} {t:TypeId} {fr:Nat × Nat} (hq:w.heap[Q]?=some (.cells (wdV d (.slice a1 n1 k1) (.slice a2 n2 k2)) t fr)) {ao:Option Addr} {c:Nat} {l:List UInt8} (h:F.Sl w ao c l):0<l.length→∀ a,ao=some a→a.block≠Q:=by
 intro hp a ha he
 obtain ⟨g,o,e,hz,hr⟩:=h.at_ hp
 rw [ha] at e
 obtain rfl:=Option.some.inj e
 simp only at he
 subst he
 have h1:=hr 0 hp
 rw [cell_of_row w g _ _ _ _ hq] at h1
 have hk:((wdV d (.slice a1 n1 k1) (.slice a2 n2 k2)).toList.map isU8)=List.replicate 37 false:=rfl
 have h2:=congrArg (Option.map isU8) h1
 rw [←Array.getElem?_toList,←List.getElem?_map,hk,List.getElem?_replicate] at h2
 split at h2<;>simp [isU8] at h2
theorem wdV_set {d:Wd} {ms ds:Value} (i:Nat) (v:Value) (X:Array Value) (h:(wdV d ms ds).setIfInBounds i v=X:=by rfl):(wdV d ms ds).setIfInBounds i v=X:=h
theorem putW8 (Q E:Nat) (T:TypeId) (k0 k1 k2 k3 k4 k5 k6 k7:Nat) (val:Nat→Nat) (h0:k0=val 0) (h1:k1=val 1) (h2:k2=val 2) (h3:k3=val 3) (h4:k4=val 4) (h5:k5=val 5) (h6:k6=val 6) (h7:k7=val 7) :
 putObs [(Q,wdV zWd (.slice none 0 0) (.slice none 0 0),85),(E,#[.int .i64 0],T)] [(0,0),(0,1),(0,2),(0,3),(0,4),(0,5),(0,6),(1,0)] val 8 =
  [(Q,wdV ⟨k0,k1,k2,k3,k4,k5,k6,0,e0,e0,rq0,zRp,mp0,ch0,[]⟩ (.slice none 0 0) (.slice none 0 0),85),(E,#[.int .i64 (k7:Nat)],T)]:=by
 subst h0 h1 h2 h3 h4 h5 h6 h7
 simp only [putObs,putOb,List.getElem?_cons_zero,List.getElem?_cons_succ,wdV,zWd,List.setIfInBounds_toArray,List.set_cons_zero,List.set_cons_succ]
theorem putW3 (Q E:Nat) (T:TypeId) (D:Wd) (h0:D.op=rq0) (m0 m1 m2:Nat) (cs:Array Value) (val:Nat→Nat) (e0:m0=val 0) (e1:m1=val 1) (e2:m2=val 2) :
 putObs [(Q,wdV D (.slice none 0 0) (.slice none 0 0),85),(E,cs,T)] [(0,10),(0,11),(0,12)] val 3 =
  [(Q,wdV { D with op:={ rq0 with kind:=m0,client:=m1,seq:=m2 } } (.slice none 0 0) (.slice none 0 0),85),(E,cs,T)]:=by
 subst e0 e1 e2
 obtain ⟨a1,a2,a3,a4,a5,a6,a7,a8,a9,a10,a11,a12,a13,a14,a15⟩:=D
 simp only at h0
 subst h0
 simp only [putObs,putOb,List.getElem?_cons_zero,List.getElem?_cons_succ,wdV,rq0,List.setIfInBounds_toArray,List.set_cons_zero,List.set_cons_succ]
set_option maxHeartbeats 4000000 in
theorem decode_ok (ao:Option Addr) (cap:Nat) (l:List UInt8) (w:World) (h:F.Sl w ao cap l) (hm:l.length≤140737488351232) (p:List UInt8) (hp:F.oneB l=(p,0)) (hs:SmW p) :
 Calls Tryz.prog 27 #[.slice ao l.length cap] w (DecWPost w l):=by
 obtain ⟨n,hn⟩:∃ n,n=l.length:=⟨_,rfl⟩
 have Hone:=Lib.hid (fun (w3:World) (hb:Below w.heap.size w w3)=>F.one_any ao cap l w3 (h.grow hb) hm)
 unfold F.OnePost at Hone
 have hback:=oneB_back (l:=l) (by rw [hp])
 rw [hp] at hback
 have Hl:Hid (l=F.frameB p):=hback.1
 have Hpl:Hid (p.length≤1048576):=hback.2
 have Hdec:Hid (wdDec l=if goodW p=true then (wdOf p,0) else (zWd,3)):=by unfold wdDec;rw [hp];exact Lib.hid rfl
 rw [hp] at Hone
 rw [←hn] at Hone ⊢
 simp only at Hone
 have Hn:=Lib.hid hn
 have H:=Lib.hid h
 have Hs:=Lib.hid hs
 obtain ⟨k0,k1,k2,k3,k4,k5,k6,k7,m0,m1,m2,e1,b1,sf,e2,b2,st,e3,b3,e4,b4,r,e5,b5,hI⟩:=wis p
 have HI:=Lib.hid hI
 clear hp h hn hs hback hI
 go_enter Tryz.func27,Tryz.ntmps27
 refine wp_holdQ fun R HR=>?_
 refine wp_hold fun C HC=>?_
 go_wp2_with fail
 refine wp_name fun wa hwa=>?_
 obtain ⟨B,hB⟩:∃ B,B=w.heap.size:=⟨_,rfl⟩
 have S:Hid (St w wa [thObj B (.cells #[.int .i64 0,.int .i64 0,.int .i64 0,.int .i64 0,.int .i64 0,.int .i64 0,.int .i64 0,.int .i64 0,.string ⟨#[]⟩,.string ⟨#[]⟩,.int .i64 0,.int .i64 0,.int .i64 0,.string ⟨#[]⟩,.string ⟨#[]⟩,.string ⟨#[]⟩,.string ⟨#[]⟩,.int .i64 0,.int .i64 0,.int .i64 0,.bool false,.int .i64 0,.int .i64 0,.int .i64 0,.int .i64 0,.int .i64 0,.int .i64 0,.int .i64 0,.int .i64 0,.int .i64 0,.slice none 0 0,.int .i64 0,.int .i64 0,.int .i64 0,.int .i64 0,.string ⟨#[]⟩,.slice none 0 0] 85 (0,0))]):=by rw [hwa];exact Lib.hid ((St.start w).objN _ B hB)
 rw [←hB]
 clear hwa hB
 ((have hC:=HC.out);clear HC;subst hC)
 refine wp_hold fun C HC=>?_
 go_wp2_with fail
 refine (Hone.out wa S.out.b).mono ?_
 rintro e w1 ⟨qo,qc,rfl,ho,hb1⟩
 have S:=Lib.hid (S.out.grow hb1)
 have Ho:=Lib.hid ho.sl
 clear hb1 ho
 go_wp2_with fail
 ((have hC:=HC.out);clear HC;subst hC)
 refine wp_hold fun C HC=>?_
 go_wp2_with fail
 ((have hC:=HC.out);clear HC;subst hC)
 refine wp_hold fun C HC=>?_
 go_wp2_with fail
 refine wp_name fun w2 hw2=>?_
 obtain ⟨Q,hQ⟩:∃ Q,Q=w1.heap.size:=⟨_,rfl⟩
 have S2:Hid (St w w2 [thObj Q (.cells (wdV zWd (.slice none 0 0) (.slice none 0 0)) 85 (0,0)),thObj B (.cells #[.int .i64 0,.int .i64 0,.int .i64 0,.int .i64 0,.int .i64 0,.int .i64 0,.int .i64 0,.int .i64 0,.string ⟨#[]⟩,.string ⟨#[]⟩,.int .i64 0,.int .i64 0,.int .i64 0,.string ⟨#[]⟩,.string ⟨#[]⟩,.string ⟨#[]⟩,.string ⟨#[]⟩,.int .i64 0,.int .i64 0,.int .i64 0,.bool false,.int .i64 0,.int .i64 0,.int .i64 0,.int .i64 0,.int .i64 0,.int .i64 0,.int .i64 0,.int .i64 0,.int .i64 0,.slice none 0 0,.int .i64 0,.int .i64 0,.int .i64 0,.int .i64 0,.string ⟨#[]⟩,.slice none 0 0] 85 (0,0))]):=by rw [hw2];exact Lib.hid (S.out.objN _ Q hQ)
 have Ho2:Hid (F.Sl w2 qo qc p):=Lib.hid (by rw [hw2];exact Ho.out.grow (below_allocO _ _))
 rw [←hQ]
 clear hw2 hQ S Ho
 ((have hC:=HC.out);clear HC;subst hC)
 refine wp_hold fun C HC=>?_
 go_wp2_with fail
 refine wp_name fun w3 hw3=>?_
 obtain ⟨E,hE⟩:∃ E,E=w2.heap.size:=⟨_,rfl⟩
 have S3:Hid (St w w3 [thObj E (.cells #[.int .i64 0] 3 (0,0)),thObj Q (.cells (wdV zWd (.slice none 0 0) (.slice none 0 0)) 85 (0,0)),thObj B (.cells #[.int .i64 0,.int .i64 0,.int .i64 0,.int .i64 0,.int .i64 0,.int .i64 0,.int .i64 0,.int .i64 0,.string ⟨#[]⟩,.string ⟨#[]⟩,.int .i64 0,.int .i64 0,.int .i64 0,.string ⟨#[]⟩,.string ⟨#[]⟩,.string ⟨#[]⟩,.string ⟨#[]⟩,.int .i64 0,.int .i64 0,.int .i64 0,.bool false,.int .i64 0,.int .i64 0,.int .i64 0,.int .i64 0,.int .i64 0,.int .i64 0,.int .i64 0,.int .i64 0,.int .i64 0,.slice none 0 0,.int .i64 0,.int .i64 0,.int .i64 0,.int .i64 0,.string ⟨#[]⟩,.slice none 0 0] 85 (0,0))]):=by rw [hw3];exact Lib.hid ((S2.out.objN (.cells #[.int .i64 0] 3) E hE))
 have Ho3:Hid (F.Sl w3 qo qc p):=Lib.hid (by rw [hw3];exact Ho2.out.grow (below_allocO _ _))
 rw [←hE]
 clear hw3 hE S2 Ho2
 ((have hC:=HC.out);clear HC;subst hC)
 refine wp_hold fun C HC=>?_
 go_wp2_with fail
 refine (newReader_any qo qc p w3 Ho3.out.n0 Ho3.out.at_ (by have:=Hpl.out;omega)).mono ?_
 rintro e w4 ⟨g,gb,rfl,hr,hb,hp1,hg1⟩
 have S4:=Lib.hid (((S3.out.newRd hr hb hp1 hg1).pull (A:=[_,_])).pull (A:=[_]))
 clear hr hb hp1 hg1 S3 Ho3
 go_wp2_with fail
 ((have hC:=HC.out);clear HC;subst hC)
 refine wp_hold fun C HC=>?_
 go_wp2_with fail
 refine (St.readNums (O:=[(Q,wdV zWd (.slice none 0 0) (.slice none 0 0),85),(E,#[.int .i64 0],3)]) (L:=[thObj B (.cells #[.int .i64 0,.int .i64 0,.int .i64 0,.int .i64 0,.int .i64 0,.int .i64 0,.int .i64 0,.int .i64 0,.string ⟨#[]⟩,.string ⟨#[]⟩,.int .i64 0,.int .i64 0,.int .i64 0,.string ⟨#[]⟩,.string ⟨#[]⟩,.string ⟨#[]⟩,.string ⟨#[]⟩,.int .i64 0,.int .i64 0,.int .i64 0,.bool false,.int .i64 0,.int .i64 0,.int .i64 0,.int .i64 0,.int .i64 0,.int .i64 0,.int .i64 0,.int .i64 0,.int .i64 0,.slice none 0 0,.int .i64 0,.int .i64 0,.int .i64 0,.int .i64 0,.string ⟨#[]⟩,.slice none 0 0] 85 (0,0))]) S4.out (by have:=Hpl.out;omega) [(0,0),(0,1),(0,2),(0,3),(0,4),(0,5),(0,6),(1,0)] ?_ w4.heap.size 8 rfl rfl (by simp) _ _ rfl).mono ?_
 ·intro q hq
  simp only [List.mem_cons,List.not_mem_nil,or_false] at hq
  rcases hq with rfl | rfl | rfl | rfl | rfl | rfl | rfl | rfl<;>exact ⟨_,_,rfl,rfl⟩
 rintro e w5 ⟨rfl,hS⟩
 obtain ⟨D1,hD1⟩:∃ D:Wd,D=⟨k0,k1,k2,k3,k4,k5,k6,0,e0,e0,rq0,zRp,mp0,ch0,[]⟩:=⟨_,rfl⟩
 rw [putW8 Q E _ k0 k1 k2 k3 k4 k5 k6 k7 _ HI.out.v0 HI.out.v1 HI.out.v2 HI.out.v3 HI.out.v4 HI.out.v5 HI.out.v6 HI.out.v7,←HI.out.hE1,←HI.out.hE2,←hD1] at hS
 have S5:Hid (St w w5 [thRd g gb e1 b1,thObj Q (.cells (wdV D1 (.slice none 0 0) (.slice none 0 0)) 85 (0,0)),thObj E (.cells #[.int .i64 (k7:Nat)] 3 (0,0)),thObj B (.cells #[.int .i64 0,.int .i64 0,.int .i64 0,.int .i64 0,.int .i64 0,.int .i64 0,.int .i64 0,.int .i64 0,.string ⟨#[]⟩,.string ⟨#[]⟩,.int .i64 0,.int .i64 0,.int .i64 0,.string ⟨#[]⟩,.string ⟨#[]⟩,.string ⟨#[]⟩,.string ⟨#[]⟩,.int .i64 0,.int .i64 0,.int .i64 0,.bool false,.int .i64 0,.int .i64 0,.int .i64 0,.int .i64 0,.int .i64 0,.int .i64 0,.int .i64 0,.int .i64 0,.int .i64 0,.slice none 0 0,.int .i64 0,.int .i64 0,.int .i64 0,.int .i64 0,.string ⟨#[]⟩,.slice none 0 0] 85 (0,0))]):=hS
 have HD1:=Lib.hid hD1
 clear hS S4 hD1
 go_wp2_with fail
 ((have hC:=HC.out);clear HC;subst hC)
 refine wp_hold fun C HC=>?_
 obtain ⟨q1,q2,-⟩:=S5.out.cellsN 2 rfl
 obtain ⟨s1,-,s3⟩:=S5.out.cellsN 1 rfl
 obtain ⟨c0,c1,c2,c3,c4,c5,c6,c7,c8,c9,c10,c11,c12,c13,c14,c15,c16,c17,c18,c19,c20,c21,c22,c23,c24,c25,c26,c27,c28,c29,c30,c31,c32,c33,c34,c35,c36⟩:=wbox (show w5.heap[Q]?=some (.cells (wdV D1 (.slice none 0 0) (.slice none 0 0)) 85 (0,0)) from (S5.out.pull (A:=[_])).head)
 clear c0 c1 c2 c3 c4 c5 c6 c8 c9 c10 c11 c12 c13 c14 c15 c16 c17 c18 c19 c20 c21 c22 c23 c24 c25 c26 c27 c28 c29 c30 c31 c32 c33 c34 c35 c36
 go_wp2_with fail
 refine wp_name fun w6 hw6=>?_
 obtain ⟨D2,hD2⟩:∃ D:Wd,D=⟨k0,k1,k2,k3,k4,k5,k6,k7,e0,e0,rq0,zRp,mp0,ch0,[]⟩:=⟨_,rfl⟩
 have S6:Hid (St w w6 [thRd g gb e1 b1,thObj Q (.cells (wdV D2 (.slice none 0 0) (.slice none 0 0)) 85 (0,0)),thObj E (.cells #[.int .i64 (k7:Nat)] 3 (0,0)),thObj B (.cells #[.int .i64 0,.int .i64 0,.int .i64 0,.int .i64 0,.int .i64 0,.int .i64 0,.int .i64 0,.int .i64 0,.string ⟨#[]⟩,.string ⟨#[]⟩,.int .i64 0,.int .i64 0,.int .i64 0,.string ⟨#[]⟩,.string ⟨#[]⟩,.string ⟨#[]⟩,.string ⟨#[]⟩,.int .i64 0,.int .i64 0,.int .i64 0,.bool false,.int .i64 0,.int .i64 0,.int .i64 0,.int .i64 0,.int .i64 0,.int .i64 0,.int .i64 0,.int .i64 0,.int .i64 0,.slice none 0 0,.int .i64 0,.int .i64 0,.int .i64 0,.int .i64 0,.string ⟨#[]⟩,.slice none 0 0] 85 (0,0))]):=by
  have h:=(S5.out.pull (A:=[_])).setObj 7 (.int .i64 k7)
  rw [wdV_set (d:=D1) 7 (.int .i64 k7) (wdV D2 (.slice none 0 0) (.slice none 0 0)) (by rw [HD1.out,hD2];rfl),←hw6] at h
  exact h.pull (A:=[_])
 have HD2:=Lib.hid hD2
 clear hw6 hD2 q1 q2 s1 s3 c7 S5 HD1
 ((have hC:=HC.out);clear HC;subst hC)
 refine wp_hold fun C HC=>?_
 go_wp2_with fail
 have hcall:=St.readBytes S6.out (by have:=HI.out.l1;have:=Hpl.out;omega)
 rw [HI.out.hF] at hcall
 refine hcall.mono ?_
 clear hcall
 rintro e w7a ⟨yo,yc,rfl,ho,hS⟩
 have T:=Lib.hid hS
 dsimp only at T ⊢
 have hcv:=conv_str ho.at yc
 obtain ⟨s1,-,s3⟩:=T.out.cellsN 1 rfl
 obtain ⟨c0,c1,c2,c3,c4,c5,c6,c7,c8,c9,c10,c11,c12,c13,c14,c15,c16,c17,c18,c19,c20,c21,c22,c23,c24,c25,c26,c27,c28,c29,c30,c31,c32,c33,c34,c35,c36⟩:=wbox (show w7a.heap[Q]?=some (.cells (wdV D2 (.slice none 0 0) (.slice none 0 0)) 85 (0,0)) from (T.out.pull (A:=[_])).head)
 clear ho hS S6 c0 c1 c2 c3 c4 c5 c6 c7 c9 c10 c11 c12 c13 c14 c15 c16 c17 c18 c19 c20 c21 c22 c23 c24 c25 c26 c27 c28 c29 c30 c31 c32 c33 c34 c35 c36
 go_wp2_with fail
 refine wp_name fun w7 hw=>?_
 obtain ⟨D3,hD⟩:∃ D:Wd,D=⟨k0,k1,k2,k3,k4,k5,k6,k7,⟨sf.toArray⟩,e0,rq0,zRp,mp0,ch0,[]⟩:=⟨_,rfl⟩
 have S7:Hid (St w w7 [thRd g gb e2 b2,thObj Q (.cells (wdV D3 (.slice none 0 0) (.slice none 0 0)) 85 (0,0)),thObj E (.cells #[.int .i64 (k7:Nat)] 3 (0,0)),thObj B (.cells #[.int .i64 0,.int .i64 0,.int .i64 0,.int .i64 0,.int .i64 0,.int .i64 0,.int .i64 0,.int .i64 0,.string ⟨#[]⟩,.string ⟨#[]⟩,.int .i64 0,.int .i64 0,.int .i64 0,.string ⟨#[]⟩,.string ⟨#[]⟩,.string ⟨#[]⟩,.string ⟨#[]⟩,.int .i64 0,.int .i64 0,.int .i64 0,.bool false,.int .i64 0,.int .i64 0,.int .i64 0,.int .i64 0,.int .i64 0,.int .i64 0,.int .i64 0,.int .i64 0,.int .i64 0,.slice none 0 0,.int .i64 0,.int .i64 0,.int .i64 0,.int .i64 0,.string ⟨#[]⟩,.slice none 0 0] 85 (0,0))]):=by
  have h:=(T.out.pull (A:=[_])).setObj 8 (.string ⟨sf.toArray⟩)
  rw [wdV_set (d:=D2) 8 (.string ⟨sf.toArray⟩) (wdV D3 (.slice none 0 0) (.slice none 0 0)) (by rw [HD2.out,hD];rfl),←hw] at h
  exact h.pull (A:=[_])
 have HD3:=Lib.hid hD
 clear hw hD T hcv s1 s3 c8 HD2
 ((have hC:=HC.out);clear HC;subst hC)
 refine wp_hold fun C HC=>?_
 go_wp2_with fail
 have hcall:=St.readBytes S7.out (by have:=HI.out.l2;have:=Hpl.out;omega)
 rw [HI.out.hG] at hcall
 refine hcall.mono ?_
 clear hcall
 rintro e w8a ⟨yo,yc,rfl,ho,hS⟩
 have T:=Lib.hid hS
 dsimp only at T ⊢
 have hcv:=conv_str ho.at yc
 obtain ⟨s1,-,s3⟩:=T.out.cellsN 1 rfl
 obtain ⟨c0,c1,c2,c3,c4,c5,c6,c7,c8,c9,c10,c11,c12,c13,c14,c15,c16,c17,c18,c19,c20,c21,c22,c23,c24,c25,c26,c27,c28,c29,c30,c31,c32,c33,c34,c35,c36⟩:=wbox (show w8a.heap[Q]?=some (.cells (wdV D3 (.slice none 0 0) (.slice none 0 0)) 85 (0,0)) from (T.out.pull (A:=[_])).head)
 clear ho hS S7 c0 c1 c2 c3 c4 c5 c6 c7 c8 c10 c11 c12 c13 c14 c15 c16 c17 c18 c19 c20 c21 c22 c23 c24 c25 c26 c27 c28 c29 c30 c31 c32 c33 c34 c35 c36
 go_wp2_with fail
 refine wp_name fun w8 hw=>?_
 obtain ⟨D4,hD⟩:∃ D:Wd,D=⟨k0,k1,k2,k3,k4,k5,k6,k7,⟨sf.toArray⟩,⟨st.toArray⟩,rq0,zRp,mp0,ch0,[]⟩:=⟨_,rfl⟩
 have S8:Hid (St w w8 [thRd g gb e3 b3,thObj Q (.cells (wdV D4 (.slice none 0 0) (.slice none 0 0)) 85 (0,0)),thObj E (.cells #[.int .i64 (k7:Nat)] 3 (0,0)),thObj B (.cells #[.int .i64 0,.int .i64 0,.int .i64 0,.int .i64 0,.int .i64 0,.int .i64 0,.int .i64 0,.int .i64 0,.string ⟨#[]⟩,.string ⟨#[]⟩,.int .i64 0,.int .i64 0,.int .i64 0,.string ⟨#[]⟩,.string ⟨#[]⟩,.string ⟨#[]⟩,.string ⟨#[]⟩,.int .i64 0,.int .i64 0,.int .i64 0,.bool false,.int .i64 0,.int .i64 0,.int .i64 0,.int .i64 0,.int .i64 0,.int .i64 0,.int .i64 0,.int .i64 0,.int .i64 0,.slice none 0 0,.int .i64 0,.int .i64 0,.int .i64 0,.int .i64 0,.string ⟨#[]⟩,.slice none 0 0] 85 (0,0))]):=by
  have h:=(T.out.pull (A:=[_])).setObj 9 (.string ⟨st.toArray⟩)
  rw [wdV_set (d:=D3) 9 (.string ⟨st.toArray⟩) (wdV D4 (.slice none 0 0) (.slice none 0 0)) (by rw [HD3.out,hD];rfl),←hw] at h
  exact h.pull (A:=[_])
 have HD4:=Lib.hid hD
 clear hw hD T hcv s1 s3 c9 HD3
 ((have hC:=HC.out);clear HC;subst hC)
 refine wp_hold fun C HC=>?_
 obtain ⟨s1,-,s3⟩:=S8.out.cellsN 1 rfl
 obtain ⟨c0,c1,c2,c3,c4,c5,c6,c7,c8,c9,c10,c11,c12,c13,c14,c15,c16,c17,c18,c19,c20,c21,c22,c23,c24,c25,c26,c27,c28,c29,c30,c31,c32,c33,c34,c35,c36⟩:=wbox (show w8.heap[Q]?=some (.cells (wdV D4 (.slice none 0 0) (.slice none 0 0)) 85 (0,0)) from (S8.out.pull (A:=[_])).head)
 clear c1 c2 c3 c4 c5 c6 c7 c8 c9 c10 c11 c12 c13 c14 c15 c16 c17 c18 c19 c20 c21 c22 c23 c24 c25 c26 c27 c28 c29 c30 c31 c32 c33 c34 c35 c36
 have hk0:D4.kind=k0:=by rw [HD4.out]
 rw [hk0] at c0
 clear hk0
 by_cases h6:(k0:Int)=6
 case' pos =>
  have t6:((k0:Int)==6)=true:=by rw [h6];rfl
  go_wp2_with fail
  clear c0 s1 s3
  refine (St.readNums (O:=[(Q,wdV D4 (.slice none 0 0) (.slice none 0 0),85),(E,#[.int .i64 (k7:Nat)],3)]) (L:=[thObj B (.cells #[.int .i64 0,.int .i64 0,.int .i64 0,.int .i64 0,.int .i64 0,.int .i64 0,.int .i64 0,.int .i64 0,.string ⟨#[]⟩,.string ⟨#[]⟩,.int .i64 0,.int .i64 0,.int .i64 0,.string ⟨#[]⟩,.string ⟨#[]⟩,.string ⟨#[]⟩,.string ⟨#[]⟩,.int .i64 0,.int .i64 0,.int .i64 0,.bool false,.int .i64 0,.int .i64 0,.int .i64 0,.int .i64 0,.int .i64 0,.int .i64 0,.int .i64 0,.int .i64 0,.int .i64 0,.slice none 0 0,.int .i64 0,.int .i64 0,.int .i64 0,.int .i64 0,.string ⟨#[]⟩,.slice none 0 0] 85 (0,0))]) S8.out (by have:=HI.out.l3;have:=Hpl.out;omega) [(0,10),(0,11),(0,12)] ?_ w8.heap.size 3 rfl rfl (by simp) _ _ rfl).mono ?_
  ·intro q hq
   simp only [List.mem_cons,List.not_mem_nil,or_false] at hq
   rcases hq with rfl | rfl | rfl<;>exact ⟨_,_,rfl,rfl⟩
  rintro e w9 ⟨rfl,hS⟩
  obtain ⟨D5,hD5⟩:∃ D:Wd,D=baseW p:=⟨_,rfl⟩
  rw [putW3 Q E _ D4 (by rw [HD4.out]) m0 m1 m2 _ _ HI.out.n0 HI.out.n1 HI.out.n2,←HI.out.hS1 (by omega),←HI.out.hS2 (by omega),show ({ D4 with op:={ rq0 with kind:=m0,client:=m1,seq:=m2 } }:Wd)=D5 from by rw [hD5,HI.out.base,HD4.out,if_pos h6]] at hS
  have S9:Hid (St w w9 [thRd g gb e4 b4,thObj Q (.cells (wdV D5 (.slice none 0 0) (.slice none 0 0)) 85 (0,0)),thObj E (.cells #[.int .i64 (k7:Nat)] 3 (0,0)),thObj B (.cells #[.int .i64 0,.int .i64 0,.int .i64 0,.int .i64 0,.int .i64 0,.int .i64 0,.int .i64 0,.int .i64 0,.string ⟨#[]⟩,.string ⟨#[]⟩,.int .i64 0,.int .i64 0,.int .i64 0,.string ⟨#[]⟩,.string ⟨#[]⟩,.string ⟨#[]⟩,.string ⟨#[]⟩,.int .i64 0,.int .i64 0,.int .i64 0,.bool false,.int .i64 0,.int .i64 0,.int .i64 0,.int .i64 0,.int .i64 0,.int .i64 0,.int .i64 0,.int .i64 0,.int .i64 0,.slice none 0 0,.int .i64 0,.int .i64 0,.int .i64 0,.int .i64 0,.string ⟨#[]⟩,.slice none 0 0] 85 (0,0))]):=hS
  have HD5:=Lib.hid hD5
  clear hS hD5 HD4 S8 t6 h6
  go_wp2_with fail
 case' neg =>
  have t6:((k0:Int)==6)=false:=by rw [beq_eq_false_iff_ne];exact h6
  go_wp2_with fail
  refine wp_name fun w9 hw9=>?_
  obtain ⟨D5,hD5⟩:∃ D:Wd,D=baseW p:=⟨_,rfl⟩
  have S9:Hid (St w w9 [thRd g gb e4 b4,thObj Q (.cells (wdV D5 (.slice none 0 0) (.slice none 0 0)) 85 (0,0)),thObj E (.cells #[.int .i64 (k7:Nat)] 3 (0,0)),thObj B (.cells #[.int .i64 0,.int .i64 0,.int .i64 0,.int .i64 0,.int .i64 0,.int .i64 0,.int .i64 0,.int .i64 0,.string ⟨#[]⟩,.string ⟨#[]⟩,.int .i64 0,.int .i64 0,.int .i64 0,.string ⟨#[]⟩,.string ⟨#[]⟩,.string ⟨#[]⟩,.string ⟨#[]⟩,.int .i64 0,.int .i64 0,.int .i64 0,.bool false,.int .i64 0,.int .i64 0,.int .i64 0,.int .i64 0,.int .i64 0,.int .i64 0,.int .i64 0,.int .i64 0,.int .i64 0,.slice none 0 0,.int .i64 0,.int .i64 0,.int .i64 0,.int .i64 0,.string ⟨#[]⟩,.slice none 0 0] 85 (0,0))]):=by
   rw [hw9,hD5,HI.out.base,if_neg h6,HI.out.hN1 (by omega),HI.out.hN2 (by omega),←HD4.out]
   exact S8
  have HD5:=Lib.hid hD5
  clear hw9 hD5 HD4 S8 t6 h6 c0 s1 s3
 all_goals
  ((have hC:=HC.out);clear HC;subst hC)
  refine wp_hold fun C HC=>?_
  go_wp2_with fail
  have hcall:=St.readBytes S9.out (by have:=HI.out.l4;have:=Hpl.out;omega)
  rw [HI.out.hR] at hcall
  refine hcall.mono ?_
  clear hcall
  rintro e wA ⟨ro,rc,rfl,ho,hS⟩
  dsimp only at ho hS ⊢
  have HqA:=Lib.hid (own_neP ho (S9.out.cellsN 1 rfl).1)
  have HrA:=Lib.hid ho.sl
  have SA:=Lib.hid hS
  clear ho hS S9
  go_wp2_with fail
  ((have hC:=HC.out);clear HC;subst hC)
  refine wp_hold fun CT HCT=>?_
  refine wp_seq ?_
  refine wp_hold fun C HC=>?_
  obtain ⟨q,hq⟩:∃ q,q=(!b5&&e5.isEmpty):=⟨_,rfl⟩
  have hwh:=whole_any g gb e5 b5 wA SA.out.head (by have:=HI.out.l5;have:=Hpl.out;omega)
  rw [←hq] at hwh
  have Hwh:=Lib.hid hwh
  have Hq:Hid (wholeW p=q):=by rw [HI.out.wh,hq];exact Lib.hid rfl
  clear hwh hq
  cases q with
  | false =>
   have Hd3:Hid (wdDec l=(zWd,3)):=by
    rw [Hdec.out,if_neg]
    ·exact Lib.hid rfl
    ·unfold goodW;rw [Hq.out];simp
   go_wp2_with fail
   refine Hwh.out.mono ?_
   rintro e wB ⟨rfl,rfl⟩
   go_wp2_with fail
   ((have hC:=HC.out);clear HC;subst hC)
   ((refine wp_cond_true rfl ?_);(refine wp_seq ?_);(refine wp_region_lit ?_);(refine list_hold 1 fun L HL=>?_);(simp only [List.take_succ_cons,List.take_zero,List.cons_append,List.nil_append]);(go_wp2_with fail);(have hL:=HL.out);clear HL;subst hL;(simp only [List.drop_succ_cons,List.drop_zero]);(refine wpList_store_row rfl 85 _ _ rfl B #[.int .i64 0,.int .i64 0,.int .i64 0,.int .i64 0,.int .i64 0,.int .i64 0,.int .i64 0,.int .i64 0,.string ⟨#[]⟩,.string ⟨#[]⟩,.int .i64 0,.int .i64 0,.int .i64 0,.string ⟨#[]⟩,.string ⟨#[]⟩,.string ⟨#[]⟩,.string ⟨#[]⟩,.int .i64 0,.int .i64 0,.int .i64 0,.bool false,.int .i64 0,.int .i64 0,.int .i64 0,.int .i64 0,.int .i64 0,.int .i64 0,.int .i64 0,.int .i64 0,.int .i64 0,.slice none 0 0,.int .i64 0,.int .i64 0,.int .i64 0,.int .i64 0,.string ⟨#[]⟩,.slice none 0 0] rfl rfl 85 _ ((SA.out.pull (A:=[_,_,_]))).head (by kernel_rfl) rfl (by simp [Value.oneCell']) ?_);(have S2:=Lib.hid (St.setRow37 ((SA.out.pull (A:=[_,_,_]))) #[.int .i64 0,.int .i64 0,.int .i64 0,.int .i64 0,.int .i64 0,.int .i64 0,.int .i64 0,.int .i64 0,.string ⟨#[]⟩,.string ⟨#[]⟩,.int .i64 0,.int .i64 0,.int .i64 0,.string ⟨#[]⟩,.string ⟨#[]⟩,.string ⟨#[]⟩,.string ⟨#[]⟩,.int .i64 0,.int .i64 0,.int .i64 0,.bool false,.int .i64 0,.int .i64 0,.int .i64 0,.int .i64 0,.int .i64 0,.int .i64 0,.int .i64 0,.int .i64 0,.int .i64 0,.slice none 0 0,.int .i64 0,.int .i64 0,.int .i64 0,.int .i64 0,.string ⟨#[]⟩,.slice none 0 0]));(refine list_name fun w2 hw2=>?_);(rw [←hw2] at S2);clear hw2 SA;(go_wp2_with fail);(have hR:=HR.out);clear HR;subst hR;(go_wp2_with fail);(refine bodyPost_ret (results_row_tmp rfl _ _ B 85 _ (0,0) _ rfl S2.out.head Tryz.underlying85 rfl (by kernel_rfl)) rfl ?_);(unfold DecWPost;rw [Hd3.out];exact ⟨none,0,none,0,rfl,S2.out.b,zs_nilR _,sl_nil _⟩))
  | true =>
   go_wp2_with fail
   refine Hwh.out.mono ?_
   rintro e wB ⟨rfl,rfl⟩
   go_wp2_with fail
   have hk5:D5.kind=k0:=by rw [HD5.out];exact HI.out.dk
   refine (reads_any (d:=D5) (SA.out.pull (A:=[_])) rfl (by rw [HD5.out];rfl) (by rw [HD5.out];rfl) ro rc r HrA.out HqA.out ⟨by have:=Hs.out.r;rw [HI.out.dr] at this;exact this,by rw [hk5];have:=Hs.out.k;rw [HI.out.dr,HI.out.dk] at this;exact this⟩).mono ?_
   rintro e wB ⟨VQ,hS,rfl,hok⟩
   have SB:Hid (St w wB [thObj Q (.cells VQ 85 (0,0)),thRd g gb e5 b5,thObj E (.cells #[.int .i64 (k7:Nat)] 3 (0,0)),thObj B (.cells #[.int .i64 0,.int .i64 0,.int .i64 0,.int .i64 0,.int .i64 0,.int .i64 0,.int .i64 0,.int .i64 0,.string ⟨#[]⟩,.string ⟨#[]⟩,.int .i64 0,.int .i64 0,.int .i64 0,.string ⟨#[]⟩,.string ⟨#[]⟩,.string ⟨#[]⟩,.string ⟨#[]⟩,.int .i64 0,.int .i64 0,.int .i64 0,.bool false,.int .i64 0,.int .i64 0,.int .i64 0,.int .i64 0,.int .i64 0,.int .i64 0,.int .i64 0,.int .i64 0,.int .i64 0,.slice none 0 0,.int .i64 0,.int .i64 0,.int .i64 0,.int .i64 0,.string ⟨#[]⟩,.slice none 0 0] 85 (0,0))]):=hS
   obtain ⟨ok,hokb⟩:∃ b,b=okRest D5.kind r:=⟨_,rfl⟩
   rw [←hokb] at hok ⊢
   have Hok:Hid (okRest (dK p) (dR p).1=ok):=by rw [HI.out.dr,hokb,hk5,HI.out.dk];exact Lib.hid rfl
   have HO:=Lib.hid hok
   clear hS SA hokb hok hk5 HrA HqA Hwh
   cases ok with
   | false =>
    have Hd3:Hid (wdDec l=(zWd,3)):=by
     rw [Hdec.out,if_neg]
     ·exact Lib.hid rfl
     ·unfold goodW;rw [Hok.out];simp
    go_wp2_with fail
    ((have hC:=HC.out);clear HC;subst hC)
    ((refine wp_cond_true rfl ?_);(refine wp_seq ?_);(refine wp_region_lit ?_);(refine list_hold 1 fun L HL=>?_);(simp only [List.take_succ_cons,List.take_zero,List.cons_append,List.nil_append]);(go_wp2_with fail);(have hL:=HL.out);clear HL;subst hL;(simp only [List.drop_succ_cons,List.drop_zero]);(refine wpList_store_row rfl 85 _ _ rfl B #[.int .i64 0,.int .i64 0,.int .i64 0,.int .i64 0,.int .i64 0,.int .i64 0,.int .i64 0,.int .i64 0,.string ⟨#[]⟩,.string ⟨#[]⟩,.int .i64 0,.int .i64 0,.int .i64 0,.string ⟨#[]⟩,.string ⟨#[]⟩,.string ⟨#[]⟩,.string ⟨#[]⟩,.int .i64 0,.int .i64 0,.int .i64 0,.bool false,.int .i64 0,.int .i64 0,.int .i64 0,.int .i64 0,.int .i64 0,.int .i64 0,.int .i64 0,.int .i64 0,.int .i64 0,.slice none 0 0,.int .i64 0,.int .i64 0,.int .i64 0,.int .i64 0,.string ⟨#[]⟩,.slice none 0 0] rfl rfl 85 _ ((SB.out.pull (A:=[_,_,_]))).head (by kernel_rfl) rfl (by simp [Value.oneCell']) ?_);(have S2:=Lib.hid (St.setRow37 ((SB.out.pull (A:=[_,_,_]))) #[.int .i64 0,.int .i64 0,.int .i64 0,.int .i64 0,.int .i64 0,.int .i64 0,.int .i64 0,.int .i64 0,.string ⟨#[]⟩,.string ⟨#[]⟩,.int .i64 0,.int .i64 0,.int .i64 0,.string ⟨#[]⟩,.string ⟨#[]⟩,.string ⟨#[]⟩,.string ⟨#[]⟩,.int .i64 0,.int .i64 0,.int .i64 0,.bool false,.int .i64 0,.int .i64 0,.int .i64 0,.int .i64 0,.int .i64 0,.int .i64 0,.int .i64 0,.int .i64 0,.int .i64 0,.slice none 0 0,.int .i64 0,.int .i64 0,.int .i64 0,.int .i64 0,.string ⟨#[]⟩,.slice none 0 0]));(refine list_name fun w2 hw2=>?_);(rw [←hw2] at S2);clear hw2 SB;(go_wp2_with fail);(have hR:=HR.out);clear HR;subst hR;(go_wp2_with fail);(refine bodyPost_ret (results_row_tmp rfl _ _ B 85 _ (0,0) _ rfl S2.out.head Tryz.underlying85 rfl (by kernel_rfl)) rfl ?_);(unfold DecWPost;rw [Hd3.out];exact ⟨none,0,none,0,rfl,S2.out.b,zs_nilR _,sl_nil _⟩))
   | true =>
    obtain ⟨mo,zc,dl,dc,hVQ,hz,hsl⟩:=HO.out rfl
    have hwd:withW D5 r=wdOf p:=by unfold wdOf;rw [HD5.out,HI.out.dr]
    rw [hwd] at hVQ hz hsl
    obtain ⟨X,hX⟩:∃ X,X=wdOf p:=⟨_,rfl⟩
    rw [←hX] at hVQ hz hsl
    have HLi:Hid (Light X):=Lib.hid (by rw [hX];exact Hs.out.li Hq.out Hok.out)
    have hsz:VQ.size=37:=by rw [hVQ];rfl
    have Hen:=Lib.hid (wenc_any hVQ mo dl zc dc rfl rfl wB hz hsl HLi.out)
    have HVQ:=Lib.hid hVQ
    have HZ:=Lib.hid hz
    have HSl:=Lib.hid hsl
    have HX:=Lib.hid hX
    clear hVQ hz hsl hX hwd HO HD5 HI
    go_wp2_with fail
    ((have hC:=HC.out);clear HC;subst hC)
    refine wp_cond_false rfl ?_
    go_wp2_with fail
    (have hC:=HCT.out);clear HCT;subst hC
    refine wp_hold fun CT HCT=>?_
    refine wp_seq ?_
    refine wp_hold fun C HC=>?_
    refine wp_seq ?_
    refine wp_region_lit ?_
    refine wpList_load_row rfl 85 _ rfl Q rfl _ _ _ _ SB.out.head Tryz.underlying85 rfl (by rw [hsz];kernel_rfl) ?_
    go_wp2_with fail
    refine Hen.out.mono ?_
    rintro e wC ⟨hbC,h⟩
    have SC:=Lib.hid (SB.out.grow hbC)
    have HZC:=Lib.hid (HZ.out.grow hbC)
    have HSC:=Lib.hid (HSl.out.grow hbC)
    have HbC:=Lib.hid hbC
    clear hbC SB HZ HSl Hen
    obtain ⟨my,hmy⟩:∃ b,b=mayW X:=⟨_,rfl⟩
    cases my with
    | false =>
     rw [if_neg (by rw [←hmy];simp)] at h
     subst h
     have Hd3:Hid (wdDec l=(zWd,3)):=by
      rw [Hdec.out,if_neg]
      ·exact Lib.hid rfl
      ·unfold goodW;rw [←HX.out,←hmy];simp
     clear hmy
     go_wp2_with fail
     ((have hC:=HC.out);clear HC;subst hC)
     refine wp_hold fun C HC=>?_
     go_wp2_with fail
     ((have hC:=HC.out);clear HC;subst hC)
     ((refine wp_cond_true rfl ?_);(refine wp_seq ?_);(refine wp_region_lit ?_);(refine list_hold 1 fun L HL=>?_);(simp only [List.take_succ_cons,List.take_zero,List.cons_append,List.nil_append]);(go_wp2_with fail);(have hL:=HL.out);clear HL;subst hL;(simp only [List.drop_succ_cons,List.drop_zero]);(refine wpList_store_row rfl 85 _ _ rfl B #[.int .i64 0,.int .i64 0,.int .i64 0,.int .i64 0,.int .i64 0,.int .i64 0,.int .i64 0,.int .i64 0,.string ⟨#[]⟩,.string ⟨#[]⟩,.int .i64 0,.int .i64 0,.int .i64 0,.string ⟨#[]⟩,.string ⟨#[]⟩,.string ⟨#[]⟩,.string ⟨#[]⟩,.int .i64 0,.int .i64 0,.int .i64 0,.bool false,.int .i64 0,.int .i64 0,.int .i64 0,.int .i64 0,.int .i64 0,.int .i64 0,.int .i64 0,.int .i64 0,.int .i64 0,.slice none 0 0,.int .i64 0,.int .i64 0,.int .i64 0,.int .i64 0,.string ⟨#[]⟩,.slice none 0 0] rfl rfl 85 _ ((SC.out.pull (A:=[_,_,_]))).head (by kernel_rfl) rfl (by simp [Value.oneCell']) ?_);(have S2:=Lib.hid (St.setRow37 ((SC.out.pull (A:=[_,_,_]))) #[.int .i64 0,.int .i64 0,.int .i64 0,.int .i64 0,.int .i64 0,.int .i64 0,.int .i64 0,.int .i64 0,.string ⟨#[]⟩,.string ⟨#[]⟩,.int .i64 0,.int .i64 0,.int .i64 0,.string ⟨#[]⟩,.string ⟨#[]⟩,.string ⟨#[]⟩,.string ⟨#[]⟩,.int .i64 0,.int .i64 0,.int .i64 0,.bool false,.int .i64 0,.int .i64 0,.int .i64 0,.int .i64 0,.int .i64 0,.int .i64 0,.int .i64 0,.int .i64 0,.int .i64 0,.slice none 0 0,.int .i64 0,.int .i64 0,.int .i64 0,.int .i64 0,.string ⟨#[]⟩,.slice none 0 0]));(refine list_name fun w2 hw2=>?_);(rw [←hw2] at S2);clear hw2 SC;(go_wp2_with fail);(have hR:=HR.out);clear HR;subst hR;(go_wp2_with fail);(refine bodyPost_ret (results_row_tmp rfl _ _ B 85 _ (0,0) _ rfl S2.out.head Tryz.underlying85 rfl (by kernel_rfl)) rfl ?_);(unfold DecWPost;rw [Hd3.out];exact ⟨none,0,none,0,rfl,S2.out.b,zs_nilR _,sl_nil _⟩))
    | true =>
     rw [if_pos hmy.symm] at h
     have hgd:goodW p=true:=by unfold goodW;rw [Hq.out,Hok.out,←HX.out,←hmy];rfl
     have hE:encW X=l:=by rw [Hl.out,HX.out];exact good_enc hgd
     have Hd0:Hid (wdDec l=(X,0)):=by rw [Hdec.out,if_pos hgd,HX.out];exact Lib.hid rfl
     rw [hE] at h
     obtain ⟨co,cc,rfl,ho⟩:=h
     have hq:=equal_any ao co cap cc l l wC (H.out.grow SC.out.b).at_ ho.sl.at_
     rw [←Hn.out,beq_self_eq_true] at hq
     have HEq:=Lib.hid hq
     rw [←Hn.out]
     clear hmy hgd hE ho hq
     go_wp2_with fail
     ((have hC:=HC.out);clear HC;subst hC)
     refine wp_hold fun C HC=>?_
     go_wp2_with fail
     refine HEq.out.mono ?_
     rintro e wD ⟨rfl,rfl⟩
     go_wp2_with fail
     ((have hC:=HC.out);clear HC;subst hC)
     refine wp_cond_false rfl ?_
     go_wp2_with fail
     (have hC:=HCT.out);clear HCT;subst hC
     refine wp_seq ?_
     refine wp_region_lit ?_
     refine wpList_load_row rfl 85 _ rfl Q rfl _ _ _ _ SC.out.head Tryz.underlying85 rfl (by rw [hsz];kernel_rfl) ?_
     have h1:VQ.all (·.oneCell')=true:=by rw [HVQ.out];simp [wdV,Value.oneCell']
     have hBh:=(SC.out.pull (A:=[_,_,_])).head
     refine wpList_store_row rfl 85 _ _ rfl B VQ rfl rfl 85 _ hBh (by rw [hsz];kernel_rfl) (by rw [hsz];rfl) h1 ?_
     have S2:=Lib.hid (St.setRow37 (SC.out.pull (A:=[_,_,_])) VQ)
     have HZ2:=Lib.hid (zsat_row (cs:=VQ) HZC.out (zs_apart (d:=zWd) hBh HZC.out))
     have HS2:=Lib.hid (slof_row (cs:=VQ) HSC.out (sl_apart (d:=zWd) hBh HSC.out))
     refine list_name fun w2 hw2=>?_
     rw [←hw2] at S2 HZ2 HS2
     clear hw2 SC h1 hBh
     go_wp2_with fail
     (have hR:=HR.out);clear HR;subst hR
     go_wp2_with fail
     refine bodyPost_ret (results_row_tmp rfl _ _ B 85 _ (0,0) _ rfl S2.out.head Tryz.underlying85 rfl (by rw [hsz];kernel_rfl)) rfl ?_
     unfold DecWPost
     rw [Hd0.out]
     exact ⟨mo,zc,dl,dc,by rw [HVQ.out];rfl,S2.out.b,HZ2.out,HS2.out⟩
end Go.Proofs.YtogamdaomdoapaaGreat