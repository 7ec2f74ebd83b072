/- Texts put together: OCk, RAl, Jn, OSa. -/
import Derived.Test.YtogamdaomdoapaaGreatGa01
import Derived.Test.YtogamdaomdoapaaGreatGa06
import Derived.Test.YtogamdaomdoapaaGreatGa09
namespace Go.Proofs.YtogamdaomdoapaaGreat.O
open Go.Value renaming int→aI,string→aS,bool→aB
open Go.IntKind renaming i64→aK
open Bool renaming eq_false_or_eq_true→bE
open Go.Lib renaming hid→uH
open Go.RowKit Go.Maps
set_option maxRecDepth 20000
structure CkAt (w:World) (B M g o zc:Nat) (m:Mp) (f:Int→Int):Prop where
 c0:w.cell? ⟨B,0,none⟩=some (aI aK m.ver)
 c1:w.cell? ⟨B,1,none⟩=some (aI aK m.next)
 c2:w.cell? ⟨B,2,none⟩=some (.slice (some ⟨g,o,none⟩) m.zs.length zc)
 c3:w.cell? ⟨B,3,none⟩=some (.map (some M))
 lt:B<w.heap.size
 mp:e0i w M 1000 f
 zs:ZnO w g o m.zs
theorem CkAt.grow {w w':World} {B M g o zc:Nat} {m:Mp} {f:Int→Int} (h:CkAt w B M g o zc m f) (hb:Below w.heap.size w w'):CkAt w' B M g o zc m f :=
 ⟨(hb.cell (p:=⟨B,_,none⟩) h.lt).trans h.c0,(hb.cell (p:=⟨B,_,none⟩) h.lt).trans h.c1,(hb.cell (p:=⟨B,_,none⟩) h.lt).trans h.c2,(hb.cell (p:=⟨B,_,none⟩) h.lt).trans h.c3,Nat.lt_of_lt_of_le h.lt hb.size,h.mp.grow hb,h.zs.grow hb⟩
theorem u0g (z:Zn) (c:Value) (i:Int) (w:World) (r:Bool) (hr:r=decide (z.tt=0∧z.key.toList=[]∧z.nw=0)) :
 Calls Tryz.prog 140 #[c,.agg #[aI aK z.id,aS z.fr,aS z.to,aI aK z.owner,aI aK z.epoch,aI aK z.pend,aI aK z.tt,aS z.key,aI aK z.nw],aI aK i] w fun e w'=>e=.returned (aB r)∧Below w.heap.size w w':=by
 have HR:Hid (r=((z.tt==0)&&((z.key.toList==[])&&(z.nw==0)))):=by rw [hr];refine uH ?_;rw [Bool.eq_iff_iff];simp
 clear hr
 (rcases bE (z.tt==0) with t1 | t1;((rw [t1] at HR);(rcases bE (z.key.toList==[]) with t2 | t2;((rw [t2] at HR);(have t2':z.key.toList=[]:=(by simpa using t2));(rcases bE (z.nw==0) with t3 | t3;((rw [t3] at HR);(go_enter Tryz.func140,Tryz.ntmps140;(go_wp2_with fail);(go_ret;exact ⟨by rw [HR.out];rfl,bg⟩)));((rw [t3] at HR);(go_enter Tryz.func140,Tryz.ntmps140;(go_wp2_with fail);(go_ret;exact ⟨by rw [HR.out];rfl,bg⟩)))));((rw [t2] at HR);(go_enter Tryz.func140,Tryz.ntmps140;(go_wp2_with fail);(go_ret;exact ⟨by rw [HR.out];rfl,bg⟩)))));((rw [t1] at HR);(go_enter Tryz.func140,Tryz.ntmps140;(go_wp2_with fail);(go_ret;exact ⟨by rw [HR.out];rfl,bg⟩))))
theorem u0f (z:Zn) (c:Value) (i:Int) (w:World) (r:Bool) (hr:r=decide (1≤z.tt∧z.tt≤1048576∧z.tt≠z.owner∧z.key.toList=[]∧z.nw=0)) :
 Calls Tryz.prog 143 #[c,.agg #[aI aK z.id,aS z.fr,aS z.to,aI aK z.owner,aI aK z.epoch,aI aK z.pend,aI aK z.tt,aS z.key,aI aK z.nw],aI aK i] w fun e w'=>e=.returned (aB r)∧Below w.heap.size w w':=by
 have HR:Hid (r=(decide (1≤z.tt)&&(decide (z.tt≤1048576)&&((z.tt != z.owner)&&((z.key.toList==[])&&(z.nw==0)))))):=by rw [hr];refine uH ?_;rw [Bool.eq_iff_iff];simp
 clear hr
 (rcases bE (decide (1≤z.tt)) with t1 | t1;((rw [t1] at HR);(rcases bE (decide (z.tt≤1048576)) with t4 | t4;((rw [t4] at HR);(rcases bE (z.tt != z.owner) with t5 | t5;((rw [t5] at HR);(rcases bE (z.key.toList==[]) with t2 | t2;((rw [t2] at HR);(have t2':z.key.toList=[]:=(by simpa using t2));(rcases bE (z.nw==0) with t3 | t3;((rw [t3] at HR);(go_enter Tryz.func143,Tryz.ntmps143;(go_wp2_with fail);(go_ret;exact ⟨by rw [HR.out];rfl,bg⟩)));((rw [t3] at HR);(go_enter Tryz.func143,Tryz.ntmps143;(go_wp2_with fail);(go_ret;exact ⟨by rw [HR.out];rfl,bg⟩)))));((rw [t2] at HR);(go_enter Tryz.func143,Tryz.ntmps143;(go_wp2_with fail);(go_ret;exact ⟨by rw [HR.out];rfl,bg⟩)))));((rw [t5] at HR);(go_enter Tryz.func143,Tryz.ntmps143;(go_wp2_with fail);(go_ret;exact ⟨by rw [HR.out];rfl,bg⟩)))));((rw [t4] at HR);(go_enter Tryz.func143,Tryz.ntmps143;(go_wp2_with fail);(go_ret;exact ⟨by rw [HR.out];rfl,bg⟩)))));((rw [t1] at HR);(go_enter Tryz.func143,Tryz.ntmps143;(go_wp2_with fail);(go_ret;exact ⟨by rw [HR.out];rfl,bg⟩))))
set_option maxHeartbeats 4000000 in
theorem q0q {B M g o zc:Nat} {m:Mp} {f:Int→Int} {w:World} (h:CkAt w B M g o zc m f) (hm:m.zs.length≤1000) (z:Zn) (i:Int) (hz:(Lit.int .i64 z.nw).wf=true) (hf:f z.nw=fcnt m.zs z.nw) (r:Bool) (hr:r=m0e m z) :
 Calls Tryz.prog 141 #[.pointer (some ⟨B,0,none⟩),.agg #[aI aK z.id,aS z.fr,aS z.to,aI aK z.owner,aI aK z.epoch,aI aK z.pend,aI aK z.tt,aS z.key,aI aK z.nw],aI aK i] w fun e w'=>e=.returned (aB r)∧Below w.heap.size w w':=by
 obtain ⟨k,hk⟩:∃ k,k=fz m.zs z.nw:=⟨_,rfl⟩
 obtain ⟨n,hn⟩:∃ n,n=m.zs.length:=⟨_,rfl⟩
 obtain ⟨nx,hnx⟩:∃ nx,nx=m.next:=⟨_,rfl⟩
 obtain ⟨q,hq⟩:∃ q,q=e0y z.fr z.to z.key:=⟨_,rfl⟩
 obtain ⟨c,hc⟩:∃ c,c=f z.nw:=⟨_,rfl⟩
 have hfd:=fun (w3:World) (hb:Below w.heap.size w w3)=>n0s (zc:=zc) (h.zs.grow hb) hm m.ver nx z.nw
 have hlk:=fun (w3:World) (hb:Below w.heap.size w w3)=>(h.grow hb).mp.look z.nw hz
 have hct:=fun w=>span_cut z.fr z.to z.key w
 obtain ⟨c0,c1,c2,c3,lt,-,-⟩:=h
 have HR:Hid (r=(q&&((z.tt==0)&&(decide (1≤z.nw)&&(decide (z.nw<nx)&&((c==1)&&decide (k<0))))))):=by
  have hc1:(f z.nw==1)=decide (fcnt m.zs z.nw=1):=by rw [hf,Bool.eq_iff_iff];simp
  rw [hr,hq,hnx,hc,hc1,hk]
  refine uH ?_
  unfold m0e fz
  cases c0w m.zs z.nw with
  | none=>rw [Bool.eq_iff_iff];simp [and_assoc]
  | some j=>rw [Bool.eq_iff_iff];simp
 rw [←hk,←hn] at hfd
 rw [←hn] at c2
 rw [←hnx] at c1
 rw [←hc] at hlk
 rw [←hq] at hct
 have Hfd:=uH hfd
 have Hlk:=uH hlk
 have Hct:=uH hct
 clear hk hn hnx hq hc hfd hlk hct hf hr hm hz
 cases q with
 | false=>(go_enter Tryz.func141,Tryz.ntmps141;(go_wp2_with fail);(refine a0e fun wa hwa=>?_;have wa_s0:=sg B hwa;have wa_s1:=sg w.heap.size hwa;obtain ⟨wa_c0,wa_c1,wa_c2,wa_c3⟩:=kz4 hwa B (aI aK m.ver) (aI aK nx) (.slice (some ⟨g,o,none⟩) n zc) (.map (some M));obtain ⟨wa_c4,wa_c5,wa_c6,wa_c7,wa_c8,wa_c9⟩:=kb6 hwa w.heap.size 0 (aI aK z.id) 3 (aI aK z.owner) 5 (aI aK z.pend) 6 (aI aK z.tt) 7 (aS z.key) 8 (aI aK z.nw);have wa_b:Below w.heap.size w wa:=(by rw [hwa];exact bg);clear hwa);(refine (Hct.out _).mono ?_);(rintro e w1 ⟨rfl,w1_h⟩;obtain ⟨w1_hc,w1_hf⟩:=a0w w1_h;have w1_z:=w1_h.size;have w1_b:=wa_b.trans (w1_h.mono (by have:=wa_b.size;omega));have w1_le:=w1_b.size;have w1_s0:B<w1.heap.size:=(by omega);have w1_s1:w.heap.size<w1.heap.size:=(by omega);clear w1_h);(go_wp2_with fail);(refine a0d fun wb hwb=>?_;have wb_s0:=sg B hwb;have wb_s1:=sg w.heap.size hwb;obtain ⟨wb_c0,wb_c1,wb_c2,wb_c3⟩:=kz4 hwb B (aI aK m.ver) (aI aK nx) (.slice (some ⟨g,o,none⟩) n zc) (.map (some M));obtain ⟨wb_c4,wb_c5,wb_c6,wb_c7,wb_c8,wb_c9⟩:=kb6 hwb w.heap.size 0 (aI aK z.id) 3 (aI aK z.owner) 5 (aI aK z.pend) 6 (aI aK z.tt) 7 (aS z.key) 8 (aI aK z.nw);have wb_b:Below w.heap.size w wb:=(by rw [hwb];exact bg);clear hwb);(have hlk:=fun g':Gr wb=>Hlk.out (gr wb g') (wb_b.trans ((a0f wb g').mono (by omega))));(have hfd:=fun g':Gr wb=>Hfd.out (gr wb g') (wb_b.trans ((a0f wb g').mono (by omega))));(refine grA ?_;(repeat (go_big_quiet_step (first | (go_at_call 144;exact a0i (hfd _)) | fail)));refine grN fun g1=>?_);(go_wp2_with fail);go_ret;exact ⟨by rw [HR.out];rfl,wb_b.trans ((a0f wb g1).mono (by omega))⟩)
 | true =>
  rcases bE (z.tt==0) with t1 | t1
  rcases bE (decide (1≤z.nw)) with t2 | t2
  rcases bE (decide (z.nw<nx)) with t3 | t3
  rcases bE (c==1) with t4 | t4
  rcases bE (decide (k<0)) with t5 | t5
  all_goals ((rw [t1] at HR);(try rw [t2] at HR);(try rw [t3] at HR);(try rw [t4] at HR);(try rw [t5] at HR);(go_enter Tryz.func141,Tryz.ntmps141;(go_wp2_with fail);(refine a0e fun wa hwa=>?_;have wa_s0:=sg B hwa;have wa_s1:=sg w.heap.size hwa;obtain ⟨wa_c0,wa_c1,wa_c2,wa_c3⟩:=kz4 hwa B (aI aK m.ver) (aI aK nx) (.slice (some ⟨g,o,none⟩) n zc) (.map (some M));obtain ⟨wa_c4,wa_c5,wa_c6,wa_c7,wa_c8,wa_c9⟩:=kb6 hwa w.heap.size 0 (aI aK z.id) 3 (aI aK z.owner) 5 (aI aK z.pend) 6 (aI aK z.tt) 7 (aS z.key) 8 (aI aK z.nw);have wa_b:Below w.heap.size w wa:=(by rw [hwa];exact bg);clear hwa);(refine (Hct.out _).mono ?_);(rintro e w1 ⟨rfl,w1_h⟩;obtain ⟨w1_hc,w1_hf⟩:=a0w w1_h;have w1_z:=w1_h.size;have w1_b:=wa_b.trans (w1_h.mono (by have:=wa_b.size;omega));have w1_le:=w1_b.size;have w1_s0:B<w1.heap.size:=(by omega);have w1_s1:w.heap.size<w1.heap.size:=(by omega);clear w1_h);(go_wp2_with fail);(refine a0d fun wb hwb=>?_;have wb_s0:=sg B hwb;have wb_s1:=sg w.heap.size hwb;obtain ⟨wb_c0,wb_c1,wb_c2,wb_c3⟩:=kz4 hwb B (aI aK m.ver) (aI aK nx) (.slice (some ⟨g,o,none⟩) n zc) (.map (some M));obtain ⟨wb_c4,wb_c5,wb_c6,wb_c7,wb_c8,wb_c9⟩:=kb6 hwb w.heap.size 0 (aI aK z.id) 3 (aI aK z.owner) 5 (aI aK z.pend) 6 (aI aK z.tt) 7 (aS z.key) 8 (aI aK z.nw);have wb_b:Below w.heap.size w wb:=(by rw [hwb];exact bg);clear hwb);(have hlk:=fun g':Gr wb=>Hlk.out (gr wb g') (wb_b.trans ((a0f wb g').mono (by omega))));(have hfd:=fun g':Gr wb=>Hfd.out (gr wb g') (wb_b.trans ((a0f wb g').mono (by omega))));(refine grA ?_;(repeat (go_big_quiet_step (first | (go_at_call 144;exact a0i (hfd _)) | fail)));refine grN fun g1=>?_);(go_wp2_with fail);go_ret;exact ⟨by rw [HR.out];rfl,wb_b.trans ((a0f wb g1).mono (by omega))⟩))
theorem x0g {l:List Zn} {i k:Nat} {z y:Zn} (hf:c0w l z.nw=some k) (hy:l[k]?=some y):b0n l i z=((z.tt==0)&&((z.key.toList==[])&&(decide (k=i+1∨k+1=i)&&((y.owner==z.owner)&&((y.pend==2)&&(y.nw==z.id)))))):=by
 unfold b0n
 rw [hf]
 simp only [List.getD_eq_getElem?_getD,hy,Option.getD_some]
 rw [Bool.eq_iff_iff]
 simp only [Bool.and_eq_true,decide_eq_true_eq,beq_iff_eq]
 constructor
 ·rintro ⟨⟨h1,h2,h3⟩,h4,h5,h6⟩;exact ⟨h1,h2,h3,h6,h4,h5⟩
 ·rintro ⟨h1,h2,h3,h6,h4,h5⟩;exact ⟨⟨h1,h2,h3⟩,h4,h5,h6⟩
set_option maxHeartbeats 4000000 in
theorem q0r {B M g o zc:Nat} {m:Mp} {f:Int→Int} {w:World} (h:CkAt w B M g o zc m f) (hm:m.zs.length≤1000) (z:Zn) (i:Nat) (hi:i<m.zs.length) (hz:(Lit.int .i64 z.nw).wf=true) (hf:f z.nw=fcnt m.zs z.nw) (r:Bool) (hr:r=(b0n m.zs i z&&decide (fcnt m.zs z.nw=1))) :
 Calls Tryz.prog 142 #[.pointer (some ⟨B,0,none⟩),.agg #[aI aK z.id,aS z.fr,aS z.to,aI aK z.owner,aI aK z.epoch,aI aK z.pend,aI aK z.tt,aS z.key,aI aK z.nw],aI aK i] w fun e w'=>e=.returned (aB r)∧Below w.heap.size w w':=by
 obtain ⟨k,hk⟩:∃ k,k=fz m.zs z.nw:=⟨_,rfl⟩
 obtain ⟨n,hn⟩:∃ n,n=m.zs.length:=⟨_,rfl⟩
 obtain ⟨nx,hnx⟩:∃ nx,nx=m.next:=⟨_,rfl⟩
 obtain ⟨c,hc⟩:∃ c,c=f z.nw:=⟨_,rfl⟩
 have hfd:=fun (w3:World) (hb:Below w.heap.size w w3)=>n0s (zc:=zc) (h.zs.grow hb) hm m.ver nx z.nw
 have hlk:=fun (w3:World) (hb:Below w.heap.size w w3)=>(h.grow hb).mp.look z.nw hz
 have hzs:=h.zs
 have hg:=hzs.lt
 obtain ⟨c0,c1,c2,c3,lt,-,-⟩:=h
 have hc1:decide (fcnt m.zs z.nw=1)=(c==1):=by rw [hc,hf,Bool.eq_iff_iff];simp
 rw [hc1] at hr
 rw [←hk,←hn] at hfd
 rw [←hn] at c2 hi hm
 rw [←hnx] at c1
 rw [←hc] at hlk
 have Hfd:=uH hfd
 have Hlk:=uH hlk
 have z1:IntKind.i64.wrap ((i:Int)+1)=(i:Int)+1:=by rw [IntKind.wrap_i64];omega
 have z2:IntKind.i64.wrap ((i:Int) - 1)=(i:Int) - 1:=by rw [IntKind.wrap_i64];omega
 have Hk:=uH hk
 have Hn:=uH hn
 clear hnx hc hfd hlk hf hz hc1 hk hn
 cases hfi:c0w m.zs z.nw with
 | none =>
  obtain rfl:k=-1:=by rw [Hk.out,fz,hfi]
  have HR:Hid (r=false):=by rw [hr];refine uH ?_;unfold b0n;rw [hfi];rfl
  clear hr hfi
  rcases bE (z.tt==0) with t1 | t1
  rotate_left
  have e1:(z.tt != 0)=true:=by rw [bne,t1];rfl
  rotate_right
  have e1:(z.tt != 0)=false:=by rw [bne,t1];rfl
  rcases bE (z.key.toList==[]) with t2 | t2
  rotate_left
  have e2:(z.key.toList != [])=true:=by rw [bne,t2];rfl
  rotate_right
  have t2':z.key.toList=[]:=by simpa using t2
  have e2:(z.key.toList != [])=false:=by rw [bne,t2];rfl
  have v1:((-1:Int) != (i:Int)+1)=true:=by rw [bne_iff_ne];omega
  by_cases q:i=0
  rotate_left
  have v2:((-1:Int) != (i:Int) - 1)=true:=by rw [bne_iff_ne];omega
  clear q
  rotate_right
  have v2:((-1:Int) != (i:Int) - 1)=false:=by rw [bne_eq_false_iff_eq];omega
  clear q
  all_goals ((go_enter Tryz.func142,Tryz.ntmps142;(go_wp2_with fail);(refine a0d fun wa hwa=>?_;have wa_s0:=sg B hwa;have wa_s1:=sg g hwa;have wa_s2:=sg w.heap.size hwa;obtain ⟨wa_c0,wa_c1,wa_c2,wa_c3⟩:=kz4 hwa B (aI aK m.ver) (aI aK nx) (.slice (some ⟨g,o,none⟩) n zc) (.map (some M));obtain ⟨wa_c4,wa_c5,wa_c6,wa_c7,wa_c8,wa_c9⟩:=kb6 hwa w.heap.size 0 (aI aK z.id) 3 (aI aK z.owner) 5 (aI aK z.pend) 6 (aI aK z.tt) 7 (aS z.key) 8 (aI aK z.nw);have wa_b:Below w.heap.size w wa:=(by rw [hwa];exact bg);clear hwa);(have hfd:=fun g':Gr wa=>Hfd.out (gr wa g') (wa_b.trans ((a0f wa g').mono (by omega))));(refine grA ?_;(repeat (go_big_quiet_step (first | (go_at_call 144;exact a0i (hfd _)) | fail)));refine grN fun g1=>?_);(have gb:Below w.heap.size w (gr wa g1):=wa_b.trans ((a0f wa g1).mono (by omega)));(have gle:=gr_le wa g1);((obtain ⟨wq,hwq⟩:∃ wq,wq=gr wa g1:=⟨_,rfl⟩);(have wq_s0:=sg B hwq);(have wq_s1:=sg g hwq);(have wq_s2:=sg w.heap.size hwq);(obtain ⟨wq_c0,wq_c1,wq_c2,wq_c3⟩:=kz4 hwq B (aI aK m.ver) (aI aK nx) (.slice (some ⟨g,o,none⟩) n zc) (.map (some M)));(obtain ⟨wq_c4,wq_c5,wq_c6,wq_c7,wq_c8,wq_c9⟩:=kb6 hwq w.heap.size 0 (aI aK z.id) 3 (aI aK z.owner) 5 (aI aK z.pend) 6 (aI aK z.tt) 7 (aS z.key) 8 (aI aK z.nw));(have wq_b:Below w.heap.size w wq:=(by rw [hwq];exact bg));(rw [←hwq]);clear hwq);(have wq_le:=wq_b.size);(go_wp2_with fail));go_ret;exact ⟨by rw [HR.out];rfl,wq_b⟩)
 | some k' =>
  obtain rfl:k=(k':Int):=by rw [Hk.out,fz,hfi]
  obtain ⟨y,hy,-,-⟩:=g0o hfi
  obtain ⟨hkl,hke⟩:=List.getElem?_eq_some_iff.1 hy
  obtain ⟨r0,r1,r2,r3,r4,r5,r6,r7,r8⟩:=hzs.nine k' hkl y hke.symm
  have hkn:k'<n:=by rw [Hn.out];exact hkl
  have e3:decide ((k':Int)<0)=false:=by rw [decide_eq_false_iff_not];omega
  have HR:Hid (r=((z.tt==0)&&((z.key.toList==[])&&(decide (k'=i+1∨k'+1=i)&&((y.owner==z.owner)&&((y.pend==2)&&((y.nw==z.id)&&(c==1)))))))):=by
   refine uH ?_
   rw [hr,x0g (i:=i) hfi hy]
   simp only [Bool.and_assoc]
  clear hr hfi hy hkl hke hzs
  rcases bE (z.tt==0) with t1 | t1
  rotate_left
  rw [t1] at HR
  have e1:(z.tt != 0)=true:=by rw [bne,t1];rfl
  rotate_right
  rw [t1] at HR
  have e1:(z.tt != 0)=false:=by rw [bne,t1];rfl
  rcases bE (z.key.toList==[]) with t2 | t2
  rotate_left
  rw [t2] at HR
  have e2:(z.key.toList != [])=true:=by rw [bne,t2];rfl
  rotate_right
  rw [t2] at HR
  have t2':z.key.toList=[]:=by simpa using t2
  have e2:(z.key.toList != [])=false:=by rw [bne,t2];rfl
  by_cases q1:k'=i+1
  ·have v1:((k':Int) != (i:Int)+1)=false:=by rw [bne_eq_false_iff_eq];omega
   have v2:((k':Int) != (i:Int) - 1)=true:=by rw [bne_iff_ne];omega
   rw [decide_eq_true (.inl q1)] at HR
   clear q1
   (rcases bE (y.owner==z.owner) with u1 | u1;rcases bE (y.pend==2) with u2 | u2;rcases bE (y.nw==z.id) with u3 | u3;rcases bE (c==1) with u4 | u4;all_goals ((rw [u1] at HR);(try rw [u2] at HR);(try rw [u3] at HR);(try rw [u4] at HR);((go_enter Tryz.func142,Tryz.ntmps142;(go_wp2_with fail);(refine a0d fun wa hwa=>?_;have wa_s0:=sg B hwa;have wa_s1:=sg g hwa;have wa_s2:=sg w.heap.size hwa;obtain ⟨wa_c0,wa_c1,wa_c2,wa_c3,wa_c4,wa_c5,wa_c6,wa_c7,wa_c8⟩:=kb9 hwa g (o+k' * 9) (aI aK y.id) (o+k' * 9+1) (aS y.fr) (o+k' * 9+2) (aS y.to) (o+k' * 9+3) (aI aK y.owner) (o+k' * 9+4) (aI aK y.epoch) (o+k' * 9+5) (aI aK y.pend) (o+k' * 9+6) (aI aK y.tt) (o+k' * 9+7) (aS y.key) (o+k' * 9+8) (aI aK y.nw);obtain ⟨wa_c9,wa_c10,wa_c11,wa_c12⟩:=kz4 hwa B (aI aK m.ver) (aI aK nx) (.slice (some ⟨g,o,none⟩) n zc) (.map (some M));obtain ⟨wa_c13,wa_c14,wa_c15,wa_c16,wa_c17,wa_c18⟩:=kb6 hwa w.heap.size 0 (aI aK z.id) 3 (aI aK z.owner) 5 (aI aK z.pend) 6 (aI aK z.tt) 7 (aS z.key) 8 (aI aK z.nw);have wa_b:Below w.heap.size w wa:=(by rw [hwa];exact bg);clear hwa);(have hfd:=fun g':Gr wa=>Hfd.out (gr wa g') (wa_b.trans ((a0f wa g').mono (by omega))));(refine grA ?_;(repeat (go_big_quiet_step (first | (go_at_call 144;exact a0i (hfd _)) | fail)));refine grN fun g1=>?_);(have gb:Below w.heap.size w (gr wa g1):=wa_b.trans ((a0f wa g1).mono (by omega)));(have gle:=gr_le wa g1);((obtain ⟨wq,hwq⟩:∃ wq,wq=gr wa g1:=⟨_,rfl⟩);(have wq_s0:=sg B hwq);(have wq_s1:=sg g hwq);(have wq_s2:=sg w.heap.size hwq);(obtain ⟨wq_c0,wq_c1,wq_c2,wq_c3,wq_c4,wq_c5,wq_c6,wq_c7,wq_c8⟩:=kb9 hwq g (o+k' * 9) (aI aK y.id) (o+k' * 9+1) (aS y.fr) (o+k' * 9+2) (aS y.to) (o+k' * 9+3) (aI aK y.owner) (o+k' * 9+4) (aI aK y.epoch) (o+k' * 9+5) (aI aK y.pend) (o+k' * 9+6) (aI aK y.tt) (o+k' * 9+7) (aS y.key) (o+k' * 9+8) (aI aK y.nw));(obtain ⟨wq_c9,wq_c10,wq_c11,wq_c12⟩:=kz4 hwq B (aI aK m.ver) (aI aK nx) (.slice (some ⟨g,o,none⟩) n zc) (.map (some M)));(obtain ⟨wq_c13,wq_c14,wq_c15,wq_c16,wq_c17,wq_c18⟩:=kb6 hwq w.heap.size 0 (aI aK z.id) 3 (aI aK z.owner) 5 (aI aK z.pend) 6 (aI aK z.tt) 7 (aS z.key) 8 (aI aK z.nw));(have wq_b:Below w.heap.size w wq:=(by rw [hwq];exact bg));(rw [←hwq]);clear hwq);(have wq_le:=wq_b.size);(go_wp2_with fail));(refine a0d fun wb hwb=>?_;have wb_s0:=sg B hwb;have wb_s1:=sg w.heap.size hwb;have wb_s2:=sg wq.heap.size hwb;obtain ⟨wb_c0,wb_c1,wb_c2,wb_c3⟩:=kz4 hwb B (aI aK m.ver) (aI aK nx) (.slice (some ⟨g,o,none⟩) n zc) (.map (some M));obtain ⟨wb_c4,wb_c5,wb_c6,wb_c7,wb_c8,wb_c9⟩:=kb6 hwb w.heap.size 0 (aI aK z.id) 3 (aI aK z.owner) 5 (aI aK z.pend) 6 (aI aK z.tt) 7 (aS z.key) 8 (aI aK z.nw);obtain ⟨wb_c10,wb_c11,wb_c12⟩:=kb3 hwb wq.heap.size 3 (aI aK y.owner) 5 (aI aK y.pend) 8 (aI aK y.nw);have wb_b:Below w.heap.size w wb:=(by rw [hwb];exact bg);clear hwb);(have hlk:=fun g':Gr wb=>Hlk.out (gr wb g') (wb_b.trans ((a0f wb g').mono (by omega))));(refine grA ?_;(repeat (go_big_quiet_step (fail)));refine grN fun gz=>?_);(go_wp2_with fail);go_ret;exact ⟨by rw [HR.out];rfl,wb_b.trans ((a0f wb gz).mono (by omega))⟩)))
  by_cases q2:k'+1=i
  ·have v2:((k':Int) != (i:Int) - 1)=false:=by rw [bne_eq_false_iff_eq];omega
   rw [decide_eq_true (.inr q2)] at HR
   clear q1 q2
   (rcases bE (y.owner==z.owner) with u1 | u1;rcases bE (y.pend==2) with u2 | u2;rcases bE (y.nw==z.id) with u3 | u3;rcases bE (c==1) with u4 | u4;all_goals ((rw [u1] at HR);(try rw [u2] at HR);(try rw [u3] at HR);(try rw [u4] at HR);((go_enter Tryz.func142,Tryz.ntmps142;(go_wp2_with fail);(refine a0d fun wa hwa=>?_;have wa_s0:=sg B hwa;have wa_s1:=sg g hwa;have wa_s2:=sg w.heap.size hwa;obtain ⟨wa_c0,wa_c1,wa_c2,wa_c3,wa_c4,wa_c5,wa_c6,wa_c7,wa_c8⟩:=kb9 hwa g (o+k' * 9) (aI aK y.id) (o+k' * 9+1) (aS y.fr) (o+k' * 9+2) (aS y.to) (o+k' * 9+3) (aI aK y.owner) (o+k' * 9+4) (aI aK y.epoch) (o+k' * 9+5) (aI aK y.pend) (o+k' * 9+6) (aI aK y.tt) (o+k' * 9+7) (aS y.key) (o+k' * 9+8) (aI aK y.nw);obtain ⟨wa_c9,wa_c10,wa_c11,wa_c12⟩:=kz4 hwa B (aI aK m.ver) (aI aK nx) (.slice (some ⟨g,o,none⟩) n zc) (.map (some M));obtain ⟨wa_c13,wa_c14,wa_c15,wa_c16,wa_c17,wa_c18⟩:=kb6 hwa w.heap.size 0 (aI aK z.id) 3 (aI aK z.owner) 5 (aI aK z.pend) 6 (aI aK z.tt) 7 (aS z.key) 8 (aI aK z.nw);have wa_b:Below w.heap.size w wa:=(by rw [hwa];exact bg);clear hwa);(have hfd:=fun g':Gr wa=>Hfd.out (gr wa g') (wa_b.trans ((a0f wa g').mono (by omega))));(refine grA ?_;(repeat (go_big_quiet_step (first | (go_at_call 144;exact a0i (hfd _)) | fail)));refine grN fun g1=>?_);(have gb:Below w.heap.size w (gr wa g1):=wa_b.trans ((a0f wa g1).mono (by omega)));(have gle:=gr_le wa g1);((obtain ⟨wq,hwq⟩:∃ wq,wq=gr wa g1:=⟨_,rfl⟩);(have wq_s0:=sg B hwq);(have wq_s1:=sg g hwq);(have wq_s2:=sg w.heap.size hwq);(obtain ⟨wq_c0,wq_c1,wq_c2,wq_c3,wq_c4,wq_c5,wq_c6,wq_c7,wq_c8⟩:=kb9 hwq g (o+k' * 9) (aI aK y.id) (o+k' * 9+1) (aS y.fr) (o+k' * 9+2) (aS y.to) (o+k' * 9+3) (aI aK y.owner) (o+k' * 9+4) (aI aK y.epoch) (o+k' * 9+5) (aI aK y.pend) (o+k' * 9+6) (aI aK y.tt) (o+k' * 9+7) (aS y.key) (o+k' * 9+8) (aI aK y.nw));(obtain ⟨wq_c9,wq_c10,wq_c11,wq_c12⟩:=kz4 hwq B (aI aK m.ver) (aI aK nx) (.slice (some ⟨g,o,none⟩) n zc) (.map (some M)));(obtain ⟨wq_c13,wq_c14,wq_c15,wq_c16,wq_c17,wq_c18⟩:=kb6 hwq w.heap.size 0 (aI aK z.id) 3 (aI aK z.owner) 5 (aI aK z.pend) 6 (aI aK z.tt) 7 (aS z.key) 8 (aI aK z.nw));(have wq_b:Below w.heap.size w wq:=(by rw [hwq];exact bg));(rw [←hwq]);clear hwq);(have wq_le:=wq_b.size);(go_wp2_with fail));(refine a0d fun wb hwb=>?_;have wb_s0:=sg B hwb;have wb_s1:=sg w.heap.size hwb;have wb_s2:=sg wq.heap.size hwb;obtain ⟨wb_c0,wb_c1,wb_c2,wb_c3⟩:=kz4 hwb B (aI aK m.ver) (aI aK nx) (.slice (some ⟨g,o,none⟩) n zc) (.map (some M));obtain ⟨wb_c4,wb_c5,wb_c6,wb_c7,wb_c8,wb_c9⟩:=kb6 hwb w.heap.size 0 (aI aK z.id) 3 (aI aK z.owner) 5 (aI aK z.pend) 6 (aI aK z.tt) 7 (aS z.key) 8 (aI aK z.nw);obtain ⟨wb_c10,wb_c11,wb_c12⟩:=kb3 hwb wq.heap.size 3 (aI aK y.owner) 5 (aI aK y.pend) 8 (aI aK y.nw);have wb_b:Below w.heap.size w wb:=(by rw [hwb];exact bg);clear hwb);(have hlk:=fun g':Gr wb=>Hlk.out (gr wb g') (wb_b.trans ((a0f wb g').mono (by omega))));(refine grA ?_;(repeat (go_big_quiet_step (fail)));refine grN fun gz=>?_);(go_wp2_with fail);go_ret;exact ⟨by rw [HR.out];rfl,wb_b.trans ((a0f wb gz).mono (by omega))⟩)))
  have v1:((k':Int) != (i:Int)+1)=true:=by rw [bne_iff_ne];omega
  have v2:((k':Int) != (i:Int) - 1)=true:=by rw [bne_iff_ne];omega
  rw [decide_eq_false (by omega)] at HR
  clear q1 q2
  all_goals ((go_enter Tryz.func142,Tryz.ntmps142;(go_wp2_with fail);(refine a0d fun wa hwa=>?_;have wa_s0:=sg B hwa;have wa_s1:=sg g hwa;have wa_s2:=sg w.heap.size hwa;obtain ⟨wa_c0,wa_c1,wa_c2,wa_c3,wa_c4,wa_c5,wa_c6,wa_c7,wa_c8⟩:=kb9 hwa g (o+k' * 9) (aI aK y.id) (o+k' * 9+1) (aS y.fr) (o+k' * 9+2) (aS y.to) (o+k' * 9+3) (aI aK y.owner) (o+k' * 9+4) (aI aK y.epoch) (o+k' * 9+5) (aI aK y.pend) (o+k' * 9+6) (aI aK y.tt) (o+k' * 9+7) (aS y.key) (o+k' * 9+8) (aI aK y.nw);obtain ⟨wa_c9,wa_c10,wa_c11,wa_c12⟩:=kz4 hwa B (aI aK m.ver) (aI aK nx) (.slice (some ⟨g,o,none⟩) n zc) (.map (some M));obtain ⟨wa_c13,wa_c14,wa_c15,wa_c16,wa_c17,wa_c18⟩:=kb6 hwa w.heap.size 0 (aI aK z.id) 3 (aI aK z.owner) 5 (aI aK z.pend) 6 (aI aK z.tt) 7 (aS z.key) 8 (aI aK z.nw);have wa_b:Below w.heap.size w wa:=(by rw [hwa];exact bg);clear hwa);(have hfd:=fun g':Gr wa=>Hfd.out (gr wa g') (wa_b.trans ((a0f wa g').mono (by omega))));(refine grA ?_;(repeat (go_big_quiet_step (first | (go_at_call 144;exact a0i (hfd _)) | fail)));refine grN fun g1=>?_);(have gb:Below w.heap.size w (gr wa g1):=wa_b.trans ((a0f wa g1).mono (by omega)));(have gle:=gr_le wa g1);((obtain ⟨wq,hwq⟩:∃ wq,wq=gr wa g1:=⟨_,rfl⟩);(have wq_s0:=sg B hwq);(have wq_s1:=sg g hwq);(have wq_s2:=sg w.heap.size hwq);(obtain ⟨wq_c0,wq_c1,wq_c2,wq_c3,wq_c4,wq_c5,wq_c6,wq_c7,wq_c8⟩:=kb9 hwq g (o+k' * 9) (aI aK y.id) (o+k' * 9+1) (aS y.fr) (o+k' * 9+2) (aS y.to) (o+k' * 9+3) (aI aK y.owner) (o+k' * 9+4) (aI aK y.epoch) (o+k' * 9+5) (aI aK y.pend) (o+k' * 9+6) (aI aK y.tt) (o+k' * 9+7) (aS y.key) (o+k' * 9+8) (aI aK y.nw));(obtain ⟨wq_c9,wq_c10,wq_c11,wq_c12⟩:=kz4 hwq B (aI aK m.ver) (aI aK nx) (.slice (some ⟨g,o,none⟩) n zc) (.map (some M)));(obtain ⟨wq_c13,wq_c14,wq_c15,wq_c16,wq_c17,wq_c18⟩:=kb6 hwq w.heap.size 0 (aI aK z.id) 3 (aI aK z.owner) 5 (aI aK z.pend) 6 (aI aK z.tt) 7 (aS z.key) 8 (aI aK z.nw));(have wq_b:Below w.heap.size w wq:=(by rw [hwq];exact bg));(rw [←hwq]);clear hwq);(have wq_le:=wq_b.size);(go_wp2_with fail));go_ret;exact ⟨by rw [HR.out];rfl,wq_b⟩)
end Go.Proofs.YtogamdaomdoapaaGreat.O
namespace Go.Proofs.YtogamdaomdoapaaGreat
open Go.Value renaming int→aI,string→aS,bool→aB
open Go.IntKind renaming i64→aK
open Bool renaming eq_false_or_eq_true→bE
open Go.Lib renaming hid→uH
open Go.RowKit
def r0n (w:World) (b off:Nat) (l:List (ByteArray × ByteArray)):Prop :=
 ∀ i,(h:i<l.length)→w.cell? ⟨b,off+i * 2,none⟩=some (aS l[i].1)∧w.cell? ⟨b,off+i * 2+1,none⟩=some (aS l[i].2)
set_option maxHeartbeats 4000000 in
theorem j0p (ao:Option Addr) (cap:Nat) (w:World) :
 Calls Tryz.prog 64 #[.slice ao 0 cap] w fun e w'=>e=.returned (aB false)∧Below w.heap.size w w':=by
 go_enter Tryz.func64,Tryz.ntmps64
 go_wp2
 refine wp_loop_rounds 1 ?_
 rw [rounds_succ]
 go_wp2
 go_ret
 exact ⟨rfl,bg⟩
def RSt (l:List Sp) (k:Nat) (e:List UInt8):Prop:=(k=0→e=[])∧(1≤k→rAll l=finR (rGo e (l.drop k)))
theorem RSt_zero (l:List Sp):RSt l 0 []:=⟨fun _=>rfl,fun h=>by omega⟩
theorem z0f {l:List Sp} (h:0<l.length) (hi:isB l[0].1 l[0].2=true) (hf:l[0].1.toList=[]):RSt l 1 l[0].2.toList:=by
 refine ⟨fun h=>by omega,fun _=>?_⟩
 cases l with
 | nil=>simp at h
 | cons s r=>simp only [List.getElem_cons_zero] at hi hf;simp [rAll,hi,hf]
theorem m0b {l:List Sp} (h:0<l.length) (hb:isB l[0].1 l[0].2=false∨l[0].1.toList≠[]):rAll l=false:=by
 cases l with
 | nil=>simp at h
 | cons s r=>simp only [List.getElem_cons_zero] at hb;rcases hb with hb | hb<;>simp [rAll,hb]
theorem s0o (e:List UInt8) (l:List Sp) (k:Nat) (h:k<l.length):rGo e (l.drop k)=if isB l[k].1 l[k].2&&(l[k].1.toList==e)&&!e.isEmpty then rGo l[k].2.toList (l.drop (k+1)) else none:=by
 rw [List.drop_eq_getElem_cons h];rfl
theorem RSt_next {l:List Sp} {k:Nat} {e:List UInt8} (h:k<l.length) (h1:1≤k) (hs:RSt l k e) (hi:isB l[k].1 l[k].2=true) (hf:l[k].1.toList=e) (he:e≠[]):RSt l (k+1) l[k].2.toList :=
 ⟨fun h=>by omega,fun _=>by rw [hs.2 h1,s0o e l k h,if_pos (by simp [hi,hf,he])]⟩
theorem n0c {l:List Sp} {k:Nat} {e:List UInt8} (h:k<l.length) (h1:1≤k) (hs:RSt l k e) (hb:isB l[k].1 l[k].2=false∨l[k].1.toList≠e∨e=[]):rAll l=false:=by
 rw [hs.2 h1,s0o e l k h,if_neg]
 ·rfl
 ·rcases hb with hb | hb | hb<;>simp [hb]
theorem rAll_end {l:List Sp} {k:Nat} {e:List UInt8} (h:l.length≤k) (h1:1≤k) (hs:RSt l k e):rAll l=e.isEmpty:=by
 rw [hs.2 h1,List.drop_eq_nil_of_le h];rfl
set_option maxHeartbeats 4000000 in
theorem o0m (b off cap:Nat) (l:List Sp) (w:World) (hl:l.length≤9223372036854775807) (hr:r0n w b off l) (hpos:0<l.length) (hb:b<w.heap.size) :
 Calls Tryz.prog 64 #[.slice (some ⟨b,off,none⟩) l.length cap] w fun e w'=>e=.returned (aB (rAll l))∧Below w.heap.size w w':=by
 go_enter Tryz.func64,Tryz.ntmps64
 go_wp2
 go_loopw [3,4] (fun s i wr=>∃ (k:Nat) (e:ByteArray),k≤l.length∧i=aI aK k∧s=aS e∧Below w.heap.size w wr∧Hid (RSt l k e.toList)) (fun _ i _=>l.length - (intOf i).toNat)
 case atStart=>exact ⟨0,⟨#[]⟩,Nat.zero_le _,rfl,rfl,bg,by have:=RSt_zero l;simpa [Hid] using this⟩
 case round =>
  obtain ⟨k,e,hk,rfl,rfl,wr_b,hst⟩:=hrel
  by_cases hlt:k<l.length
  ·have h1:wr.cell? ⟨b,off+k * 2,none⟩=some (aS l[k].1):=(wr_b.cell (p:=⟨b,off+k * 2,none⟩) hb).trans (hr k hlt).1
   have h2:wr.cell? ⟨b,off+k * 2+1,none⟩=some (aS l[k].2):=(wr_b.cell (p:=⟨b,off+k * 2+1,none⟩) hb).trans (hr k hlt).2
   clear hr
   cases hi:isB l[k].1 l[k].2<;>have Hi:=uH hi<;>clear hi
   ·go_wp2_with fail
    refine (d0q l[k].1 l[k].2 _).mono ?_
    rw [Hi.out]
    rintro e1 w1 ⟨rfl,w1_h⟩
    go_wp2_with fail
    go_ret
    refine ⟨?_,wr_b.trans (w1_h.mono wr_b.size)⟩
    by_cases h0:k=0
    ·subst h0;rw [m0b hpos (.inl Hi.out)];rfl
    ·rw [n0c hlt (by omega) hst.out (.inl Hi.out)];rfl
   ·go_wp2_with fail
    refine (d0q l[k].1 l[k].2 _).mono ?_
    rw [Hi.out]
    rintro e1 w1 ⟨rfl,w1_h⟩
    obtain ⟨w1_hc,w1_hf⟩:=a0w w1_h
    have hbw:b<wr.heap.size:=Nat.lt_of_lt_of_le hb wr_b.size
    have w1_b:=wr_b.trans (w1_h.mono wr_b.size)
    clear w1_h
    go_wp2_with fail
    ·go_ret
     exact ⟨by rw [n0c hlt (by omega) hst.out (.inr (.inr (by simpa using ‹e.toList.isEmpty=true›)))];rfl,w1_b⟩
    ·go_roundw
     case rel=>exact ⟨k+1,l[k].2,by omega,by go_num,rfl,w1_b,RSt_next hlt (by omega) hst.out Hi.out ‹_› (by simpa using ‹e.toList.isEmpty=false›)⟩
     case measure=>simp [intOf];omega
    ·obtain rfl:k=0:=by omega
     go_roundw
     case rel=>exact ⟨1,l[0].2,by omega,by go_num,rfl,w1_b,z0f hlt Hi.out (by rw [‹l[0].1.toList=e.toList›];exact hst.out.1 rfl)⟩
     case measure=>simp [intOf];omega
    ·go_ret
     refine ⟨?_,w1_b⟩
     by_cases h0:k=0
     ·subst h0;rw [m0b hpos (.inr (by rw [←hst.out.1 rfl];assumption))];rfl
     ·rw [n0c hlt (by omega) hst.out (.inr (.inl ‹_›))];rfl
  ·clear hr
   have hkl:(k:Int)=l.length:=by omega
   have Hkl:=uH hkl;clear hkl
   go_wp2_with fail
   go_ret
   refine ⟨?_,bg⟩
   rw [rAll_end (by omega) (by omega) hst.out];simp;try omega
open Go.RowKit
set_option maxHeartbeats 1000000 in
theorem v0j (f t f' t':ByteArray) (w:World) :
 Calls Tryz.prog 148 #[.agg #[aS f,aS t],.agg #[aS f',aS t']] w fun e w'=>e=.returned (.tuple #[.agg #[aS (sel (d0z f t f' t') f),aS (sel (d0z f t f' t') t')],aB (d0z f t f' t')])∧Below w.heap.size w w':=by
 cases h1:isB f t<;>have H1:=uH h1<;>clear h1
 ·go_enter Tryz.func148,Tryz.ntmps148
  go_wp2_with fail
  (refine a0e fun wa hwa=>?_;have wa_s0:=sg w.heap.size hwa;have wa_s1:=sg (w.heap.size+1) hwa;have wa_s2:=sg (w.heap.size+2) hwa;obtain ⟨wa_c0,wa_c1,wa_c2,wa_c3,wa_c4,wa_c5⟩:=kk6 hwa w.heap.size 0 (aS f) w.heap.size 1 (aS t) (w.heap.size+1) 0 (aS f') (w.heap.size+1) 1 (aS t') (w.heap.size+2) 0 (aS ⟨#[]⟩) (w.heap.size+2) 1 (aS ⟨#[]⟩);obtain ⟨wa_f4,wa_f5⟩:=ff2 hwa (w.heap.size+2) 0 (w.heap.size+2) 1;have wa_b:Below w.heap.size w wa:=(by rw [hwa];exact bg);clear hwa)
  refine (g0g _ _ _).mono ?_
  rw [H1.out]
  (rintro e w1 ⟨rfl,w1_h⟩;obtain ⟨w1_hc,w1_hf⟩:=a0w w1_h;have w1_z:=w1_h.size;have w1_b:=wa_b.trans (w1_h.mono (by have:=wa_b.size;omega));have w1_le:=w1_b.size;have w1_s0:w.heap.size<w1.heap.size:=(by omega);have w1_s1:w.heap.size+1<w1.heap.size:=(by omega);have w1_s2:w.heap.size+2<w1.heap.size:=(by omega);clear w1_h)
  go_wp2_with fail
  refine bodyPost_ret (v:=.tuple #[.agg #[aS ⟨#[]⟩,aS ⟨#[]⟩],aB false]) (by simp [results,Tryz.results148,go_sem, *]) rfl ⟨?_,bg⟩
  simp [d0z,sel,H1.out]
 ·cases h2:isB f' t'<;>have H2:=uH h2<;>clear h2
  ·go_enter Tryz.func148,Tryz.ntmps148
   go_wp2_with fail
   (refine a0e fun wa hwa=>?_;have wa_s0:=sg w.heap.size hwa;have wa_s1:=sg (w.heap.size+1) hwa;have wa_s2:=sg (w.heap.size+2) hwa;obtain ⟨wa_c0,wa_c1,wa_c2,wa_c3,wa_c4,wa_c5⟩:=kk6 hwa w.heap.size 0 (aS f) w.heap.size 1 (aS t) (w.heap.size+1) 0 (aS f') (w.heap.size+1) 1 (aS t') (w.heap.size+2) 0 (aS ⟨#[]⟩) (w.heap.size+2) 1 (aS ⟨#[]⟩);obtain ⟨wa_f4,wa_f5⟩:=ff2 hwa (w.heap.size+2) 0 (w.heap.size+2) 1;have wa_b:Below w.heap.size w wa:=(by rw [hwa];exact bg);clear hwa)
   refine (g0g _ _ _).mono ?_
   rw [H1.out]
   (rintro e w1 ⟨rfl,w1_h⟩;obtain ⟨w1_hc,w1_hf⟩:=a0w w1_h;have w1_z:=w1_h.size;have w1_b:=wa_b.trans (w1_h.mono (by have:=wa_b.size;omega));have w1_le:=w1_b.size;have w1_s0:w.heap.size<w1.heap.size:=(by omega);have w1_s1:w.heap.size+1<w1.heap.size:=(by omega);have w1_s2:w.heap.size+2<w1.heap.size:=(by omega);clear w1_h)
   go_wp2_with fail
   (refine a0e fun wb hwb=>?_;have wb_s0:=sg w.heap.size hwb;have wb_s1:=sg (w.heap.size+1) hwb;have wb_s2:=sg (w.heap.size+2) hwb;obtain ⟨wb_c0,wb_c1,wb_c2,wb_c3,wb_c4,wb_c5⟩:=kk6 hwb w.heap.size 0 (aS f) w.heap.size 1 (aS t) (w.heap.size+1) 0 (aS f') (w.heap.size+1) 1 (aS t') (w.heap.size+2) 0 (aS ⟨#[]⟩) (w.heap.size+2) 1 (aS ⟨#[]⟩);obtain ⟨wb_f4,wb_f5⟩:=ff2 hwb (w.heap.size+2) 0 (w.heap.size+2) 1;have wb_b:Below w.heap.size w wb:=(by rw [hwb];exact bg);clear hwb)
   refine (g0g _ _ _).mono ?_
   rw [H2.out]
   (rintro e w2 ⟨rfl,w2_h⟩;obtain ⟨w2_hc,w2_hf⟩:=a0w w2_h;have w2_z:=w2_h.size;have w2_b:=wb_b.trans (w2_h.mono (by have:=wb_b.size;omega));have w2_le:=w2_b.size;have w2_s0:w.heap.size<w2.heap.size:=(by omega);have w2_s1:w.heap.size+1<w2.heap.size:=(by omega);have w2_s2:w.heap.size+2<w2.heap.size:=(by omega);clear w2_h)
   go_wp2_with fail
   refine bodyPost_ret (v:=.tuple #[.agg #[aS ⟨#[]⟩,aS ⟨#[]⟩],aB false]) (by simp [results,Tryz.results148,go_sem, *]) rfl ⟨?_,bg⟩
   simp [d0z,sel,H2.out]
  ·go_enter Tryz.func148,Tryz.ntmps148
   go_wp2_with fail
   (refine a0e fun wa hwa=>?_;have wa_s0:=sg w.heap.size hwa;have wa_s1:=sg (w.heap.size+1) hwa;have wa_s2:=sg (w.heap.size+2) hwa;obtain ⟨wa_c0,wa_c1,wa_c2,wa_c3,wa_c4,wa_c5⟩:=kk6 hwa w.heap.size 0 (aS f) w.heap.size 1 (aS t) (w.heap.size+1) 0 (aS f') (w.heap.size+1) 1 (aS t') (w.heap.size+2) 0 (aS ⟨#[]⟩) (w.heap.size+2) 1 (aS ⟨#[]⟩);obtain ⟨wa_f4,wa_f5⟩:=ff2 hwa (w.heap.size+2) 0 (w.heap.size+2) 1;have wa_b:Below w.heap.size w wa:=(by rw [hwa];exact bg);clear hwa)
   refine (g0g _ _ _).mono ?_
   rw [H1.out]
   (rintro e w1 ⟨rfl,w1_h⟩;obtain ⟨w1_hc,w1_hf⟩:=a0w w1_h;have w1_z:=w1_h.size;have w1_b:=wa_b.trans (w1_h.mono (by have:=wa_b.size;omega));have w1_le:=w1_b.size;have w1_s0:w.heap.size<w1.heap.size:=(by omega);have w1_s1:w.heap.size+1<w1.heap.size:=(by omega);have w1_s2:w.heap.size+2<w1.heap.size:=(by omega);clear w1_h)
   go_wp2_with fail
   (refine a0e fun wb hwb=>?_;have wb_s0:=sg w.heap.size hwb;have wb_s1:=sg (w.heap.size+1) hwb;have wb_s2:=sg (w.heap.size+2) hwb;obtain ⟨wb_c0,wb_c1,wb_c2,wb_c3,wb_c4,wb_c5⟩:=kk6 hwb w.heap.size 0 (aS f) w.heap.size 1 (aS t) (w.heap.size+1) 0 (aS f') (w.heap.size+1) 1 (aS t') (w.heap.size+2) 0 (aS ⟨#[]⟩) (w.heap.size+2) 1 (aS ⟨#[]⟩);obtain ⟨wb_f4,wb_f5⟩:=ff2 hwb (w.heap.size+2) 0 (w.heap.size+2) 1;have wb_b:Below w.heap.size w wb:=(by rw [hwb];exact bg);clear hwb)
   refine (g0g _ _ _).mono ?_
   rw [H2.out]
   (rintro e w2 ⟨rfl,w2_h⟩;obtain ⟨w2_hc,w2_hf⟩:=a0w w2_h;have w2_z:=w2_h.size;have w2_b:=wb_b.trans (w2_h.mono (by have:=wb_b.size;omega));have w2_le:=w2_b.size;have w2_s0:w.heap.size<w2.heap.size:=(by omega);have w2_s1:w.heap.size+1<w2.heap.size:=(by omega);have w2_s2:w.heap.size+2<w2.heap.size:=(by omega);clear w2_h)
   go_wp2_with fail
   rotate_left 2
   ·refine bodyPost_ret (v:=.tuple #[.agg #[aS f,aS t'],aB true]) (by simp [results,Tryz.results148,go_sem, *]) rfl ⟨?_,bg⟩
    simp_all [d0z,sel,H1.out,H2.out]
   all_goals refine bodyPost_ret (v:=.tuple #[.agg #[aS ⟨#[]⟩,aS ⟨#[]⟩],aB false]) (by simp [results,Tryz.results148,go_sem, *]) rfl ⟨?_,bg⟩
   ·simp_all [d0z,sel]
   ·simp_all [d0z,sel]
end Go.Proofs.YtogamdaomdoapaaGreat
namespace Go.Proofs.YtogamdaomdoapaaGreat.O
open Go.Value renaming int→aI,string→aS,bool→aB
open Go.IntKind renaming i64→aK
open Bool renaming eq_false_or_eq_true→bE
open Go.Lib renaming hid→uH
open Go.RowKit
set_option maxRecDepth 20000
theorem s0e (a:Sp) (l:List Sp) (k:Nat) (h:k<l.length):sGo a (l.drop k)=if d0z a.1 a.2 l[k].1 l[k].2 then sGo (a.1,l[k].2) (l.drop (k+1)) else none:=by
 rw [List.drop_eq_getElem_cons h];rfl
theorem v0s {l:List Sp} {a:Sp} {k:Nat} (hl:0<l.length) (hs:sGo l[0] l.tail=sGo a (l.drop k)) (h:k<l.length) (hj:d0z a.1 a.2 l[k].1 l[k].2=false):sAll l=false:=by
 rw [s0e a l k h,hj] at hs
 cases l with
 | nil=>simp at hl
 | cons s r=>simp only [List.getElem_cons_zero,List.tail_cons] at hs;simp [sAll,hs]
theorem sAll_end {l:List Sp} {a:Sp} {k:Nat} (hl:0<l.length) (hs:sGo l[0] l.tail=sGo a (l.drop k)) (h:l.length≤k):sAll l=endB a:=by
 rw [List.drop_eq_nil_of_le h] at hs
 cases l with
 | nil=>simp at hl
 | cons s r=>simp only [List.getElem_cons_zero,List.tail_cons,sGo] at hs;simp [sAll,hs]
set_option maxHeartbeats 4000000 in
theorem m0v (b off cap:Nat) (l:List Sp) (w:World) (hl:l.length≤9223372036854775807) (hr:r0n w b off l) (hpos:0<l.length) (hb:b<w.heap.size) :
 Calls Tryz.prog 139 #[.slice (some ⟨b,off,none⟩) l.length cap] w fun e w'=>e=.returned (aB (sAll l))∧Below w.heap.size w w':=by
 go_enter Tryz.func139,Tryz.ntmps139
 go_wp2
 go_loopw [10] (fun i wr=>∃ (k:Nat) (a:Sp),k≤l.length∧i=aI aK k∧Below w.heap.size w wr∧w.heap.size<wr.heap.size∧wr.cell? ⟨w.heap.size,0,none⟩=some (aS a.1)∧wr.cell? ⟨w.heap.size,1,none⟩=some (aS a.2)∧wr.frozen? ⟨w.heap.size,0,none⟩=false∧wr.frozen? ⟨w.heap.size,1,none⟩=false∧Hid ((k=0→a=(⟨#[]⟩,⟨#[]⟩))∧(1≤k→sGo l[0] l.tail=sGo a (l.drop k)))) (fun i _=>l.length - (intOf i).toNat)
 case atStart=>exact ⟨0,(⟨#[]⟩,⟨#[]⟩),Nat.zero_le _,rfl,bg,by simp,by simp [go_sem],by simp [go_sem],by simp [go_sem],by simp [go_sem],⟨fun _=>rfl,fun h=>by omega⟩⟩
 case round =>
  obtain ⟨k,a,hk,rfl,wr_b,hs,ha1,ha2,hf1,hf2,hst⟩:=hrel
  have Hr:=uH hr
  by_cases hlt:k<l.length
  ·have h1:wr.cell? ⟨b,off+k * 2,none⟩=some (aS l[k].1):=(wr_b.cell (p:=⟨b,off+k * 2,none⟩) hb).trans (hr k hlt).1
   have h2:wr.cell? ⟨b,off+k * 2+1,none⟩=some (aS l[k].2):=(wr_b.cell (p:=⟨b,off+k * 2+1,none⟩) hb).trans (hr k hlt).2
   clear hr
   by_cases h0:k=0
   ·subst h0
    simp only [Nat.zero_mul,Nat.add_zero] at h1 h2
    go_wp2_with fail
    go_roundw
    case rel=>exact ⟨1,l[0],by omega,by go_num,bg,by simp;omega,by go_simp,by go_simp,by go_simp,by go_simp,⟨fun h=>by omega,fun _=>by rw [List.drop_one]⟩⟩
    case measure=>simp [intOf];omega
   ·have hk0:((k:Int)==0)=false:=by simp;omega
    go_wp2_with fail
    (refine a0e fun wa hwa=>?_;have wa_s0:=sg w.heap.size hwa;have wa_s1:=sg wr.heap.size hwa;obtain ⟨wa_c0,wa_c1,wa_c2,wa_c3⟩:=kk4 hwa w.heap.size 0 (aS a.1) w.heap.size 1 (aS a.2) wr.heap.size 0 (aS l[k].1) wr.heap.size 1 (aS l[k].2);obtain ⟨wa_f0,wa_f1⟩:=ff2 hwa w.heap.size 0 w.heap.size 1;have wa_b:Below w.heap.size w wa:=(by rw [hwa];exact bg);clear hwa)
    refine (v0j a.1 a.2 l[k].1 l[k].2 _).mono ?_
    (rintro e w1 ⟨rfl,w1_h⟩;obtain ⟨w1_hc,w1_hf⟩:=a0w w1_h;have w1_z:=w1_h.size;have w1_b:=wa_b.trans (w1_h.mono (by have:=wa_b.size;omega));have w1_le:=w1_b.size;have w1_s0:w.heap.size<w1.heap.size:=(by omega);have w1_s1:wr.heap.size<w1.heap.size:=(by omega);clear w1_h)
    cases hj:d0z a.1 a.2 l[k].1 l[k].2
    ·simp only [sel]
     go_wp2_with fail
     go_ret
     exact ⟨by rw [v0s hpos (hst.out.2 (by omega)) hlt hj];rfl,bg⟩
    ·simp only [sel,if_true]
     go_wp2_with fail
     go_roundw
     case rel=>exact ⟨k+1,(a.1,l[k].2),by omega,by go_num,bg,by simp;omega,by go_simp,by go_simp,by go_simp,by go_simp,⟨fun h=>by omega,fun _=>by rw [hst.out.2 (by omega),s0e a l k hlt,if_pos hj]⟩⟩
     case measure=>simp [intOf];omega
  ·clear hr
   have hkl:(k:Int)=l.length:=by omega
   have Hkl:=uH hkl;clear hkl
   go_wp2_with fail
   (refine a0e fun wa hwa=>?_;have wa_s0:=sg w.heap.size hwa;obtain ⟨wa_c0,wa_c1⟩:=kk2 hwa w.heap.size 0 (aS a.1) w.heap.size 1 (aS a.2);have wa_b:Below w.heap.size w wa:=(by rw [hwa];exact bg);clear hwa)
   refine (g0g a.1 a.2 _).mono ?_
   (rintro e w1 ⟨rfl,w1_h⟩;obtain ⟨w1_hc,w1_hf⟩:=a0w w1_h;have w1_z:=w1_h.size;have w1_b:=wa_b.trans (w1_h.mono (by have:=wa_b.size;omega));have w1_le:=w1_b.size;have w1_s0:w.heap.size<w1.heap.size:=(by omega);clear w1_h)
   go_wp2_with fail
   all_goals go_ret
   all_goals (refine ⟨?_,bg⟩;rw [sAll_end hpos (hst.out.2 (by omega)) (by omega)];simp [endB, *])
end Go.Proofs.YtogamdaomdoapaaGreat.O