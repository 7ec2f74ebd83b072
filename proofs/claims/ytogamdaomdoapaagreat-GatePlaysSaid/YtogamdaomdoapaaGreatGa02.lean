/- Texts put together: Foot, Wr, Nums, Raw, Rws, WrRows, Known. -/
import Derived.Test.YtogamdaomdoapaaGreatGa01
import Derived.ArgAppend
import Derived.Deep.AppendLies
import Derived.Lib.MinMax
import Derived.Lib.SlBytesConst
import Derived.Lib.SmallJoins
namespace Go.Proofs.YtogamdaomdoapaaGreat
open Go.Value renaming int→aI
open Go.IntKind renaming i64→aK
open List renaming length_append→lL
open Go.Lib renaming hid→uH
open Go.RowKit
theorem u0j {w w':World} {row:Option Nat} (h:w.grownBy w' none):w.grownBy w' row:=⟨h.os,h.tape,h.output,h.size,fun k hk _=>h.block k hk (by simp)⟩
theorem w0t {w:World} {b b':Nat} {e:TypeId} {size n:Nat} {v:Value} {xs:List Value} (h:w.ownsRow b e size v n xs) (hb:b'≤b):w.ownsRow b' e size v n xs:=by
 refine ⟨h.1,?_⟩
 rcases h.2 with h | ⟨g,cap,cur,h1,h2,h3⟩
 ·exact .inl h
 ·exact .inr ⟨g,cap,cur,h1,Nat.le_trans hb h2,h3⟩
theorem t0v {w:World} {b:Nat} {e:TypeId} {size n:Nat} {v:Value} {xs:List Value} (h:w.ownsRow b e size v n xs):∃ ao cap,v=.slice ao n cap∧∀ g,ao=some g→b≤g.block:=by
 rcases h.2 with ⟨h1,h2⟩ | ⟨g,cap,cur,h1,h2,-⟩
 ·exact ⟨none,0,by rw [h1,h2],fun g hg=>by cases hg⟩
 ·exact ⟨_,cap,h1,fun g' hg=>by simp only [Option.some.injEq] at hg;subst hg;exact h2⟩
theorem a0h {P:Program} (w:World) {ops:Array Oper} {rest:List Oper} {o:Oper} {a:Act} {Q:Exit→Act→World→Prop} (hgd:o.guard=none) (s x:Operand) (t:TypeId)
 (ho:o.op=.call { callee:=.builtin .append,args:=#[s,x],argTypes:=#[t,t] })
 (base:Nat) (e:TypeId) (i:TypeInfo) (z:Value) (size bytes:Nat) (ht:P.underlying t=some (.slice e)) (hi:P.info? e=some i) (hz:i.zero=some z)
 (hsize:i.size=size) (hby:i.bytes=bytes) (hzs:z.cells.size=size) (hsz:0<size)
 (ao:Option Addr) (n cap:Nat) (xs:List Value) (hs:a.eval s=.slice ao n cap) (hown:w.ownsRow base e size (.slice ao n cap) n xs)
 (bo:Option Addr) (m c:Nat) (news:List Value) (hx:a.eval x=.slice bo m c) (hnone:bo=none→m=0∧c=0) (hl:news.length=m * size) (hnews:∀ ad,bo=some ad→∀ j u,news[j]?=some u→w.cell? (ad.add j)=some u) (h1:∀ u∈news,u.oneCell'=true)
 (h63:n+m≤maxLen) (hbytes:(n+m) * bytes≤140737488355328) (hbase:base≤w.heap.size)
 (h:∀ co c' w',w'.ownsRow base e size (.slice co (n+m) c') (n+m) (xs++news)→w.grownBy w' (Value.slice ao n cap).ownBlock→(∀ g,co=some g→ao=some g∨w.heap.size≤g.block)→wpList P ops Q rest (a.put o.dst (.slice co (n+m) c')) w'):wpList P ops Q (o::rest) a w:=by
 cases bo with
 | none =>
  obtain ⟨rfl,rfl⟩:=hnone rfl
  have hn:news=[]:=by cases news with
   | nil=>rfl
   | cons y r=>simp at hl
  subst hn
  refine wpList_append_own_none hgd s x t ho base e i size ht hi _ n xs hs hown hx ?_
  exact h ao cap w (by simpa using hown) (World.grownBy.refl _ _) (fun g hg=>.inl hg)
 | some ad =>
  by_cases hfit:n+m≤cap
  ·rcases hown.2 with ⟨hv,h0⟩ | ⟨g,cap',cur,hv,-⟩
   ·simp only [Value.slice.injEq] at hv
    obtain ⟨rfl,rfl,rfl⟩:=hv
    have hm:m=0:=by omega
    subst hm
    refine wpList_append_own w hgd s x t ho base e i z size bytes ht hi hz hsize hby hzs hsz _ 0 xs hs hown ad 0 c news hx hl (hnews ad rfl) h1 h63 hbytes hbase fun v' w' a b ci=>?_
    have hv':=ci.2 ⟨rfl,rfl⟩
    subst hv'
    exact h none 0 w' a b (fun g hg=>by cases hg)
   ·simp only [Value.slice.injEq] at hv
    obtain ⟨rfl,-,rfl⟩:=hv
    exact wpList_append_fits w hgd s x t ho base e i size ht hi hsize g n _ xs hs hown ad m c news hx hl (hnews ad rfl) h1 hfit fun w' a b=>h _ _ w' a b (fun g hg=>.inl hg)
  ·have hnn:ao=none→n=0∧cap=0:=by
    intro e
    subst e
    rcases hown.2 with ⟨hv,h0⟩ | ⟨g,cap',cur,hv,-⟩
    ·simp only [Value.slice.injEq] at hv;exact ⟨h0,hv.2.2⟩
    ·simp at hv
   refine wpList_append_grows w hgd s x t ho e i z size bytes ht hi hz hsize hby hzs hsz ao n cap xs hs hnn hown.1 ?_ ad m c news hx hl (hnews ad rfl) h1 (by omega) h63 hbytes fun v' w' a b=>?_
   ·intro b hb j u hu
    subst hb
    rcases hown.2 with ⟨hv,-⟩ | ⟨g,cap',cur,hv,-⟩
    ·simp at hv
    ·simp only [Value.slice.injEq,Option.some.injEq] at hv
     obtain ⟨rfl,-,rfl⟩:=hv
     have hj:j<n * size:=by rw [←hown.1];exact (List.getElem?_eq_some_iff.1 hu).1
     rw [c0q,Nat.zero_add,hown.cellAt j hj,hu]
   ·obtain ⟨co,c',rfl,hco⟩:=t0v a
    exact h co c' w' (w0t a hbase) (u0j b) (fun g hg=>.inr (hco g hg))
theorem d0o {P:Program} (w:World) {ops:Array Oper} {o:Oper} {a:Act} {K:Act→World→Prop} {Q:Exit→Act→World→Prop} {E:Prop} (hgd:o.guard=none) (s x:Operand) (t:TypeId)
 (ho:o.op=.call { callee:=.builtin .append,args:=#[s,x],argTypes:=#[t,t] })
 (base:Nat) (e:TypeId) (i:TypeInfo) (z:Value) (size bytes:Nat) (ht:P.underlying t=some (.slice e)) (hi:P.info? e=some i) (hz:i.zero=some z)
 (hsize:i.size=size) (hby:i.bytes=bytes) (hzs:z.cells.size=size) (hsz:0<size)
 (v:Value) (n:Nat) (xs:List Value) (hs:a.eval s=v) (hown:w.ownsRow base e size v n xs)
 (ao:Option Addr) (m c:Nat) (news:List Value) (hx:a.eval x=.slice ao m c) (hnone:ao=none→m=0∧c=0) (hl:news.length=m * size) (hnews:∀ ad,ao=some ad→∀ j u,news[j]?=some u→w.cell? (ad.add j)=some u) (h1:∀ u∈news,u.oneCell'=true)
 (h63:n+m≤maxLen) (hbytes:(n+m) * bytes≤140737488355328) (hbase:base≤w.heap.size)
 (h:∀ v' w',w'.ownsRow base e size v' (n+m) (xs++news)→w.grownBy w' v.ownBlock→K (a.put o.dst v') w') :
 if Region.wanted o (yielded ops a.tmps)=true then Oper.wp P o a w K Q else E:=by
 have hw:Region.wanted o (yielded ops a.tmps)=true:=by simp [Region.wanted,hgd]
 rw [if_pos hw]
 cases ao with
 | none =>
  obtain ⟨rfl,rfl⟩:=hnone rfl
  have hn:news=[]:=by cases news with
   | nil=>rfl
   | cons y r=>simp at hl
  subst hn
  have hrun:=run_append_owned_none (P:=P) (w:=w) base t o.type e i size ht hi v n xs hown
  unfold Oper.wp execOp
  simp only [ho,resolve,invoke,builtin,Sem.run_bind,Sem.run_pure,Result.andThen_ok,List.map_toArray,List.map_cons,List.map_nil,hs,hx,hrun]
  exact h v w (by simpa using hown) ⟨rfl,rfl,rfl,Nat.le_refl _,fun _ _ _=>rfl⟩
 | some ad =>
  exact wp_append_own w s x t ho base e i z size bytes ht hi hz hsize hby hzs hsz v n xs hs hown ad m c news hx hl (hnews ad rfl) h1 h63 hbytes hbase fun v' w' a b _=>h v' w' a b
open Go.RowKit
set_option maxRecDepth 20000
def WrAt (w:World) (p base:Nat) (l:List UInt8) (o:Option Nat):Prop:=∃ ao cap,w.heap[p]?=some (.cells #[.slice ao l.length cap] 134 (0,0))∧OwnB w base ao cap l∧o=(Value.slice ao l.length cap).ownBlock∧o≠some p
def Foot (p:Nat) (o:Option Nat):Nat→Prop:=fun x=>x=p∨o=some x
def WInv (w wr:World) (p base:Nat) (o:Option Nat) (full rest:List UInt8):Prop:=∃ cur o',WrAt wr p base cur o'∧cur++rest=full∧Keeps w wr (Foot p o)∧(∀ g,o'=some g→o=some g∨w.heap.size≤g)
theorem WrAt.lt {w:World} {p base:Nat} {l:List UInt8} {o:Option Nat} (h:WrAt w p base l o):p<w.heap.size:=by
 obtain ⟨ao,cap,h1,-⟩:=h
 exact lt_of_block h1
theorem WrAt.d0a {w:World} {p base:Nat} {l:List UInt8} {o:Option Nat} (h:WrAt w p base l o):∀ g,o=some g→g<w.heap.size∧base≤g:=by
 obtain ⟨ao,cap,-,h2,h3,-⟩:=h
 intro g hg
 rw [h3] at hg
 rcases h2.2 with ⟨hv,-⟩ | ⟨g',c,cur,hv,hb,hh,-⟩
 ·rw [hv] at hg;simp [Value.ownBlock] at hg
 ·rw [hv] at hg
  simp only [Value.ownBlock,Option.some.injEq] at hg
  subst hg
  exact ⟨lt_of_block hh,hb⟩
theorem WInv.start {w:World} {p base:Nat} {o:Option Nat} {l rest:List UInt8} (h:WrAt w p base l o):WInv w w p base o (l++rest) rest:=⟨l,o,h,rfl,Keeps.refl _ _,fun _ hg=>.inl hg⟩
theorem WInv.more {w wr:World} {p base:Nat} {o:Option Nat} {full rest more:List UInt8} (h:WInv w wr p base o full rest):WInv w wr p base o (full++more) (rest++more):=by
 obtain ⟨cur,o',h1,h2,h3⟩:=h
 exact ⟨cur,o',h1,by rw [←List.append_assoc,h2],h3⟩
theorem WInv.step {w wr wx w1:World} {p base:Nat} {o:Option Nat} {cur news rest full:List UInt8} {ao co:Option Addr} {cap c':Nat}
 (hp:wr.heap[p]?=some (.cells #[.slice ao cur.length cap] 134 (0,0))) (hne:(Value.slice ao cur.length cap).ownBlock≠some p) (hfull:cur++(news++rest)=full) (hk:Keeps w wr (Foot p o))
 (ho:∀ g,(Value.slice ao cur.length cap).ownBlock=some g→o=some g∨w.heap.size≤g) (hx:Keeps wr wx (fun _=>False))
 (hown:w1.ownsRow base 5 1 (.slice co (cur.length+news.length) c') (cur.length+news.length) (bytV cur++bytV news)) (hg:wx.grownBy w1 (Value.slice ao cur.length cap).ownBlock)
 (hco:∀ g,co=some g→ao=some g∨wx.heap.size≤g.block) :
 WInv w (w1.setCell ⟨p,0,none⟩ (.slice co (cur.length+news.length) c')) p base o full rest∧w1.cell? ⟨p,0,none⟩=some (.slice ao cur.length cap)∧w1.frozen? ⟨p,0,none⟩=false:=by
 have hlt:=lt_of_block hp
 have hpx:wx.heap[p]?=some (.cells #[.slice ao cur.length cap] 134 (0,0)):=(hx.block p hlt (fun h=>h)).trans hp
 have hp1:w1.heap[p]?=some (.cells #[.slice ao cur.length cap] 134 (0,0)):=(hg.block p (lt_of_block hpx) (fun h=>hne h.symm)).trans hpx
 refine ⟨?_,cell_of_one hp1,free_of_one hp1⟩
 have hcne:(Value.slice co (cur.length+news.length) c').ownBlock≠some p:=by
  intro h
  cases co with
  | none=>simp [Value.ownBlock] at h
  | some g =>
   simp only [Value.ownBlock,Option.some.injEq] at h
   rcases hco g rfl with h1 | h1
   ·subst h1;exact hne (by simp [Value.ownBlock,h])
   ·have:=hx.size;omega
 have hs:=hx.size
 have hs1:=hg.size
 refine ⟨cur++news,(Value.slice co (cur.length+news.length) c').ownBlock,⟨co,c',?_,?_,?_,hcne⟩,by rw [List.append_assoc];exact hfull,?_,?_⟩
 ·rw [lL];exact one_setCell hp1
 ·unfold OwnB
  rw [lL,←a0y]
  exact ownsRow_setCell_other hown hcne _
 ·rw [lL]
 ·refine ⟨hg.os.trans (hx.os.trans hk.os),hg.tape.trans (hx.tape.trans hk.tape),hg.output.trans (hx.output.trans hk.output),by have:=hk.size;simp [World.setCell];omega,fun k hk1 hn=>?_⟩
  have hk2:=hk.size
  rw [Below.heap_setCell _ _ _ _ (fun e=>hn (.inl e))]
  rw [hg.block k (by omega) (fun e=>?_),hx.block k (by omega) (fun h=>h),hk.block k hk1 hn]
  rcases ho k e.symm with h | h
  ·exact hn (.inr h)
  ·omega
 ·intro g hgg
  cases co with
  | none=>simp [Value.ownBlock] at hgg
  | some a =>
   simp only [Value.ownBlock,Option.some.injEq] at hgg
   rcases hco a rfl with h | h
   ·exact ho g (by rw [h];simp [Value.ownBlock,hgg])
   ·right;have:=hk.size;omega
open Go.RowKit
set_option maxRecDepth 20000
def IRow (w:World) (b off:Nat) (l:List Int):Prop:=∀ i,(h:i<l.length)→w.cell? ⟨b,off+i,none⟩=some (aI aK l[i])
theorem n0w:∀ m:Fin 256,bits BinOp.or IntKind.u8 ((m.val:Nat):Int) 128=((m.val % 128+128:Nat):Int):=by decide +kernel
theorem p0w (q:Nat):bits BinOp.or IntKind.u8 ((q:Int) % 256) 128=((UInt8.ofNat (q % 128+128)).toNat:Int):=by
 have h:=n0w ⟨q % 256,by omega⟩
 simp only at h
 rw [show ((q % 256:Nat):Int)=(q:Int) % 256 from by omega] at h
 rw [h]
 simp
 omega
set_option maxHeartbeats 4000000 in
theorem k0x (p base:Nat) (l:List UInt8) (o:Option Nat) (b off cv:Nat) (vs:List Int) (w:World) (hw:WrAt w p base l o) (hr:IRow w b off vs) (hb:b<w.heap.size) (hbp:b≠p) (hbo:o≠some b) (hbase:base≤w.heap.size) (hm:l.length+10 * vs.length≤140737488351232) :
 Calls Tryz.prog 70 #[.pointer (some ⟨p,0,none⟩),.slice (some ⟨b,off,none⟩) vs.length cv] w fun e w'=>e=.returned (.tuple #[])∧WInv w w' p base o (l++encs vs) []:=by
 have Hw:=uH hw
 have Hr:=uH hr
 have Hbo:=uH hbo
 clear hw hr hbo
 obtain ⟨i0,hi,hz0,hz1,hz2⟩:=info_parts c0h
 go_enter Tryz.func70,Tryz.ntmps70
 go_wp2_with fail
 go_loopw [11] (fun i wr=>∃ k:Nat,k≤vs.length∧i=aI aK k∧Hid (WInv w wr p base o (l++encs (vs.take k)) [])) (fun i _=>vs.length - (intOf i).toNat)
 case atStart=>exact ⟨0,Nat.zero_le _,rfl,(by have:=WInv.start (rest:=[]) Hw.out;simpa [encs,Hid] using this)⟩
 case round =>
  obtain ⟨k,hk,rfl,hst⟩:=hrel
  obtain ⟨wo,rfl⟩:∃ wo:World,wo=wr:=⟨_,rfl⟩
  by_cases hlt:k<vs.length
  ·have hcv:wo.cell? ⟨b,off+k,none⟩=some (aI aK vs[k]):=by
    obtain ⟨-,-,-,-,hkp,-⟩:=hst.out
    exact (hkp.cell (p:=⟨b,_,none⟩) hb (fun h=>h.elim hbp (fun h=>Hbo.out h))).trans (Hr.out k hlt)
   obtain ⟨v,hv⟩:∃ v,v=vs[k]:=⟨_,rfl⟩
   rw [←hv] at hcv
   have Hv:=uH hv
   clear hv
   obtain ⟨u,hu⟩:∃ u,u=a0l v:=⟨_,rfl⟩
   have hmm:=y0o v
   have hule:=c0x v
   rw [←hu] at hmm hule
   have Hu:=uH hu
   clear hu
   go_wp2_with fail
   go_loopw [6] (fun s6 wr=>∃ q:Nat,s6=.int .u64 q∧q≤4611686018427387904∧Hid (WInv w wr p base o (l++encs (vs.take k)++encN u) (encN q))) (fun s6 _=>(intOf s6).toNat)
   case atStart=>exact ⟨u,rfl,hule,by have:=hst.out.more (more:=encN u);simpa [Hid] using this⟩
   case round =>
    obtain ⟨q,rfl,hq62,hsi⟩:=hrel
    obtain ⟨cur,o1,⟨ao,cap,hheap,hown,ho1,hne⟩,hfull,hkp,hfr⟩:=hsi.out
    have hcell:=cell_of_one hheap
    have hfree:=free_of_one hheap
    have hlen:cur.length+1≤140737488351232:=by
     have h1:=congrArg List.length hfull
     have h2:=a0m (vs.take k)
     have h3:=(a0o u).1
     have h4:=(a0o q).2
     have h5:(vs.take k).length≤k:=List.length_take_le _ _
     simp only [lL] at h1
     omega
    have Hheap:=uH hheap
    have Hown:=uH hown
    have Ho1:=uH ho1
    have Hne:=uH hne
    have Hfull:=uH hfull
    have Hfr:=uH hfr
    have Hkp:=uH hkp
    clear hheap hown ho1 hne hfull hfr hkp
    by_cases hq:(128:Int)≤q
    ·obtain ⟨c,hc⟩:∃ c:UInt8,c=UInt8.ofNat (q % 128+128):=⟨_,rfl⟩
     have hbits:=p0w q
     rw [←hc] at hbits
     have Hc:=uH hc
     clear hc
     go_wp2_with (at_builtin;go_must (refine a0h _ rfl (.tmp 27) (.tmp 31) 47 rfl base 5 i0 (aI .u8 0) 1 1 Tryz.underlying47 hi hz0 hz1 hz2 rfl (by decide) ao cur.length cap (bytV cur) rfl (Hown.out.alloc _) (some ⟨wr.heap.size,0,none⟩) 1 1 (bytV [c]) rfl (fun h=>by cases h) rfl (one_cell _ _ _ _ rfl) (a0x [c]) (by unfold maxLen;omega) (by omega) (by have:=Hkp.out.size;simp;omega) ?_))
     intro co c' w1 hown1 hgrow1 hco1
     have hstep:=WInv.step (full:=l++encs (vs.take k)++encN u) (news:=[c]) (rest:=encN (q / 128)) Hheap.out (by rw [←Ho1.out];exact Hne.out) (by rw [←Hfull.out,h0a (n:=q) (by omega) hq62,←Hc.out];rfl) Hkp.out (by rw [←Ho1.out];exact Hfr.out) (Keeps.f0d ((Below.refl _ _).alloc (Nat.le_refl _) _) (Nat.le_refl _) _) hown1 hgrow1 (by simpa using hco1)
     obtain ⟨hinv,hc1,hf1⟩:=hstep
     have Hinv:=uH hinv
     clear hown1 hgrow1 hco1 hinv hcell hfree
     go_wp2_with fail
     go_roundw
     case rel=>exact ⟨q / 128,rfl,by omega,Hinv.out⟩
     case measure=>simp [intOf];omega
    ·obtain ⟨c,hc⟩:∃ c:UInt8,c=UInt8.ofNat q:=⟨_,rfl⟩
     have hcq:(q:Int)=(c.toNat:Int):=by rw [hc];simp;omega
     have Hc:=uH hc
     have Hcq:=uH hcq
     clear hc hcq
     go_wp2_with (at_builtin;go_must (refine a0h _ rfl (.tmp 39) (.tmp 42) 47 rfl base 5 i0 (aI .u8 0) 1 1 Tryz.underlying47 hi hz0 hz1 hz2 rfl (by decide) ao cur.length cap (bytV cur) rfl (Hown.out.alloc _) (some ⟨wr.heap.size,0,none⟩) 1 1 (bytV [c]) rfl (fun h=>by cases h) rfl (one_cell _ _ _ _ Hcq.out) (a0x [c]) (by unfold maxLen;omega) (by omega) (by have:=Hkp.out.size;simp;omega) ?_))
     intro co c' w1 hown1 hgrow1 hco1
     have hstep:=WInv.step (full:=l++encs (vs.take k)++encN u) (news:=[c]) (rest:=[]) Hheap.out (by rw [←Ho1.out];exact Hne.out) (by rw [←Hfull.out,e0s (n:=q) (by omega),←Hc.out];rfl) Hkp.out (by rw [←Ho1.out];exact Hfr.out) (Keeps.f0d ((Below.refl _ _).alloc (Nat.le_refl _) _) (Nat.le_refl _) _) hown1 hgrow1 (by simpa using hco1)
     obtain ⟨hinv,hc1,hf1⟩:=hstep
     have Hinv:=uH hinv
     clear hown1 hgrow1 hco1 hinv hcell hfree
     go_wp2_with fail
     go_roundw
     case rel=>exact ⟨k+1,by omega,by go_num,by have:=Hinv.out;rw [Hu.out,Hv.out,List.append_assoc,←p0l vs k hlt] at this;exact this⟩
     case measure=>simp [intOf];omega
  ·go_wp2_with fail
   go_end0
   exact ⟨rfl,by have:=hst.out;rwa [List.take_of_length_le (by omega)] at this⟩
open Go.RowKit
set_option maxRecDepth 20000
theorem WrAt.open {w:World} {p base:Nat} {l:List UInt8} {o:Option Nat} (h:WrAt w p base l o):∃ ao cap,w.heap[p]?=some (.cells #[.slice ao l.length cap] 134 (0,0))∧OwnB w base ao cap l∧o=(Value.slice ao l.length cap).ownBlock∧(Value.slice ao l.length cap).ownBlock≠some p:=by
 obtain ⟨ao,cap,h1,h2,h3,h4⟩:=h
 exact ⟨ao,cap,h1,h2,h3,h3▸h4⟩
set_option maxHeartbeats 4000000 in
theorem raw_any (p base:Nat) (l:List UInt8) (o:Option Nat) (bo:Option Addr) (cb:Nat) (bs:List UInt8) (w:World) (hw:WrAt w p base l o) (h0:bo=none→bs.length=0∧cb=0) (hb:BAt w bo bs) (hbase:base≤w.heap.size) (hm:l.length+bs.length≤140737488351232) :
 Calls Tryz.prog 114 #[.pointer (some ⟨p,0,none⟩),.slice bo bs.length cb] w fun e w'=>e=.returned (.tuple #[])∧WInv w w' p base o (l++bs) []:=by
 obtain ⟨ao,cap,hheap,hown,ho1,hne⟩:=hw.open
 have hcell:=cell_of_one hheap
 have hfree:=free_of_one hheap
 have Hheap:=uH hheap
 have Hown:=uH hown
 have Ho1:=uH ho1
 have Hne:=uH hne
 have Hb:=uH hb
 have H0:=uH h0
 clear hheap hown ho1 hne hw hb h0
 obtain ⟨i0,hi,hz0,hz1,hz2⟩:=info_parts c0h
 go_enter Tryz.func114,Tryz.ntmps114
 go_wp2_with (at_builtin;go_must (refine a0h _ rfl (.tmp 10) (.tmp 11) 47 rfl base 5 i0 (aI .u8 0) 1 1 Tryz.underlying47 hi hz0 hz1 hz2 rfl (by decide) ao l.length cap (bytV l) rfl Hown.out bo bs.length cb (bytV bs) rfl H0.out (by rw [a0u,Nat.mul_one]) Hb.out.cells (a0x bs) (by unfold maxLen;omega) (by omega) hbase ?_))
 intro co c' w1 hown1 hgrow1 hco1
 have hstep:=WInv.step (full:=l++bs) (o:=o) (news:=bs) (rest:=[]) Hheap.out Hne.out (by simp) (Keeps.refl w _) (by rw [←Ho1.out];exact fun g hg=>.inl hg) (Keeps.refl w _) hown1 hgrow1 hco1
 obtain ⟨hinv,hc1,hf1⟩:=hstep
 have Hinv:=uH hinv
 clear hown1 hgrow1 hco1 hinv hcell hfree
 go_wp2_with fail
 go_end0
 exact ⟨rfl,Hinv.out⟩
theorem f0i (p base:Nat) (l:List UInt8) (o:Option Nat) (w:World) (hw:WrAt w p base l o) (hm:l.length≤140737488351232) :
 Calls Tryz.prog 78 #[.pointer (some ⟨p,0,none⟩)] w (d0b w l):=by
 obtain ⟨ao,cap,hheap,hown,ho1,hne⟩:=hw.open
 have hcell:=cell_of_one hheap
 have Hown:=uH hown
 clear hheap hown ho1 hne hw
 go_enter Tryz.func78,Tryz.ntmps78
 go_wp2_with fail
 refine (i0q ao cap l _ Hown.out.none Hown.out.at hm).mono ?_
 rintro e w1 ⟨bo,c,rfl,ho,hb⟩
 go_wp2_with fail
 go_ret
 exact ⟨bo,c,rfl,ho,hb⟩
open Go.RowKit
structure RowR where
 ao:Option Addr
 cap:Nat
 bs:List UInt8
def BIn (w:World) (D:Nat→Prop) (ao:Option Addr) (l:List UInt8):Prop:=0<l.length→∃ b off,ao=some ⟨b,off,none⟩∧b<w.heap.size∧D b∧BRow w b off l
structure RAt (w:World) (D:Nat→Prop) (b o:Nat) (r:RowR):Prop where
 c:w.cell? ⟨b,o,none⟩=some (.slice r.ao r.bs.length r.cap)
 le:r.bs.length≤r.cap
 cm:r.cap≤9223372036854775807
 n0:r.ao=none→r.bs.length=0∧r.cap=0
 at_:BIn w D r.ao r.bs
def RsAt (w:World) (D:Nat→Prop) (ao:Option Addr) (L:List RowR):Prop:=0<L.length→∃ b off,ao=some ⟨b,off,none⟩∧b<w.heap.size∧D b∧∀ i,(hi:i<L.length)→RAt w D b (off+i) L[i]
def c0g (L:List RowR):List UInt8:=L.flatMap (·.bs)
theorem BIn.at {w:World} {D:Nat→Prop} {ao:Option Addr} {l:List UInt8} (h:BIn w D ao l):BAt w ao l:=fun hp =>
 let ⟨b,off,e,hb,_,hr⟩:=h hp
 ⟨b,off,e,hb,hr⟩
theorem BIn.keeps {w w':World} {D S:Nat→Prop} {ao:Option Addr} {l:List UInt8} (h:BIn w D ao l) (k:Keeps w w' S) (hD:∀ x,D x→¬S x):BIn w' D ao l:=fun hp =>
 let ⟨b,off,e,hb,hd,hr⟩:=h hp
 ⟨b,off,e,Nat.lt_of_lt_of_le hb k.size,hd,hr.keeps hb k (hD b hd)⟩
theorem BIn.weak {w:World} {D E:Nat→Prop} {ao:Option Addr} {l:List UInt8} (h:BIn w D ao l) (hE:∀ x,x<w.heap.size→D x→E x):BIn w E ao l:=fun hp =>
 let ⟨b,off,e,hb,hd,hr⟩:=h hp
 ⟨b,off,e,hb,hE b hb hd,hr⟩
theorem BAt.in {w:World} {ao:Option Addr} {l:List UInt8} (h:BAt w ao l):BIn w (fun x=>x<w.heap.size) ao l:=fun hp =>
 let ⟨b,off,e,hb,hr⟩:=h hp
 ⟨b,off,e,hb,hb,hr⟩
theorem RAt.keeps {w w':World} {D S:Nat→Prop} {b o:Nat} {r:RowR} (h:RAt w D b o r) (k:Keeps w w' S) (hD:∀ x,D x→¬S x) (hb:b<w.heap.size) (hd:D b):RAt w' D b o r :=
 ⟨(k.cell (p:=⟨b,o,none⟩) hb (hD b hd)).trans h.c,h.le,h.cm,h.n0,h.at_.keeps k hD⟩
theorem RsAt.keeps {w w':World} {D S:Nat→Prop} {ao:Option Addr} {L:List RowR} (h:RsAt w D ao L) (k:Keeps w w' S) (hD:∀ x,D x→¬S x):RsAt w' D ao L:=fun hp =>
 let ⟨b,off,e,hb,hd,hr⟩:=h hp
 ⟨b,off,e,Nat.lt_of_lt_of_le hb k.size,hd,fun i hi=>(hr i hi).keeps k hD hb hd⟩
theorem e0r {w w':World} (h:Below w.heap.size w w') (S:Nat→Prop):Keeps w w' S:=Keeps.f0d h (Nat.le_refl _) S
theorem RsAt.grow {w w':World} {D:Nat→Prop} {ao:Option Addr} {L:List RowR} (h:RsAt w D ao L) (b:Below w.heap.size w w'):RsAt w' D ao L:=h.keeps (e0r b (fun _=>False)) (fun _ _ h=>h)
theorem RsAt.below {w w':World} {B:Nat} {ao:Option Addr} {L:List RowR} (h:RsAt w (fun x=>x<B) ao L) (b:Below B w w'):RsAt w' (fun x=>x<B) ao L:=h.keeps (Keeps.of_below b) (fun x h1 h2=>by omega)
open Go.RowKit
set_option maxRecDepth 20000
def a0n (l:List UInt8):List UInt8:=encN l.length++l
def c0p (L:List RowR):List UInt8:=L.flatMap fun r=>a0n r.bs
theorem j0s (r:RowR) (L:List RowR):c0p (r::L)=a0n r.bs++c0p L:=rfl
theorem l0s (L:List RowR):(c0p L).length≤10 * L.length+(c0g L).length:=by
 induction L with
 | nil=>simp [c0p,c0g]
 | cons r t ih =>
  have:=(a0o r.bs.length).1
  rw [j0s]
  simp only [c0g,List.flatMap_cons,lL,List.length_cons,a0n] at *
  omega
theorem WrAt.keeps {w w':World} {p base:Nat} {l:List UInt8} {o:Option Nat} {S:Nat→Prop} (h:WrAt w p base l o) (k:Keeps w w' S) (hp:¬S p) (ho:∀ g,o=some g→¬S g):WrAt w' p base l o:=by
 obtain ⟨ao,cap,h1,h2,h3,h4⟩:=h
 refine ⟨ao,cap,(k.block p (lt_of_block h1) hp).trans h1,?_,h3,h4⟩
 refine ⟨h2.1,?_⟩
 rcases h2.2 with h2 | ⟨g,c,cur,hv,hg,hh,r⟩
 ·exact .inl h2
 ·exact .inr ⟨g,c,cur,hv,hg,(k.block g (Array.getElem?_eq_some_iff.1 hh).1 (ho g (by rw [h3,hv];rfl))).trans hh,r⟩
theorem WrAt.grow {w w':World} {p base:Nat} {l:List UInt8} {o:Option Nat} (h:WrAt w p base l o) (b:Below w.heap.size w w'):WrAt w' p base l o:=h.keeps (e0r b (fun _=>False)) (fun h=>h) (fun _ _ h=>h)
theorem WInv.then {w wr wx w':World} {p base:Nat} {o o':Option Nat} {full cur x rest:List UInt8} (hw:WrAt wr p base cur o') (hk:Keeps w wr (Foot p o)) (hfr:∀ g,o'=some g→o=some g∨w.heap.size≤g) (hx:Below wr.heap.size wr wx) (h:WInv wx w' p base o' (cur++x) []) (hfull:cur++(x++rest)=full):WInv w w' p base o full rest:=by
 obtain ⟨c2,o2,h1,h2,h3,h4⟩:=h
 have hs:=hk.size
 have hs2:=hx.size
 rw [List.append_nil] at h2
 have hp:=hw.lt
 refine ⟨c2,o2,h1,by rw [h2,List.append_assoc];exact hfull,?_,fun g hg=>?_⟩
 ·refine hk.trans ((e0r hx (Foot p o')).trans h3 (fun _ s=>s) (fun _ _ s=>s)) (fun _ s=>s) (fun i hi s=>?_)
  rcases s with s | s
  ·exact .inl s
  ·rcases hfr i s with h | h
   ·exact .inr h
   ·omega
 ·rcases h4 g hg with h | h
  ·exact hfr g h
  ·right;omega
set_option maxHeartbeats 4000000 in
theorem l0v (p base:Nat) (l:List UInt8) (o:Option Nat) (ao:Option Addr) (cap:Nat) (L:List RowR) (D:Nat→Prop) (w:World) (hw:WrAt w p base l o) (hr:RsAt w D ao L) (hDp:¬D p) (hDo:∀ g,o=some g→¬D g) (hDw:∀ x,D x→x<w.heap.size) (hbase:base≤w.heap.size) (hm:l.length+10 * L.length+(c0g L).length+10≤140737488351232) :
 Calls Tryz.prog 71 #[.pointer (some ⟨p,0,none⟩),.slice ao L.length cap] w fun e w'=>e=.returned (.tuple #[])∧WInv w w' p base o (l++c0p L) []:=by
 have Hw:=uH hw
 have Hr:=uH hr
 have HD:=uH (⟨hDp,hDo,hDw⟩:(¬D p)∧(∀ g,o=some g→¬D g)∧(∀ x,D x→x<w.heap.size))
 have hel:=l0s L
 have Hel:=uH (show (l++c0p L).length+10≤140737488351232 by rw [lL];omega)
 clear hw hr hDp hDo hDw hel
 go_enter Tryz.func71,Tryz.ntmps71
 go_wp2_with fail
 go_loopw [8] (fun s8 wr=>∃ k:Nat,s8=aI aK k∧k≤L.length∧Hid (WInv w wr p base o (l++c0p L) (c0p (L.drop k)))) (fun s8 _=>L.length - (intOf s8).toNat)
 case atStart=>exact ⟨0,rfl,by omega,WInv.start Hw.out⟩
 case round =>
  obtain ⟨k,rfl,hk,hst⟩:=hrel
  by_cases hlt:(k:Int)<L.length
  ·obtain ⟨cur,o',hwr,hfull,hkp,hfr⟩:=hst.out
   have hrr:=Hr.out.keeps hkp (fun x hx s=>by
    rcases s with s | s
    ·exact HD.out.1 (s▸hx)
    ·exact HD.out.2.1 x s hx)
   obtain ⟨b,off,hao,hb,hd,hrow⟩:=hrr (by omega)
   subst hao
   have hra:=hrow k (by omega)
   obtain ⟨ro,rc,rb,hL⟩:∃ ro rc rb,(⟨ro,rc,rb⟩:RowR)=L[k]'(by omega):=⟨_,_,_,rfl⟩
   have hdrop:L.drop k=⟨ro,rc,rb⟩::L.drop (k+1):=by rw [hL];exact List.drop_eq_getElem_cons (by omega)
   rw [←hL] at hra
   have c0:wr.cell? ⟨b,off+k,none⟩=some (.slice ro rb.length rc):=hra.c
   have hle:rb.length≤rc:=hra.le
   have hcm:rc≤9223372036854775807:=hra.cm
   have hn0:ro=none→rb.length=0∧rc=0:=hra.n0
   have hat:BIn wr D ro rb:=hra.at_
   rw [hdrop,j0s] at hfull
   simp only at hfull
   have hlen:=congrArg List.length hfull
   have hfl:=Hel.out
   simp only [lL,a0n] at hlen hfl
   have he1:=(a0o rb.length).2
   have he2:=(a0o rb.length).1
   have hcl:encs [(rb.length:Int)]=encN rb.length:=by
    simp only [encs,List.flatMap_cons,List.flatMap_nil,List.append_nil]
    congr 1
    unfold a0l;omega
   have hbs:base≤wr.heap.size:=Nat.le_trans hbase hkp.size
   have hpl:=hwr.lt
   have hol:=hwr.d0a
   have hcb:cur.length+10≤140737488351232∧cur.length+(encN rb.length).length+rb.length≤140737488351232:=by omega
   have Hwr:=uH hwr
   have HL:=uH hL
   have Hfull:=uH hfull
   have Hkp:=uH hkp
   have Hfr:=uH hfr
   have Hn0:=uH hn0
   have Hat:=uH hat
   have Hcl:=uH hcl
   have Hcb:=uH hcb
   have Hol:=uH hol
   clear hwr hfull hkp hfr hn0 hat hcl hrr hrow hra hL hdrop hlen hfl he1 he2 hcb hol hst
   go_wp2_with fail
   have hnums:=k0x p base cur o' wr.heap.size 0 1 [(rb.length:Int)] (wr.alloc (.cells #[aI aK (rb.length:Int)] 3)) (Hwr.out.grow ((Below.refl _ _).alloc (Nat.le_refl _) _)) (fun i hi=>by
    have hi0:i=0:=by simp at hi;exact hi
    subst hi0
    simp) (by simp) (by omega) (fun h=>by have:=(Hol.out _ h).1;omega) (by simp only [World.alloc,Array.size_push];omega) (by have:=Hcb.out.1;simp only [List.length_cons,List.length_nil];omega)
   refine hnums.mono ?_
   rintro e w1 ⟨rfl,hi1⟩
   have h1:=WInv.then (full:=l++c0p L) (rest:=rb++c0p (L.drop (k+1))) Hwr.out Hkp.out Hfr.out ((Below.refl _ _).alloc (Nat.le_refl _) _) hi1 (by rw [Hcl.out,←Hfull.out];simp only [a0n,List.append_assoc])
   have H1:=uH h1
   clear hnums hi1 h1
   obtain ⟨cur1,o1,hwr1,hfull1,hkp1,hfr1⟩:=H1.out
   have hl1:=congrArg List.length hfull1
   have hfl:=Hel.out
   simp only [lL] at hl1 hfl
   have hat1:BIn w1 D ro rb:=by
    obtain ⟨b',off',-,-,-,hrow1⟩:=(Hr.out.keeps hkp1 (fun x hx s=>by
     rcases s with s | s
     ·exact HD.out.1 (s▸hx)
     ·exact HD.out.2.1 x s hx)) (by omega)
    have:=(hrow1 k (by omega)).at_
    rw [←HL.out] at this
    exact this
   have Hat1:=uH hat1
   have Hwr1:=uH hwr1
   have hb1:base≤w1.heap.size:=Nat.le_trans hbase hkp1.size
   have Hk1:=uH hkp1
   have Hf1:=uH hfr1
   have Hfull1:=uH hfull1
   clear hat1 hwr1 hkp1 hfr1 hfull1 hfl
   go_wp2_with fail
   refine (raw_any p base cur1 o1 ro rc rb w1 Hwr1.out Hn0.out Hat1.out.at hb1 (by have:=Hel.out;simp only [lL] at this;omega)).mono ?_
   rintro e w2 ⟨rfl,hi2⟩
   have h2:=WInv.then (rest:=c0p (L.drop (k+1))) Hwr1.out Hk1.out Hf1.out (Below.refl _ _) hi2 Hfull1.out
   have H2:=uH h2
   clear hi2 h2
   go_wp2_with fail
   go_roundw
   case rel=>exact ⟨k+1,by go_num,by omega,H2⟩
   case measure=>simp [intOf];omega
  ·go_wp2_with fail
   go_end0
   refine ⟨rfl,?_⟩
   have:=hst.out
   rwa [List.drop_eq_nil_of_le (by omega)] at this
open Go.RowKit Go.Joins
theorem wr_new (w:World) (base:Nat) (n:Nat) (hn:n=w.heap.size):WrAt (w.alloc (.cells #[.slice none 0 0] 134)) n base [] none:=by
 subst hn
 exact ⟨none,0,b0r w _,⟨rfl,.inl ⟨rfl,rfl⟩⟩,rfl,by simp⟩
theorem WInv.done {w wr:World} {p base:Nat} {o:Option Nat} {full:List UInt8} (h:WInv w wr p base o full []):∃ o',WrAt wr p base full o'∧Keeps w wr (Foot p o)∧(∀ g,o'=some g→o=some g∨w.heap.size≤g):=by
 obtain ⟨cur,o',h1,h2,h3,h4⟩:=h
 rw [List.append_nil] at h2
 subst h2
 exact ⟨o',h1,h3,h4⟩
theorem BIn.grow {w w':World} {D:Nat→Prop} {ao:Option Addr} {l:List UInt8} (h:BIn w D ao l) (b:Below w.heap.size w w'):BIn w' D ao l:=h.keeps (e0r b (fun _=>False)) (fun _ _ h=>h)
theorem r0j (w:World) (o:Obj):Below w.heap.size w (w.alloc o):=(Below.refl _ _).alloc (Nat.le_refl _) _
end Go.Proofs.YtogamdaomdoapaaGreat