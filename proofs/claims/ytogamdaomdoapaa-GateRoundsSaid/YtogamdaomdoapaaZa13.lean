/- Texts put together: ByP, Zn. -/
import Derived.Test.YtogamdaomdoapaaZa02
import Derived.Test.YtogamdaomdoapaaZa03
import Derived.Test.YtogamdaomdoapaaZa07
import Derived.Test.YtogamdaomdoapaaZa08
import Derived.Test.YtogamdaomdoapaaZa09
import Derived.Test.YtogamdaomdoapaaZa10
import Derived.Lib.SlBytesConst
namespace Go.Proofs.Ytogamdaomdoapaa.O
open Go.RowKit
def encZ (z:Zn):List UInt8:=encs [z.id]++(encS z.fr++encS z.to)++encs [z.owner,z.epoch,z.pend,z.tt]++encS z.key++encs [z.nw]
def encM (m:Mp):List UInt8:=encs [m.ver,m.next,m.zs.length]++m.zs.flatMap encZ
abbrev Rs:=List UInt8 × Bool
def txt (l:List UInt8):ByteArray:=⟨l.toArray⟩
def s1 (s:Rs):Rs:=rdSt s.1 s.2 1
def t2 (s:Rs):List UInt8 × List UInt8 × Bool:=tookOf (s1 s).1 (s1 s).2
def t3 (s:Rs):List UInt8 × List UInt8 × Bool:=tookOf (t2 s).2.1 (t2 s).2.2
def s4 (s:Rs):Rs:=rdSt (t3 s).2.1 (t3 s).2.2 4
def t5 (s:Rs):List UInt8 × List UInt8 × Bool:=tookOf (s4 s).1 (s4 s).2
def s6 (s:Rs):Rs:=rdSt (t5 s).2.1 (t5 s).2.2 1
def rdZ (s:Rs):Zn:=⟨rdVal s.1 s.2 0,txt (t2 s).1,txt (t3 s).1,rdVal (t3 s).2.1 (t3 s).2.2 0,rdVal (t3 s).2.1 (t3 s).2.2 1,rdVal (t3 s).2.1 (t3 s).2.2 2,rdVal (t3 s).2.1 (t3 s).2.2 3,txt (t5 s).1,rdVal (t5 s).2.1 (t5 s).2.2 0⟩
def rdZs:Nat→Rs→List Zn × Rs
 | 0,s=>([],s)
 | k+1,s=>if s.2=true then ([],s) else (rdZ s::(rdZs k (s6 s)).1,(rdZs k (s6 s)).2)
def decM (l:List UInt8):Mp × Rs:=(⟨rdVal l false 0,rdVal l false 1,(rdZs (rdVal l false 2) (rdSt l false 3)).1⟩,(rdZs (rdVal l false 2) (rdSt l false 3)).2)
def wholeS (s:Rs):Bool:=!s.2&&s.1.isEmpty
def goodM (l:List UInt8):Bool:=wholeS (decM l).2&&mayM (decM l).1
theorem clampN_nat {n:Nat} (h:n≤4611686018427387904):clampN (n:Int)=n:=by unfold clampN;omega
theorem txt_data (l:List UInt8):(txt l).data.toList=l:=by simp [txt]
theorem encS_txt (l:List UInt8):encS (txt l)=encRow l:=by rw [encS,txt_data]
theorem encs_cons (v:Int) (r:List Int):encs (v::r)=encN (clampN v)++encs r:=by simp [encs]
theorem encs_nil:encs []=[]:=rfl
theorem rdSt_one {r:List UInt8} {b:Bool} {k:Nat} (h:(rdSt r b (k+1)).2=false):(rdSt r b k).2=false∧(rdSt r b k).1=encN (clampN (rdVal r b k))++(rdSt r b (k+1)).1:=by
 rw [clampN_nat (rdVal_le r b k)];exact rdSt_back h
theorem rz (r:List UInt8) (b:Bool):rdSt r b 0=(r,b):=rfl
theorem took_at {s:Rs} {t:List UInt8 × List UInt8 × Bool} (ht:t=tookOf s.1 s.2) (h:t.2.2=false):s.2=false∧s.1=encRow t.1++t.2.1:=by subst ht;exact tookOf_back h
theorem one_at {r:List UInt8} {b:Bool} {s:Rs} (hs:s=rdSt r b 1) (h:s.2=false):b=false∧r=encN (clampN (rdVal r b 0))++s.1:=by
 subst hs
 exact rdSt_one (k:=0) h
theorem four_at {r:List UInt8} {b:Bool} {s:Rs} (hs:s=rdSt r b 4) (h:s.2=false):b=false∧r=encN (clampN (rdVal r b 0))++(encN (clampN (rdVal r b 1))++(encN (clampN (rdVal r b 2))++(encN (clampN (rdVal r b 3))++s.1))):=by
 subst hs
 obtain ⟨c1,c2⟩:=rdSt_one (k:=3) h
 obtain ⟨d1,d2⟩:=rdSt_one (k:=2) c1
 obtain ⟨e1,e2⟩:=rdSt_one (k:=1) d1
 obtain ⟨f1,f2⟩:=rdSt_one (k:=0) e1
 refine ⟨f1,?_⟩
 rw [←c2,←d2,←e2]
 exact f2
theorem rdZ_back {s:Rs} (h:(s6 s).2=false):s.2=false∧s.1=encZ (rdZ s)++(s6 s).1:=by
 obtain ⟨a1,a2⟩:=one_at (s:=s6 s) rfl h
 obtain ⟨b1,b2⟩:=took_at (s:=s4 s) (t:=t5 s) rfl a1
 obtain ⟨c1,c2⟩:=four_at (s:=s4 s) rfl b1
 obtain ⟨g1,g2⟩:=took_at (s:=((t2 s).2.1,(t2 s).2.2)) (t:=t3 s) rfl c1
 obtain ⟨h1,h2⟩:=took_at (s:=s1 s) (t:=t2 s) rfl g1
 obtain ⟨i1,i2⟩:=one_at (s:=s1 s) rfl h1
 refine ⟨i1,?_⟩
 unfold encZ rdZ
 simp only [encs_cons,encs_nil,encS_txt,List.append_nil,List.append_assoc]
 rw [←a2,←b2,←c2,←g2,←h2]
 exact i2
theorem rdZs_back:∀ (k:Nat) (s:Rs),(rdZs k s).2.2=false→s.2=false∧s.1=(rdZs k s).1.flatMap encZ++(rdZs k s).2.1∧(rdZs k s).1.length=k
 | 0,s,h=>⟨h,by simp [rdZs],rfl⟩
 | k+1,s,h=>by
  unfold rdZs at h ⊢
  by_cases hb:s.2=true
  ·rw [if_pos hb] at h;rw [hb] at h;cases h
  ·rw [if_neg hb] at h ⊢
   obtain ⟨h1,h2,h3⟩:=rdZs_back k (s6 s) h
   obtain ⟨g1,g2⟩:=rdZ_back h1
   refine ⟨g1,?_,by simp [h3]⟩
   rw [g2,h2]
   simp
theorem dec_canon {l:List UInt8} (h:wholeS (decM l).2=true):encM (decM l).1=l:=by
 have hw:(decM l).2.2=false∧(decM l).2.1=[]:=by simpa [wholeS] using h
 obtain ⟨h1,h2,h3⟩:=rdZs_back _ _ hw.1
 obtain ⟨c1,c2⟩:=rdSt_one (r:=l) (b:=false) (k:=2) h1
 obtain ⟨d1,d2⟩:=rdSt_one (r:=l) (b:=false) (k:=1) c1
 obtain ⟨e1,e2⟩:=rdSt_one (r:=l) (b:=false) (k:=0) d1
 unfold encM
 have h2:(rdSt l false 3).1=(decM l).1.zs.flatMap encZ++(decM l).2.1:=h2
 have hl:(((decM l).1.zs.length:Nat):Int)=rdVal l false 2:=by rw [show (decM l).1.zs.length=rdVal l false 2 from h3]
 rw [hw.2,List.append_nil] at h2
 rw [hl]
 simp only [encs_cons,encs_nil,List.append_nil,List.append_assoc]
 rw [←h2,show (decM l).1.ver=rdVal l false 0 from rfl,show (decM l).1.next=rdVal l false 1 from rfl,←c2,←d2,←e2]
 rfl
def numB (n:Int):Prop:=0≤n∧n≤4611686018427387904
theorem numB.cl {n:Int} (h:numB n):((clampN n:Nat):Int)=n:=by unfold numB at h;unfold clampN;omega
structure ZB (z:Zn):Prop where
 id:numB z.id
 owner:numB z.owner
 epoch:numB z.epoch
 pend:numB z.pend
 tt:numB z.tt
 nw:numB z.nw
 fr:z.fr.data.toList.length≤4611686018427387904
 to:z.to.data.toList.length≤4611686018427387904
 key:z.key.data.toList.length≤4611686018427387904
theorem txt_of (s:ByteArray):txt s.data.toList=s:=by cases s;simp [txt]
theorem rdZ_enc {z:Zn} (h:ZB z) (r:List UInt8):rdZ (encZ z++r,false)=z∧s6 (encZ z++r,false)=(r,false):=by
 have e:encZ z++r=encN (clampN z.id)++(encRow z.fr.data.toList++(encRow z.to.data.toList++(encN (clampN z.owner)++(encN (clampN z.epoch)++(encN (clampN z.pend)++(encN (clampN z.tt)++(encRow z.key.data.toList++(encN (clampN z.nw)++r)))))))):=by
  simp only [encZ,encS,encs_cons,encs_nil,List.append_nil,List.append_assoc]
 rw [e]
 have h1:s1 (encN (clampN z.id)++(encRow z.fr.data.toList++(encRow z.to.data.toList++(encN (clampN z.owner)++(encN (clampN z.epoch)++(encN (clampN z.pend)++(encN (clampN z.tt)++(encRow z.key.data.toList++(encN (clampN z.nw)++r)))))))),false)=(encRow z.fr.data.toList++(encRow z.to.data.toList++(encN (clampN z.owner)++(encN (clampN z.epoch)++(encN (clampN z.pend)++(encN (clampN z.tt)++(encRow z.key.data.toList++(encN (clampN z.nw)++r))))))),false):=by
  unfold s1;rw [rdSt_enc _ _ _ _ (clampN_le _)];rfl
 have h2:=congrArg (fun s:Rs=>tookOf s.1 s.2) h1
 simp only [tookOf_enc _ _ _ h.fr] at h2
 change t2 _=_ at h2
 have h3:=congrArg (fun t:List UInt8 × List UInt8 × Bool=>tookOf t.2.1 t.2.2) h2
 simp only [tookOf_enc _ _ _ h.to] at h3
 change t3 _=_ at h3
 have h4:=congrArg (fun t:List UInt8 × List UInt8 × Bool=>rdSt t.2.1 t.2.2 4) h3
 simp only [rdSt_enc _ _ _ _ (clampN_le _)] at h4
 change s4 _=(_,_) at h4
 have h5:=congrArg (fun s:Rs=>tookOf s.1 s.2) h4
 simp only [tookOf_enc _ _ _ h.key] at h5
 change t5 _=_ at h5
 have h6:=congrArg (fun t:List UInt8 × List UInt8 × Bool=>rdSt t.2.1 t.2.2 1) h5
 simp only [rdSt_enc _ _ _ _ (clampN_le _)] at h6
 change s6 _=(_,_) at h6
 refine ⟨?_,h6⟩
 unfold rdZ
 rw [h2,h3,h5]
 simp only [rdVal_enc _ _ _ _ (clampN_le _),rdVal_enc0 _ _ _ (clampN_le _),txt_of,h.id.cl,h.owner.cl,h.epoch.cl,h.pend.cl,h.tt.cl,h.nw.cl]
theorem rdZs_enc:∀ (l:List Zn) (_:∀ z∈l,ZB z) (r:List UInt8),rdZs l.length (l.flatMap encZ++r,false)=(l,r,false)
 | [],_,r=>by simp [rdZs]
 | z::l,h,r=>by
  obtain ⟨h1,h2⟩:=rdZ_enc (h z (by simp)) (l.flatMap encZ++r)
  have e:(z::l).flatMap encZ++r=encZ z++(l.flatMap encZ++r):=by simp
  rw [e]
  show rdZs (l.length+1) _=_
  unfold rdZs
  rw [if_neg (by simp),h1,h2,rdZs_enc l (fun y hy=>h y (by simp [hy])) r]
structure MB (m:Mp):Prop where
 ver:numB m.ver
 next:numB m.next
 len:m.zs.length≤4611686018427387904
 zs:∀ z∈m.zs,ZB z
theorem dec_enc {m:Mp} (h:MB m):decM (encM m)=(m,[],false):=by
 have e:encM m=encN (clampN m.ver)++(encN (clampN m.next)++(encN (clampN (m.zs.length:Nat))++(m.zs.flatMap encZ++[]))):=by
  simp only [encM,encs_cons,encs_nil,List.append_nil,List.append_assoc]
 rw [e]
 unfold decM
 have hr:=rdZs_enc m.zs h.zs []
 simp only [rdVal_enc _ _ _ _ (clampN_le _),rdVal_enc0 _ _ _ (clampN_le _),rdSt_enc _ _ _ _ (clampN_le _)]
 rw [show rdSt (m.zs.flatMap encZ++[]) false 0=(m.zs.flatMap encZ++[],false) from rfl,clampN_nat h.len,hr,h.ver.cl,h.next.cl]
end Go.Proofs.Ytogamdaomdoapaa.O
namespace Go.Proofs.Ytogamdaomdoapaa
open Go.RowKit
def znV (z:Zn):List Value:=[.int .i64 z.id,.string z.fr,.string z.to,.int .i64 z.owner,.int .i64 z.epoch,.int .i64 z.pend,.int .i64 z.tt,.string z.key,.int .i64 z.nw]
def znR (l:List Zn):List Value:=l.flatMap znV
theorem znR_nil:znR []=[]:=rfl
theorem znR_cons (z:Zn) (l:List Zn):znR (z::l)=znV z++znR l:=by simp [znR]
theorem znV_length (z:Zn):(znV z).length=9:=rfl
theorem znR_append (a b:List Zn):znR (a++b)=znR a++znR b:=by simp [znR]
theorem znR_get:∀ (l:List Zn) (i:Nat) (h:i<l.length) (j:Nat),j<9→(znR l)[i * 9+j]?=(znV l[i])[j]?
 | m::r,0,_,j,hj=>by
  rw [znR_cons,Nat.zero_mul,Nat.zero_add,List.getElem?_append_left (by rw [znV_length];exact hj)]
  rfl
 | m::r,i+1,h,j,hj=>by
  rw [znR_cons,List.getElem?_append_right (by rw [znV_length];omega)]
  have:=znR_get r i (by simpa using h) j hj
  rw [show (i+1) * 9+j - (znV m).length=i * 9+j from by rw [znV_length];omega,this]
  rfl
theorem znV_one (z:Zn):∀ u∈znV z,u.oneCell'=true:=by
 intro u hu
 simp only [znV,List.mem_cons,List.not_mem_nil,or_false] at hu
 rcases hu with rfl | rfl | rfl | rfl | rfl | rfl | rfl | rfl | rfl<;>rfl
theorem znR_set:∀ (l:List Zn) (i:Nat) (h:i<l.length) (j:Nat) (_:j<9) (v:Value) (z':Zn) (_:znV z'=(znV l[i]).set j v),(znR l).set (i * 9+j) v=znR (l.set i z')
 | m::r,0,_,j,hj,v,z',he=>by
  rw [znR_cons,List.set_cons_zero,znR_cons,Nat.zero_mul,Nat.zero_add,List.set_append_left _ _ (by rw [znV_length];exact hj)]
  rw [he];rfl
 | m::r,i+1,h,j,hj,v,z',he=>by
  have ih:=znR_set r i (by simpa using h) j hj v z' he
  rw [znR_cons,List.set_cons_succ,znR_cons,List.set_append_right _ _ (by rw [znV_length];omega),show (i+1) * 9+j - (znV m).length=i * 9+j from by rw [znV_length];omega,ih]
def OwnZ (w:World) (base g cap:Nat) (l:List Zn):Prop:=w.ownsRow base 128 9 (.slice (some ⟨g,0,none⟩) l.length cap) l.length (znR l)
theorem OwnZ.facts {w:World} {base g cap:Nat} {l:List Zn} (h:OwnZ w base g cap l):base≤g∧g<w.heap.size∧l.length≤cap∧cap≤9223372036854775807:=by
 rcases h.2 with ⟨hv,-⟩ | ⟨g',c,cur,hv,hb,hh,h1,h2,-⟩
 ·cases hv
 ·simp only [Value.slice.injEq,Option.some.injEq,Addr.mk.injEq,and_true,true_and] at hv
  obtain ⟨rfl,rfl⟩:=hv
  unfold maxLen at h2
  exact ⟨hb,lt_of_block hh,h1,by omega⟩
theorem OwnZ.cell {w:World} {base g cap:Nat} {l:List Zn} (h:OwnZ w base g cap l) (i:Nat) (hi:i<l.length) (j:Nat) (v:Value) (hv:(znV l[i])[j]?=some v):w.cell? ⟨g,i * 9+j,none⟩=some v:=by
 have hj:j<9:=(List.getElem?_eq_some_iff.1 hv).1
 rw [←hv,←znR_get l i hi j hj]
 exact h.cellAt _ (by omega)
theorem OwnZ.frozen {w:World} {base g cap:Nat} {l:List Zn} (h:OwnZ w base g cap l) (j:Nat):w.frozen? ⟨g,j,none⟩=false:=h.frozenAt j
theorem OwnZ.keeps {w w':World} {base g cap:Nat} {l:List Zn} {S:Nat→Prop} (h:OwnZ w base g cap l) (k:Keeps w w' S) (hg:¬S g):OwnZ w' base g cap l:=by
 refine ⟨h.1,?_⟩
 rcases h.2 with h4 | ⟨g',c,cur,hv,hb,hh,r⟩
 ·exact .inl h4
 ·simp only [Value.slice.injEq,Option.some.injEq,Addr.mk.injEq,and_true,true_and] at hv
  obtain ⟨rfl,rfl⟩:=hv
  exact .inr ⟨g,cap,cur,rfl,hb,(k.block g (lt_of_block hh) hg).trans hh,r⟩
theorem OwnZ.set {w:World} {base g cap:Nat} {l:List Zn} (h:OwnZ w base g cap l) (i:Nat) (hi:i<l.length) (j:Nat) (hj:j<9) (v:Value) (z':Zn) (he:znV z'=(znV l[i]).set j v):OwnZ (w.setCell ⟨g,i * 9+j,none⟩ v) base g cap (l.set i z'):=by
 have:=(World.ownsRow.stored h (i * 9+j) v).1
 rw [znR_set l i hi j hj v z' he] at this
 unfold OwnZ
 rw [List.length_set]
 exact this
def IAtD (w:World) (ao:Option Addr) (l:List Int):Prop:=0<l.length→∃ b off,ao=some ⟨b,off,none⟩∧b<w.heap.size∧∀ i,(hi:i<l.length)→w.cell? ⟨b,off+i,none⟩=some (.int .i64 l[i])
theorem IAtD.grow {w w':World} {ao:Option Addr} {l:List Int} (h:IAtD w ao l) (b:Below w.heap.size w w'):IAtD w' ao l:=fun hp=>by
 obtain ⟨x,off,e,hx,hr⟩:=h hp
 exact ⟨x,off,e,Nat.lt_of_lt_of_le hx b.size,fun i hi=>(b.cell (p:=⟨x,_,none⟩) hx).trans (hr i hi)⟩
def thInts (base b cap:Nat) (l:List Int):Th where
 T w:=w.ownsRow base 3 1 (.slice (some ⟨b,0,none⟩) l.length cap) l.length (l.map (.int .i64))
 F x:=x=b
 stay h k hS:=by
  refine ⟨h.1,?_⟩
  rcases h.2 with h4 | ⟨g',c,cur,hv,hb,hh,r⟩
  ·exact .inl h4
  ·simp only [Value.slice.injEq,Option.some.injEq,Addr.mk.injEq,and_true,true_and] at hv
   obtain ⟨rfl,rfl⟩:=hv
   exact .inr ⟨b,cap,cur,rfl,hb,(k.block b (lt_of_block hh) (hS b rfl)).trans hh,r⟩
 lt h hx:=by
  have hx:_=b:=hx
  rw [hx]
  rcases h.2 with ⟨hv,-⟩ | ⟨g',c,cur,hv,hb,hh,r⟩
  ·cases hv
  ·simp only [Value.slice.injEq,Option.some.injEq,Addr.mk.injEq,and_true,true_and] at hv
   obtain ⟨rfl,-⟩:=hv
   exact lt_of_block hh
theorem thInts.at {base b cap:Nat} {l:List Int} {w:World} (h:(thInts base b cap l).T w):IAtD w (some ⟨b,0,none⟩) l:=fun hp=>by
 have h':w.ownsRow base 3 1 (.slice (some ⟨b,0,none⟩) l.length cap) l.length (l.map (.int .i64)):=h
 refine ⟨b,0,rfl,(thInts base b cap l).lt h rfl,fun i hi=>?_⟩
 have:=h'.cellAt i (by omega)
 rw [Nat.zero_add,this]
 simp [hi]
theorem isNum_any (n:Int) (w:World) (r:Bool) (hr:decide (1≤n∧n≤1099511627776)=r):Calls Try.prog 77 #[.int .i64 n] w fun e w'=>e=.returned (.bool r)∧w=w':=by
 by_cases h1:1≤n
 ·by_cases h2:n≤1099511627776
  ·obtain rfl:r=true:=by rw [←hr];simp [h1,h2]
   have d:decide (n≤1099511627776)=true:=by rw [decide_eq_true_eq];exact h2
   clear hr
   go_enter Try.func77,Try.ntmps77
   go_wp2_with fail
   go_ret
   exact ⟨rfl,rfl⟩
  ·obtain rfl:r=false:=by rw [←hr];simp [h2]
   have d:decide (n≤1099511627776)=false:=by rw [decide_eq_false_iff_not];exact h2
   clear hr
   go_enter Try.func77,Try.ntmps77
   go_wp2_with fail
   go_ret
   exact ⟨rfl,rfl⟩
 ·obtain rfl:r=false:=by rw [←hr];simp [h1]
  have d:decide (1≤n)=false:=by rw [decide_eq_false_iff_not];exact h1
  clear hr
  go_enter Try.func77,Try.ntmps77
  go_wp2_with fail
  go_ret
  exact ⟨rfl,rfl⟩
end Go.Proofs.Ytogamdaomdoapaa