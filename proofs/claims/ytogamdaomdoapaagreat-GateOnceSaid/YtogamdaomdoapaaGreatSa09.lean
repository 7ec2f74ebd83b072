/- Texts put together: WPl, ByP, Zn, OFi. -/
import Derived.Test.YtogamdaomdoapaaGreatSa01
import Derived.Test.YtogamdaomdoapaaGreatSa02
import Derived.Test.YtogamdaomdoapaaGreatSa05
import Derived.Test.YtogamdaomdoapaaGreatSa06
import Derived.Test.YtogamdaomdoapaaGreatSa07
import Derived.Test.YtogamdaomdoapaaGreatSa08
import Derived.Laws.CopyOwn
import Derived.Laws.Rows
import Derived.Lib.SlBytesConst
namespace Go.Proofs.YtogamdaomdoapaaGreat
set_option maxRecDepth 20000
open Go.RowKit
set_option maxHeartbeats 4000000 in
theorem plain_any (d:Wd) (ms ds:Value) (w:World):Calls Tryz.prog 113 #[.agg #[.int .i64 d.kind,.int .i64 d.zone,.int .i64 d.epoch,.int .i64 d.index,.int .i64 d.size,.int .i64 d.off,.int .i64 d.host,.int .i64 d.err,.string d.sf,.string d.st,.int .i64 d.op.kind,.int .i64 d.op.client,.int .i64 d.op.seq,.string d.op.key,.string d.op.who,.string d.op.tkey,.string d.op.twho,.int .i64 d.op.item,.int .i64 d.op.count,.int .i64 d.op.price,.bool d.op.buy,.int .i64 d.op.id,.int .i64 d.rep.err,.int .i64 d.rep.id,.int .i64 d.rep.i.a,.int .i64 d.rep.i.b,.int .i64 d.rep.i.c,.int .i64 d.rep.i.d,.int .i64 d.mp.ver,.int .i64 d.mp.next,ms,.int .i64 d.ch.kind,.int .i64 d.ch.zone,.int .i64 d.ch.epoch,.int .i64 d.ch.tt,.string d.ch.key,ds]] w fun e w'=>e=.returned (.agg #[.int .i64 d.zone,.int .i64 d.epoch,.int .i64 d.index,.int .i64 d.size,.int .i64 d.off,.int .i64 d.host,.int .i64 d.err,.string d.sf,.string d.st,.int .i64 d.op.kind,.int .i64 d.op.client,.int .i64 d.op.seq,.string d.op.key,.string d.op.who,.string d.op.tkey,.string d.op.twho,.int .i64 d.op.item,.int .i64 d.op.count,.int .i64 d.op.price,.bool d.op.buy,.int .i64 d.op.id,.int .i64 d.rep.err,.int .i64 d.rep.id,.int .i64 d.rep.i.a,.int .i64 d.rep.i.b,.int .i64 d.rep.i.c,.int .i64 d.rep.i.d,.int .i64 d.ch.kind,.int .i64 d.ch.zone,.int .i64 d.ch.epoch,.int .i64 d.ch.tt,.string d.ch.key])∧Below w.heap.size w w':=by
 go_enter Tryz.func113,Tryz.ntmps113
 refine wp_holdQ fun R HR=>?_
 refine wp_hold fun C HC=>?_
 go_wp2_with fail
 (refine wp_name fun wa hwa=>?_;have wa_s0:=sg w.heap.size hwa;have wa_s1:=sg (w.heap.size+1) hwa;obtain ⟨wa_c0,wa_c1,wa_c2,wa_c3,wa_c4,wa_c5,wa_c6,wa_c7,wa_c8,wa_c9,wa_c10,wa_c11⟩:=kz12 hwa w.heap.size (.int .i64 d.kind) (.int .i64 d.zone) (.int .i64 d.epoch) (.int .i64 d.index) (.int .i64 d.size) (.int .i64 d.off) (.int .i64 d.host) (.int .i64 d.err) (.string d.sf) (.string d.st) (.int .i64 d.op.kind) (.int .i64 d.op.client);obtain ⟨wa_c12,wa_c13,wa_c14,wa_c15,wa_c16,wa_c17,wa_c18,wa_c19,wa_c20,wa_c21,wa_c22,wa_c23⟩:=kb12 hwa w.heap.size 12 (.int .i64 d.op.seq) 13 (.string d.op.key) 14 (.string d.op.who) 15 (.string d.op.tkey) 16 (.string d.op.twho) 17 (.int .i64 d.op.item) 18 (.int .i64 d.op.count) 19 (.int .i64 d.op.price) 20 (.bool d.op.buy) 21 (.int .i64 d.op.id) 22 (.int .i64 d.rep.err) 23 (.int .i64 d.rep.id);obtain ⟨wa_c24,wa_c25,wa_c26,wa_c27,wa_c28,wa_c29,wa_c30,wa_c31,wa_c32,wa_c33,wa_c34,wa_c35⟩:=kb12 hwa w.heap.size 24 (.int .i64 d.rep.i.a) 25 (.int .i64 d.rep.i.b) 26 (.int .i64 d.rep.i.c) 27 (.int .i64 d.rep.i.d) 28 (.int .i64 d.mp.ver) 29 (.int .i64 d.mp.next) 30 ms 31 (.int .i64 d.ch.kind) 32 (.int .i64 d.ch.zone) 33 (.int .i64 d.ch.epoch) 34 (.int .i64 d.ch.tt) 35 (.string d.ch.key);obtain wa_c36:=kk1 hwa w.heap.size 36 ds;have wa_b:Below w.heap.size w wa:=(by rw [hwa];exact bg);have wa_h:wa.heap[w.heap.size+1]?=some (.cells #[.int .i64 0,.int .i64 0,.int .i64 0,.int .i64 0,.int .i64 0,.int .i64 0,.int .i64 0,.string ⟨#[]⟩,.string ⟨#[]⟩,.int .i64 0,.int .i64 0,.int .i64 0,.string ⟨#[]⟩,.string ⟨#[]⟩,.string ⟨#[]⟩,.string ⟨#[]⟩,.int .i64 0,.int .i64 0,.int .i64 0,.bool false,.int .i64 0,.int .i64 0,.int .i64 0,.int .i64 0,.int .i64 0,.int .i64 0,.int .i64 0,.int .i64 0,.int .i64 0,.int .i64 0,.int .i64 0,.string ⟨#[]⟩] 173 (0,0)):=(by rw [hwa];exact heap_alloc2_new w _ _);clear hwa)
 (have hC:=HC.out);clear HC;subst hC
 refine wp_seq ?_
 refine wp_region_lit ?_
 refine list_hold 22 fun L HL=>?_
 simp only [List.take_succ_cons,List.take_zero,List.cons_append,List.nil_append]
 go_wp2_with fail
 (have hL:=HL.out);clear HL;subst hL
 simp only [List.drop_succ_cons,List.drop_zero]
 refine list_hold 1 fun L HL=>?_
 simp only [List.take_succ_cons,List.take_zero,List.cons_append,List.nil_append]
 go_wp2_with fail
 (have hL:=HL.out);clear HL;subst hL
 simp only [List.drop_succ_cons,List.drop_zero]
 refine wpList_store_row rfl 173 _ _ rfl (w.heap.size+1) #[.int .i64 d.zone,.int .i64 d.epoch,.int .i64 d.index,.int .i64 d.size,.int .i64 d.off,.int .i64 d.host,.int .i64 d.err,.string d.sf,.string d.st,.int .i64 d.op.kind,.int .i64 d.op.client,.int .i64 d.op.seq,.string d.op.key,.string d.op.who,.string d.op.tkey,.string d.op.twho,.int .i64 d.op.item,.int .i64 d.op.count,.int .i64 d.op.price,.bool d.op.buy,.int .i64 d.op.id,.int .i64 d.rep.err,.int .i64 d.rep.id,.int .i64 d.rep.i.a,.int .i64 d.rep.i.b,.int .i64 d.rep.i.c,.int .i64 d.rep.i.d,.int .i64 d.ch.kind,.int .i64 d.ch.zone,.int .i64 d.ch.epoch,.int .i64 d.ch.tt,.string d.ch.key] rfl rfl 173 _ wa_h (by kernel_rfl) rfl (by simp [Value.oneCell']) ?_
 (have hR:=HR.out);clear HR;subst hR
 go_wp2_with fail
 refine bodyPost_ret (results_cell_row rfl _ _ (w.heap.size+1) 173 _ (0,0) _ rfl (setRow_heap _ _ _ _ _ _ wa_h) Tryz.underlying173 rfl (by kernel_rfl)) rfl ⟨rfl,below_setRow wa_b (by omega) _⟩
end Go.Proofs.YtogamdaomdoapaaGreat
namespace Go.Proofs.YtogamdaomdoapaaGreat.O
open Go.RowKit
def encZ (z:Zn):List UInt8:=encs [z.id]++(encS z.fr++encS z.to)++encs [z.owner,z.epoch,z.pend,z.tt]++encS z.key++encs [z.nw]
def encM (m:Mp):List UInt8:=encs [m.ver,m.next,m.zs.length]++m.zs.flatMap encZ
abbrev Rs:=List UInt8 × Bool
def txt (l:List UInt8):ByteArray:=⟨l.toArray⟩
def s1 (s:Rs):Rs:=rdSt s.1 s.2 1
def t2 (s:Rs):List UInt8 × List UInt8 × Bool:=tookOf (s1 s).1 (s1 s).2
def t3 (s:Rs):List UInt8 × List UInt8 × Bool:=tookOf (t2 s).2.1 (t2 s).2.2
def s4 (s:Rs):Rs:=rdSt (t3 s).2.1 (t3 s).2.2 4
def t5 (s:Rs):List UInt8 × List UInt8 × Bool:=tookOf (s4 s).1 (s4 s).2
def s6 (s:Rs):Rs:=rdSt (t5 s).2.1 (t5 s).2.2 1
def rdZ (s:Rs):Zn:=⟨rdVal s.1 s.2 0,txt (t2 s).1,txt (t3 s).1,rdVal (t3 s).2.1 (t3 s).2.2 0,rdVal (t3 s).2.1 (t3 s).2.2 1,rdVal (t3 s).2.1 (t3 s).2.2 2,rdVal (t3 s).2.1 (t3 s).2.2 3,txt (t5 s).1,rdVal (t5 s).2.1 (t5 s).2.2 0⟩
def rdZs:Nat→Rs→List Zn × Rs
 | 0,s=>([],s)
 | k+1,s=>if s.2=true then ([],s) else (rdZ s::(rdZs k (s6 s)).1,(rdZs k (s6 s)).2)
def decM (l:List UInt8):Mp × Rs:=(⟨rdVal l false 0,rdVal l false 1,(rdZs (rdVal l false 2) (rdSt l false 3)).1⟩,(rdZs (rdVal l false 2) (rdSt l false 3)).2)
def wholeS (s:Rs):Bool:=!s.2&&s.1.isEmpty
def goodM (l:List UInt8):Bool:=wholeS (decM l).2&&mayM (decM l).1
theorem clampN_nat {n:Nat} (h:n≤4611686018427387904):clampN (n:Int)=n:=by unfold clampN;omega
theorem txt_data (l:List UInt8):(txt l).data.toList=l:=by simp [txt]
theorem encS_txt (l:List UInt8):encS (txt l)=encRow l:=by rw [encS,txt_data]
theorem encs_cons (v:Int) (r:List Int):encs (v::r)=encN (clampN v)++encs r:=by simp [encs]
theorem encs_nil:encs []=[]:=rfl
theorem rdSt_one {r:List UInt8} {b:Bool} {k:Nat} (h:(rdSt r b (k+1)).2=false):(rdSt r b k).2=false∧(rdSt r b k).1=encN (clampN (rdVal r b k))++(rdSt r b (k+1)).1:=by
 rw [clampN_nat (rdVal_le r b k)];exact rdSt_back h
theorem rz (r:List UInt8) (b:Bool):rdSt r b 0=(r,b):=rfl
theorem took_at {s:Rs} {t:List UInt8 × List UInt8 × Bool} (ht:t=tookOf s.1 s.2) (h:t.2.2=false):s.2=false∧s.1=encRow t.1++t.2.1:=by subst ht;exact tookOf_back h
theorem one_at {r:List UInt8} {b:Bool} {s:Rs} (hs:s=rdSt r b 1) (h:s.2=false):b=false∧r=encN (clampN (rdVal r b 0))++s.1:=by
 subst hs
 exact rdSt_one (k:=0) h
theorem four_at {r:List UInt8} {b:Bool} {s:Rs} (hs:s=rdSt r b 4) (h:s.2=false):b=false∧r=encN (clampN (rdVal r b 0))++(encN (clampN (rdVal r b 1))++(encN (clampN (rdVal r b 2))++(encN (clampN (rdVal r b 3))++s.1))):=by
 subst hs
 obtain ⟨c1,c2⟩:=rdSt_one (k:=3) h
 obtain ⟨d1,d2⟩:=rdSt_one (k:=2) c1
 obtain ⟨e1,e2⟩:=rdSt_one (k:=1) d1
 obtain ⟨f1,f2⟩:=rdSt_one (k:=0) e1
 refine ⟨f1,?_⟩
 rw [←c2,←d2,←e2]
 exact f2
theorem rdZ_back {s:Rs} (h:(s6 s).2=false):s.2=false∧s.1=encZ (rdZ s)++(s6 s).1:=by
 obtain ⟨a1,a2⟩:=one_at (s:=s6 s) rfl h
 obtain ⟨b1,b2⟩:=took_at (s:=s4 s) (t:=t5 s) rfl a1
 obtain ⟨c1,c2⟩:=four_at (s:=s4 s) rfl b1
 obtain ⟨g1,g2⟩:=took_at (s:=((t2 s).2.1,(t2 s).2.2)) (t:=t3 s) rfl c1
 obtain ⟨h1,h2⟩:=took_at (s:=s1 s) (t:=t2 s) rfl g1
 obtain ⟨i1,i2⟩:=one_at (s:=s1 s) rfl h1
 refine ⟨i1,?_⟩
 unfold encZ rdZ
 simp only [encs_cons,encs_nil,encS_txt,List.append_nil,List.append_assoc]
 rw [←a2,←b2,←c2,←g2,←h2]
 exact i2
theorem rdZs_back:∀ (k:Nat) (s:Rs),(rdZs k s).2.2=false→s.2=false∧s.1=(rdZs k s).1.flatMap encZ++(rdZs k s).2.1∧(rdZs k s).1.length=k
 | 0,s,h=>⟨h,by simp [rdZs],rfl⟩
 | k+1,s,h=>by
  unfold rdZs at h ⊢
  by_cases hb:s.2=true
  ·rw [if_pos hb] at h;rw [hb] at h;cases h
  ·rw [if_neg hb] at h ⊢
   obtain ⟨h1,h2,h3⟩:=rdZs_back k (s6 s) h
   obtain ⟨g1,g2⟩:=rdZ_back h1
   refine ⟨g1,?_,by simp [h3]⟩
   rw [g2,h2]
   simp
theorem dec_canon {l:List UInt8} (h:wholeS (decM l).2=true):encM (decM l).1=l:=by
 have hw:(decM l).2.2=false∧(decM l).2.1=[]:=by simpa [wholeS] using h
 obtain ⟨h1,h2,h3⟩:=rdZs_back _ _ hw.1
 obtain ⟨c1,c2⟩:=rdSt_one (r:=l) (b:=false) (k:=2) h1
 obtain ⟨d1,d2⟩:=rdSt_one (r:=l) (b:=false) (k:=1) c1
 obtain ⟨e1,e2⟩:=rdSt_one (r:=l) (b:=false) (k:=0) d1
 unfold encM
 have h2:(rdSt l false 3).1=(decM l).1.zs.flatMap encZ++(decM l).2.1:=h2
 have hl:(((decM l).1.zs.length:Nat):Int)=rdVal l false 2:=by rw [show (decM l).1.zs.length=rdVal l false 2 from h3]
 rw [hw.2,List.append_nil] at h2
 rw [hl]
 simp only [encs_cons,encs_nil,List.append_nil,List.append_assoc]
 rw [←h2,show (decM l).1.ver=rdVal l false 0 from rfl,show (decM l).1.next=rdVal l false 1 from rfl,←c2,←d2,←e2]
 rfl
def numB (n:Int):Prop:=0≤n∧n≤4611686018427387904
theorem numB.cl {n:Int} (h:numB n):((clampN n:Nat):Int)=n:=by unfold numB at h;unfold clampN;omega
structure ZB (z:Zn):Prop where
 id:numB z.id
 owner:numB z.owner
 epoch:numB z.epoch
 pend:numB z.pend
 tt:numB z.tt
 nw:numB z.nw
 fr:z.fr.data.toList.length≤4611686018427387904
 to:z.to.data.toList.length≤4611686018427387904
 key:z.key.data.toList.length≤4611686018427387904
theorem txt_of (s:ByteArray):txt s.data.toList=s:=by cases s;simp [txt]
theorem rdZ_enc {z:Zn} (h:ZB z) (r:List UInt8):rdZ (encZ z++r,false)=z∧s6 (encZ z++r,false)=(r,false):=by
 have e:encZ z++r=encN (clampN z.id)++(encRow z.fr.data.toList++(encRow z.to.data.toList++(encN (clampN z.owner)++(encN (clampN z.epoch)++(encN (clampN z.pend)++(encN (clampN z.tt)++(encRow z.key.data.toList++(encN (clampN z.nw)++r)))))))):=by
  simp only [encZ,encS,encs_cons,encs_nil,List.append_nil,List.append_assoc]
 rw [e]
 have h1:s1 (encN (clampN z.id)++(encRow z.fr.data.toList++(encRow z.to.data.toList++(encN (clampN z.owner)++(encN (clampN z.epoch)++(encN (clampN z.pend)++(encN (clampN z.tt)++(encRow z.key.data.toList++(encN (clampN z.nw)++r)))))))),false)=(encRow z.fr.data.toList++(encRow z.to.data.toList++(encN (clampN z.owner)++(encN (clampN z.epoch)++(encN (clampN z.pend)++(encN (clampN z.tt)++(encRow z.key.data.toList++(encN (clampN z.nw)++r))))))),false):=by
  unfold s1;rw [rdSt_enc _ _ _ _ (clampN_le _)];rfl
 have h2:=congrArg (fun s:Rs=>tookOf s.1 s.2) h1
 simp only [tookOf_enc _ _ _ h.fr] at h2
 change t2 _=_ at h2
 have h3:=congrArg (fun t:List UInt8 × List UInt8 × Bool=>tookOf t.2.1 t.2.2) h2
 simp only [tookOf_enc _ _ _ h.to] at h3
 change t3 _=_ at h3
 have h4:=congrArg (fun t:List UInt8 × List UInt8 × Bool=>rdSt t.2.1 t.2.2 4) h3
 simp only [rdSt_enc _ _ _ _ (clampN_le _)] at h4
 change s4 _=(_,_) at h4
 have h5:=congrArg (fun s:Rs=>tookOf s.1 s.2) h4
 simp only [tookOf_enc _ _ _ h.key] at h5
 change t5 _=_ at h5
 have h6:=congrArg (fun t:List UInt8 × List UInt8 × Bool=>rdSt t.2.1 t.2.2 1) h5
 simp only [rdSt_enc _ _ _ _ (clampN_le _)] at h6
 change s6 _=(_,_) at h6
 refine ⟨?_,h6⟩
 unfold rdZ
 rw [h2,h3,h5]
 simp only [rdVal_enc _ _ _ _ (clampN_le _),rdVal_enc0 _ _ _ (clampN_le _),txt_of,h.id.cl,h.owner.cl,h.epoch.cl,h.pend.cl,h.tt.cl,h.nw.cl]
theorem rdZs_enc:∀ (l:List Zn) (_:∀ z∈l,ZB z) (r:List UInt8),rdZs l.length (l.flatMap encZ++r,false)=(l,r,false)
 | [],_,r=>by simp [rdZs]
 | z::l,h,r=>by
  obtain ⟨h1,h2⟩:=rdZ_enc (h z (by simp)) (l.flatMap encZ++r)
  have e:(z::l).flatMap encZ++r=encZ z++(l.flatMap encZ++r):=by simp
  rw [e]
  show rdZs (l.length+1) _=_
  unfold rdZs
  rw [if_neg (by simp),h1,h2,rdZs_enc l (fun y hy=>h y (by simp [hy])) r]
structure MB (m:Mp):Prop where
 ver:numB m.ver
 next:numB m.next
 len:m.zs.length≤4611686018427387904
 zs:∀ z∈m.zs,ZB z
theorem dec_enc {m:Mp} (h:MB m):decM (encM m)=(m,[],false):=by
 have e:encM m=encN (clampN m.ver)++(encN (clampN m.next)++(encN (clampN (m.zs.length:Nat))++(m.zs.flatMap encZ++[]))):=by
  simp only [encM,encs_cons,encs_nil,List.append_nil,List.append_assoc]
 rw [e]
 unfold decM
 have hr:=rdZs_enc m.zs h.zs []
 simp only [rdVal_enc _ _ _ _ (clampN_le _),rdVal_enc0 _ _ _ (clampN_le _),rdSt_enc _ _ _ _ (clampN_le _)]
 rw [show rdSt (m.zs.flatMap encZ++[]) false 0=(m.zs.flatMap encZ++[],false) from rfl,clampN_nat h.len,hr,h.ver.cl,h.next.cl]
end Go.Proofs.YtogamdaomdoapaaGreat.O
namespace Go.Proofs.YtogamdaomdoapaaGreat
open Go.RowKit
def znV (z:Zn):List Value:=[.int .i64 z.id,.string z.fr,.string z.to,.int .i64 z.owner,.int .i64 z.epoch,.int .i64 z.pend,.int .i64 z.tt,.string z.key,.int .i64 z.nw]
def znR (l:List Zn):List Value:=l.flatMap znV
theorem znR_nil:znR []=[]:=rfl
theorem znR_cons (z:Zn) (l:List Zn):znR (z::l)=znV z++znR l:=by simp [znR]
theorem znV_length (z:Zn):(znV z).length=9:=rfl
theorem znR_append (a b:List Zn):znR (a++b)=znR a++znR b:=by simp [znR]
theorem znR_get:∀ (l:List Zn) (i:Nat) (h:i<l.length) (j:Nat),j<9→(znR l)[i * 9+j]?=(znV l[i])[j]?
 | m::r,0,_,j,hj=>by
  rw [znR_cons,Nat.zero_mul,Nat.zero_add,List.getElem?_append_left (by rw [znV_length];exact hj)]
  rfl
 | m::r,i+1,h,j,hj=>by
  rw [znR_cons,List.getElem?_append_right (by rw [znV_length];omega)]
  have:=znR_get r i (by simpa using h) j hj
  rw [show (i+1) * 9+j - (znV m).length=i * 9+j from by rw [znV_length];omega,this]
  rfl
theorem znV_one (z:Zn):∀ u∈znV z,u.oneCell'=true:=by
 intro u hu
 simp only [znV,List.mem_cons,List.not_mem_nil,or_false] at hu
 rcases hu with rfl | rfl | rfl | rfl | rfl | rfl | rfl | rfl | rfl<;>rfl
theorem znR_set:∀ (l:List Zn) (i:Nat) (h:i<l.length) (j:Nat) (_:j<9) (v:Value) (z':Zn) (_:znV z'=(znV l[i]).set j v),(znR l).set (i * 9+j) v=znR (l.set i z')
 | m::r,0,_,j,hj,v,z',he=>by
  rw [znR_cons,List.set_cons_zero,znR_cons,Nat.zero_mul,Nat.zero_add,List.set_append_left _ _ (by rw [znV_length];exact hj)]
  rw [he];rfl
 | m::r,i+1,h,j,hj,v,z',he=>by
  have ih:=znR_set r i (by simpa using h) j hj v z' he
  rw [znR_cons,List.set_cons_succ,znR_cons,List.set_append_right _ _ (by rw [znV_length];omega),show (i+1) * 9+j - (znV m).length=i * 9+j from by rw [znV_length];omega,ih]
def OwnZ (w:World) (base g cap:Nat) (l:List Zn):Prop:=w.ownsRow base 125 9 (.slice (some ⟨g,0,none⟩) l.length cap) l.length (znR l)
theorem OwnZ.facts {w:World} {base g cap:Nat} {l:List Zn} (h:OwnZ w base g cap l):base≤g∧g<w.heap.size∧l.length≤cap∧cap≤9223372036854775807:=by
 rcases h.2 with ⟨hv,-⟩ | ⟨g',c,cur,hv,hb,hh,h1,h2,-⟩
 ·cases hv
 ·simp only [Value.slice.injEq,Option.some.injEq,Addr.mk.injEq,and_true,true_and] at hv
  obtain ⟨rfl,rfl⟩:=hv
  unfold maxLen at h2
  exact ⟨hb,lt_of_block hh,h1,by omega⟩
theorem OwnZ.cell {w:World} {base g cap:Nat} {l:List Zn} (h:OwnZ w base g cap l) (i:Nat) (hi:i<l.length) (j:Nat) (v:Value) (hv:(znV l[i])[j]?=some v):w.cell? ⟨g,i * 9+j,none⟩=some v:=by
 have hj:j<9:=(List.getElem?_eq_some_iff.1 hv).1
 rw [←hv,←znR_get l i hi j hj]
 exact h.cellAt _ (by omega)
theorem OwnZ.frozen {w:World} {base g cap:Nat} {l:List Zn} (h:OwnZ w base g cap l) (j:Nat):w.frozen? ⟨g,j,none⟩=false:=h.frozenAt j
theorem OwnZ.keeps {w w':World} {base g cap:Nat} {l:List Zn} {S:Nat→Prop} (h:OwnZ w base g cap l) (k:Keeps w w' S) (hg:¬S g):OwnZ w' base g cap l:=by
 refine ⟨h.1,?_⟩
 rcases h.2 with h4 | ⟨g',c,cur,hv,hb,hh,r⟩
 ·exact .inl h4
 ·simp only [Value.slice.injEq,Option.some.injEq,Addr.mk.injEq,and_true,true_and] at hv
  obtain ⟨rfl,rfl⟩:=hv
  exact .inr ⟨g,cap,cur,rfl,hb,(k.block g (lt_of_block hh) hg).trans hh,r⟩
theorem OwnZ.set {w:World} {base g cap:Nat} {l:List Zn} (h:OwnZ w base g cap l) (i:Nat) (hi:i<l.length) (j:Nat) (hj:j<9) (v:Value) (z':Zn) (he:znV z'=(znV l[i]).set j v):OwnZ (w.setCell ⟨g,i * 9+j,none⟩ v) base g cap (l.set i z'):=by
 have:=(World.ownsRow.stored h (i * 9+j) v).1
 rw [znR_set l i hi j hj v z' he] at this
 unfold OwnZ
 rw [List.length_set]
 exact this
def IAtD (w:World) (ao:Option Addr) (l:List Int):Prop:=0<l.length→∃ b off,ao=some ⟨b,off,none⟩∧b<w.heap.size∧∀ i,(hi:i<l.length)→w.cell? ⟨b,off+i,none⟩=some (.int .i64 l[i])
theorem IAtD.grow {w w':World} {ao:Option Addr} {l:List Int} (h:IAtD w ao l) (b:Below w.heap.size w w'):IAtD w' ao l:=fun hp=>by
 obtain ⟨x,off,e,hx,hr⟩:=h hp
 exact ⟨x,off,e,Nat.lt_of_lt_of_le hx b.size,fun i hi=>(b.cell (p:=⟨x,_,none⟩) hx).trans (hr i hi)⟩
def thInts (base b cap:Nat) (l:List Int):Th where
 T w:=w.ownsRow base 3 1 (.slice (some ⟨b,0,none⟩) l.length cap) l.length (l.map (.int .i64))
 F x:=x=b
 stay h k hS:=by
  refine ⟨h.1,?_⟩
  rcases h.2 with h4 | ⟨g',c,cur,hv,hb,hh,r⟩
  ·exact .inl h4
  ·simp only [Value.slice.injEq,Option.some.injEq,Addr.mk.injEq,and_true,true_and] at hv
   obtain ⟨rfl,rfl⟩:=hv
   exact .inr ⟨b,cap,cur,rfl,hb,(k.block b (lt_of_block hh) (hS b rfl)).trans hh,r⟩
 lt h hx:=by
  have hx:_=b:=hx
  rw [hx]
  rcases h.2 with ⟨hv,-⟩ | ⟨g',c,cur,hv,hb,hh,r⟩
  ·cases hv
  ·simp only [Value.slice.injEq,Option.some.injEq,Addr.mk.injEq,and_true,true_and] at hv
   obtain ⟨rfl,-⟩:=hv
   exact lt_of_block hh
theorem thInts.at {base b cap:Nat} {l:List Int} {w:World} (h:(thInts base b cap l).T w):IAtD w (some ⟨b,0,none⟩) l:=fun hp=>by
 have h':w.ownsRow base 3 1 (.slice (some ⟨b,0,none⟩) l.length cap) l.length (l.map (.int .i64)):=h
 refine ⟨b,0,rfl,(thInts base b cap l).lt h rfl,fun i hi=>?_⟩
 have:=h'.cellAt i (by omega)
 rw [Nat.zero_add,this]
 simp [hi]
theorem isNum_any (n:Int) (w:World) (r:Bool) (hr:decide (1≤n∧n≤1099511627776)=r):Calls Tryz.prog 138 #[.int .i64 n] w fun e w'=>e=.returned (.bool r)∧w=w':=by
 by_cases h1:1≤n
 ·by_cases h2:n≤1099511627776
  ·obtain rfl:r=true:=by rw [←hr];simp [h1,h2]
   have d:decide (n≤1099511627776)=true:=by rw [decide_eq_true_eq];exact h2
   clear hr
   go_enter Tryz.func138,Tryz.ntmps138
   go_wp2_with fail
   go_ret
   exact ⟨rfl,rfl⟩
  ·obtain rfl:r=false:=by rw [←hr];simp [h2]
   have d:decide (n≤1099511627776)=false:=by rw [decide_eq_false_iff_not];exact h2
   clear hr
   go_enter Tryz.func138,Tryz.ntmps138
   go_wp2_with fail
   go_ret
   exact ⟨rfl,rfl⟩
 ·obtain rfl:r=false:=by rw [←hr];simp [h1]
  have d:decide (1≤n)=false:=by rw [decide_eq_false_iff_not];exact h1
  clear hr
  go_enter Tryz.func138,Tryz.ntmps138
  go_wp2_with fail
  go_ret
  exact ⟨rfl,rfl⟩
end Go.Proofs.YtogamdaomdoapaaGreat
namespace Go.Proofs.YtogamdaomdoapaaGreat.O
open Go.RowKit
structure ZnO (w:World) (g o:Nat) (l:List Zn):Prop where
 lt:g<w.heap.size
 cell:∀ i,(h:i<l.length)→∀ j v,(znV l[i])[j]?=some v→w.cell? ⟨g,o+i * 9+j,none⟩=some v
theorem ZnO.grow {w w':World} {g o:Nat} {l:List Zn} (h:ZnO w g o l) (b:Below w.heap.size w w'):ZnO w' g o l :=
 ⟨Nat.lt_of_lt_of_le h.lt b.size,fun i hi j v hv=>(b.cell (p:=⟨g,_,none⟩) h.lt).trans (h.cell i hi j v hv)⟩
theorem _root_.Go.Proofs.YtogamdaomdoapaaGreat.OwnZ.atO {w:World} {base g cap:Nat} {l:List Zn} (h:OwnZ w base g cap l):ZnO w g 0 l:=⟨h.facts.2.1,fun i hi j v hv=>by rw [Nat.zero_add];exact h.cell i hi j v hv⟩
theorem ZnO.nine {w:World} {g o:Nat} {l:List Zn} (h:ZnO w g o l) (i:Nat) (hi:i<l.length) (z:Zn) (hz:z=l[i]):w.cell? ⟨g,o+i * 9,none⟩=some (.int .i64 z.id)∧w.cell? ⟨g,o+i * 9+1,none⟩=some (.string z.fr)∧w.cell? ⟨g,o+i * 9+2,none⟩=some (.string z.to)∧w.cell? ⟨g,o+i * 9+3,none⟩=some (.int .i64 z.owner)∧w.cell? ⟨g,o+i * 9+4,none⟩=some (.int .i64 z.epoch)∧w.cell? ⟨g,o+i * 9+5,none⟩=some (.int .i64 z.pend)∧w.cell? ⟨g,o+i * 9+6,none⟩=some (.int .i64 z.tt)∧w.cell? ⟨g,o+i * 9+7,none⟩=some (.string z.key)∧w.cell? ⟨g,o+i * 9+8,none⟩=some (.int .i64 z.nw):=by
 subst hz
 exact ⟨h.cell i hi 0 _ rfl,h.cell i hi 1 _ rfl,h.cell i hi 2 _ rfl,h.cell i hi 3 _ rfl,h.cell i hi 4 _ rfl,h.cell i hi 5 _ rfl,h.cell i hi 6 _ rfl,h.cell i hi 7 _ rfl,h.cell i hi 8 _ rfl⟩
theorem findIdx_none {α:Type} {p:α→Bool} {l:List α} (h:∀ j (hj:j<l.length),p l[j]=false):l.findIdx? p=none:=by
 rw [List.findIdx?_eq_none_iff]
 intro x hx
 obtain ⟨j,hj,rfl⟩:=List.getElem_of_mem hx
 exact h j hj
theorem findIdx_at {α:Type} {p:α→Bool} {l:List α} {i:Nat} (hi:i<l.length) (hp:p l[i]=true) (h:∀ j (hj:j<l.length),j<i→p l[j]=false):l.findIdx? p=some i:=by
 rw [List.findIdx?_eq_some_iff_getElem]
 exact ⟨hi,hp,fun j hj=>by rw [h j (by omega) hj];decide⟩
def fz (l:List Zn) (id:Int):Int:=match findZ l id with | none=>-1 | some i=>i
set_option maxHeartbeats 1000000 in
theorem isId_any (z:Zn) (k:Nat) (id:Int) (w:World) (hk:k<w.heap.size) (hc:w.cell? ⟨k,0,none⟩=some (.int .i64 id)) :
 Calls Tryz.prog 151 #[.agg #[.int .i64 z.id,.string z.fr,.string z.to,.int .i64 z.owner,.int .i64 z.epoch,.int .i64 z.pend,.int .i64 z.tt,.string z.key,.int .i64 z.nw],.pointer (some ⟨k,0,none⟩)] w fun e w'=>e=.returned (.bool (z.id==id))∧Below w.heap.size w w':=by
 go_enter Tryz.func151,Tryz.ntmps151
 go_wp2_with fail
 go_ret
 exact ⟨rfl,bg⟩
set_option maxRecDepth 20000 in
set_option maxHeartbeats 2000000 in
theorem indexFunc_any {g o zc:Nat} {l:List Zn} {w:World} (h:ZnO w g o l) (hm:l.length≤1000) (id:Int) (k:Nat) (hk:k<w.heap.size) (hc:w.cell? ⟨k,0,none⟩=some (.int .i64 id)) :
 Calls Tryz.prog 150 #[.slice (some ⟨g,o,none⟩) l.length zc,.func (.func 151) #[] #[.pointer (some ⟨k,0,none⟩)]] w fun e w'=>e=.returned (.int .i64 (fz l id))∧Below w.heap.size w w':=by
 have Hz:=Lib.hid h
 clear h
 go_enter Tryz.func150,Tryz.ntmps150
 go_wp2_with fail
 go_loopw [8] (fun s wr=>∃ i:Nat,s=.int .i64 i∧i≤l.length∧Hid (∀ j (hj:j<l.length),j<i→(l[j].id==id)=false)∧Below w.heap.size w wr) (fun s _=>l.length - (intOf s).toNat)
 case atStart=>exact ⟨0,rfl,by omega,fun j _ hj=>by omega,Below.refl _ _⟩
 case round =>
  obtain ⟨i,rfl,hi,hne,wr_b⟩:=hrel
  by_cases hlt:i<l.length
  ·obtain ⟨z,hz⟩:∃ z,z=l[i]:=⟨_,rfl⟩
   obtain ⟨d0,d1,d2,d3,d4,d5,d6,d7,d8⟩:=(Hz.out.grow wr_b).nine i hlt z hz
   have hs:=wr_b.size
   have hc2:=(wr_b.cell (p:=⟨k,0,none⟩) hk).trans hc
   have Hv:=Lib.hid hz
   clear hz
   go_wp2_with fail
   refine (isId_any z k id _ (by omega) hc2).mono ?_
   by_cases hk:z.id=id
   ·have hkb:(z.id==id)=true:=by rw [beq_iff_eq];exact hk
    rw [hkb]
    rintro e w1 ⟨rfl,w1_b⟩
    clear hk
    go_wp2_with fail
    go_ret
    refine ⟨?_,bg⟩
    rw [fz,findZ,findIdx_at hlt (by rw [←Hv.out];exact hkb) hne.out]
    rfl
   ·have hkb:(z.id==id)=false:=by rw [beq_eq_false_iff_ne];exact hk
    rw [hkb]
    rintro e w1 ⟨rfl,w1_b⟩
    clear hk
    go_wp2_with fail
    go_roundw
    case rel=>exact ⟨i+1,by go_num,by omega,fun j hj hji=>by
     by_cases h:j=i
     ·subst h;rw [←Hv.out];exact hkb
     ·exact hne.out j hj (by omega),bg⟩
    case measure=>simp [intOf];omega
  ·go_wp2_with fail
   go_ret
   refine ⟨?_,wr_b⟩
   rw [fz,findZ,findIdx_none (fun j hj=>hne.out j hj (by omega))]
   rfl
set_option maxRecDepth 20000 in
set_option maxHeartbeats 2000000 in
theorem find_any {g o zc:Nat} {l:List Zn} {w:World} (h:ZnO w g o l) (hm:l.length≤1000) (ver next id:Int) :
 Calls Tryz.prog 144 #[.agg #[.int .i64 ver,.int .i64 next,.slice (some ⟨g,o,none⟩) l.length zc],.int .i64 id] w fun e w'=>e=.returned (.int .i64 (fz l id))∧Below w.heap.size w w':=by
 have Hz:=Lib.hid h
 clear h
 go_enter Tryz.func144,Tryz.ntmps144
 go_wp2_with fail
 (refine calls_name fun wa hwa=>?_;have wa_s0:=sg (w.heap.size+1) hwa;obtain wa_c0:=kk1 hwa (w.heap.size+1) 0 (.int .i64 id);have wa_b:Below w.heap.size w wa:=(by rw [hwa];exact bg);clear hwa)
 refine (indexFunc_any (Hz.out.grow wa_b) hm id (w.heap.size+1) wa_s0 wa_c0).mono ?_
 (rintro e w1 ⟨rfl,w1_h⟩;obtain ⟨w1_hc,w1_hf⟩:=bcell w1_h;have w1_z:=w1_h.size;have w1_b:=wa_b.trans (w1_h.mono (by have:=wa_b.size;omega));have w1_le:=w1_b.size;clear w1_h)
 go_wp2_with fail
 go_ret
 exact ⟨rfl,w1_b⟩
set_option maxRecDepth 20000 in
set_option maxHeartbeats 2000000 in
theorem rfind_any {g o zc:Nat} {l:List Zn} {w:World} (h:ZnO w g o l) (hm:l.length≤1000) (id:Int) :
 Calls Tryz.prog 103 #[.slice (some ⟨g,o,none⟩) l.length zc,.int .i64 id] w fun e w'=>e=.returned (.int .i64 (fz l id))∧Below w.heap.size w w':=by
 have Hz:=Lib.hid h
 clear h
 go_enter Tryz.func103,Tryz.ntmps103
 go_wp2_with fail
 go_loopw [5] (fun s wr=>∃ i:Nat,s=.int .i64 i∧i≤l.length∧Hid (∀ j (hj:j<l.length),j<i→(l[j].id==id)=false)∧Below w.heap.size w wr) (fun s _=>l.length - (intOf s).toNat)
 case atStart=>exact ⟨0,rfl,by omega,fun j _ hj=>by omega,Below.refl _ _⟩
 case round =>
  obtain ⟨i,rfl,hi,hne,wr_b⟩:=hrel
  by_cases hlt:i<l.length
  ·obtain ⟨z,hz⟩:∃ z,z=l[i]:=⟨_,rfl⟩
   obtain ⟨d0,d1,d2,d3,d4,d5,d6,d7,d8⟩:=(Hz.out.grow wr_b).nine i hlt z hz
   have Hv:=Lib.hid hz
   clear hz
   by_cases hk:z.id=id
   ·have hkb:(z.id==id)=true:=by rw [beq_iff_eq];exact hk
    have Hkb:=Lib.hid hkb
    clear hk
    go_wp2_with fail
    go_ret
    refine ⟨?_,wr_b⟩
    rw [fz,findZ,findIdx_at hlt (by rw [←Hv.out];exact Hkb.out) hne.out]
    rfl
   ·have hkb:(z.id==id)=false:=by rw [beq_eq_false_iff_ne];exact hk
    have Hkb:=Lib.hid hkb
    clear hk
    go_wp2_with fail
    go_roundw
    case rel=>exact ⟨i+1,by go_num,by omega,fun j hj hji=>by
     by_cases h:j=i
     ·subst h;rw [←Hv.out];exact Hkb.out
     ·exact hne.out j hj (by omega),wr_b⟩
    case measure=>simp [intOf];omega
  ·go_wp2_with fail
   go_ret
   refine ⟨?_,wr_b⟩
   rw [fz,findZ,findIdx_none (fun j hj=>hne.out j hj (by omega))]
   rfl
end Go.Proofs.YtogamdaomdoapaaGreat.O