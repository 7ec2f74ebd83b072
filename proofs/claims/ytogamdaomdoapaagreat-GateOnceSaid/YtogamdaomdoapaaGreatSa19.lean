/- Texts put together: ORn, MayC, RMc. -/
import Derived.Test.YtogamdaomdoapaaGreatSa07
import Derived.Test.YtogamdaomdoapaaGreatSa09
import Derived.Test.YtogamdaomdoapaaGreatSa10
namespace Go.Proofs.YtogamdaomdoapaaGreat.O
open Go.RowKit
set_option maxRecDepth 20000
theorem refNums_eqO (vs:List Int) (w:World) (n k:Nat) (cur:Array Value) (hn:n=w.heap.size) (hk:k=vs.length) (hc:cur=(intV vs).toArray) (hm:vs.length≤1000000) (X:List UInt8) (hX:encs vs=X) :
 Calls Tryz.prog 54 #[.slice (some ⟨n,0,none⟩) k k] (w.alloc (.cells cur 3)) (FreshB w X):=refNums_eq vs w n k cur hn hk hc hm X hX
set_option maxHeartbeats 4000000 in
theorem rencM_any (ao:Option Addr) (zc:Nat) (m:Mp) (w:World) (h:ZsAt w ao m.zs) (hs:SzB m) :
 Calls Tryz.prog 91 #[.agg #[.int .i64 m.ver,.int .i64 m.next,.slice ao m.zs.length zc]] w (FreshB w (encM m)):=by
 obtain ⟨i0,hii,hz0,hz1,hz2⟩:=info_parts byteInfo
 have Hz:=Lib.hid h
 have Hs:=Lib.hid hs
 have hcv:=conv_bytes
 obtain ⟨n,hn⟩:∃ n,n=m.zs.length:=⟨_,rfl⟩
 obtain ⟨nx,hnx⟩:∃ nx,nx=m.next:=⟨_,rfl⟩
 obtain ⟨ver,hver⟩:∃ ver,ver=m.ver:=⟨_,rfl⟩
 have hn2:n≤2100:=by rw [hn];exact hs.1
 rw [←hn,←hnx,←hver]
 obtain ⟨hd,hhd⟩:∃ hd,hd=encs [ver,nx,(n:Int)]:=⟨_,rfl⟩
 have hhl:hd.length≤30:=by rw [hhd];exact encs_length _
 have HE:Hid (encM m=hd++m.zs.flatMap encZ):=by unfold encM;rw [hhd,hn,hnx,hver];exact Lib.hid rfl
 have Hn:=Lib.hid hn
 have Hhd:=Lib.hid hhd
 clear h hs hn hnx hver hhd
 go_enter Tryz.func91,Tryz.ntmps91
 go_wp2_with fail
 have s0:=(St.start w).objN (.cells #[.int .i64 ver,.int .i64 nx,.slice ao n zc] 44) w.heap.size rfl
 refine (refNums_eqO [ver,nx,(n:Int)] (w.alloc (.cells #[.int .i64 ver,.int .i64 nx,.slice ao n zc] 44)) (w.heap.size+1) 3 _ (by simp) rfl rfl (by simp) hd Hhd.out.symm).mono ?_
 rintro e w1 ⟨bo,bc,rfl,ho,hb⟩
 have S1:Hid (∃ ao' cap cur,ao'=bo∧cap=bc∧cur.length=hd.length∧cur=hd++(m.zs.take 0).flatMap encZ∧St w w1 [thOwn w.heap.size ao' cap cur,thObj w.heap.size (.cells #[.int .i64 ver,.int .i64 nx,.slice ao n zc] 44)]):=by
  refine Lib.hid ⟨bo,bc,hd,rfl,rfl,rfl,by simp,?_⟩
  exact s0.new hb (thOwn w.heap.size bo bc hd) (own_weak ho (by simp)) (fun x hx=>by
   obtain ⟨a,rfl,rfl⟩:=hx
   exact (own_lt ho a.block rfl).2)
 clear s0 ho hb
 go_wp2_with fail
 go_loopw [3,4] (fun s3 s4 wr=>∃ (k:Nat) (bo:Option Addr) (bc:Nat) (cur:List UInt8),s4=.int .i64 k∧s3=.slice bo cur.length bc∧k≤n∧Hid (cur=hd++(m.zs.take k).flatMap encZ)∧Hid (St w wr [thOwn w.heap.size bo bc cur,thObj w.heap.size (.cells #[.int .i64 ver,.int .i64 nx,.slice ao n zc] 44)])) (fun _ s4 _=>n - (intOf s4).toNat)
 case atStart =>
  obtain ⟨a1,a2,cur,rfl,rfl,e1,e2,hS⟩:=S1.out
  exact ⟨0,_,_,cur,rfl,by rw [e1],by omega,Lib.hid e2,Lib.hid hS⟩
 case round =>
  obtain ⟨k,bo,bc,cur,rfl,rfl,hk,Hcur,S2⟩:=hrel
  clear S1
  obtain ⟨b1,b2,-⟩:=S2.out.cells (t:=44) (b:=w.heap.size) (cur:=#[.int .i64 ver,.int .i64 nx,.slice ao n zc]) (by simp)
  by_cases hlt:k<n
  ·have hl1:k<m.zs.length:=by have:=Hn.out;omega
   obtain ⟨g,o,rfl,hz⟩:=Hz.out (by omega)
   have hgr:g<wr.heap.size:=Nat.lt_of_lt_of_le hz.lt S2.out.b.size
   obtain ⟨f0,f1,f2,f3,f4,f5,f6,f7,f8⟩:=(hz.grow S2.out.b).nine k hl1 _ rfl
   have hsz:=Hs.out.2 m.zs[k] (List.getElem_mem hl1)
   obtain ⟨zid,fr,to,owner,epoch,pend,tt,key,nw,hzk⟩:∃ zid fr to owner epoch pend tt key nw,m.zs[k]=(⟨zid,fr,to,owner,epoch,pend,tt,key,nw⟩:Zn):=⟨_,_,_,_,_,_,_,_,_,rfl⟩
   have htk:=take_encZ hl1
   rw [hzk] at hsz htk f0 f1 f2 f3 f4 f5 f6 f7 f8
   dsimp only at hsz f0 f1 f2 f3 f4 f5 f6 f7 f8
   have hcl:=encs_take Hs.out k
   have hcl2:cur.length≤130000000:=by rw [Hcur.out,List.length_append];omega
   obtain ⟨q1,hq1⟩:∃ q,q=encN (clampN zid):=⟨_,rfl⟩
   obtain ⟨q2,hq2⟩:∃ q,q=encS fr:=⟨_,rfl⟩
   obtain ⟨q3,hq3⟩:∃ q,q=encS to:=⟨_,rfl⟩
   obtain ⟨q4,hq4⟩:∃ q,q=encs [owner,epoch,pend,tt]:=⟨_,rfl⟩
   obtain ⟨q5,hq5⟩:∃ q,q=encS key:=⟨_,rfl⟩
   obtain ⟨q6,hq6⟩:∃ q,q=encN (clampN nw):=⟨_,rfl⟩
   have Htk:Hid (hd++(m.zs.take (k+1)).flatMap encZ=cur++q1++q2++q3++q4++q5++q6):=by
    rw [htk,Hcur.out,hq1,hq2,hq3,hq4,hq5,hq6]
    unfold encZ
    refine Lib.hid ?_
    simp only [encs_cons,encs_nil,List.append_nil,List.append_assoc]
   obtain ⟨h1,h2,h3⟩:=hsz
   have l1:q1.length≤10:=by rw [hq1];exact (encN_length _).1
   have l2:q2.length≤20010:=by rw [hq2];have:=encS_length fr;omega
   have l3:q3.length≤20010:=by rw [hq3];have:=encS_length to;omega
   have l4:q4.length≤40:=by rw [hq4];exact encs_length _
   have l5:q5.length≤20010:=by rw [hq5];have:=encS_length key;omega
   have l6:q6.length≤10:=by rw [hq6];exact (encN_length _).1
   have hnum1:=fun w=>refNum_any zid w
   have hnum6:=fun w=>refNum_any nw w
   rw [←hq1] at hnum1
   rw [←hq6] at hnum6
   have hst2:=fun w3 gg cp (ha:BAt w3 (some ⟨gg,0,none⟩) fr.data.toList)=>refBytes_str fr gg cp w3 ha (by rw [Array.length_toList];exact Nat.le_trans h1 (by decide))
   have hst3:=fun w3 gg cp (ha:BAt w3 (some ⟨gg,0,none⟩) to.data.toList)=>refBytes_str to gg cp w3 ha (by rw [Array.length_toList];exact Nat.le_trans h2 (by decide))
   have hst5:=fun w3 gg cp (ha:BAt w3 (some ⟨gg,0,none⟩) key.data.toList)=>refBytes_str key gg cp w3 ha (by rw [Array.length_toList];exact Nat.le_trans h3 (by decide))
   rw [←hq2] at hst2
   rw [←hq3] at hst3
   rw [←hq5] at hst5
   have H1:=Lib.hid hnum1
   have H2:=Lib.hid hst2
   have H3:=Lib.hid hst3
   have H4:=Lib.hid hq4
   have H5:=Lib.hid hst5
   have H6:=Lib.hid hnum6
   clear hz hzk htk hcl hq1 hq2 hq3 hq4 hq5 hq6 hnum1 hnum6 hst2 hst3 hst5 h1 h2 h3
   go_wp2_with fail
   obtain ⟨bx,hbx⟩:∃ bx,bx=wr.heap.size:=⟨_,rfl⟩
   have s3:=Lib.hid ((S2.out.objN (.cells #[.int .i64 zid,.string fr,.string to,.int .i64 owner,.int .i64 epoch,.int .i64 pend,.int .i64 tt,.string key,.int .i64 nw] 125) bx hbx).pull (A:=[_]))
   rw [←hbx]
   clear f0 f1 f2 f3 f4 f5 f6 f7 f8 hgr b1 b2 S2
   refine (H1.out _).mono ?_
   rintro e w1 ⟨bo,bc,rfl,ho,hb⟩
   have s4:=Lib.hid (s3.out.grow hb)
   clear s3 hb hbx H1
   go_wp2_with (at_builtin;go_must (refine wpList_append_foot _ rfl (.tmp 27) (.tmp 30) 47 rfl w.heap.size 5 i0 (.int .u8 0) 1 1 Tryz.underlying47 hii hz0 hz1 hz2 rfl (by decide) _ cur.length _ (bytV cur) rfl s4.out.head bo q1.length bc (bytV q1) rfl ho.none (by rw [bytV_length,Nat.mul_one]) ho.at.cells (bytV_one _) (by unfold maxLen;omega) (by omega) (by have:=s4.out.b.size;omega) ?_));intro co c1 w2 hown hgrow hco
   obtain ⟨cur1,hc1⟩:∃ c,c=cur++q1:=⟨_,rfl⟩
   have hcl3:cur1.length≤130000010:=by rw [hc1,List.length_append];omega
   rw [←hc1] at Htk
   rw [←List.length_append,←hc1]
   (have SA:Hid (St w w2 (thOwn w.heap.size co c1 cur1::[thObj bx (.cells #[.int .i64 zid,.string fr,.string to,.int .i64 owner,.int .i64 epoch,.int .i64 pend,.int .i64 tt,.string key,.int .i64 nw] 125),thObj w.heap.size (.cells #[.int .i64 ver,.int .i64 nx,.slice (some ⟨g,o,none⟩) n zc] 44)])):=(by rw [hc1];exact Lib.hid (s4.out.appended hown hgrow hco)));(obtain ⟨d1,d2,-⟩:=SA.out.cells (t:=125) (b:=bx) (cur:=#[.int .i64 zid,.string fr,.string to,.int .i64 owner,.int .i64 epoch,.int .i64 pend,.int .i64 tt,.string key,.int .i64 nw]) (by simp))
   clear hown hgrow hco ho s4 hc1 hcl2 l1
   go_wp2_with fail
   refine (H2.out _ _ _ (bytesWorld_bat w2 fr)).mono ?_
   rintro e w1 ⟨bo,bc,rfl,ho,hb⟩
   have s4:=Lib.hid (SA.out.grow ((bytesWorld_below w2 fr).trans (hb.mono (by rw [bytesWorld_sz];omega))))
   clear SA hb d1 d2 H2
   go_wp2_with (at_builtin;go_must (refine wpList_append_foot _ rfl (.tmp 32) (.tmp 37) 47 rfl w.heap.size 5 i0 (.int .u8 0) 1 1 Tryz.underlying47 hii hz0 hz1 hz2 rfl (by decide) _ cur1.length _ (bytV cur1) rfl s4.out.head bo q2.length bc (bytV q2) rfl ho.none (by rw [bytV_length,Nat.mul_one]) ho.at.cells (bytV_one _) (by unfold maxLen;omega) (by omega) (by have:=s4.out.b.size;omega) ?_));intro co c1 w2 hown hgrow hco
   obtain ⟨cur2,hc1⟩:∃ c,c=cur1++q2:=⟨_,rfl⟩
   have hcl3:cur2.length≤130030000:=by rw [hc1,List.length_append];omega
   rw [←hc1] at Htk
   rw [←List.length_append,←hc1]
   (have SB:Hid (St w w2 (thOwn w.heap.size co c1 cur2::[thObj bx (.cells #[.int .i64 zid,.string fr,.string to,.int .i64 owner,.int .i64 epoch,.int .i64 pend,.int .i64 tt,.string key,.int .i64 nw] 125),thObj w.heap.size (.cells #[.int .i64 ver,.int .i64 nx,.slice (some ⟨g,o,none⟩) n zc] 44)])):=(by rw [hc1];exact Lib.hid (s4.out.appended hown hgrow hco)));(obtain ⟨d1,d2,-⟩:=SB.out.cells (t:=125) (b:=bx) (cur:=#[.int .i64 zid,.string fr,.string to,.int .i64 owner,.int .i64 epoch,.int .i64 pend,.int .i64 tt,.string key,.int .i64 nw]) (by simp))
   clear hown hgrow hco ho s4 hc1 l2
   go_wp2_with fail
   refine (H3.out _ _ _ (bytesWorld_bat w2 to)).mono ?_
   rintro e w1 ⟨bo,bc,rfl,ho,hb⟩
   have s4:=Lib.hid (SB.out.grow ((bytesWorld_below w2 to).trans (hb.mono (by rw [bytesWorld_sz];omega))))
   clear SB hb d1 d2 H3
   go_wp2_with (at_builtin;go_must (refine wpList_append_foot _ rfl (.tmp 39) (.tmp 44) 47 rfl w.heap.size 5 i0 (.int .u8 0) 1 1 Tryz.underlying47 hii hz0 hz1 hz2 rfl (by decide) _ cur2.length _ (bytV cur2) rfl s4.out.head bo q3.length bc (bytV q3) rfl ho.none (by rw [bytV_length,Nat.mul_one]) ho.at.cells (bytV_one _) (by unfold maxLen;omega) (by omega) (by have:=s4.out.b.size;omega) ?_));intro co c1 w2 hown hgrow hco
   obtain ⟨cur3,hc1⟩:∃ c,c=cur2++q3:=⟨_,rfl⟩
   have hcl3:cur3.length≤130060000:=by rw [hc1,List.length_append];omega
   rw [←hc1] at Htk
   rw [←List.length_append,←hc1]
   (have SC:Hid (St w w2 (thOwn w.heap.size co c1 cur3::[thObj bx (.cells #[.int .i64 zid,.string fr,.string to,.int .i64 owner,.int .i64 epoch,.int .i64 pend,.int .i64 tt,.string key,.int .i64 nw] 125),thObj w.heap.size (.cells #[.int .i64 ver,.int .i64 nx,.slice (some ⟨g,o,none⟩) n zc] 44)])):=(by rw [hc1];exact Lib.hid (s4.out.appended hown hgrow hco)));(obtain ⟨d1,d2,-⟩:=SC.out.cells (t:=125) (b:=bx) (cur:=#[.int .i64 zid,.string fr,.string to,.int .i64 owner,.int .i64 epoch,.int .i64 pend,.int .i64 tt,.string key,.int .i64 nw]) (by simp))
   clear hown hgrow hco ho s4 hc1 l3
   go_wp2_with fail
   refine (refNums_eqO [owner,epoch,pend,tt] w2 w2.heap.size 4 _ rfl rfl rfl (by simp) q4 H4.out.symm).mono ?_
   rintro e w1 ⟨bo,bc,rfl,ho,hb⟩
   have s4:=Lib.hid (SC.out.grow hb)
   clear SC hb d1 d2 H4
   go_wp2_with (at_builtin;go_must (refine wpList_append_foot _ rfl (.tmp 46) (.tmp 56) 47 rfl w.heap.size 5 i0 (.int .u8 0) 1 1 Tryz.underlying47 hii hz0 hz1 hz2 rfl (by decide) _ cur3.length _ (bytV cur3) rfl s4.out.head bo q4.length bc (bytV q4) rfl ho.none (by rw [bytV_length,Nat.mul_one]) ho.at.cells (bytV_one _) (by unfold maxLen;omega) (by omega) (by have:=s4.out.b.size;omega) ?_));intro co c1 w2 hown hgrow hco
   obtain ⟨cur4,hc1⟩:∃ c,c=cur3++q4:=⟨_,rfl⟩
   have hcl3:cur4.length≤130070000:=by rw [hc1,List.length_append];omega
   rw [←hc1] at Htk
   rw [←List.length_append,←hc1]
   (have SD:Hid (St w w2 (thOwn w.heap.size co c1 cur4::[thObj bx (.cells #[.int .i64 zid,.string fr,.string to,.int .i64 owner,.int .i64 epoch,.int .i64 pend,.int .i64 tt,.string key,.int .i64 nw] 125),thObj w.heap.size (.cells #[.int .i64 ver,.int .i64 nx,.slice (some ⟨g,o,none⟩) n zc] 44)])):=(by rw [hc1];exact Lib.hid (s4.out.appended hown hgrow hco)));(obtain ⟨d1,d2,-⟩:=SD.out.cells (t:=125) (b:=bx) (cur:=#[.int .i64 zid,.string fr,.string to,.int .i64 owner,.int .i64 epoch,.int .i64 pend,.int .i64 tt,.string key,.int .i64 nw]) (by simp))
   clear hown hgrow hco ho s4 hc1 l4
   go_wp2_with fail
   refine (H5.out _ _ _ (bytesWorld_bat w2 key)).mono ?_
   rintro e w1 ⟨bo,bc,rfl,ho,hb⟩
   have s4:=Lib.hid (SD.out.grow ((bytesWorld_below w2 key).trans (hb.mono (by rw [bytesWorld_sz];omega))))
   clear SD hb d1 d2 H5
   go_wp2_with (at_builtin;go_must (refine wpList_append_foot _ rfl (.tmp 58) (.tmp 62) 47 rfl w.heap.size 5 i0 (.int .u8 0) 1 1 Tryz.underlying47 hii hz0 hz1 hz2 rfl (by decide) _ cur4.length _ (bytV cur4) rfl s4.out.head bo q5.length bc (bytV q5) rfl ho.none (by rw [bytV_length,Nat.mul_one]) ho.at.cells (bytV_one _) (by unfold maxLen;omega) (by omega) (by have:=s4.out.b.size;omega) ?_));intro co c1 w2 hown hgrow hco
   obtain ⟨cur5,hc1⟩:∃ c,c=cur4++q5:=⟨_,rfl⟩
   have hcl3:cur5.length≤130100000:=by rw [hc1,List.length_append];omega
   rw [←hc1] at Htk
   rw [←List.length_append,←hc1]
   (have SE:Hid (St w w2 (thOwn w.heap.size co c1 cur5::[thObj bx (.cells #[.int .i64 zid,.string fr,.string to,.int .i64 owner,.int .i64 epoch,.int .i64 pend,.int .i64 tt,.string key,.int .i64 nw] 125),thObj w.heap.size (.cells #[.int .i64 ver,.int .i64 nx,.slice (some ⟨g,o,none⟩) n zc] 44)])):=(by rw [hc1];exact Lib.hid (s4.out.appended hown hgrow hco)));(obtain ⟨d1,d2,-⟩:=SE.out.cells (t:=125) (b:=bx) (cur:=#[.int .i64 zid,.string fr,.string to,.int .i64 owner,.int .i64 epoch,.int .i64 pend,.int .i64 tt,.string key,.int .i64 nw]) (by simp))
   clear hown hgrow hco ho s4 hc1 l5
   go_wp2_with fail
   refine (H6.out _).mono ?_
   rintro e w1 ⟨bo,bc,rfl,ho,hb⟩
   have s4:=Lib.hid (SE.out.grow hb)
   clear SE hb d1 d2 H6
   go_wp2_with (at_builtin;go_must (refine wpList_append_foot _ rfl (.tmp 64) (.tmp 67) 47 rfl w.heap.size 5 i0 (.int .u8 0) 1 1 Tryz.underlying47 hii hz0 hz1 hz2 rfl (by decide) _ cur5.length _ (bytV cur5) rfl s4.out.head bo q6.length bc (bytV q6) rfl ho.none (by rw [bytV_length,Nat.mul_one]) ho.at.cells (bytV_one _) (by unfold maxLen;omega) (by omega) (by have:=s4.out.b.size;omega) ?_));intro co c1 w2 hown hgrow hco
   obtain ⟨cur6,hc1⟩:∃ c,c=cur5++q6:=⟨_,rfl⟩
   have hcl3:cur6.length≤130110000:=by rw [hc1,List.length_append];omega
   rw [←hc1] at Htk
   rw [←List.length_append,←hc1]
   (have SF:Hid (St w w2 (thOwn w.heap.size co c1 cur6::[thObj bx (.cells #[.int .i64 zid,.string fr,.string to,.int .i64 owner,.int .i64 epoch,.int .i64 pend,.int .i64 tt,.string key,.int .i64 nw] 125),thObj w.heap.size (.cells #[.int .i64 ver,.int .i64 nx,.slice (some ⟨g,o,none⟩) n zc] 44)])):=(by rw [hc1];exact Lib.hid (s4.out.appended hown hgrow hco)));(obtain ⟨d1,d2,-⟩:=SF.out.cells (t:=125) (b:=bx) (cur:=#[.int .i64 zid,.string fr,.string to,.int .i64 owner,.int .i64 epoch,.int .i64 pend,.int .i64 tt,.string key,.int .i64 nw]) (by simp))
   clear hown hgrow hco ho s4 hc1 l6
   have S7:Hid (St w w2 [thOwn w.heap.size co c1 cur6,thObj w.heap.size (.cells #[.int .i64 ver,.int .i64 nx,.slice (some ⟨g,o,none⟩) n zc] 44)]):=Lib.hid (SF.out.pull (A:=[_])).drop
   clear SF d1 d2
   go_wp2_with fail
   go_roundw
   case rel=>exact ⟨k+1,co,c1,cur6,by go_num,rfl,by omega,Lib.hid Htk.out.symm,S7⟩
   case measure=>simp [intOf];omega
  ·obtain rfl:n=k:=by omega
   have hX:cur=encM m:=by
    rw [HE.out,Hcur.out,show m.zs.take n=m.zs from by rw [Hn.out,List.take_length]]
   have HX:=Lib.hid hX
   clear hX
   go_wp2_with fail
   go_ret
   rw [←HX.out]
   exact ⟨bo,bc,rfl,S2.out.head,S2.out.b⟩
end Go.Proofs.YtogamdaomdoapaaGreat.O
namespace Go.Proofs.YtogamdaomdoapaaGreat
open Go.RowKit
def eqC (a b:Ch):Bool:=decide (a.kind=b.kind∧a.zone=b.zone∧a.epoch=b.epoch∧a.tt=b.tt∧a.key.toList=b.key.toList)
set_option maxHeartbeats 1000000 in
theorem eql_ch (a b:Ch) (w:World) (r:Bool) (hr:eqC a b=r):(Op.equalIn 10000 46 (.agg #[.int .i64 a.kind,.int .i64 a.zone,.int .i64 a.epoch,.int .i64 a.tt,.string a.key]) (.agg #[.int .i64 b.kind,.int .i64 b.zone,.int .i64 b.epoch,.int .i64 b.tt,.string b.key])).run Tryz.prog w=.ok r w:=by
 subst hr
 unfold eqC
 go_simp
 by_cases h1:a.kind=b.kind
 ·by_cases h2:a.zone=b.zone
  ·by_cases h3:a.epoch=b.epoch
   ·by_cases h4:a.tt=b.tt
    ·by_cases h5:a.key.toList=b.key.toList
     ·simp [h1,h2,h3,h4,h5]
     ·simp [h1,h2,h3,h4,h5]
    ·simp [h1,h2,h3,h4]
   ·simp [h1,h2,h3]
  ·simp [h1,h2]
 ·simp [h1]
set_option maxRecDepth 40000 in
set_option maxHeartbeats 4000000 in
theorem mayC_any (c:Ch) (w:World) (r:Bool) (hr:mayC c=r) :
 Calls Tryz.prog 126 #[.agg #[.int .i64 c.kind,.int .i64 c.zone,.int .i64 c.epoch,.int .i64 c.tt,.string c.key]] w fun e w'=>e=.returned (.bool r)∧Below w.heap.size w w':=by
 unfold mayC at hr
 cases hz:decide (1≤c.zone∧c.zone≤1099511627776) with
 | false =>
  have Hn:=Lib.hid (fun w=>isNum_any c.zone w false hz)
  rw [hz,Bool.false_and] at hr
  subst hr
  clear hz
  (go_enter Tryz.func126,Tryz.ntmps126;(go_wp2_with fail);(refine (Hn.out _).mono ?_);(rintro e w' ⟨rfl,rfl⟩);(go_wp2_with fail))
  go_ret
  exact ⟨rfl,bg⟩
 | true =>
  have Hn:=Lib.hid (fun w=>isNum_any c.zone w true hz)
  rw [hz,Bool.true_and] at hr
  clear hz
  obtain ⟨kind,zone,epoch,tt,key⟩:=c
  simp only at hr Hn ⊢
  by_cases k1:kind=1
  ·subst k1
   rw [if_pos rfl] at hr
   by_cases q1:1≤key.size
   ·by_cases q2:key.size≤16
    ·have heq:=fun w=>eql_ch ⟨0,0,epoch,tt,key⟩ ⟨0,0,0,0,key⟩ w r (by rw [←hr];simp [eqC,q1,q2])
     simp only at heq
     have d2:decide ((key.size:Int)≤16)=true:=by rw [decide_eq_true_eq];omega
     clear hr
     (go_enter Tryz.func126,Tryz.ntmps126;(go_wp2_with fail);(refine (Hn.out _).mono ?_);(rintro e w' ⟨rfl,rfl⟩);(go_wp2_with fail))
     go_ret
     exact ⟨rfl,bg⟩
    ·obtain rfl:r=false:=by rw [←hr];simp [q2]
     have d2:decide ((key.size:Int)≤16)=false:=by rw [decide_eq_false_iff_not];omega
     clear hr
     (go_enter Tryz.func126,Tryz.ntmps126;(go_wp2_with fail);(refine (Hn.out _).mono ?_);(rintro e w' ⟨rfl,rfl⟩);(go_wp2_with fail))
     go_ret
     exact ⟨rfl,bg⟩
   ·obtain rfl:r=false:=by rw [←hr];simp [q1]
    clear hr
    (go_enter Tryz.func126,Tryz.ntmps126;(go_wp2_with fail);(refine (Hn.out _).mono ?_);(rintro e w' ⟨rfl,rfl⟩);(go_wp2_with fail))
    go_ret
    exact ⟨rfl,bg⟩
  ·by_cases k2:kind=2
   ·subst k2
    rw [if_neg (by decide),if_pos rfl] at hr
    have heq:=fun w=>eql_ch ⟨0,0,epoch,tt,key⟩ ⟨0,0,0,0,⟨#[]⟩⟩ w r (by rw [←hr];simp [eqC])
    simp only at heq
    clear hr k1
    (go_enter Tryz.func126,Tryz.ntmps126;(go_wp2_with fail);(refine (Hn.out _).mono ?_);(rintro e w' ⟨rfl,rfl⟩);(go_wp2_with fail))
    go_ret
    exact ⟨rfl,bg⟩
   ·by_cases k3:kind=3
    ·subst k3
     rw [if_neg (by decide),if_neg (by decide),if_pos rfl] at hr
     by_cases q1:1≤tt
     ·by_cases q2:tt≤1048576
      ·have heq:=fun w=>eql_ch ⟨0,0,epoch,tt,key⟩ ⟨0,0,0,tt,⟨#[]⟩⟩ w r (by rw [←hr];simp [eqC,q1,q2])
       simp only at heq
       have d2:decide (tt≤1048576)=true:=by rw [decide_eq_true_eq];exact q2
       clear hr k1 k2
       (go_enter Tryz.func126,Tryz.ntmps126;(go_wp2_with fail);(refine (Hn.out _).mono ?_);(rintro e w' ⟨rfl,rfl⟩);(go_wp2_with fail))
       go_ret
       exact ⟨rfl,bg⟩
      ·obtain rfl:r=false:=by rw [←hr];simp [q2]
       have d2:decide (tt≤1048576)=false:=by rw [decide_eq_false_iff_not];exact q2
       clear hr k1 k2
       (go_enter Tryz.func126,Tryz.ntmps126;(go_wp2_with fail);(refine (Hn.out _).mono ?_);(rintro e w' ⟨rfl,rfl⟩);(go_wp2_with fail))
       go_ret
       exact ⟨rfl,bg⟩
     ·obtain rfl:r=false:=by rw [←hr];simp [q1]
      clear hr k1 k2
      (go_enter Tryz.func126,Tryz.ntmps126;(go_wp2_with fail);(refine (Hn.out _).mono ?_);(rintro e w' ⟨rfl,rfl⟩);(go_wp2_with fail))
      go_ret
      exact ⟨rfl,bg⟩
    ·by_cases k4:kind=4∨kind=5
     ·rw [if_neg k1,if_neg k2,if_neg k3,if_pos k4] at hr
      cases hep:decide (1≤epoch∧epoch≤1099511627776) with
      | true =>
       have He:=Lib.hid (fun w=>isNum_any epoch w true hep)
       have hq:1≤epoch∧epoch≤1099511627776:=by simpa using hep
       have heq:=fun w=>eql_ch ⟨0,0,epoch,tt,key⟩ ⟨0,0,epoch,0,⟨#[]⟩⟩ w r (by rw [←hr];simp [eqC,hq.1,hq.2])
       simp only at heq
       clear hr k1 k2 k3 hep hq
       rcases k4 with rfl | rfl
       ·(go_enter Tryz.func126,Tryz.ntmps126;(go_wp2_with fail);(refine (Hn.out _).mono ?_);(rintro e w' ⟨rfl,rfl⟩);(go_wp2_with fail))
        refine (He.out _).mono ?_
        rintro e w' ⟨rfl,rfl⟩
        go_wp2_with fail
        go_ret
        exact ⟨rfl,bg⟩
       ·(go_enter Tryz.func126,Tryz.ntmps126;(go_wp2_with fail);(refine (Hn.out _).mono ?_);(rintro e w' ⟨rfl,rfl⟩);(go_wp2_with fail))
        refine (He.out _).mono ?_
        rintro e w' ⟨rfl,rfl⟩
        go_wp2_with fail
        go_ret
        exact ⟨rfl,bg⟩
      | false =>
       have He:=Lib.hid (fun w=>isNum_any epoch w false hep)
       obtain rfl:r=false:=by
        rw [←hr]
        have hq:¬(1≤epoch∧epoch≤1099511627776):=by simpa using hep
        rw [decide_eq_false_iff_not]
        rintro ⟨h1,h2,-⟩
        exact hq ⟨h1,h2⟩
       clear hr k1 k2 k3 hep
       rcases k4 with rfl | rfl
       ·(go_enter Tryz.func126,Tryz.ntmps126;(go_wp2_with fail);(refine (Hn.out _).mono ?_);(rintro e w' ⟨rfl,rfl⟩);(go_wp2_with fail))
        refine (He.out _).mono ?_
        rintro e w' ⟨rfl,rfl⟩
        go_wp2_with fail
        go_ret
        exact ⟨rfl,bg⟩
       ·(go_enter Tryz.func126,Tryz.ntmps126;(go_wp2_with fail);(refine (Hn.out _).mono ?_);(rintro e w' ⟨rfl,rfl⟩);(go_wp2_with fail))
        refine (He.out _).mono ?_
        rintro e w' ⟨rfl,rfl⟩
        go_wp2_with fail
        go_ret
        exact ⟨rfl,bg⟩
     ·rw [if_neg k1,if_neg k2,if_neg k3,if_neg k4] at hr
      subst hr
      have e1:(kind==1)=false:=by rw [beq_eq_false_iff_ne];exact k1
      have e2:(kind==2)=false:=by rw [beq_eq_false_iff_ne];exact k2
      have e3:(kind==3)=false:=by rw [beq_eq_false_iff_ne];exact k3
      have e4:(kind==4)=false:=by rw [beq_eq_false_iff_ne];exact fun h=>k4 (.inl h)
      have e5:(kind==5)=false:=by rw [beq_eq_false_iff_ne];exact fun h=>k4 (.inr h)
      clear k1 k2 k3 k4
      (go_enter Tryz.func126,Tryz.ntmps126;(go_wp2_with fail);(refine (Hn.out _).mono ?_);(rintro e w' ⟨rfl,rfl⟩);(go_wp2_with fail))
      go_ret
      exact ⟨rfl,bg⟩
end Go.Proofs.YtogamdaomdoapaaGreat
namespace Go.Proofs.YtogamdaomdoapaaGreat
open Go.RowKit
theorem dec0 (a:Int):decide ((0:Int)=a)=decide (a=0):=by rw [Bool.eq_iff_iff];simp [eq_comm]
theorem isKey_any (k:ByteArray) (w:World) (r:Bool) (hr:decide (1≤k.size∧k.size≤16)=r):Calls Tryz.prog 65 #[.string k] w fun e w'=>e=.returned (.bool r)∧w=w':=by
 by_cases h1:1≤k.size
 ·by_cases h2:k.size≤16
  ·obtain rfl:r=true:=by rw [←hr];simp [h1,h2]
   have d:decide ((k.size:Int)≤16)=true:=by rw [decide_eq_true_eq];omega
   clear hr
   go_enter Tryz.func65,Tryz.ntmps65
   go_wp2_with fail
   go_ret
   exact ⟨rfl,rfl⟩
  ·obtain rfl:r=false:=by rw [←hr];simp [h2]
   have d:decide ((k.size:Int)≤16)=false:=by rw [decide_eq_false_iff_not];omega
   clear hr
   go_enter Tryz.func65,Tryz.ntmps65
   go_wp2_with fail
   go_ret
   exact ⟨rfl,rfl⟩
 ·obtain rfl:r=false:=by rw [←hr];simp [h1]
  clear hr
  go_enter Tryz.func65,Tryz.ntmps65
  go_wp2_with fail
  go_ret
  exact ⟨rfl,rfl⟩
set_option maxRecDepth 40000 in
set_option maxHeartbeats 4000000 in
theorem rmayC_any (c:Ch) (w:World) (r:Bool) (hr:mayC c=r) :
 Calls Tryz.prog 35 #[.agg #[.int .i64 c.kind,.int .i64 c.zone,.int .i64 c.epoch,.int .i64 c.tt,.string c.key]] w fun e w'=>e=.returned (.bool r)∧Below w.heap.size w w':=by
 unfold mayC at hr
 obtain ⟨kind,zone,epoch,tt,key⟩:=c
 simp only at hr ⊢
 by_cases z1:1≤zone
 ·have a1:decide (zone<1)=false:=by rw [decide_eq_false_iff_not];omega
  by_cases z2:zone≤1099511627776
  ·have a2:decide (1099511627776<zone)=false:=by rw [decide_eq_false_iff_not];omega
   rw [decide_eq_true ⟨z1,z2⟩,Bool.true_and] at hr
   clear z1 z2
   by_cases k1:kind=1
   ·subst k1
    rw [if_pos rfl] at hr
    cases hkk:decide (1≤key.size∧key.size≤16) with
    | false =>
     have Hk:=Lib.hid (fun w=>isKey_any key w false hkk)
     obtain rfl:r=false:=by
      rw [←hr]
      have hq:¬(1≤key.size∧key.size≤16):=by simpa using hkk
      rw [decide_eq_false_iff_not]
      rintro ⟨h1,h2,-⟩
      exact hq ⟨h1,h2⟩
     clear hr hkk
     (go_enter Tryz.func35,Tryz.ntmps35;(go_wp2_with fail))
     refine (Hk.out _).mono ?_
     rintro e w' ⟨rfl,rfl⟩
     go_wp2_with fail
     (go_ret;exact ⟨rfl,bg⟩)
    | true =>
     have Hk:=Lib.hid (fun w=>isKey_any key w true hkk)
     have hq:1≤key.size∧key.size≤16:=by simpa using hkk
     have heq:=fun w=>eql_ch ⟨1,zone,0,0,key⟩ ⟨1,zone,epoch,tt,key⟩ w r (by rw [←hr];simp [eqC,hq.1,hq.2,dec0])
     simp only at heq
     clear hr hkk hq
     (go_enter Tryz.func35,Tryz.ntmps35;(go_wp2_with fail))
     refine (Hk.out _).mono ?_
     rintro e w' ⟨rfl,rfl⟩
     go_wp2_with fail
     (go_ret;exact ⟨rfl,bg⟩)
   ·by_cases k2:kind=2
    ·subst k2
     rw [if_neg (by decide),if_pos rfl] at hr
     have heq:=fun w=>eql_ch ⟨2,zone,0,0,⟨#[]⟩⟩ ⟨2,zone,epoch,tt,key⟩ w r (by rw [←hr];simp [eqC,dec0])
     simp only at heq
     clear hr k1
     (go_enter Tryz.func35,Tryz.ntmps35;(go_wp2_with fail))
     (go_ret;exact ⟨rfl,bg⟩)
    ·by_cases k3:kind=3
     ·subst k3
      rw [if_neg (by decide),if_neg (by decide),if_pos rfl] at hr
      by_cases q1:1≤tt
      ·by_cases q2:tt≤1048576
       ·have heq:=fun w=>eql_ch ⟨3,zone,0,tt,⟨#[]⟩⟩ ⟨3,zone,epoch,tt,key⟩ w r (by rw [←hr];simp [eqC,q1,q2,dec0])
        simp only at heq
        have d2:decide (tt≤1048576)=true:=by rw [decide_eq_true_eq];exact q2
        have d1:decide (1≤tt)=true:=by rw [decide_eq_true_eq];exact q1
        clear hr k1 k2
        (go_enter Tryz.func35,Tryz.ntmps35;(go_wp2_with fail))
        (go_ret;exact ⟨rfl,bg⟩)
       ·obtain rfl:r=false:=by rw [←hr];simp [q2]
        have d2:decide (tt≤1048576)=false:=by rw [decide_eq_false_iff_not];exact q2
        have d1:decide (1≤tt)=true:=by rw [decide_eq_true_eq];exact q1
        clear hr k1 k2
        (go_enter Tryz.func35,Tryz.ntmps35;(go_wp2_with fail))
        (go_ret;exact ⟨rfl,bg⟩)
      ·obtain rfl:r=false:=by rw [←hr];simp [q1]
       have d1:decide (1≤tt)=false:=by rw [decide_eq_false_iff_not];exact q1
       clear hr k1 k2
       (go_enter Tryz.func35,Tryz.ntmps35;(go_wp2_with fail))
       (go_ret;exact ⟨rfl,bg⟩)
     ·by_cases k4:kind=4∨kind=5
      ·rw [if_neg k1,if_neg k2,if_neg k3,if_pos k4] at hr
       by_cases q1:1≤epoch
       ·have d1:decide (1≤epoch)=true:=by rw [decide_eq_true_eq];exact q1
        by_cases q2:epoch≤1099511627776
        ·have d2:decide (epoch≤1099511627776)=true:=by rw [decide_eq_true_eq];exact q2
         have heq:=fun w=>eql_ch ⟨kind,zone,epoch,0,⟨#[]⟩⟩ ⟨kind,zone,epoch,tt,key⟩ w r (by rw [←hr];simp [eqC,q1,q2,dec0])
         simp only at heq
         clear hr k1 k2 k3
         rcases k4 with rfl | rfl
         ·(go_enter Tryz.func35,Tryz.ntmps35;(go_wp2_with fail))
          (go_ret;exact ⟨rfl,bg⟩)
         ·(go_enter Tryz.func35,Tryz.ntmps35;(go_wp2_with fail))
          (go_ret;exact ⟨rfl,bg⟩)
        ·have d2:decide (epoch≤1099511627776)=false:=by rw [decide_eq_false_iff_not];exact q2
         obtain rfl:r=false:=by rw [←hr];simp [q2]
         clear hr k1 k2 k3
         rcases k4 with rfl | rfl
         ·(go_enter Tryz.func35,Tryz.ntmps35;(go_wp2_with fail))
          (go_ret;exact ⟨rfl,bg⟩)
         ·(go_enter Tryz.func35,Tryz.ntmps35;(go_wp2_with fail))
          (go_ret;exact ⟨rfl,bg⟩)
       ·have d1:decide (1≤epoch)=false:=by rw [decide_eq_false_iff_not];exact q1
        obtain rfl:r=false:=by rw [←hr];simp [q1]
        clear hr k1 k2 k3
        rcases k4 with rfl | rfl
        ·(go_enter Tryz.func35,Tryz.ntmps35;(go_wp2_with fail))
         (go_ret;exact ⟨rfl,bg⟩)
        ·(go_enter Tryz.func35,Tryz.ntmps35;(go_wp2_with fail))
         (go_ret;exact ⟨rfl,bg⟩)
      ·rw [if_neg k1,if_neg k2,if_neg k3,if_neg k4] at hr
       subst hr
       have e1:(kind==1)=false:=by rw [beq_eq_false_iff_ne];exact k1
       have e2:(kind==2)=false:=by rw [beq_eq_false_iff_ne];exact k2
       have e3:(kind==3)=false:=by rw [beq_eq_false_iff_ne];exact k3
       have e4:(kind==4)=false:=by rw [beq_eq_false_iff_ne];exact fun h=>k4 (.inl h)
       have e5:(kind==5)=false:=by rw [beq_eq_false_iff_ne];exact fun h=>k4 (.inr h)
       clear k1 k2 k3 k4
       (go_enter Tryz.func35,Tryz.ntmps35;(go_wp2_with fail))
       (go_ret;exact ⟨rfl,bg⟩)
  ·have a2:decide (1099511627776<zone)=true:=by rw [decide_eq_true_eq];omega
   rw [decide_eq_false (fun h=>z2 h.2),Bool.false_and] at hr
   subst hr
   clear z1 z2
   (go_enter Tryz.func35,Tryz.ntmps35;(go_wp2_with fail))
   (go_ret;exact ⟨rfl,bg⟩)
 ·have a1:decide (zone<1)=true:=by rw [decide_eq_true_eq];omega
  rw [decide_eq_false (fun h=>z1 h.1),Bool.false_and] at hr
  subst hr
  clear z1
  (go_enter Tryz.func35,Tryz.ntmps35;(go_wp2_with fail))
  (go_ret;exact ⟨rfl,bg⟩)
end Go.Proofs.YtogamdaomdoapaaGreat