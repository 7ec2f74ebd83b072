/- Texts put together: MayC, RMc, OCh. -/
import Derived.Test.YthlcmjgdilebeaaGreatQa06
import Derived.Test.YthlcmjgdilebeaaGreatQa08
import Derived.Test.YthlcmjgdilebeaaGreatQa09
import Derived.Test.YthlcmjgdilebeaaGreatQa19
namespace Go.Proofs.YthlcmjgdilebeaaGreat
open Go.RowKit
def eqC (a b:Ch):Bool:=decide (a.kind=b.kind∧a.zone=b.zone∧a.epoch=b.epoch∧a.tt=b.tt∧a.key.toList=b.key.toList)
set_option maxHeartbeats 1000000 in
theorem eql_ch (a b:Ch) (w:World) (r:Bool) (hr:eqC a b=r):(Op.equalIn 10000 37 (.agg #[.int .i64 a.kind,.int .i64 a.zone,.int .i64 a.epoch,.int .i64 a.tt,.string a.key]) (.agg #[.int .i64 b.kind,.int .i64 b.zone,.int .i64 b.epoch,.int .i64 b.tt,.string b.key])).run Tryz.prog w=.ok r w:=by
 subst hr
 unfold eqC
 go_simp
 by_cases h1:a.kind=b.kind
 ·by_cases h2:a.zone=b.zone
  ·by_cases h3:a.epoch=b.epoch
   ·by_cases h4:a.tt=b.tt
    ·by_cases h5:a.key.toList=b.key.toList
     ·simp [h1,h2,h3,h4,h5]
     ·simp [h1,h2,h3,h4,h5]
    ·simp [h1,h2,h3,h4]
   ·simp [h1,h2,h3]
  ·simp [h1,h2]
 ·simp [h1]
set_option maxRecDepth 40000 in
set_option maxHeartbeats 4000000 in
theorem mayC_any (c:Ch) (w:World) (r:Bool) (hr:mayC c=r) :
 Calls Tryz.prog 96 #[.agg #[.int .i64 c.kind,.int .i64 c.zone,.int .i64 c.epoch,.int .i64 c.tt,.string c.key]] w fun e w'=>e=.returned (.bool r)∧Below w.heap.size w w':=by
 unfold mayC at hr
 cases hz:decide (1≤c.zone∧c.zone≤1099511627776) with
 | false =>
  have Hn:=Lib.hid (fun w=>isNum_any c.zone w false hz)
  rw [hz,Bool.false_and] at hr
  subst hr
  clear hz
  (go_enter Tryz.func96,Tryz.ntmps96;(go_wp2_with fail);(refine (Hn.out _).mono ?_);(rintro e w' ⟨rfl,rfl⟩);(go_wp2_with fail))
  go_ret
  exact ⟨rfl,bg⟩
 | true =>
  have Hn:=Lib.hid (fun w=>isNum_any c.zone w true hz)
  rw [hz,Bool.true_and] at hr
  clear hz
  obtain ⟨kind,zone,epoch,tt,key⟩:=c
  simp only at hr Hn ⊢
  by_cases k1:kind=1
  ·subst k1
   rw [if_pos rfl] at hr
   by_cases q1:1≤key.size
   ·by_cases q2:key.size≤16
    ·have heq:=fun w=>eql_ch ⟨0,0,epoch,tt,key⟩ ⟨0,0,0,0,key⟩ w r (by rw [←hr];simp [eqC,q1,q2])
     simp only at heq
     have d2:decide ((key.size:Int)≤16)=true:=by rw [decide_eq_true_eq];omega
     clear hr
     (go_enter Tryz.func96,Tryz.ntmps96;(go_wp2_with fail);(refine (Hn.out _).mono ?_);(rintro e w' ⟨rfl,rfl⟩);(go_wp2_with fail))
     go_ret
     exact ⟨rfl,bg⟩
    ·obtain rfl:r=false:=by rw [←hr];simp [q2]
     have d2:decide ((key.size:Int)≤16)=false:=by rw [decide_eq_false_iff_not];omega
     clear hr
     (go_enter Tryz.func96,Tryz.ntmps96;(go_wp2_with fail);(refine (Hn.out _).mono ?_);(rintro e w' ⟨rfl,rfl⟩);(go_wp2_with fail))
     go_ret
     exact ⟨rfl,bg⟩
   ·obtain rfl:r=false:=by rw [←hr];simp [q1]
    clear hr
    (go_enter Tryz.func96,Tryz.ntmps96;(go_wp2_with fail);(refine (Hn.out _).mono ?_);(rintro e w' ⟨rfl,rfl⟩);(go_wp2_with fail))
    go_ret
    exact ⟨rfl,bg⟩
  ·by_cases k2:kind=2
   ·subst k2
    rw [if_neg (by decide),if_pos rfl] at hr
    have heq:=fun w=>eql_ch ⟨0,0,epoch,tt,key⟩ ⟨0,0,0,0,⟨#[]⟩⟩ w r (by rw [←hr];simp [eqC])
    simp only at heq
    clear hr k1
    (go_enter Tryz.func96,Tryz.ntmps96;(go_wp2_with fail);(refine (Hn.out _).mono ?_);(rintro e w' ⟨rfl,rfl⟩);(go_wp2_with fail))
    go_ret
    exact ⟨rfl,bg⟩
   ·by_cases k3:kind=3
    ·subst k3
     rw [if_neg (by decide),if_neg (by decide),if_pos rfl] at hr
     by_cases q1:1≤tt
     ·by_cases q2:tt≤1048576
      ·have heq:=fun w=>eql_ch ⟨0,0,epoch,tt,key⟩ ⟨0,0,0,tt,⟨#[]⟩⟩ w r (by rw [←hr];simp [eqC,q1,q2])
       simp only at heq
       have d2:decide (tt≤1048576)=true:=by rw [decide_eq_true_eq];exact q2
       clear hr k1 k2
       (go_enter Tryz.func96,Tryz.ntmps96;(go_wp2_with fail);(refine (Hn.out _).mono ?_);(rintro e w' ⟨rfl,rfl⟩);(go_wp2_with fail))
       go_ret
       exact ⟨rfl,bg⟩
      ·obtain rfl:r=false:=by rw [←hr];simp [q2]
       have d2:decide (tt≤1048576)=false:=by rw [decide_eq_false_iff_not];exact q2
       clear hr k1 k2
       (go_enter Tryz.func96,Tryz.ntmps96;(go_wp2_with fail);(refine (Hn.out _).mono ?_);(rintro e w' ⟨rfl,rfl⟩);(go_wp2_with fail))
       go_ret
       exact ⟨rfl,bg⟩
     ·obtain rfl:r=false:=by rw [←hr];simp [q1]
      clear hr k1 k2
      (go_enter Tryz.func96,Tryz.ntmps96;(go_wp2_with fail);(refine (Hn.out _).mono ?_);(rintro e w' ⟨rfl,rfl⟩);(go_wp2_with fail))
      go_ret
      exact ⟨rfl,bg⟩
    ·by_cases k4:kind=4∨kind=5
     ·rw [if_neg k1,if_neg k2,if_neg k3,if_pos k4] at hr
      cases hep:decide (1≤epoch∧epoch≤1099511627776) with
      | true =>
       have He:=Lib.hid (fun w=>isNum_any epoch w true hep)
       have hq:1≤epoch∧epoch≤1099511627776:=by simpa using hep
       have heq:=fun w=>eql_ch ⟨0,0,epoch,tt,key⟩ ⟨0,0,epoch,0,⟨#[]⟩⟩ w r (by rw [←hr];simp [eqC,hq.1,hq.2])
       simp only at heq
       clear hr k1 k2 k3 hep hq
       rcases k4 with rfl | rfl
       ·(go_enter Tryz.func96,Tryz.ntmps96;(go_wp2_with fail);(refine (Hn.out _).mono ?_);(rintro e w' ⟨rfl,rfl⟩);(go_wp2_with fail))
        refine (He.out _).mono ?_
        rintro e w' ⟨rfl,rfl⟩
        go_wp2_with fail
        go_ret
        exact ⟨rfl,bg⟩
       ·(go_enter Tryz.func96,Tryz.ntmps96;(go_wp2_with fail);(refine (Hn.out _).mono ?_);(rintro e w' ⟨rfl,rfl⟩);(go_wp2_with fail))
        refine (He.out _).mono ?_
        rintro e w' ⟨rfl,rfl⟩
        go_wp2_with fail
        go_ret
        exact ⟨rfl,bg⟩
      | false =>
       have He:=Lib.hid (fun w=>isNum_any epoch w false hep)
       obtain rfl:r=false:=by
        rw [←hr]
        have hq:¬(1≤epoch∧epoch≤1099511627776):=by simpa using hep
        rw [decide_eq_false_iff_not]
        rintro ⟨h1,h2,-⟩
        exact hq ⟨h1,h2⟩
       clear hr k1 k2 k3 hep
       rcases k4 with rfl | rfl
       ·(go_enter Tryz.func96,Tryz.ntmps96;(go_wp2_with fail);(refine (Hn.out _).mono ?_);(rintro e w' ⟨rfl,rfl⟩);(go_wp2_with fail))
        refine (He.out _).mono ?_
        rintro e w' ⟨rfl,rfl⟩
        go_wp2_with fail
        go_ret
        exact ⟨rfl,bg⟩
       ·(go_enter Tryz.func96,Tryz.ntmps96;(go_wp2_with fail);(refine (Hn.out _).mono ?_);(rintro e w' ⟨rfl,rfl⟩);(go_wp2_with fail))
        refine (He.out _).mono ?_
        rintro e w' ⟨rfl,rfl⟩
        go_wp2_with fail
        go_ret
        exact ⟨rfl,bg⟩
     ·rw [if_neg k1,if_neg k2,if_neg k3,if_neg k4] at hr
      subst hr
      have e1:(kind==1)=false:=by rw [beq_eq_false_iff_ne];exact k1
      have e2:(kind==2)=false:=by rw [beq_eq_false_iff_ne];exact k2
      have e3:(kind==3)=false:=by rw [beq_eq_false_iff_ne];exact k3
      have e4:(kind==4)=false:=by rw [beq_eq_false_iff_ne];exact fun h=>k4 (.inl h)
      have e5:(kind==5)=false:=by rw [beq_eq_false_iff_ne];exact fun h=>k4 (.inr h)
      clear k1 k2 k3 k4
      (go_enter Tryz.func96,Tryz.ntmps96;(go_wp2_with fail);(refine (Hn.out _).mono ?_);(rintro e w' ⟨rfl,rfl⟩);(go_wp2_with fail))
      go_ret
      exact ⟨rfl,bg⟩
end Go.Proofs.YthlcmjgdilebeaaGreat
namespace Go.Proofs.YthlcmjgdilebeaaGreat
open Go.RowKit
theorem dec0 (a:Int):decide ((0:Int)=a)=decide (a=0):=by rw [Bool.eq_iff_iff];simp [eq_comm]
theorem isKey_any (k:ByteArray) (w:World) (r:Bool) (hr:decide (1≤k.size∧k.size≤16)=r):Calls Tryz.prog 101 #[.string k] w fun e w'=>e=.returned (.bool r)∧w=w':=by
 by_cases h1:1≤k.size
 ·by_cases h2:k.size≤16
  ·obtain rfl:r=true:=by rw [←hr];simp [h1,h2]
   have d:decide ((k.size:Int)≤16)=true:=by rw [decide_eq_true_eq];omega
   clear hr
   go_enter Tryz.func101,Tryz.ntmps101
   go_wp2_with fail
   go_ret
   exact ⟨rfl,rfl⟩
  ·obtain rfl:r=false:=by rw [←hr];simp [h2]
   have d:decide ((k.size:Int)≤16)=false:=by rw [decide_eq_false_iff_not];omega
   clear hr
   go_enter Tryz.func101,Tryz.ntmps101
   go_wp2_with fail
   go_ret
   exact ⟨rfl,rfl⟩
 ·obtain rfl:r=false:=by rw [←hr];simp [h1]
  clear hr
  go_enter Tryz.func101,Tryz.ntmps101
  go_wp2_with fail
  go_ret
  exact ⟨rfl,rfl⟩
set_option maxRecDepth 40000 in
set_option maxHeartbeats 4000000 in
theorem rmayC_any (c:Ch) (w:World) (r:Bool) (hr:mayC c=r) :
 Calls Tryz.prog 60 #[.agg #[.int .i64 c.kind,.int .i64 c.zone,.int .i64 c.epoch,.int .i64 c.tt,.string c.key]] w fun e w'=>e=.returned (.bool r)∧Below w.heap.size w w':=by
 unfold mayC at hr
 obtain ⟨kind,zone,epoch,tt,key⟩:=c
 simp only at hr ⊢
 by_cases z1:1≤zone
 ·have a1:decide (zone<1)=false:=by rw [decide_eq_false_iff_not];omega
  by_cases z2:zone≤1099511627776
  ·have a2:decide (1099511627776<zone)=false:=by rw [decide_eq_false_iff_not];omega
   rw [decide_eq_true ⟨z1,z2⟩,Bool.true_and] at hr
   clear z1 z2
   by_cases k1:kind=1
   ·subst k1
    rw [if_pos rfl] at hr
    cases hkk:decide (1≤key.size∧key.size≤16) with
    | false =>
     have Hk:=Lib.hid (fun w=>isKey_any key w false hkk)
     obtain rfl:r=false:=by
      rw [←hr]
      have hq:¬(1≤key.size∧key.size≤16):=by simpa using hkk
      rw [decide_eq_false_iff_not]
      rintro ⟨h1,h2,-⟩
      exact hq ⟨h1,h2⟩
     clear hr hkk
     (go_enter Tryz.func60,Tryz.ntmps60;(go_wp2_with fail))
     refine (Hk.out _).mono ?_
     rintro e w' ⟨rfl,rfl⟩
     go_wp2_with fail
     (go_ret;exact ⟨rfl,bg⟩)
    | true =>
     have Hk:=Lib.hid (fun w=>isKey_any key w true hkk)
     have hq:1≤key.size∧key.size≤16:=by simpa using hkk
     have heq:=fun w=>eql_ch ⟨1,zone,0,0,key⟩ ⟨1,zone,epoch,tt,key⟩ w r (by rw [←hr];simp [eqC,hq.1,hq.2,dec0])
     simp only at heq
     clear hr hkk hq
     (go_enter Tryz.func60,Tryz.ntmps60;(go_wp2_with fail))
     refine (Hk.out _).mono ?_
     rintro e w' ⟨rfl,rfl⟩
     go_wp2_with fail
     (go_ret;exact ⟨rfl,bg⟩)
   ·by_cases k2:kind=2
    ·subst k2
     rw [if_neg (by decide),if_pos rfl] at hr
     have heq:=fun w=>eql_ch ⟨2,zone,0,0,⟨#[]⟩⟩ ⟨2,zone,epoch,tt,key⟩ w r (by rw [←hr];simp [eqC,dec0])
     simp only at heq
     clear hr k1
     (go_enter Tryz.func60,Tryz.ntmps60;(go_wp2_with fail))
     (go_ret;exact ⟨rfl,bg⟩)
    ·by_cases k3:kind=3
     ·subst k3
      rw [if_neg (by decide),if_neg (by decide),if_pos rfl] at hr
      by_cases q1:1≤tt
      ·by_cases q2:tt≤1048576
       ·have heq:=fun w=>eql_ch ⟨3,zone,0,tt,⟨#[]⟩⟩ ⟨3,zone,epoch,tt,key⟩ w r (by rw [←hr];simp [eqC,q1,q2,dec0])
        simp only at heq
        have d2:decide (tt≤1048576)=true:=by rw [decide_eq_true_eq];exact q2
        have d1:decide (1≤tt)=true:=by rw [decide_eq_true_eq];exact q1
        clear hr k1 k2
        (go_enter Tryz.func60,Tryz.ntmps60;(go_wp2_with fail))
        (go_ret;exact ⟨rfl,bg⟩)
       ·obtain rfl:r=false:=by rw [←hr];simp [q2]
        have d2:decide (tt≤1048576)=false:=by rw [decide_eq_false_iff_not];exact q2
        have d1:decide (1≤tt)=true:=by rw [decide_eq_true_eq];exact q1
        clear hr k1 k2
        (go_enter Tryz.func60,Tryz.ntmps60;(go_wp2_with fail))
        (go_ret;exact ⟨rfl,bg⟩)
      ·obtain rfl:r=false:=by rw [←hr];simp [q1]
       have d1:decide (1≤tt)=false:=by rw [decide_eq_false_iff_not];exact q1
       clear hr k1 k2
       (go_enter Tryz.func60,Tryz.ntmps60;(go_wp2_with fail))
       (go_ret;exact ⟨rfl,bg⟩)
     ·by_cases k4:kind=4∨kind=5
      ·rw [if_neg k1,if_neg k2,if_neg k3,if_pos k4] at hr
       by_cases q1:1≤epoch
       ·have d1:decide (1≤epoch)=true:=by rw [decide_eq_true_eq];exact q1
        by_cases q2:epoch≤1099511627776
        ·have d2:decide (epoch≤1099511627776)=true:=by rw [decide_eq_true_eq];exact q2
         have heq:=fun w=>eql_ch ⟨kind,zone,epoch,0,⟨#[]⟩⟩ ⟨kind,zone,epoch,tt,key⟩ w r (by rw [←hr];simp [eqC,q1,q2,dec0])
         simp only at heq
         clear hr k1 k2 k3
         rcases k4 with rfl | rfl
         ·(go_enter Tryz.func60,Tryz.ntmps60;(go_wp2_with fail))
          (go_ret;exact ⟨rfl,bg⟩)
         ·(go_enter Tryz.func60,Tryz.ntmps60;(go_wp2_with fail))
          (go_ret;exact ⟨rfl,bg⟩)
        ·have d2:decide (epoch≤1099511627776)=false:=by rw [decide_eq_false_iff_not];exact q2
         obtain rfl:r=false:=by rw [←hr];simp [q2]
         clear hr k1 k2 k3
         rcases k4 with rfl | rfl
         ·(go_enter Tryz.func60,Tryz.ntmps60;(go_wp2_with fail))
          (go_ret;exact ⟨rfl,bg⟩)
         ·(go_enter Tryz.func60,Tryz.ntmps60;(go_wp2_with fail))
          (go_ret;exact ⟨rfl,bg⟩)
       ·have d1:decide (1≤epoch)=false:=by rw [decide_eq_false_iff_not];exact q1
        obtain rfl:r=false:=by rw [←hr];simp [q1]
        clear hr k1 k2 k3
        rcases k4 with rfl | rfl
        ·(go_enter Tryz.func60,Tryz.ntmps60;(go_wp2_with fail))
         (go_ret;exact ⟨rfl,bg⟩)
        ·(go_enter Tryz.func60,Tryz.ntmps60;(go_wp2_with fail))
         (go_ret;exact ⟨rfl,bg⟩)
      ·rw [if_neg k1,if_neg k2,if_neg k3,if_neg k4] at hr
       subst hr
       have e1:(kind==1)=false:=by rw [beq_eq_false_iff_ne];exact k1
       have e2:(kind==2)=false:=by rw [beq_eq_false_iff_ne];exact k2
       have e3:(kind==3)=false:=by rw [beq_eq_false_iff_ne];exact k3
       have e4:(kind==4)=false:=by rw [beq_eq_false_iff_ne];exact fun h=>k4 (.inl h)
       have e5:(kind==5)=false:=by rw [beq_eq_false_iff_ne];exact fun h=>k4 (.inr h)
       clear k1 k2 k3 k4
       (go_enter Tryz.func60,Tryz.ntmps60;(go_wp2_with fail))
       (go_ret;exact ⟨rfl,bg⟩)
  ·have a2:decide (1099511627776<zone)=true:=by rw [decide_eq_true_eq];omega
   rw [decide_eq_false (fun h=>z2 h.2),Bool.false_and] at hr
   subst hr
   clear z1 z2
   (go_enter Tryz.func60,Tryz.ntmps60;(go_wp2_with fail))
   (go_ret;exact ⟨rfl,bg⟩)
 ·have a1:decide (zone<1)=true:=by rw [decide_eq_true_eq];omega
  rw [decide_eq_false (fun h=>z1 h.1),Bool.false_and] at hr
  subst hr
  clear z1
  (go_enter Tryz.func60,Tryz.ntmps60;(go_wp2_with fail))
  (go_ret;exact ⟨rfl,bg⟩)
end Go.Proofs.YthlcmjgdilebeaaGreat
namespace Go.Proofs.YthlcmjgdilebeaaGreat.O
open Go.RowKit
set_option maxRecDepth 20000
def encC (c:Ch):List UInt8:=encs [c.kind,c.zone,c.epoch,c.tt]++encS c.key
def kc (l:List UInt8):List UInt8 × List UInt8 × Bool:=tookOf (rdSt l false 4).1 (rdSt l false 4).2
def decC (l:List UInt8):Ch × Rs:=(⟨rdVal l false 0,rdVal l false 1,rdVal l false 2,rdVal l false 3,txt (kc l).1⟩,(kc l).2)
def goodC (l:List UInt8):Bool:=wholeS (decC l).2&&mayC (decC l).1
theorem mayC_key {c:Ch} (h:mayC c=true):c.key.size≤16:=by
 have hnil:c.key.toList=[]→c.key.size≤16:=fun e=>by rw [size_nil e];omega
 unfold mayC at h
 rw [Bool.and_eq_true] at h
 obtain ⟨-,h⟩:=h
 split at h
 ·rw [decide_eq_true_eq] at h;omega
 ·split at h
  ·rw [decide_eq_true_eq] at h;exact hnil h.2.2
  ·split at h
   ·rw [decide_eq_true_eq] at h;exact hnil h.2.2.2
   ·split at h
    ·rw [decide_eq_true_eq] at h;exact hnil h.2.2.2
    ·cases h
def EncCPost (w:World) (c:Ch) (e:Ending) (w':World):Prop:=Below w.heap.size w w' ∧
 if mayC c=true then ∃ ao cap,e=.returned (.tuple #[.slice ao (encC c).length cap,.int .i64 0])∧OwnB w' w.heap.size ao cap (encC c) else e=.returned (.tuple #[.slice none 0 0,.int .i64 1])
set_option maxHeartbeats 4000000 in
theorem pencC_any (c:Ch) (w:World):Calls Tryz.prog 51 #[.agg #[.int .i64 c.kind,.int .i64 c.zone,.int .i64 c.epoch,.int .i64 c.tt,.string c.key]] w (EncCPost w c):=by
 obtain ⟨q,hq⟩:∃ q,q=mayC c:=⟨_,rfl⟩
 have Hmy:=Lib.hid (fun w=>mayC_any c w q hq.symm)
 have Hq:=Lib.hid hq
 have hcv:=conv_bytes
 have Hks:Hid (q=true→c.key.size≤16):=Lib.hid fun h=>mayC_key (by rw [←hq,h])
 clear hq
 obtain ⟨kind,zone,epoch,tt,key⟩:=c
 dsimp only at Hmy Hks ⊢
 cases q with
 | false =>
  go_enter Tryz.func51,Tryz.ntmps51
  go_wp2_with fail
  (refine calls_name fun wa hwa=>?_;have wa_b:Below w.heap.size w wa:=(by rw [hwa];exact bg);clear hwa)
  refine (Hmy.out wa).mono ?_
  (rintro e w1 ⟨rfl,w1_h⟩;obtain ⟨w1_hc,w1_hf⟩:=bcell w1_h;have w1_z:=w1_h.size;have w1_b:=wa_b.trans (w1_h.mono (by have:=wa_b.size;omega));have w1_le:=w1_b.size;clear w1_h)
  go_wp2_with fail
  go_ret2
  unfold EncCPost
  rw [if_neg (by rw [←Hq.out];simp)]
  exact ⟨bg,rfl⟩
 | true =>
  have hks:=Hks.out rfl
  go_enter Tryz.func51,Tryz.ntmps51
  go_wp2_with fail
  have s0:=(St.start w).objN (.cells #[.int .i64 kind,.int .i64 zone,.int .i64 epoch,.int .i64 tt,.string key] 37) w.heap.size rfl
  refine (Hmy.out _).mono ?_
  rintro e w1 ⟨rfl,hb⟩
  have S1:=Lib.hid (s0.grow hb)
  obtain ⟨c1,c2,-⟩:=S1.out.cellsN 0 rfl
  clear s0 hb
  go_wp2_with fail
  have s2:=S1.out.newWr w1.heap.size rfl w.heap.size
  refine (s2.nums [kind,zone,epoch,tt] (w1.heap.size+1) 4 (by simp) rfl _ rfl (by simp)).mono ?_
  rintro e w2 ⟨rfl,o2,hS⟩
  have S3:=Lib.hid hS
  obtain ⟨d1,d2,-⟩:=S3.out.cellsN 1 rfl
  have hl:=encs_length [kind,zone,epoch,tt]
  simp only [List.length_cons,List.length_nil] at hl
  have g1:w.heap.size<w2.heap.size+1:=by omega
  clear s2 hS S1 c1 c2
  go_wp2_with fail
  refine (St.text1 S3.out key (by omega) (w2.heap.size+1) rfl w2.heap.size rfl (by simp only [List.nil_append];omega)).mono ?_
  rintro e w3 ⟨rfl,o3,hS⟩
  obtain ⟨X,hX⟩:∃ X,X=encC ⟨kind,zone,epoch,tt,key⟩:=⟨_,rfl⟩
  have S4:Hid (St w w3 [thWr w1.heap.size w.heap.size X o3,thObj w.heap.size (.cells #[.int .i64 kind,.int .i64 zone,.int .i64 epoch,.int .i64 tt,.string key] 37)]):=by
   rw [hX]
   exact Lib.hid hS
  have hXl:X.length≤140737488351232:=by
   rw [hX]
   have:=encS_length key
   unfold encC
   rw [List.length_append]
   dsimp only
   omega
  have HX:=Lib.hid hX
  clear S3 hS d1 d2 g1 hX hl
  go_wp2_with fail
  refine (out_any w1.heap.size w.heap.size X o3 w3 S4.out.head hXl).mono ?_
  rintro e w5 ⟨ao,cap,rfl,ho,hb⟩
  have Ho:=Lib.hid (own_weak ho S4.out.b.size)
  have Hb:=Lib.hid (S4.out.grow hb).b
  clear ho hb
  go_wp2_with fail
  go_ret2
  unfold EncCPost
  rw [if_pos Hq.out.symm,←HX.out]
  exact ⟨Hb.out,ao,cap,rfl,Ho.out⟩
def DecCPost (w:World) (l:List UInt8) (good bad:Value) (e:Ending) (w':World):Prop:=Below w.heap.size w w' ∧
 if goodC l=true then e=.returned (.tuple #[.agg #[.int .i64 ((decC l).1).kind,.int .i64 ((decC l).1).zone,.int .i64 ((decC l).1).epoch,.int .i64 ((decC l).1).tt,.string ((decC l).1).key],good]) else e=.returned (.tuple #[.agg #[.int .i64 0,.int .i64 0,.int .i64 0,.int .i64 0,.string ⟨#[]⟩],bad])
theorem decC_is (l:List UInt8):∃ k z ep t key r b r2 b2,rdVal l false 0=k∧rdVal l false 1=z∧rdVal l false 2=ep∧rdVal l false 3=t∧rdSt l false 4=(r,b)∧tookOf r b=(key,r2,b2)∧r.length≤l.length∧r2.length≤l.length∧decC l=(⟨(k:Nat),(z:Nat),(ep:Nat),(t:Nat),txt key⟩,r2,b2):=by
 obtain ⟨r,b,e4⟩:∃ x y,rdSt l false 4=(x,y):=⟨_,_,rfl⟩
 obtain ⟨key,r2,b2,e5⟩:∃ n x y,tookOf r b=(n,x,y):=⟨_,_,_,eta3 _⟩
 have l4:r.length≤l.length:=by have:=rdSt_le l false 4;rw [e4] at this;exact this
 obtain ⟨k5,l5⟩:=took_len e5
 have a5:kc l=(key,r2,b2):=by unfold kc;rw [e4];exact e5
 exact ⟨_,_,_,_,key,r,b,r2,b2,rfl,rfl,rfl,rfl,e4,e5,l4,by omega,by unfold decC;rw [a5]⟩
set_option maxHeartbeats 4000000 in
theorem pdecC_any (ao:Option Addr) (cap:Nat) (l:List UInt8) (w:World) (h0:ao=none→l.length=0∧cap=0) (ha:BAt w ao l) (hm:l.length≤2000) :
 Calls Tryz.prog 85 #[.slice ao l.length cap] w (DecCPost w l (.int .i64 0) (.int .i64 3)):=by
 have Ha:=Lib.hid ha
 have H0:=Lib.hid h0
 clear ha h0
 obtain ⟨k,z,ep,t,key,r,b,r2,b2,e0,e1,e2,e3,e4,e5,l4,l5,e6⟩:=decC_is l
 have He:=Lib.hid (⟨e0,e1,e2,e3,e4,e5,e6⟩:_∧_∧_∧_∧_∧_∧_)
 clear e0 e1 e2 e3 e4 e5 e6
 go_enter Tryz.func85,Tryz.ntmps85
 go_wp2_with fail
 have S0:Hid (St w _ [thObj (w.heap.size+1) (.cells #[.int .i64 0,.int .i64 0,.int .i64 0,.int .i64 0,.string ⟨#[]⟩] 37),thObj w.heap.size (.cells #[.int .i64 0,.int .i64 0,.int .i64 0,.int .i64 0,.string ⟨#[]⟩] 37)]):=((St.start w).objN (.cells #[.int .i64 0,.int .i64 0,.int .i64 0,.int .i64 0,.string ⟨#[]⟩] 37) w.heap.size rfl).objN (.cells #[.int .i64 0,.int .i64 0,.int .i64 0,.int .i64 0,.string ⟨#[]⟩] 37) (w.heap.size+1) (by simp)
 refine (newReader_any ao cap l _ H0.out (Ha.out.below S0.out.b) (by omega)).mono ?_
 rintro e w1 ⟨p,g,rfl,hr,hb,hp,hg⟩
 have S1:=Lib.hid (S0.out.newRd hr hb hp hg)
 clear S0 hr hb hp hg
 go_wp2_with fail
 refine (St.readNums (O:=[(w.heap.size+1,#[.int .i64 0,.int .i64 0,.int .i64 0,.int .i64 0,.string ⟨#[]⟩],37),(w.heap.size,#[.int .i64 0,.int .i64 0,.int .i64 0,.int .i64 0,.string ⟨#[]⟩],37)]) (L:=[]) S1.out (by omega) [(0,0),(0,1),(0,2),(0,3)] ?_ w1.heap.size 4 rfl rfl (by simp) _ _ rfl).mono ?_
 ·intro q hq
  simp only [List.mem_cons,List.not_mem_nil,or_false] at hq
  rcases hq with rfl | rfl | rfl | rfl<;>exact ⟨_,_,rfl,rfl⟩
 rintro e w2 ⟨rfl,hS⟩
 have S2:Hid (St w w2 [thRd p g r b,thObj (w.heap.size+1) (.cells #[.int .i64 (k:Nat),.int .i64 (z:Nat),.int .i64 (ep:Nat),.int .i64 (t:Nat),.string ⟨#[]⟩] 37),thObj w.heap.size (.cells #[.int .i64 0,.int .i64 0,.int .i64 0,.int .i64 0,.string ⟨#[]⟩] 37)]):=by
  obtain ⟨e0,e1,e2,e3,e4,e5,e6⟩:=He.out
  rw [←e0,←e1,←e2,←e3]
  have h:=hS
  rw [e4] at h
  exact Lib.hid h
 clear hS S1
 go_wp2_with fail
 have hcall:=St.readBytes S2.out (by omega)
 rw [He.out.2.2.2.2.2.1] at hcall
 refine hcall.mono ?_
 rintro e w3 ⟨yo,yc,rfl,ho,hS⟩
 have T:=Lib.hid hS
 obtain ⟨c1,c2,c3⟩:=T.out.cellsN 1 rfl
 have hcv:=conv_str ho.at yc
 clear hcall hS S2 ho
 go_wp2_with fail
 have S3:Hid (St w (w3.setCell ⟨w.heap.size+1,4,none⟩ (.string ⟨key.toArray⟩)) [thRd p g r2 b2,thObj (w.heap.size+1) (.cells #[.int .i64 (k:Nat),.int .i64 (z:Nat),.int .i64 (ep:Nat),.int .i64 (t:Nat),.string ⟨key.toArray⟩] 37),thObj w.heap.size (.cells #[.int .i64 0,.int .i64 0,.int .i64 0,.int .i64 0,.string ⟨#[]⟩] 37)]):=Lib.hid (((T.out.pull (A:=[_])).setObj 4 (.string ⟨key.toArray⟩)).pull (A:=[_]))
 clear T c1 c2 c3 hcv
 (have HW:Hid (wholeS (decC l).2=(!b2&&r2.isEmpty)):=(by rw [He.out.2.2.2.2.2.2];exact Lib.hid rfl));(have HM:Hid ((decC l).1=⟨(k:Nat),(z:Nat),(ep:Nat),(t:Nat),txt key⟩):=(by rw [He.out.2.2.2.2.2.2];exact Lib.hid rfl));(have hwh:=(whole_any p g r2 b2 _ S3.out.head (by omega)));(obtain ⟨q,hq⟩:∃ q,q=(!b2&&r2.isEmpty):=⟨_,rfl⟩);(rw [←hq] at hwh HW);clear hq;(obtain ⟨qm,hqm⟩:∃ qm,qm=mayC ⟨(k:Nat),(z:Nat),(ep:Nat),(t:Nat),txt key⟩:=⟨_,rfl⟩);(have hmay:=fun w=>mayC_any ⟨(k:Nat),(z:Nat),(ep:Nat),(t:Nat),txt key⟩ w qm hqm.symm);(have HG:Hid (goodC l=(q&&qm)):=(by unfold goodC;rw [HW.out,HM.out,hqm];exact Lib.hid rfl));(dsimp only at hmay);(have Hmay:=Lib.hid hmay);clear hqm hmay;(obtain ⟨u1,u2,u3⟩:=S3.out.cellsN 2 rfl);(obtain ⟨x1,x2,x3⟩:=S3.out.cellsN 1 rfl);(have wr_b:=S3.out.b);(refine hwh.mono ?_);(rintro e w4 ⟨rfl,hww⟩);(subst hww);clear hwh;(cases q);(focus ((go_wp2_with fail);exact bodyPost_ret (v:=.tuple #[.agg #[.int .i64 0,.int .i64 0,.int .i64 0,.int .i64 0,.string ⟨#[]⟩],.int .i64 3]) (by simp only [results,Tryz.results85];go_simp) rfl ⟨bg,by rw [if_neg (by rw [HG.out];simp)]⟩));(focus ((go_wp2_with fail);(refine (Hmay.out _).mono ?_);(rintro e w5 ⟨rfl,hb5⟩);(have S4:=Lib.hid (S3.out.grow hb5));(have w5_b:=S4.out.b);(obtain ⟨u1,u2,u3⟩:=S4.out.cellsN 2 rfl);(obtain ⟨x1,x2,x3⟩:=S4.out.cellsN 1 rfl);clear hb5 S3;(cases qm);(focus ((go_wp2_with fail);exact bodyPost_ret (v:=.tuple #[.agg #[.int .i64 0,.int .i64 0,.int .i64 0,.int .i64 0,.string ⟨#[]⟩],.int .i64 3]) (by simp only [results,Tryz.results85];go_simp) rfl ⟨bg,by rw [if_neg (by rw [HG.out];simp)]⟩));(focus ((go_wp2_with fail);refine bodyPost_ret (v:=.tuple #[.agg #[.int .i64 (k:Nat),.int .i64 (z:Nat),.int .i64 (ep:Nat),.int .i64 (t:Nat),.string ⟨key.toArray⟩],.int .i64 0]) (by simp only [results,Tryz.results85];go_simp) rfl ⟨bg,?_⟩;(rw [if_pos (show goodC l=true from HG.out),HM.out]);rfl))))
set_option maxHeartbeats 4000000 in
theorem rdecC_any (ao:Option Addr) (cap:Nat) (l:List UInt8) (w:World) (h0:ao=none→l.length=0∧cap=0) (hlc:l.length≤cap) (hcm:cap≤9223372036854775807) (ha:BAt w ao l) (hm:l.length≤2000) :
 Calls Tryz.prog 92 #[.slice ao l.length cap] w (DecCPost w l (.int .i64 0) (.int .i64 3)):=by
 have Ha:=Lib.hid ha
 have H0:=Lib.hid h0
 clear ha h0
 obtain ⟨k,z,ep,t,key,r,b,r2,b2,e0,e1,e2,e3,e4,e5,l4,l5,e6⟩:=decC_is l
 have He:=Lib.hid (⟨e0,e1,e2,e3,e4,e5,e6⟩:_∧_∧_∧_∧_∧_∧_)
 clear e0 e1 e2 e3 e4 e5 e6
 obtain ⟨d1,x1,y1,q1⟩:∃ d x y,numT l false=(d,x,y):=⟨_,_,_,eta3 _⟩
 obtain ⟨d2,x2,y2,q2⟩:∃ d x y,numT x1 y1=(d,x,y):=⟨_,_,_,eta3 _⟩
 obtain ⟨d3,x3,y3,q3⟩:∃ d x y,numT x2 y2=(d,x,y):=⟨_,_,_,eta3 _⟩
 obtain ⟨d4,x4,y4,q4⟩:∃ d x y,numT x3 y3=(d,x,y):=⟨_,_,_,eta3 _⟩
 have HF:=Lib.hid (four_is q1 q2 q3 q4)
 have Hl1:=Lib.hid (num_len q1)
 have Hl2:=Lib.hid (num_len q2)
 have Hl3:=Lib.hid (num_len q3)
 have Hq1:=Lib.hid q1
 have Hq2:=Lib.hid q2
 have Hq3:=Lib.hid q3
 have Hq4:=Lib.hid q4
 clear q1 q2 q3 q4
 go_enter Tryz.func92,Tryz.ntmps92
 go_wp2_with fail
 have s0:=(St.start w).objN (.cells #[.int .i64 0,.int .i64 0,.int .i64 0,.int .i64 0,.string ⟨#[]⟩] 37) w.heap.size rfl
 obtain ⟨g,s1⟩:=s0.newRO (w.heap.size+1) (by simp) ao cap l hlc hcm H0.out Ha.out
 obtain ⟨p,hp⟩:∃ p,p=w.heap.size+1:=⟨_,rfl⟩
 rw [←hp] at s1 ⊢
 have S1:Hid (St w _ [thRO w p g l false,thObj w.heap.size (.cells #[.int .i64 0,.int .i64 0,.int .i64 0,.int .i64 0,.string ⟨#[]⟩] 37)]):=Lib.hid s1
 clear s0 s1 hp
 have hcall:=St.readNumO S1.out (by omega)
 rw [Hq1.out] at hcall
 refine hcall.mono ?_
 rintro e v1 ⟨rfl,hS⟩
 have T1:=Lib.hid hS
 dsimp only at T1 ⊢
 clear hcall hS S1
 go_wp2_with fail
 have hcall:=St.readNumO T1.out (by have:=Hl1.out;omega)
 rw [Hq2.out] at hcall
 refine hcall.mono ?_
 rintro e v2 ⟨rfl,hS⟩
 have T2:=Lib.hid hS
 dsimp only at T2 ⊢
 clear hcall hS T1
 go_wp2_with fail
 have hcall:=St.readNumO T2.out (by have:=Hl1.out;have:=Hl2.out;omega)
 rw [Hq3.out] at hcall
 refine hcall.mono ?_
 rintro e v3 ⟨rfl,hS⟩
 have T3:=Lib.hid hS
 dsimp only at T3 ⊢
 clear hcall hS T2
 go_wp2_with fail
 have hcall:=St.readNumO T3.out (by have:=Hl1.out;have:=Hl2.out;have:=Hl3.out;omega)
 rw [Hq4.out] at hcall
 refine hcall.mono ?_
 rintro e v4 ⟨rfl,hS⟩
 have T4:=Lib.hid hS
 dsimp only at T4 ⊢
 clear hcall hS T3
 go_wp2_with fail
 have S5:Hid (St w v4 [thRO w p g r b,thObj w.heap.size (.cells #[.int .i64 0,.int .i64 0,.int .i64 0,.int .i64 0,.string ⟨#[]⟩] 37)]):=by
  have e:=HF.out.2.2.2.2
  rw [He.out.2.2.2.2.1,Prod.mk.injEq] at e
  rw [e.1,e.2]
  exact T4
 clear T4
 have hcall:=readBytesK S5.out (by omega)
 rw [He.out.2.2.2.2.2.1] at hcall
 refine hcall.mono ?_
 rintro e w5 ⟨yo,yc,rfl,ho,hS,-⟩
 have T:=Lib.hid hS
 have hcv:=conv_str ho.at yc
 clear hcall hS S5 ho
 go_wp2_with fail
 have hd1:d1=k:=by rw [←HF.out.1];exact He.out.1
 have hd2:d2=z:=by rw [←HF.out.2.1];exact He.out.2.1
 have hd3:d3=ep:=by rw [←HF.out.2.2.1];exact He.out.2.2.1
 have hd4:d4=t:=by rw [←HF.out.2.2.2.1];exact He.out.2.2.2.1
 rw [hd1,hd2,hd3,hd4]
 clear hd1 hd2 hd3 hd4 HF Hl1 Hl2 Hl3 Hq1 Hq2 Hq3 Hq4 hcv
 have S3:Hid (St w _ [thRO w p g r2 b2,thObj w5.heap.size (.cells #[.int .i64 (k:Nat),.int .i64 (z:Nat),.int .i64 (ep:Nat),.int .i64 (t:Nat),.string ⟨key.toArray⟩] 37),thObj w.heap.size (.cells #[.int .i64 0,.int .i64 0,.int .i64 0,.int .i64 0,.string ⟨#[]⟩] 37)]):=Lib.hid ((T.out.objN (.cells #[.int .i64 (k:Nat),.int .i64 (z:Nat),.int .i64 (ep:Nat),.int .i64 (t:Nat),.string ⟨key.toArray⟩] 37) w5.heap.size rfl).pull (A:=[_]))
 clear T
 (have HW:Hid (wholeS (decC l).2=(!b2&&r2.isEmpty)):=(by rw [He.out.2.2.2.2.2.2];exact Lib.hid rfl));(have HM:Hid ((decC l).1=⟨(k:Nat),(z:Nat),(ep:Nat),(t:Nat),txt key⟩):=(by rw [He.out.2.2.2.2.2.2];exact Lib.hid rfl));(have hwh:=S3.out.wholeO);(obtain ⟨q,hq⟩:∃ q,q=(!b2&&r2.isEmpty):=⟨_,rfl⟩);(rw [←hq] at hwh HW);clear hq;(obtain ⟨qm,hqm⟩:∃ qm,qm=mayC ⟨(k:Nat),(z:Nat),(ep:Nat),(t:Nat),txt key⟩:=⟨_,rfl⟩);(have hmay:=fun w=>rmayC_any ⟨(k:Nat),(z:Nat),(ep:Nat),(t:Nat),txt key⟩ w qm hqm.symm);(have HG:Hid (goodC l=(q&&qm)):=(by unfold goodC;rw [HW.out,HM.out,hqm];exact Lib.hid rfl));(dsimp only at hmay);(have Hmay:=Lib.hid hmay);clear hqm hmay;(obtain ⟨u1,u2,u3⟩:=S3.out.cellsN 2 rfl);(obtain ⟨x1,x2,x3⟩:=S3.out.cellsN 1 rfl);(have wr_b:=S3.out.b);(refine hwh.mono ?_);(rintro e w4 ⟨rfl,hww⟩);(subst hww);clear hwh;(cases q);(focus ((go_wp2_with fail);exact bodyPost_ret (v:=.tuple #[.agg #[.int .i64 0,.int .i64 0,.int .i64 0,.int .i64 0,.string ⟨#[]⟩],.int .i64 3]) (by simp only [results,Tryz.results92];go_simp) rfl ⟨bg,by rw [if_neg (by rw [HG.out];simp)]⟩));(focus ((go_wp2_with fail);(refine (Hmay.out _).mono ?_);(rintro e w5 ⟨rfl,hb5⟩);(have S4:=Lib.hid (S3.out.grow hb5));(have w5_b:=S4.out.b);(obtain ⟨u1,u2,u3⟩:=S4.out.cellsN 2 rfl);(obtain ⟨x1,x2,x3⟩:=S4.out.cellsN 1 rfl);clear hb5 S3;(cases qm);(focus ((go_wp2_with fail);exact bodyPost_ret (v:=.tuple #[.agg #[.int .i64 0,.int .i64 0,.int .i64 0,.int .i64 0,.string ⟨#[]⟩],.int .i64 3]) (by simp only [results,Tryz.results92];go_simp) rfl ⟨bg,by rw [if_neg (by rw [HG.out];simp)]⟩));(focus ((go_wp2_with fail);refine bodyPost_ret (v:=.tuple #[.agg #[.int .i64 (k:Nat),.int .i64 (z:Nat),.int .i64 (ep:Nat),.int .i64 (t:Nat),.string ⟨key.toArray⟩],.int .i64 0]) (by simp only [results,Tryz.results92];go_simp) rfl ⟨bg,?_⟩;(rw [if_pos (show goodC l=true from HG.out),HM.out]);rfl))))
end Go.Proofs.YthlcmjgdilebeaaGreat.O