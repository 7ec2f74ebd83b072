/- Texts put together: MayC, RMc. -/
import Derived.Test.YtogamdaomdoapaaGreatGa07
namespace Go.Proofs.YtogamdaomdoapaaGreat
open Go.Value renaming int→aI,string→aS
open Go.IntKind renaming i64→aK
open Go.Lib renaming hid→uH
open Go.RowKit
def eqC (a b:Ch):Bool:=decide (a.kind=b.kind∧a.zone=b.zone∧a.epoch=b.epoch∧a.tt=b.tt∧a.key.toList=b.key.toList)
set_option maxHeartbeats 1000000 in
theorem i0o (a b:Ch) (w:World) (r:Bool) (hr:eqC a b=r):(Op.equalIn 10000 46 (.agg #[aI aK a.kind,aI aK a.zone,aI aK a.epoch,aI aK a.tt,aS a.key]) (.agg #[aI aK b.kind,aI aK b.zone,aI aK b.epoch,aI aK b.tt,aS b.key])).run Tryz.prog w=.ok r w:=by
 subst hr
 unfold eqC
 go_simp
 by_cases h1:a.kind=b.kind
 ·by_cases h2:a.zone=b.zone
  ·by_cases h3:a.epoch=b.epoch
   ·by_cases h4:a.tt=b.tt
    ·by_cases h5:a.key.toList=b.key.toList
     ·simp [h1,h2,h3,h4,h5]
     ·simp [h1,h2,h3,h4,h5]
    ·simp [h1,h2,h3,h4]
   ·simp [h1,h2,h3]
  ·simp [h1,h2]
 ·simp [h1]
set_option maxRecDepth 40000 in
set_option maxHeartbeats 4000000 in
theorem s0w (c:Ch) (w:World) (r:Bool) (hr:mayC c=r) :
 Calls Tryz.prog 126 #[.agg #[aI aK c.kind,aI aK c.zone,aI aK c.epoch,aI aK c.tt,aS c.key]] w fun e w'=>e=.returned (.bool r)∧Below w.heap.size w w':=by
 unfold mayC at hr
 cases hz:decide (1≤c.zone∧c.zone≤1099511627776) with
 | false =>
  have Hn:=uH (fun w=>d0v c.zone w false hz)
  rw [hz,Bool.false_and] at hr
  subst hr
  clear hz
  (go_enter Tryz.func126,Tryz.ntmps126;(go_wp2_with fail);(refine (Hn.out _).mono ?_);(rintro e w' ⟨rfl,rfl⟩);(go_wp2_with fail))
  go_ret
  exact ⟨rfl,bg⟩
 | true =>
  have Hn:=uH (fun w=>d0v c.zone w true hz)
  rw [hz,Bool.true_and] at hr
  clear hz
  obtain ⟨kind,zone,epoch,tt,key⟩:=c
  simp only at hr Hn ⊢
  by_cases k1:kind=1
  ·subst k1
   rw [if_pos rfl] at hr
   by_cases q1:1≤key.size
   ·by_cases q2:key.size≤16
    ·have heq:=fun w=>i0o ⟨0,0,epoch,tt,key⟩ ⟨0,0,0,0,key⟩ w r (by rw [←hr];simp [eqC,q1,q2])
     simp only at heq
     have d2:decide ((key.size:Int)≤16)=true:=by rw [decide_eq_true_eq];omega
     clear hr
     (go_enter Tryz.func126,Tryz.ntmps126;(go_wp2_with fail);(refine (Hn.out _).mono ?_);(rintro e w' ⟨rfl,rfl⟩);(go_wp2_with fail))
     go_ret
     exact ⟨rfl,bg⟩
    ·obtain rfl:r=false:=by rw [←hr];simp [q2]
     have d2:decide ((key.size:Int)≤16)=false:=by rw [decide_eq_false_iff_not];omega
     clear hr
     (go_enter Tryz.func126,Tryz.ntmps126;(go_wp2_with fail);(refine (Hn.out _).mono ?_);(rintro e w' ⟨rfl,rfl⟩);(go_wp2_with fail))
     go_ret
     exact ⟨rfl,bg⟩
   ·obtain rfl:r=false:=by rw [←hr];simp [q1]
    clear hr
    (go_enter Tryz.func126,Tryz.ntmps126;(go_wp2_with fail);(refine (Hn.out _).mono ?_);(rintro e w' ⟨rfl,rfl⟩);(go_wp2_with fail))
    go_ret
    exact ⟨rfl,bg⟩
  ·by_cases k2:kind=2
   ·subst k2
    rw [if_neg (by decide),if_pos rfl] at hr
    have heq:=fun w=>i0o ⟨0,0,epoch,tt,key⟩ ⟨0,0,0,0,⟨#[]⟩⟩ w r (by rw [←hr];simp [eqC])
    simp only at heq
    clear hr k1
    (go_enter Tryz.func126,Tryz.ntmps126;(go_wp2_with fail);(refine (Hn.out _).mono ?_);(rintro e w' ⟨rfl,rfl⟩);(go_wp2_with fail))
    go_ret
    exact ⟨rfl,bg⟩
   ·by_cases k3:kind=3
    ·subst k3
     rw [if_neg (by decide),if_neg (by decide),if_pos rfl] at hr
     by_cases q1:1≤tt
     ·by_cases q2:tt≤1048576
      ·have heq:=fun w=>i0o ⟨0,0,epoch,tt,key⟩ ⟨0,0,0,tt,⟨#[]⟩⟩ w r (by rw [←hr];simp [eqC,q1,q2])
       simp only at heq
       have d2:decide (tt≤1048576)=true:=by rw [decide_eq_true_eq];exact q2
       clear hr k1 k2
       (go_enter Tryz.func126,Tryz.ntmps126;(go_wp2_with fail);(refine (Hn.out _).mono ?_);(rintro e w' ⟨rfl,rfl⟩);(go_wp2_with fail))
       go_ret
       exact ⟨rfl,bg⟩
      ·obtain rfl:r=false:=by rw [←hr];simp [q2]
       have d2:decide (tt≤1048576)=false:=by rw [decide_eq_false_iff_not];exact q2
       clear hr k1 k2
       (go_enter Tryz.func126,Tryz.ntmps126;(go_wp2_with fail);(refine (Hn.out _).mono ?_);(rintro e w' ⟨rfl,rfl⟩);(go_wp2_with fail))
       go_ret
       exact ⟨rfl,bg⟩
     ·obtain rfl:r=false:=by rw [←hr];simp [q1]
      clear hr k1 k2
      (go_enter Tryz.func126,Tryz.ntmps126;(go_wp2_with fail);(refine (Hn.out _).mono ?_);(rintro e w' ⟨rfl,rfl⟩);(go_wp2_with fail))
      go_ret
      exact ⟨rfl,bg⟩
    ·by_cases k4:kind=4∨kind=5
     ·rw [if_neg k1,if_neg k2,if_neg k3,if_pos k4] at hr
      cases hep:decide (1≤epoch∧epoch≤1099511627776) with
      | true =>
       have He:=uH (fun w=>d0v epoch w true hep)
       have hq:1≤epoch∧epoch≤1099511627776:=by simpa using hep
       have heq:=fun w=>i0o ⟨0,0,epoch,tt,key⟩ ⟨0,0,epoch,0,⟨#[]⟩⟩ w r (by rw [←hr];simp [eqC,hq.1,hq.2])
       simp only at heq
       clear hr k1 k2 k3 hep hq
       rcases k4 with rfl | rfl
       ·(go_enter Tryz.func126,Tryz.ntmps126;(go_wp2_with fail);(refine (Hn.out _).mono ?_);(rintro e w' ⟨rfl,rfl⟩);(go_wp2_with fail))
        refine (He.out _).mono ?_
        rintro e w' ⟨rfl,rfl⟩
        go_wp2_with fail
        go_ret
        exact ⟨rfl,bg⟩
       ·(go_enter Tryz.func126,Tryz.ntmps126;(go_wp2_with fail);(refine (Hn.out _).mono ?_);(rintro e w' ⟨rfl,rfl⟩);(go_wp2_with fail))
        refine (He.out _).mono ?_
        rintro e w' ⟨rfl,rfl⟩
        go_wp2_with fail
        go_ret
        exact ⟨rfl,bg⟩
      | false =>
       have He:=uH (fun w=>d0v epoch w false hep)
       obtain rfl:r=false:=by
        rw [←hr]
        have hq:¬(1≤epoch∧epoch≤1099511627776):=by simpa using hep
        rw [decide_eq_false_iff_not]
        rintro ⟨h1,h2,-⟩
        exact hq ⟨h1,h2⟩
       clear hr k1 k2 k3 hep
       rcases k4 with rfl | rfl
       ·(go_enter Tryz.func126,Tryz.ntmps126;(go_wp2_with fail);(refine (Hn.out _).mono ?_);(rintro e w' ⟨rfl,rfl⟩);(go_wp2_with fail))
        refine (He.out _).mono ?_
        rintro e w' ⟨rfl,rfl⟩
        go_wp2_with fail
        go_ret
        exact ⟨rfl,bg⟩
       ·(go_enter Tryz.func126,Tryz.ntmps126;(go_wp2_with fail);(refine (Hn.out _).mono ?_);(rintro e w' ⟨rfl,rfl⟩);(go_wp2_with fail))
        refine (He.out _).mono ?_
        rintro e w' ⟨rfl,rfl⟩
        go_wp2_with fail
        go_ret
        exact ⟨rfl,bg⟩
     ·rw [if_neg k1,if_neg k2,if_neg k3,if_neg k4] at hr
      subst hr
      have e1:(kind==1)=false:=by rw [beq_eq_false_iff_ne];exact k1
      have e2:(kind==2)=false:=by rw [beq_eq_false_iff_ne];exact k2
      have e3:(kind==3)=false:=by rw [beq_eq_false_iff_ne];exact k3
      have e4:(kind==4)=false:=by rw [beq_eq_false_iff_ne];exact fun h=>k4 (.inl h)
      have e5:(kind==5)=false:=by rw [beq_eq_false_iff_ne];exact fun h=>k4 (.inr h)
      clear k1 k2 k3 k4
      (go_enter Tryz.func126,Tryz.ntmps126;(go_wp2_with fail);(refine (Hn.out _).mono ?_);(rintro e w' ⟨rfl,rfl⟩);(go_wp2_with fail))
      go_ret
      exact ⟨rfl,bg⟩
open Go.RowKit
theorem dec0 (a:Int):decide ((0:Int)=a)=decide (a=0):=by rw [Bool.eq_iff_iff];simp [eq_comm]
theorem p0e (k:ByteArray) (w:World) (r:Bool) (hr:decide (1≤k.size∧k.size≤16)=r):Calls Tryz.prog 65 #[aS k] w fun e w'=>e=.returned (.bool r)∧w=w':=by
 by_cases h1:1≤k.size
 ·by_cases h2:k.size≤16
  ·obtain rfl:r=true:=by rw [←hr];simp [h1,h2]
   have d:decide ((k.size:Int)≤16)=true:=by rw [decide_eq_true_eq];omega
   clear hr
   go_enter Tryz.func65,Tryz.ntmps65
   go_wp2_with fail
   go_ret
   exact ⟨rfl,rfl⟩
  ·obtain rfl:r=false:=by rw [←hr];simp [h2]
   have d:decide ((k.size:Int)≤16)=false:=by rw [decide_eq_false_iff_not];omega
   clear hr
   go_enter Tryz.func65,Tryz.ntmps65
   go_wp2_with fail
   go_ret
   exact ⟨rfl,rfl⟩
 ·obtain rfl:r=false:=by rw [←hr];simp [h1]
  clear hr
  go_enter Tryz.func65,Tryz.ntmps65
  go_wp2_with fail
  go_ret
  exact ⟨rfl,rfl⟩
set_option maxRecDepth 40000 in
set_option maxHeartbeats 4000000 in
theorem k0q (c:Ch) (w:World) (r:Bool) (hr:mayC c=r) :
 Calls Tryz.prog 35 #[.agg #[aI aK c.kind,aI aK c.zone,aI aK c.epoch,aI aK c.tt,aS c.key]] w fun e w'=>e=.returned (.bool r)∧Below w.heap.size w w':=by
 unfold mayC at hr
 obtain ⟨kind,zone,epoch,tt,key⟩:=c
 simp only at hr ⊢
 by_cases z1:1≤zone
 ·have a1:decide (zone<1)=false:=by rw [decide_eq_false_iff_not];omega
  by_cases z2:zone≤1099511627776
  ·have a2:decide (1099511627776<zone)=false:=by rw [decide_eq_false_iff_not];omega
   rw [decide_eq_true ⟨z1,z2⟩,Bool.true_and] at hr
   clear z1 z2
   by_cases k1:kind=1
   ·subst k1
    rw [if_pos rfl] at hr
    cases hkk:decide (1≤key.size∧key.size≤16) with
    | false =>
     have Hk:=uH (fun w=>p0e key w false hkk)
     obtain rfl:r=false:=by
      rw [←hr]
      have hq:¬(1≤key.size∧key.size≤16):=by simpa using hkk
      rw [decide_eq_false_iff_not]
      rintro ⟨h1,h2,-⟩
      exact hq ⟨h1,h2⟩
     clear hr hkk
     (go_enter Tryz.func35,Tryz.ntmps35;(go_wp2_with fail))
     refine (Hk.out _).mono ?_
     rintro e w' ⟨rfl,rfl⟩
     go_wp2_with fail
     (go_ret;exact ⟨rfl,bg⟩)
    | true =>
     have Hk:=uH (fun w=>p0e key w true hkk)
     have hq:1≤key.size∧key.size≤16:=by simpa using hkk
     have heq:=fun w=>i0o ⟨1,zone,0,0,key⟩ ⟨1,zone,epoch,tt,key⟩ w r (by rw [←hr];simp [eqC,hq.1,hq.2,dec0])
     simp only at heq
     clear hr hkk hq
     (go_enter Tryz.func35,Tryz.ntmps35;(go_wp2_with fail))
     refine (Hk.out _).mono ?_
     rintro e w' ⟨rfl,rfl⟩
     go_wp2_with fail
     (go_ret;exact ⟨rfl,bg⟩)
   ·by_cases k2:kind=2
    ·subst k2
     rw [if_neg (by decide),if_pos rfl] at hr
     have heq:=fun w=>i0o ⟨2,zone,0,0,⟨#[]⟩⟩ ⟨2,zone,epoch,tt,key⟩ w r (by rw [←hr];simp [eqC,dec0])
     simp only at heq
     clear hr k1
     (go_enter Tryz.func35,Tryz.ntmps35;(go_wp2_with fail))
     (go_ret;exact ⟨rfl,bg⟩)
    ·by_cases k3:kind=3
     ·subst k3
      rw [if_neg (by decide),if_neg (by decide),if_pos rfl] at hr
      by_cases q1:1≤tt
      ·by_cases q2:tt≤1048576
       ·have heq:=fun w=>i0o ⟨3,zone,0,tt,⟨#[]⟩⟩ ⟨3,zone,epoch,tt,key⟩ w r (by rw [←hr];simp [eqC,q1,q2,dec0])
        simp only at heq
        have d2:decide (tt≤1048576)=true:=by rw [decide_eq_true_eq];exact q2
        have d1:decide (1≤tt)=true:=by rw [decide_eq_true_eq];exact q1
        clear hr k1 k2
        (go_enter Tryz.func35,Tryz.ntmps35;(go_wp2_with fail))
        (go_ret;exact ⟨rfl,bg⟩)
       ·obtain rfl:r=false:=by rw [←hr];simp [q2]
        have d2:decide (tt≤1048576)=false:=by rw [decide_eq_false_iff_not];exact q2
        have d1:decide (1≤tt)=true:=by rw [decide_eq_true_eq];exact q1
        clear hr k1 k2
        (go_enter Tryz.func35,Tryz.ntmps35;(go_wp2_with fail))
        (go_ret;exact ⟨rfl,bg⟩)
      ·obtain rfl:r=false:=by rw [←hr];simp [q1]
       have d1:decide (1≤tt)=false:=by rw [decide_eq_false_iff_not];exact q1
       clear hr k1 k2
       (go_enter Tryz.func35,Tryz.ntmps35;(go_wp2_with fail))
       (go_ret;exact ⟨rfl,bg⟩)
     ·by_cases k4:kind=4∨kind=5
      ·rw [if_neg k1,if_neg k2,if_neg k3,if_pos k4] at hr
       by_cases q1:1≤epoch
       ·have d1:decide (1≤epoch)=true:=by rw [decide_eq_true_eq];exact q1
        by_cases q2:epoch≤1099511627776
        ·have d2:decide (epoch≤1099511627776)=true:=by rw [decide_eq_true_eq];exact q2
         have heq:=fun w=>i0o ⟨kind,zone,epoch,0,⟨#[]⟩⟩ ⟨kind,zone,epoch,tt,key⟩ w r (by rw [←hr];simp [eqC,q1,q2,dec0])
         simp only at heq
         clear hr k1 k2 k3
         rcases k4 with rfl | rfl
         ·(go_enter Tryz.func35,Tryz.ntmps35;(go_wp2_with fail))
          (go_ret;exact ⟨rfl,bg⟩)
         ·(go_enter Tryz.func35,Tryz.ntmps35;(go_wp2_with fail))
          (go_ret;exact ⟨rfl,bg⟩)
        ·have d2:decide (epoch≤1099511627776)=false:=by rw [decide_eq_false_iff_not];exact q2
         obtain rfl:r=false:=by rw [←hr];simp [q2]
         clear hr k1 k2 k3
         rcases k4 with rfl | rfl
         ·(go_enter Tryz.func35,Tryz.ntmps35;(go_wp2_with fail))
          (go_ret;exact ⟨rfl,bg⟩)
         ·(go_enter Tryz.func35,Tryz.ntmps35;(go_wp2_with fail))
          (go_ret;exact ⟨rfl,bg⟩)
       ·have d1:decide (1≤epoch)=false:=by rw [decide_eq_false_iff_not];exact q1
        obtain rfl:r=false:=by rw [←hr];simp [q1]
        clear hr k1 k2 k3
        rcases k4 with rfl | rfl
        ·(go_enter Tryz.func35,Tryz.ntmps35;(go_wp2_with fail))
         (go_ret;exact ⟨rfl,bg⟩)
        ·(go_enter Tryz.func35,Tryz.ntmps35;(go_wp2_with fail))
         (go_ret;exact ⟨rfl,bg⟩)
      ·rw [if_neg k1,if_neg k2,if_neg k3,if_neg k4] at hr
       subst hr
       have e1:(kind==1)=false:=by rw [beq_eq_false_iff_ne];exact k1
       have e2:(kind==2)=false:=by rw [beq_eq_false_iff_ne];exact k2
       have e3:(kind==3)=false:=by rw [beq_eq_false_iff_ne];exact k3
       have e4:(kind==4)=false:=by rw [beq_eq_false_iff_ne];exact fun h=>k4 (.inl h)
       have e5:(kind==5)=false:=by rw [beq_eq_false_iff_ne];exact fun h=>k4 (.inr h)
       clear k1 k2 k3 k4
       (go_enter Tryz.func35,Tryz.ntmps35;(go_wp2_with fail))
       (go_ret;exact ⟨rfl,bg⟩)
  ·have a2:decide (1099511627776<zone)=true:=by rw [decide_eq_true_eq];omega
   rw [decide_eq_false (fun h=>z2 h.2),Bool.false_and] at hr
   subst hr
   clear z1 z2
   (go_enter Tryz.func35,Tryz.ntmps35;(go_wp2_with fail))
   (go_ret;exact ⟨rfl,bg⟩)
 ·have a1:decide (zone<1)=true:=by rw [decide_eq_true_eq];omega
  rw [decide_eq_false (fun h=>z1 h.1),Bool.false_and] at hr
  subst hr
  clear z1
  (go_enter Tryz.func35,Tryz.ntmps35;(go_wp2_with fail))
  (go_ret;exact ⟨rfl,bg⟩)
end Go.Proofs.YtogamdaomdoapaaGreat