/- Texts put together: WLw. -/
import Derived.Test.YthlcmjgdilebeaaGreatQa33
import Derived.Test.YthlcmjgdilebeaaGreatQa37
import Derived.Test.YthlcmjgdilebeaaGreatQa50
namespace Go.Proofs.YthlcmjgdilebeaaGreat
open Go.RowKit
theorem wdec_all (ao:Option Addr) (cap:Nat) (l:List UInt8) (w:World) (h:F.Sl w ao cap l) (hm:l.length≤140737488351232) (hs:∀ p,F.oneB l=(p,0)→SmW p):Calls Tryz.prog 10 #[.slice ao l.length cap] w (DecWPost w l):=by
 obtain ⟨p,c,hp⟩:∃ p c,F.oneB l=(p,c):=⟨_,_,rfl⟩
 by_cases hc:c=0
 ·subst hc
  exact decode_ok ao cap l w h hm p hp (hs p hp)
 ·refine (decode_badN ao cap l w h hm c (by rw [hp]) hc).mono ?_
  rintro e w' ⟨rfl,hb⟩
  unfold DecWPost wdDec
  rw [hp,if_neg hc]
  exact ⟨none,0,none,0,rfl,hb,zs_nilR _,sl_nil _⟩
theorem rdec_all (ao:Option Addr) (cap:Nat) (l:List UInt8) (w:World) (h:F.Sl w ao cap l) (hm:l.length≤2000):Calls Tryz.prog 13 #[.slice ao l.length cap] w (DecWPost w l):=by
 obtain ⟨p,c,hp⟩:∃ p c,F.oneB l=(p,c):=⟨_,_,rfl⟩
 by_cases hc:c=0
 ·have hl:=one_len hp hc
  subst hc
  have hs:=small_le (p:=p) (by omega)
  refine rdecode_ok ao cap l w h (by omega) p hp hs ?_
  have h1:=wis p
  obtain ⟨k0,k1,k2,k3,k4,k5,k6,k7,m0,m1,m2,e1,b1,sf,e2,b2,st,e3,b3,e4,b4,r,e5,b5,hI⟩:=h1
  rw [hI.dr]
  have:=hI.lr
  omega
 ·exact rdecode_bad ao cap l w h (by omega) c (by rw [hp]) hc
theorem dec_named {w:World} {l:List UInt8} {e:Ending} {w':World} (h:DecWPost w l e w'):∃ V mo zc dl dc,V=wdV (wdDec l).1 (.slice mo (wdDec l).1.mp.zs.length zc) (.slice dl (wdDec l).1.data.length dc)∧V.size=37∧V.all (·.oneCell')=true∧e=.returned (.tuple #[.agg V,.int .i64 (wdDec l).2])∧Below w.heap.size w w'∧O.ZsAt w' mo (wdDec l).1.mp.zs∧F.Sl w' dl dc (wdDec l).1.data:=by
 obtain ⟨mo,zc,dl,dc,rfl,hb,hz,hs⟩:=h
 exact ⟨_,mo,zc,dl,dc,rfl,rfl,by simp [wdV,Value.oneCell'],rfl,hb,hz,hs⟩
end Go.Proofs.YthlcmjgdilebeaaGreat