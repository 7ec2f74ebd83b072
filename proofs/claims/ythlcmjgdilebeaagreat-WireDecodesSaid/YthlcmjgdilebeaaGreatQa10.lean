/- Texts put together: RefRdNum, RefRdBytes, TakesObj, RdSt. -/
import Derived.Test.YthlcmjgdilebeaaGreatQa05
import Derived.Test.YthlcmjgdilebeaaGreatQa09
namespace Go.Proofs.YthlcmjgdilebeaaGreat
open Go.RowKit
set_option maxRecDepth 20000
theorem rr_cells {w:World} {p g:Nat} {rest:List UInt8} {bad:Bool} (h:RRAt w p g rest bad):w.cell? ⟨p,1,none⟩=some (.bool bad):=by
 obtain ⟨-,ao,cap,hh,-⟩:=h
 exact (cell_of_two hh).2.1
theorem bits_nine (u:Nat) (hu:u<128 ^ 9):bits BinOp.or IntKind.u64 (u:Int) 9223372036854775808=((u+9223372036854775808:Nat):Int):=by
 have h9:(128:Nat) ^ 9=9223372036854775808:=by decide
 rw [show (9223372036854775808:Int)=((9223372036854775808:Nat):Int) from rfl,bits_or_u64_nat _ _ (by omega) (by omega)]
 congr 1
 rw [show (9223372036854775808:Nat)=2 ^ 63 * 1 from by decide,Nat.or_comm,←Nat.two_pow_add_eq_or_of_lt (by omega)]
 omega
set_option maxRecDepth 40000 in
set_option maxHeartbeats 8000000 in
theorem rrnum_any (p g:Nat) (rest:List UInt8) (bad:Bool) (w:World) (h:RRAt w p g rest bad) (hm:rest.length≤140737488351232) :
 Calls Tryz.prog 46 #[.pointer (some ⟨p,0,none⟩)] w fun e w'=>(∀ n r,numOf rest=some (n,r)→e=.returned (.int .i64 (n:Nat))∧RRAt w' p g r bad)∧(numOf rest=none→e=.returned (.int .i64 0)∧RRAt w' p g [] true)∧Keeps w w' (fun x=>x=p):=by
 cases bad with
 | true =>
  obtain rfl:rest=[]:=h.1 rfl
  have H:=Lib.hid h
  clear h
  go_enter Tryz.func46,Tryz.ntmps46
  go_wp2_with fail
  refine wp_loop_rounds 1 ?_
  rw [rounds_succ]
  go_wp2_with fail
  refine (rrraw_no p g [] true 1 w H.out (.inr (by simp))).mono ?_
  rintro e w1 ⟨rfl,hr1,hk1⟩
  have c1:=rr_cells hr1
  have Hr1:=Lib.hid hr1
  clear hr1
  go_wp2_with fail
  go_ret
  exact ⟨fun n r h=>(nomatch h),fun _=>⟨rfl,Hr1.out⟩,hk1⟩
 | false =>
  have H:=Lib.hid h
  clear h
  go_enter Tryz.func46,Tryz.ntmps46
  go_wp2_with fail
  go_loopw [3,4] (fun s3 s4 wr=>∃ k u:Nat,k≤rest.length∧k≤9∧s4=.int .i64 k∧s3=.int .u64 u∧u<128 ^ k∧Hid (numR k u (rest.drop k)=numOf rest)∧Hid (RRAt wr p g (rest.drop k) false)∧Hid (Keeps w wr (fun x=>x=p))) (fun _ s4 _=>10 - (intOf s4).toNat)
  case atStart=>exact ⟨0,0,by omega,by omega,rfl,rfl,by decide,rfl,H,Keeps.refl _ _⟩
  case round =>
   clear H
   obtain ⟨k,u,hk,hk9,rfl,rfl,hu,hst,HR,HK⟩:=hrel
   have Hu:=Lib.hid hu
   clear hu
   by_cases hlt:k<rest.length
   ·obtain ⟨c,hc⟩:∃ c,c=rest[k]:=⟨_,rfl⟩
    have hdrop:rest.drop k=c::rest.drop (k+1):=by rw [hc];exact List.drop_eq_getElem_cons hlt
    have hlen1:(rest.drop k).length≤140737488351232:=by rw [List.length_drop];omega
    have Hdrop:=Lib.hid hdrop
    have Hraw:=Lib.hid (rrraw_yes p g (rest.drop k) 1 wr HR.out (by rw [List.length_drop];omega) hlen1)
    clear hc hdrop hlen1
    go_wp2_with fail
    refine Hraw.out.mono ?_
    rintro e w1 ⟨xo,xc,rfl,hox,hr1,hk1⟩
    rw [Hdrop.out] at hox hr1
    simp only [List.take_succ_cons,List.take_zero,List.drop_succ_cons,List.drop_zero] at hox hr1
    obtain ⟨g2,rfl,-,-,hrow⟩:=hox.row (by simp)
    have hx0:w1.cell? ⟨g2,0,none⟩=some (.int .u8 (c.toNat:Int)):=by
     have:=hrow 0 (by simp)
     simpa using this
    have c1:=rr_cells hr1
    have HR1:=Lib.hid hr1
    have HK1:=Lib.hid (HK.out.trans hk1 (fun _ h=>h) (fun _ _ h=>h))
    have hc256:(c.toNat:Int)<256:=by have:=c.toNat_lt;omega
    clear hox hr1 hrow hk1 Hraw HR HK
    by_cases h9:k=9
    ·subst h9
     have Hno:Hid (numOf rest=none):=by
      have:=hst.out
      rw [Hdrop.out] at this
      rw [Hid,←this]
      simp only [numR]
      rw [if_pos (.inl (by omega))]
     clear hst
     by_cases h127:(127:Int)<c.toNat
     ·(go_wp2_with fail);(refine (rrbad_any p g _ false _ HR1.out).mono ?_);(rintro e y9 ⟨rfl,hr9,hk9⟩);(have Hr9:=Lib.hid hr9);(have Hk9:=Lib.hid (HK1.out.trans hk9 (fun _ h=>h) (fun _ _ h=>h)));(clear hr9 hk9);(go_wp2_with fail);go_ret;exact ⟨fun n r h=>(nomatch (Hno.out.symm.trans h)),fun _=>⟨rfl,Hr9.out⟩,Hk9.out⟩
     ·by_cases h1:(1:Int)<c.toNat
      ·(go_wp2_with fail);(refine (rrbad_any p g _ false _ HR1.out).mono ?_);(rintro e y9 ⟨rfl,hr9,hk9⟩);(have Hr9:=Lib.hid hr9);(have Hk9:=Lib.hid (HK1.out.trans hk9 (fun _ h=>h) (fun _ _ h=>h)));(clear hr9 hk9);(go_wp2_with fail);go_ret;exact ⟨fun n r h=>(nomatch (Hno.out.symm.trans h)),fun _=>⟨rfl,Hr9.out⟩,Hk9.out⟩
      ·by_cases hz:(c.toNat:Int)=0
       ·have hb7:bits BinOp.and IntKind.u8 0 127=0:=by decide
        (go_wp2_with fail);(refine (rrbad_any p g _ false _ HR1.out).mono ?_);(rintro e y9 ⟨rfl,hr9,hk9⟩);(have Hr9:=Lib.hid hr9);(have Hk9:=Lib.hid (HK1.out.trans hk9 (fun _ h=>h) (fun _ _ h=>h)));(clear hr9 hk9);(go_wp2_with fail);go_ret;exact ⟨fun n r h=>(nomatch (Hno.out.symm.trans h)),fun _=>⟨rfl,Hr9.out⟩,Hk9.out⟩
       ·have hone:(c.toNat:Int)=1:=by omega
        have hb7:bits BinOp.and IntKind.u8 1 127=1:=by decide
        obtain ⟨z,hb9,hz9⟩:∃ z:Nat,bits BinOp.or IntKind.u64 (u:Int) 9223372036854775808=(z:Int)∧(4611686018427387904:Int)<z:=⟨_,bits_nine u Hu.out,by omega⟩
        (go_wp2_with fail);(refine (rrbad_any p g _ false _ HR1.out).mono ?_);(rintro e y9 ⟨rfl,hr9,hk9⟩);(have Hr9:=Lib.hid hr9);(have Hk9:=Lib.hid (HK1.out.trans hk9 (fun _ h=>h) (fun _ _ h=>h)));(clear hr9 hk9);(go_wp2_with fail);go_ret;exact ⟨fun n r h=>(nomatch (Hno.out.symm.trans h)),fun _=>⟨rfl,Hr9.out⟩,Hk9.out⟩
    ·have hk8:k≤8:=by omega
     have hk9i:¬(k:Int)=9:=by omega
     have hbd:=bits_digit k u c (by omega) Hu.out
     have hbs:bits BinOp.and IntKind.u8 (c.toNat:Int) 127=(c.toNat:Int) % 128:=by rw [bits_seven];omega
     obtain ⟨q,hq⟩:∃ q,q=u+c.toNat % 128 * 128 ^ k:=⟨_,rfl⟩
     rw [←hq] at hbd
     have Hq:=Lib.hid hq
     clear hq
     by_cases hz:0<k∧c=0
     ·have Hno:Hid (numOf rest=none):=by
       have:=hst.out
       rw [Hdrop.out] at this
       rw [Hid,←this]
       simp only [numR]
       rw [if_pos (.inr hz)]
      obtain ⟨h0,hcz⟩:=hz
      have h0i:(0:Int)<k:=by omega
      have hc0:(c.toNat:Int)=0:=by rw [hcz];rfl
      clear hcz
      have hb7:bits BinOp.and IntKind.u8 0 127=0:=by decide
      clear hst hbs hbd
      (go_wp2_with fail);(refine (rrbad_any p g _ false _ HR1.out).mono ?_);(rintro e y9 ⟨rfl,hr9,hk9⟩);(have Hr9:=Lib.hid hr9);(have Hk9:=Lib.hid (HK1.out.trans hk9 (fun _ h=>h) (fun _ _ h=>h)));(clear hr9 hk9);(go_wp2_with fail);go_ret;exact ⟨fun n r h=>(nomatch (Hno.out.symm.trans h)),fun _=>⟨rfl,Hr9.out⟩,Hk9.out⟩
     ·have hgo:¬(9≤k∨(0<k∧c=0)):=by
       rintro (h | h)
       ·omega
       ·exact hz h
      have hstep:¬c.toNat<128→numR (k+1) q (rest.drop (k+1))=numOf rest∧q<128 ^ (k+1):=fun h=>by
       have h1:=hst.out
       rw [Hdrop.out] at h1
       simp only [numR] at h1
       rw [if_neg hgo,if_neg h,←Hq.out] at h1
       exact ⟨h1,by rw [Hq.out];exact digit_lt k u _ Hu.out (by omega)⟩
      have hend:c.toNat<128→numOf rest=if 4611686018427387904<q then none else some (q,rest.drop (k+1)):=fun h=>by
       have h1:=hst.out
       rw [Hdrop.out] at h1
       simp only [numR] at h1
       rw [if_neg hgo,if_pos h] at h1
       rw [Hq.out,Nat.mod_eq_of_lt h]
       exact h1.symm
      have hc0:0<k→¬(c.toNat:Int)=0:=fun h e=>hz ⟨h,UInt8.toNat_inj.1 (by rw [UInt8.toNat_zero];omega)⟩
      have Hstep:=Lib.hid hstep
      have Hend:=Lib.hid hend
      clear hstep hend hgo hz hst
      by_cases h0:(0:Int)<k
      all_goals (try have hc0:=hc0 (by omega))
      all_goals (try have hceq:((c.toNat:Int)==0)=false:=by rw [beq_eq_false_iff_ne];exact hc0)
      all_goals by_cases h127:(127:Int)<c.toNat
      ·go_wp2_with fail
       go_roundw
       case rel=>exact ⟨k+1,q,by omega,by omega,by go_num,rfl,(Hstep.out (by omega)).2,(Hstep.out (by omega)).1,HR1,HK1⟩
       case measure=>simp [intOf];omega
      ·by_cases hbig:(4611686018427387904:Int)<q
       ·have Hno:Hid (numOf rest=none):=by rw [Hid,Hend.out (by omega),if_pos (by omega)]
        (go_wp2_with fail);(refine (rrbad_any p g _ false _ HR1.out).mono ?_);(rintro e y9 ⟨rfl,hr9,hk9⟩);(have Hr9:=Lib.hid hr9);(have Hk9:=Lib.hid (HK1.out.trans hk9 (fun _ h=>h) (fun _ _ h=>h)));(clear hr9 hk9);(go_wp2_with fail);go_ret;exact ⟨fun n r h=>(nomatch (Hno.out.symm.trans h)),fun _=>⟨rfl,Hr9.out⟩,Hk9.out⟩
       ·have hy:numOf rest=some (q,rest.drop (k+1)):=by rw [Hend.out (by omega),if_neg (by omega)]
        have Hy:=Lib.hid hy
        clear hy
        (go_wp2_with fail)
        all_goals go_ret
        all_goals refine ⟨fun n r h=>?_,fun h=>(nomatch (Hy.out.symm.trans h)),HK1.out⟩
        all_goals (rw [Hy.out] at h;simp only [Option.some.injEq,Prod.mk.injEq] at h;obtain ⟨rfl,rfl⟩:=h;exact ⟨rfl,HR1.out⟩)
      ·go_wp2_with fail
       go_roundw
       case rel=>exact ⟨k+1,q,by omega,by omega,by go_num,rfl,(Hstep.out (by omega)).2,(Hstep.out (by omega)).1,HR1,HK1⟩
       case measure=>simp [intOf];omega
      ·by_cases hbig:(4611686018427387904:Int)<q
       ·have Hno:Hid (numOf rest=none):=by rw [Hid,Hend.out (by omega),if_pos (by omega)]
        (go_wp2_with fail);(refine (rrbad_any p g _ false _ HR1.out).mono ?_);(rintro e y9 ⟨rfl,hr9,hk9⟩);(have Hr9:=Lib.hid hr9);(have Hk9:=Lib.hid (HK1.out.trans hk9 (fun _ h=>h) (fun _ _ h=>h)));(clear hr9 hk9);(go_wp2_with fail);go_ret;exact ⟨fun n r h=>(nomatch (Hno.out.symm.trans h)),fun _=>⟨rfl,Hr9.out⟩,Hk9.out⟩
       ·have hy:numOf rest=some (q,rest.drop (k+1)):=by rw [Hend.out (by omega),if_neg (by omega)]
        have Hy:=Lib.hid hy
        clear hy
        (go_wp2_with fail)
        all_goals go_ret
        all_goals refine ⟨fun n r h=>?_,fun h=>(nomatch (Hy.out.symm.trans h)),HK1.out⟩
        all_goals (rw [Hy.out] at h;simp only [Option.some.injEq,Prod.mk.injEq] at h;obtain ⟨rfl,rfl⟩:=h;exact ⟨rfl,HR1.out⟩)
   ·have Hno:Hid (numOf rest=none):=by
     have:=hst.out
     rw [List.drop_eq_nil_of_le (by omega)] at this
     rw [Hid,←this]
     rfl
    have hr:=HR.out
    rw [List.drop_eq_nil_of_le (by omega)] at hr
    have Hr:=Lib.hid hr
    clear hr HR
    go_wp2_with fail
    refine (rrraw_no p g [] false 1 wr Hr.out (.inr (by simp))).mono ?_
    rintro e w1 ⟨rfl,hr1,hk1⟩
    have c1:=rr_cells hr1
    have Hr1:=Lib.hid hr1
    have Hk1:=Lib.hid (HK.out.trans hk1 (fun _ h=>h) (fun _ _ h=>h))
    clear hr1 hk1
    go_wp2_with fail
    go_ret
    exact ⟨fun n r h=>(nomatch (Hno.out.symm.trans h)),fun _=>⟨rfl,Hr1.out⟩,Hk1.out⟩
end Go.Proofs.YthlcmjgdilebeaaGreat
namespace Go.Proofs.YthlcmjgdilebeaaGreat
open Go.RowKit
set_option maxRecDepth 20000
set_option maxHeartbeats 2000000 in
theorem rrbytes_any (p g:Nat) (rest:List UInt8) (bad:Bool) (w:World) (h:RRAt w p g rest bad) (hm:rest.length≤140737488351232) :
 Calls Tryz.prog 47 #[.pointer (some ⟨p,0,none⟩)] w fun e w'=>∃ x r' b' ao cap,(x,r',b')=tookOf rest bad∧e=.returned (.slice ao x.length cap)∧OwnB w' w.heap.size ao cap x∧RRAt w' p g r' b'∧Keeps w w' (fun x=>x=p):=by
 have Hnum:=Lib.hid (rrnum_any p g rest bad w h hm)
 have hb0:=h.1
 clear h
 have Htook:Hid (tookOf rest bad=match numOf rest with | none=>([],[],true) | some (n,r)=>if n≤r.length then (r.take n,r.drop n,bad) else ([],[],true)):=by
  unfold Hid tookOf bytesOf
  cases numOf rest with
  | none=>rfl
  | some o=>obtain ⟨n,r⟩:=o;simp only;by_cases hc:n≤r.length<;>simp only [hc,if_true,if_false]
 have Hb0:=Lib.hid hb0
 clear hb0
 go_enter Tryz.func47,Tryz.ntmps47
 go_wp2_with fail
 refine Hnum.out.mono ?_
 rintro e w1 ⟨hy,hn,hk⟩
 have hs:=hk.size
 cases ho:numOf rest with
 | none =>
  obtain ⟨rfl,hr⟩:=hn ho
  have htook:=Htook.out
  rw [ho] at htook
  have Ht:=Lib.hid htook
  have c1:=rr_cells hr
  have Hr:=Lib.hid hr
  clear hy hn hr ho htook
  go_wp2_with fail
  go_ret
  exact ⟨[],[],true,none,0,Ht.out.symm,rfl,own_nothing _ _,Hr.out,hk⟩
 | some o =>
  obtain ⟨n,r⟩:=o
  have hbf:bad=false:=by
   cases bad with
   | false=>rfl
   | true =>
    have:=Hb0.out rfl
    subst this
    cases ho
  subst hbf
  obtain ⟨rfl,hr⟩:=hy n r ho
  obtain ⟨hl,hnle⟩:=numOf_left ho
  have htook:=Htook.out
  rw [ho] at htook
  simp only at htook
  have c1:=rr_cells hr
  by_cases hnr:n≤r.length
  ·rw [if_pos hnr] at htook
   have Ht:=Lib.hid htook
   have Hraw:=Lib.hid (rrraw_yes p g r n w1 hr hnr (by omega))
   clear hy hn hr ho htook
   go_wp2_with fail
   refine Hraw.out.mono ?_
   rintro e w2 ⟨ao,cap,rfl,hown,hr2,hk2⟩
   go_wp2_with fail
   go_ret
   refine ⟨r.take n,r.drop n,false,ao,cap,Ht.out.symm,?_,own_weak hown hs,hr2,hk.trans hk2 (fun _ h=>h) (fun _ _ h=>h)⟩
   rw [List.length_take,Nat.min_eq_left hnr];rfl
  ·rw [if_neg hnr] at htook
   have Ht:=Lib.hid htook
   have Hraw:=Lib.hid (rrraw_no p g r false n w1 hr (.inr (by omega)))
   clear hy hn hr ho htook
   go_wp2_with fail
   refine Hraw.out.mono ?_
   rintro e w2 ⟨rfl,hr2,hk2⟩
   go_wp2_with fail
   go_ret
   exact ⟨[],[],true,none,0,Ht.out.symm,rfl,own_nothing _ _,hr2,hk.trans hk2 (fun _ h=>h) (fun _ _ h=>h)⟩
end Go.Proofs.YthlcmjgdilebeaaGreat
namespace Go.Proofs.YthlcmjgdilebeaaGreat
open Go.RowKit
set_option maxRecDepth 20000
theorem St.newRR {W w w':World} {L:List Th} {p g:Nat} {rest:List UInt8} (h:St W w L) (hr:RRAt w' p g rest false) (hb:Below w.heap.size w w') (hp:w.heap.size≤p) (hg:w.heap.size≤g):St W w' (thRR p g rest false::L) :=
 h.new hb _ hr (fun x hx=>by
  rcases hx with hx | ⟨hx,-⟩<;>omega)
theorem St.readR {W w w':World} {L:List Th} {p g:Nat} {rest rest':List UInt8} {bad bad':Bool} (h:St W w (thRR p g rest bad::L)) (hr:RRAt w' p g rest' bad') (k:Keeps w w' (fun x=>x=p)) (hl:rest'.length≤rest.length):St W w' (thRR p g rest' bad'::L) :=
 h.step (k.weak (fun _ _ h=>.inl h)) _ hr (fun x hx=>by
  rcases hx with hx | ⟨hx,h1⟩
  ·exact .inl (.inl hx)
  ·exact .inl (.inr ⟨hx,by omega⟩))
theorem rrnum_k (p g:Nat) (rest:List UInt8) (bad:Bool) (k:Nat) (w:World) (h:RRAt w p g (rdSt rest bad k).1 (rdSt rest bad k).2) (hm:rest.length≤140737488351232) :
 Calls Tryz.prog 46 #[.pointer (some ⟨p,0,none⟩)] w fun e w'=>e=.returned (.int .i64 (rdVal rest bad k:Nat))∧RRAt w' p g (rdSt rest bad (k+1)).1 (rdSt rest bad (k+1)).2∧Keeps w w' (fun x=>x=p):=by
 refine (rrnum_any p g _ _ w h (Nat.le_trans (rdSt_le rest bad k) hm)).mono ?_
 rintro e w' ⟨h1,h2,h3⟩
 unfold rdVal
 simp only [rdSt]
 unfold numT
 cases ho:numOf (rdSt rest bad k).1 with
 | none=>exact ⟨(h2 ho).1,(h2 ho).2,h3⟩
 | some o =>
  obtain ⟨n,r⟩:=o
  exact ⟨(h1 n r ho).1,(h1 n r ho).2,h3⟩
theorem tookOf_le {rest x r':List UInt8} {bad b':Bool} (h:(x,r',b')=tookOf rest bad):x.length≤rest.length∧r'.length≤rest.length:=by
 unfold tookOf bytesOf at h
 cases ho:numOf rest with
 | none=>rw [ho] at h;simp at h;obtain ⟨rfl,rfl,-⟩:=h;simp
 | some o =>
  obtain ⟨n,r⟩:=o
  obtain ⟨hl,-⟩:=numOf_left ho
  rw [ho] at h
  simp only at h
  by_cases hc:n≤r.length
  ·simp only [hc,if_true,Prod.mk.injEq] at h
   obtain ⟨rfl,rfl,-⟩:=h
   simp only [List.length_take,List.length_drop];omega
  ·simp only [hc,if_false,Prod.mk.injEq] at h
   obtain ⟨rfl,rfl,-⟩:=h
   simp
end Go.Proofs.YthlcmjgdilebeaaGreat
namespace Go.Proofs.YthlcmjgdilebeaaGreat
open Go.RowKit
set_option maxRecDepth 20000
theorem set_objF {w:World} {b o:Nat} {cur:Array Value} {t:TypeId} {fr:Nat × Nat} {v:Value} (h:w.heap[b]?=some (.cells cur t fr)):(w.setCell ⟨b,o,none⟩ v).heap[b]?=some (.cells (cur.setIfInBounds o v) t fr):=by
 simp [World.setCell,Array.getElem?_modify,h]
theorem St.setObj {W w:World} {L:List Th} {b:Nat} {cur:Array Value} {t:TypeId} (h:St W w (thObj b (.cells cur t (0,0))::L)) (o:Nat) (v:Value):St W (w.setCell ⟨b,o,none⟩ v) (thObj b (.cells (cur.setIfInBounds o v) t (0,0))::L) :=
 h.step (Keeps.set w ⟨b,o,none⟩ v) _ (set_objF h.head) (fun _ hx=>.inl hx)
abbrev Ob:=Nat × Array Value × TypeId
def thOb (x:Ob):Th:=thObj x.1 (.cells x.2.1 x.2.2 (0,0))
def putOb:List Ob→Nat→Nat→Value→List Ob
 | [],_,_,_=>[]
 | x::r,0,o,v=>(x.1,x.2.1.setIfInBounds o v,x.2.2)::r
 | x::r,i+1,o,v=>x::putOb r i o v
def putObs (O:List Ob) (ps:List (Nat × Nat)) (val:Nat→Nat):Nat→List Ob
 | 0=>O
 | k+1=>match ps[k]? with
  | some q=>putOb (putObs O ps val k) q.1 q.2 (.int .i64 (val k:Nat))
  | none=>putObs O ps val k
def blk (O:List Ob) (i:Nat):Nat:=(O.map (·.1)).getD i 0
def adOf (O:List Ob) (q:Nat × Nat):Option Addr:=some ⟨blk O q.1,q.2,none⟩
theorem putOb_fst:∀ (O:List Ob) (i o:Nat) (v:Value),(putOb O i o v).map (·.1)=O.map (·.1)
 | [],_,_,_=>rfl
 | _::_,0,_,_=>rfl
 | x::r,i+1,o,v=>by simp only [putOb,List.map_cons,putOb_fst r i o v]
theorem putObs_fst (O:List Ob) (ps:List (Nat × Nat)) (val:Nat→Nat) (k:Nat):(putObs O ps val k).map (·.1)=O.map (·.1):=by
 induction k with
 | zero=>rfl
 | succ k ih =>
  simp only [putObs]
  split
  ·rw [putOb_fst,ih]
  ·exact ih
theorem blk_mem {O:List Ob} {i:Nat} (h:i<O.length):∃ x∈O,x.1=blk O i:=by
 refine ⟨O[i],List.getElem_mem h,?_⟩
 simp [blk,List.getD,h]
theorem putOb_heap:∀ {O:List Ob} {w:World} (_:(O.map (·.1)).Nodup) (_:∀ x∈O,w.heap[x.1]?=some (.cells x.2.1 x.2.2 (0,0))) (i o:Nat) (v:Value) (_:i<O.length),∀ x∈putOb O i o v,(w.setCell ⟨blk O i,o,none⟩ v).heap[x.1]?=some (.cells x.2.1 x.2.2 (0,0))
 | [],_,_,_,_,_,_,hi=>by simp at hi
 | x::r,w,hd,h,0,o,v,_=>by
  intro y hy
  simp only [putOb,List.mem_cons] at hy
  rcases hy with rfl | hy
  ·exact set_objF (h x (by simp))
  ·have hne:y.1≠x.1:=fun e=>(List.nodup_cons.1 hd).1 (by show x.1∈_;rw [←e];exact List.mem_map_of_mem hy)
   exact (Below.heap_setCell _ _ _ _ hne).trans (h y (by simp [hy]))
 | x::r,w,hd,h,i+1,o,v,hi=>by
  intro y hy
  have hi2:i<r.length:=by simpa using hi
  have hb:blk (x::r) (i+1)=blk r i:=by simp [blk]
  rw [hb]
  simp only [putOb,List.mem_cons] at hy
  rcases hy with rfl | hy
  ·have hne:y.1≠blk r i:=fun e=>by
    obtain ⟨z,hz,e2⟩:=blk_mem hi2
    exact (List.nodup_cons.1 hd).1 (by show y.1∈_;rw [e,←e2];exact List.mem_map_of_mem hz)
   exact (Below.heap_setCell _ _ _ _ hne).trans (h y (by simp))
  ·exact putOb_heap (List.nodup_cons.1 hd).2 (fun z hz=>h z (by simp [hz])) i o v hi2 y hy
theorem blk_fst {O O':List Ob} (h:O.map (·.1)=O'.map (·.1)) (i:Nat):blk O i=blk O' i:=by unfold blk;rw [h]
theorem putObs_heap {O:List Ob} {w:World} (hd:(O.map (·.1)).Nodup) (h:∀ x∈O,w.heap[x.1]?=some (.cells x.2.1 x.2.2 (0,0))) (ps:List (Nat × Nat)) (hps:∀ q∈ps,q.1<O.length) (val:Nat→Nat) (k:Nat):∀ x∈putObs O ps val k,(setPs w (ps.map (adOf O)) val k).heap[x.1]?=some (.cells x.2.1 x.2.2 (0,0)):=by
 induction k with
 | zero=>exact h
 | succ k ih =>
  simp only [putObs,setPs,List.getElem?_map]
  cases hq:ps[k]? with
  | none=>exact ih
  | some q =>
   simp only [Option.map_some,adOf]
   have hf:=putObs_fst O ps val k
   rw [←blk_fst hf q.1]
   have hl:=congrArg List.length hf
   simp only [List.length_map] at hl
   exact putOb_heap (by rw [hf];exact hd) ih q.1 q.2 _ (by rw [hl];exact hps q (List.mem_of_getElem? hq))
theorem Ths.obs {B:Nat} {w:World}:∀ {O:List Ob} {L:List Th},Ths B w (O.map thOb++L)→(O.map (·.1)).Nodup∧(∀ x∈O,w.heap[x.1]?=some (.cells x.2.1 x.2.2 (0,0)))∧(∀ x∈O,B≤x.1)∧(∀ x∈O,∀ u∈L,¬u.F x.1)∧Ths B w L
 | [],L,h=>⟨by simp,by simp,by simp,by simp,h⟩
 | x::r,L,h=>by
  obtain ⟨h1,h2,h3,h4⟩:=h
  obtain ⟨g1,g2,g3,g4,g5⟩:=Ths.obs (O:=r) h4
  refine ⟨?_,?_,?_,?_,g5⟩
  ·rw [List.map_cons,List.nodup_cons]
   refine ⟨fun hm=>?_,g1⟩
   obtain ⟨y,hy,e⟩:=List.mem_map.1 hm
   exact h3 (thOb y) (List.mem_append.2 (.inl (List.mem_map.2 ⟨y,hy,rfl⟩))) x.1 rfl e.symm
  ·intro y hy
   rcases List.mem_cons.1 hy with rfl | hy
   ·exact h1
   ·exact g2 y hy
  ·intro y hy
   rcases List.mem_cons.1 hy with rfl | hy
   ·exact h2 _ rfl
   ·exact g3 y hy
  ·intro y hy u hu
   rcases List.mem_cons.1 hy with rfl | hy
   ·exact h3 u (by simp [hu]) y.1 rfl
   ·exact g4 y hy u hu
theorem Ths.mkObs {B:Nat} {w:World}:∀ {O:List Ob} {L:List Th},(O.map (·.1)).Nodup→(∀ x∈O,w.heap[x.1]?=some (.cells x.2.1 x.2.2 (0,0)))→(∀ x∈O,B≤x.1)→(∀ x∈O,∀ u∈L,¬u.F x.1)→Ths B w L→Ths B w (O.map thOb++L)
 | [],_,_,_,_,_,h=>h
 | x::r,L,h1,h2,h3,h4,h5=>by
  rw [List.map_cons,List.nodup_cons] at h1
  refine ⟨h2 x (by simp),fun y e=>?_,fun u hu y e huy=>?_,Ths.mkObs h1.2 (fun y hy=>h2 y (by simp [hy])) (fun y hy=>h3 y (by simp [hy])) (fun y hy=>h4 y (by simp [hy])) h5⟩
  ·have e':y=x.1:=e
   rw [e'];exact h3 x (by simp)
  ·have e':y=x.1:=e
   subst e'
   rcases List.mem_append.1 hu with hu | hu
   ·obtain ⟨z,hz,rfl⟩:=List.mem_map.1 hu
    have:x.1=z.1:=huy
    exact h1.1 (by rw [this];exact List.mem_map_of_mem hz)
   ·exact h4 x (by simp) u hu huy
theorem Keeps.join {a b:World} {S T:Nat→Prop} (h:Keeps a b S) (hS:∀ x,S x→T x):Keeps a b T:=⟨h.os,h.tape,h.output,h.size,fun k hk hn=>h.block k hk fun s=>hn (hS k s)⟩
set_option maxHeartbeats 1000000 in
theorem St.readNums {W w:World} {L:List Th} {p g:Nat} {rest:List UInt8} {bad:Bool} {O:List Ob} (h:St W w (thRd p g rest bad::(O.map thOb++L))) (hm:rest.length≤140737488351232) (ps:List (Nat × Nat)) (hps:∀ q∈ps,∃ x v,O[q.1]?=some x∧x.2.1[q.2]?=some v) (s k:Nat) (hs:s=w.heap.size) (hk:k=ps.length) (hl:ps.length≤1000) (cur:Array Value) (T:TypeId) (hc:cur=(ps.map fun q=>Value.pointer (adOf O q)).toArray) :
 Calls Tryz.prog 39 #[.pointer (some ⟨p,0,none⟩),.slice (some ⟨s,0,none⟩) k k] (w.alloc (.cells cur T)) fun e w'=>e=.returned (.tuple #[])∧St W w' (thRd p g (rdSt rest bad k).1 (rdSt rest bad k).2::((putObs O ps (rdVal rest bad) k).map thOb++L)):=by
 subst hs hk
 have hlt:∀ q∈ps,q.1<O.length:=fun q hq=>by
  obtain ⟨x,v,hx,-⟩:=hps q hq
  exact (List.getElem?_eq_some_iff.1 hx).1
 have hr:RdAt w p g rest bad:=h.head
 have hp:=hr.lt
 have hW:=h.b.size
 have hg:St W (w.alloc (.cells cur T)) (thRd p g rest bad::(O.map thOb++L)):=h.grow (below_allocO _ _)
 obtain ⟨o1,o2,o3,o4,o5⟩:=Ths.obs hg.t.2.2.2
 obtain ⟨-,p2,-,-,-⟩:=Ths.obs h.t.2.2.2
 have hdis:=hg.t.2.2.1
 have hOp:∀ x∈O,x.1≠p∧(0<rest.length→x.1≠g):=fun x hx=>by
  have hu:thOb x∈O.map thOb++L:=List.mem_append.2 (.inl (List.mem_map.2 ⟨x,hx,rfl⟩))
  exact ⟨fun e=>hdis _ hu p (.inl rfl) e.symm,fun hl e=>hdis _ hu g (.inr ⟨rfl,hl⟩) e.symm⟩
 have hlen:(ps.map (adOf O)).length=ps.length:=by simp
 have hcall:=rdnums_ptrs p g w.heap.size ps.length rest bad (ps.map (adOf O)) (w.alloc (.cells cur T)) hg.head hm (by rw [hlen];exact hl)
  (fun i hi=>by
   rw [hlen] at hi
   rw [(cells_of_obj (heap_new w (.cells cur T))).1,hc]
   simp [hi])
  (by simp) (by omega)
  (fun a ha=>by
   obtain ⟨q,hq,e⟩:=List.mem_map.1 ha
   simp only [adOf,Option.some.injEq] at e
   obtain ⟨x,v,hx,hv⟩:=hps q hq
   have hxm:=List.mem_of_getElem? hx
   have hbx:blk O q.1=x.1:=by simp [blk,List.getD,hx]
   have hab:a=⟨x.1,q.2,none⟩:=by rw [←e,hbx]
   subst hab
   have hcx:=cells_of_obj (o2 x hxm)
   refine ⟨(hOp x hxm).1,?_,(hOp x hxm).2,⟨v,by rw [hcx.1];exact hv⟩,hcx.2 _⟩
   have:=lt_of_block (p2 x hxm)
   simp only;omega)
 rw [hlen] at hcall
 refine hcall.mono ?_
 rintro e w' ⟨rfl,hr2,hk2⟩
 refine ⟨rfl,?_⟩
 have hsp:=setPs_keeps (w.alloc (.cells cur T)) (ps.map (adOf O)) (rdVal rest bad) ps.length
 have hfst:=putObs_fst O ps (rdVal rest bad) ps.length
 have hmemO:∀ x∈putObs O ps (rdVal rest bad) ps.length,∃ y∈O,y.1=x.1:=fun x hx=>by
  have:x.1∈(putObs O ps (rdVal rest bad) ps.length).map (·.1):=List.mem_map_of_mem hx
  rw [hfst] at this
  obtain ⟨y,hy,e⟩:=List.mem_map.1 this
  exact ⟨y,hy,e⟩
 have hK:Keeps (w.alloc (.cells cur T)) w' (fun x=>x=p∨∃ y∈O,y.1=x):=by
  refine hsp.trans hk2 (fun x ⟨a,ha,e⟩=>?_) (fun x _ e=>.inl e)
  obtain ⟨q,hq,e2⟩:=List.mem_map.1 ha
  simp only [adOf,Option.some.injEq] at e2
  obtain ⟨y,hy,e3⟩:=blk_mem (hlt q hq)
  exact .inr ⟨y,hy,by rw [←e,←e2];exact e3⟩
 have hL5:Ths W.heap.size w' L:=o5.keep hK (fun t ht x hx hS=>by
  rcases hS with rfl | ⟨y,hy,rfl⟩
  ·exact hdis t (by simp [ht]) x (.inl rfl) hx
  ·exact o4 y hy t ht hx)
 refine ⟨hg.b.trans (hK.below (fun x hx=>?_) hg.b.size),hr2,fun x hx=>?_,fun u hu x hx hux=>?_,Ths.mkObs (by rw [hfst];exact o1) (fun x hx=>?_) (fun x hx=>?_) (fun x hx u hu=>?_) hL5⟩
 ·rcases hx with rfl | ⟨y,hy,rfl⟩
  ·exact hg.t.2.1 x (.inl rfl)
  ·exact o3 y hy
 ·rcases hx with rfl | ⟨rfl,hx⟩
  ·exact hg.t.2.1 x (.inl rfl)
  ·exact hg.t.2.1 x (.inr ⟨rfl,Nat.lt_of_lt_of_le hx (rdSt_le rest bad _)⟩)
 ·have hx2:(thRd p g rest bad).F x:=by
   rcases hx with rfl | ⟨rfl,hx⟩
   ·exact .inl rfl
   ·exact .inr ⟨rfl,Nat.lt_of_lt_of_le hx (rdSt_le rest bad _)⟩
  rcases List.mem_append.1 hu with hu | hu
  ·obtain ⟨z,hz,rfl⟩:=List.mem_map.1 hu
   obtain ⟨y,hy,e⟩:=hmemO z hz
   exact hdis (thOb y) (List.mem_append.2 (.inl (List.mem_map.2 ⟨y,hy,rfl⟩))) x hx2 (by
    have:x=z.1:=hux
    show x=y.1
    rw [e];exact this)
  ·exact hdis u (by simp [hu]) x hx2 hux
 ·have h1:=putObs_heap o1 o2 ps hlt (rdVal rest bad) ps.length x hx
  obtain ⟨y,hy,e⟩:=hmemO x hx
  rw [hk2.block x.1 (lt_of_block h1) (by rw [←e];exact (hOp y hy).1)]
  exact h1
 ·obtain ⟨y,hy,e⟩:=hmemO x hx
  rw [←e];exact o3 y hy
 ·obtain ⟨y,hy,e⟩:=hmemO x hx
  rw [←e];exact o4 y hy u hu
theorem St.readNum {W w:World} {L:List Th} {p g:Nat} {rest:List UInt8} {bad:Bool} (h:St W w (thRd p g rest bad::L)) (hm:rest.length≤140737488351232) :
 Calls Tryz.prog 82 #[.pointer (some ⟨p,0,none⟩)] w fun e w'=>e=.returned (.int .i64 ((numT rest bad).1:Nat))∧St W w' (thRd p g (numT rest bad).2.1 (numT rest bad).2.2::L):=by
 refine (rdnum_t p g rest bad w h.head hm).mono ?_
 rintro e w' ⟨rfl,hr,hk⟩
 exact ⟨rfl,h.read hr hk (numT_le _ _).1⟩
theorem St.readBytes {W w:World} {L:List Th} {p g:Nat} {rest:List UInt8} {bad:Bool} (h:St W w (thRd p g rest bad::L)) (hm:rest.length≤140737488351232) :
 Calls Tryz.prog 40 #[.pointer (some ⟨p,0,none⟩)] w fun e w'=>∃ ao cap,e=.returned (.slice ao (tookOf rest bad).1.length cap)∧OwnB w' w.heap.size ao cap (tookOf rest bad).1∧St W w' (thRd p g (tookOf rest bad).2.1 (tookOf rest bad).2.2::L):=by
 refine (rdbytes_any p g rest bad w h.head hm).mono ?_
 rintro e w' ⟨x,r',b',ao,cap,ht,rfl,ho,hr,hk⟩
 rw [←ht]
 exact ⟨ao,cap,rfl,ho,h.read hr hk (tookOf_le ht).2⟩
theorem St.readNumR {W w:World} {L:List Th} {p g:Nat} {rest:List UInt8} {bad:Bool} (h:St W w (thRR p g rest bad::L)) (hm:rest.length≤140737488351232) :
 Calls Tryz.prog 46 #[.pointer (some ⟨p,0,none⟩)] w fun e w'=>e=.returned (.int .i64 ((numT rest bad).1:Nat))∧St W w' (thRR p g (numT rest bad).2.1 (numT rest bad).2.2::L):=by
 refine (rrnum_k p g rest bad 0 w h.head hm).mono ?_
 rintro e w' ⟨rfl,hr,hk⟩
 exact ⟨rfl,h.readR hr hk (numT_le _ _).1⟩
theorem St.readBytesR {W w:World} {L:List Th} {p g:Nat} {rest:List UInt8} {bad:Bool} (h:St W w (thRR p g rest bad::L)) (hm:rest.length≤140737488351232) :
 Calls Tryz.prog 47 #[.pointer (some ⟨p,0,none⟩)] w fun e w'=>∃ ao cap,e=.returned (.slice ao (tookOf rest bad).1.length cap)∧OwnB w' w.heap.size ao cap (tookOf rest bad).1∧St W w' (thRR p g (tookOf rest bad).2.1 (tookOf rest bad).2.2::L):=by
 refine (rrbytes_any p g rest bad w h.head hm).mono ?_
 rintro e w' ⟨x,r',b',ao,cap,ht,rfl,ho,hr,hk⟩
 rw [←ht]
 exact ⟨ao,cap,rfl,ho,h.readR hr hk (tookOf_le ht).2⟩
end Go.Proofs.YthlcmjgdilebeaaGreat