/- Texts put together: Four. -/
import Derived.Test.YtogamdaomdoapaaGreatGa01
import Derived.OrdersHeld
namespace Go.Proofs.YtogamdaomdoapaaGreat
open Go.RowKit
def nnO (v:Option Value):Nat:=if v.isSome then 0 else 1
theorem g0z {P:Program} {md:Region.Mode} {ops:Array Oper} {Q:Exit→Act→World→Prop} {S:World→Prop} {n:Nat} (M:Bool→Bool→Bool→Bool→Array Bool) (Fr:Option Value→Option Value→Option Value→Option Value→Act) (I:Option Value→Option Value→Option Value→Option Value→World→Prop) (i4 i9 i10 i11:Nat)
 (hr:∀ b4 b9 b10 b11,(b9=true→b4=true)→(b4&&b9&&b10&&b11)=false→Region.ready md ops (M b4 b9 b10 b11)=(if b4 then (if b9 then [] else [i9]) else [i4])++(if b10 then [] else [i10])++(if b11 then [] else [i11]))
 (m4:∀ b10 b11,(M false false b10 b11).setIfInBounds i4 true=M true false b10 b11)
 (m9:∀ b10 b11,(M true false b10 b11).setIfInBounds i9 true=M true true b10 b11)
 (m10:∀ b4 b9 b11,(M b4 b9 false b11).setIfInBounds i10 true=M b4 b9 true b11)
 (m11:∀ b4 b9 b10,(M b4 b9 b10 false).setIfInBounds i11 true=M b4 b9 b10 true)
 (h4:∀ v10 v11 w,I none none v10 v11 w→∀ K:Act→World→Prop,(∀ v w',S w'→I (some v) none v10 v11 w'→K (Fr (some v) none v10 v11) w')→wpOp P ops Q i4 K (Fr none none v10 v11) w)
 (h9:∀ v4 v10 v11 w,I (some v4) none v10 v11 w→∀ K:Act→World→Prop,(∀ v w',S w'→I (some v4) (some v) v10 v11 w'→K (Fr (some v4) (some v) v10 v11) w')→wpOp P ops Q i9 K (Fr (some v4) none v10 v11) w)
 (h10:∀ v4 v9 v11 w,(v9.isSome=true→v4.isSome=true)→I v4 v9 none v11 w→∀ K:Act→World→Prop,(∀ v w',S w'→I v4 v9 (some v) v11 w'→K (Fr v4 v9 (some v) v11) w')→wpOp P ops Q i10 K (Fr v4 v9 none v11) w)
 (h11:∀ v4 v9 v10 w,(v9.isSome=true→v4.isSome=true)→I v4 v9 v10 none w→∀ K:Act→World→Prop,(∀ v w',S w'→I v4 v9 v10 (some v) w'→K (Fr v4 v9 v10 (some v)) w')→wpOp P ops Q i11 K (Fr v4 v9 v10 none) w)
 (hend:∀ v4 v9 v10 v11 w,I (some v4) (some v9) (some v10) (some v11) w→wpAnyH P md ops Q S n (M true true true true) (Fr (some v4) (some v9) (some v10) (some v11)) w) :
 ∀ (k:Nat) v4 v9 v10 v11 w,nnO v4+nnO v9+nnO v10+nnO v11=k→(v9.isSome=true→v4.isSome=true)→I v4 v9 v10 v11 w→wpAnyH P md ops Q S (n+k) (M v4.isSome v9.isSome v10.isSome v11.isSome) (Fr v4 v9 v10 v11) w:=by
 intro k
 induction k with
 | zero =>
  intro v4 v9 v10 v11 w hk h94 hI
  cases v4 with
  | none=>simp [nnO] at hk
  | some v4=>cases v9 with
   | none=>simp [nnO] at hk
   | some v9=>cases v10 with
    | none=>simp [nnO] at hk
    | some v10=>cases v11 with
     | none=>simp [nnO] at hk
     | some v11=>exact hend _ _ _ _ _ hI
 | succ k ih =>
  intro v4 v9 v10 v11 w hk h94 hI
  cases v4 with
  | none=>cases v9 with
   | none=>cases v10 with
    | none=>cases v11 with
     | none =>
      refine wpAnyH_all (hr false false false false (by simp) (by simp)) (by simp) (fun i hi=>?_)
      simp at hi
      rcases hi with rfl | rfl | rfl
      ·exact h4 _ _ w hI _ (fun v w' hS hI'=>⟨hS,(m4 false false).symm▸ih (some v) none none none w' (by simp [nnO] at hk ⊢;omega) (by simp) hI'⟩)
      ·exact h10 _ _ _ w (by simp) hI _ (fun v w' hS hI'=>⟨hS,(m10 false false false).symm▸ih none none (some v) none w' (by simp [nnO] at hk ⊢;omega) (by simp) hI'⟩)
      ·exact h11 _ _ _ w (by simp) hI _ (fun v w' hS hI'=>⟨hS,(m11 false false false).symm▸ih none none none (some v) w' (by simp [nnO] at hk ⊢;omega) (by simp) hI'⟩)
     | some v11 =>
      refine wpAnyH_all (hr false false false true (by simp) (by simp)) (by simp) (fun i hi=>?_)
      simp at hi
      rcases hi with rfl | rfl
      ·exact h4 _ _ w hI _ (fun v w' hS hI'=>⟨hS,(m4 false true).symm▸ih (some v) none none (some v11) w' (by simp [nnO] at hk ⊢;omega) (by simp) hI'⟩)
      ·exact h10 _ _ _ w (by simp) hI _ (fun v w' hS hI'=>⟨hS,(m10 false false true).symm▸ih none none (some v) (some v11) w' (by simp [nnO] at hk ⊢;omega) (by simp) hI'⟩)
    | some v10=>cases v11 with
     | none =>
      refine wpAnyH_all (hr false false true false (by simp) (by simp)) (by simp) (fun i hi=>?_)
      simp at hi
      rcases hi with rfl | rfl
      ·exact h4 _ _ w hI _ (fun v w' hS hI'=>⟨hS,(m4 true false).symm▸ih (some v) none (some v10) none w' (by simp [nnO] at hk ⊢;omega) (by simp) hI'⟩)
      ·exact h11 _ _ _ w (by simp) hI _ (fun v w' hS hI'=>⟨hS,(m11 false false true).symm▸ih none none (some v10) (some v) w' (by simp [nnO] at hk ⊢;omega) (by simp) hI'⟩)
     | some v11 =>
      refine wpAnyH_all (hr false false true true (by simp) (by simp)) (by simp) (fun i hi=>?_)
      simp at hi
      subst hi
      exact h4 _ _ w hI _ (fun v w' hS hI'=>⟨hS,(m4 true true).symm▸ih (some v) none (some v10) (some v11) w' (by simp [nnO] at hk ⊢;omega) (by simp) hI'⟩)
   | some v9=>simp at h94
  | some v4=>cases v9 with
   | none=>cases v10 with
    | none=>cases v11 with
     | none =>
      refine wpAnyH_all (hr true false false false (by simp) (by simp)) (by simp) (fun i hi=>?_)
      simp at hi
      rcases hi with rfl | rfl | rfl
      ·exact h9 _ _ _ w hI _ (fun v w' hS hI'=>⟨hS,(m9 false false).symm▸ih (some v4) (some v) none none w' (by simp [nnO] at hk ⊢;omega) (by simp) hI'⟩)
      ·exact h10 _ _ _ w (by simp) hI _ (fun v w' hS hI'=>⟨hS,(m10 true false false).symm▸ih (some v4) none (some v) none w' (by simp [nnO] at hk ⊢;omega) (by simp) hI'⟩)
      ·exact h11 _ _ _ w (by simp) hI _ (fun v w' hS hI'=>⟨hS,(m11 true false false).symm▸ih (some v4) none none (some v) w' (by simp [nnO] at hk ⊢;omega) (by simp) hI'⟩)
     | some v11 =>
      refine wpAnyH_all (hr true false false true (by simp) (by simp)) (by simp) (fun i hi=>?_)
      simp at hi
      rcases hi with rfl | rfl
      ·exact h9 _ _ _ w hI _ (fun v w' hS hI'=>⟨hS,(m9 false true).symm▸ih (some v4) (some v) none (some v11) w' (by simp [nnO] at hk ⊢;omega) (by simp) hI'⟩)
      ·exact h10 _ _ _ w (by simp) hI _ (fun v w' hS hI'=>⟨hS,(m10 true false true).symm▸ih (some v4) none (some v) (some v11) w' (by simp [nnO] at hk ⊢;omega) (by simp) hI'⟩)
    | some v10=>cases v11 with
     | none =>
      refine wpAnyH_all (hr true false true false (by simp) (by simp)) (by simp) (fun i hi=>?_)
      simp at hi
      rcases hi with rfl | rfl
      ·exact h9 _ _ _ w hI _ (fun v w' hS hI'=>⟨hS,(m9 true false).symm▸ih (some v4) (some v) (some v10) none w' (by simp [nnO] at hk ⊢;omega) (by simp) hI'⟩)
      ·exact h11 _ _ _ w (by simp) hI _ (fun v w' hS hI'=>⟨hS,(m11 true false true).symm▸ih (some v4) none (some v10) (some v) w' (by simp [nnO] at hk ⊢;omega) (by simp) hI'⟩)
     | some v11 =>
      refine wpAnyH_all (hr true false true true (by simp) (by simp)) (by simp) (fun i hi=>?_)
      simp at hi
      subst hi
      exact h9 _ _ _ w hI _ (fun v w' hS hI'=>⟨hS,(m9 true true).symm▸ih (some v4) (some v) (some v10) (some v11) w' (by simp [nnO] at hk ⊢;omega) (by simp) hI'⟩)
   | some v9=>cases v10 with
    | none=>cases v11 with
     | none =>
      refine wpAnyH_all (hr true true false false (by simp) (by simp)) (by simp) (fun i hi=>?_)
      simp at hi
      rcases hi with rfl | rfl
      ·exact h10 _ _ _ w (by simp) hI _ (fun v w' hS hI'=>⟨hS,(m10 true true false).symm▸ih (some v4) (some v9) (some v) none w' (by simp [nnO] at hk ⊢;omega) (by simp) hI'⟩)
      ·exact h11 _ _ _ w (by simp) hI _ (fun v w' hS hI'=>⟨hS,(m11 true true false).symm▸ih (some v4) (some v9) none (some v) w' (by simp [nnO] at hk ⊢;omega) (by simp) hI'⟩)
     | some v11 =>
      refine wpAnyH_all (hr true true false true (by simp) (by simp)) (by simp) (fun i hi=>?_)
      simp at hi
      subst hi
      exact h10 _ _ _ w (by simp) hI _ (fun v w' hS hI'=>⟨hS,(m10 true true true).symm▸ih (some v4) (some v9) (some v) (some v11) w' (by simp [nnO] at hk ⊢;omega) (by simp) hI'⟩)
    | some v10=>cases v11 with
     | none =>
      refine wpAnyH_all (hr true true true false (by simp) (by simp)) (by simp) (fun i hi=>?_)
      simp at hi
      subst hi
      exact h11 _ _ _ w (by simp) hI _ (fun v w' hS hI'=>⟨hS,(m11 true true true).symm▸ih (some v4) (some v9) (some v10) (some v) w' (by simp [nnO] at hk ⊢;omega) (by simp) hI'⟩)
     | some v11 =>
      simp [nnO] at hk
theorem takeD {P:Program} {md:Region.Mode} {ops:Array Oper} {Q:Exit→Act→World→Prop} {S:World→Prop} {i:Nat} {oi:Oper} {v:Value} {fuel:Nat} {listed:Array Bool} {a:Act} {w:World} (s:Tmp) (hi:ops[i]?=some oi) (hd:oi.dst=some s)
 (hs:Region.noSelect ops=true) (hf:Region.free md ops listed i=true) (hr:(Region.ready md ops listed).contains i=true)
 (hQ:∀ c a w,Q (.panic c) (a.put oi.dst v) w→Q (.panic c) a w) (hy:YieldsIf P ops S oi v a) (hS:S w)
 (h:wpAnyH P md ops Q S fuel (listed.setIfInBounds i true) (a.put (some s) v) w):wpAnyH P md ops Q S (fuel+1) listed a w :=
 wpAnyH_take hi hs hf hr hQ hy hS (by rw [hd];exact h)
theorem tkD {P:Program} {md:Region.Mode} {ops:Array Oper} {Q:Exit→Act→World→Prop} {S:World→Prop} {i:Nat} {oi:Oper} {v:Value} {fuel:Nat} {listed:Array Bool} {a:Act} {w:World} (s:Tmp) (hi:ops[i]?=some oi) (hy:∀ w,S w→(execOp a.eval oi).run P w=.ok (.value v) w) (hS:S w)
 (h:wpAnyH P md ops Q S fuel (listed.setIfInBounds i true) (a.put (some s) v) w) (hd:oi.dst=some s:=by rfl) (hs:Region.noSelect ops=true:=by kernel_rfl) (hf:Region.free md ops listed i=true:=by kernel_rfl) (hr:(Region.ready md ops listed).contains i=true:=by kernel_rfl)
 (hQ:∀ c a w,Q (.panic c) (a.put oi.dst v) w→Q (.panic c) a w:=by exact fun _ _ _ h=>h) (hw:Region.wanted oi (yielded ops a.tmps)=true:=by rfl):wpAnyH P md ops Q S (fuel+1) listed a w :=
 takeD s hi hd hs hf hr hQ (.inl ⟨hw,hy⟩) hS h
theorem oneD {P:Program} {md:Region.Mode} {ops:Array Oper} {Q:Exit→Act→World→Prop} {S:World→Prop} {fuel:Nat} {listed:Array Bool} {a:Act} {w:World} (i:Nat) {o:Oper} (ho:ops[i]?=some o)
 (h:∀ K':Act→World→Prop,(∀ a w,S w∧wpAnyH P md ops Q S fuel (listed.setIfInBounds i true) a w→K' a w)→if Region.wanted o (yielded ops a.tmps)=true then Oper.wp P o a w K' Q else K' (a.put o.dst undef) w) (hr:Region.ready md ops listed=[i]:=by kernel_rfl):wpAnyH P md ops Q S (fuel+1) listed a w :=
 wpAnyH_all hr (by simp) fun i' hi'=>by
  obtain rfl:i'=i:=by simpa using hi'
  exact wpOp_step ho h
def putO (a:Act) (s:Tmp):Option Value→Act
 | none=>a
 | some v=>a.put (some s) v
def frO (a:Act) (s4 s9 s10 s11:Tmp) (v4 v9 v10 v11:Option Value):Act:=putO (putO (putO (putO a s4 v4) s9 v9) s10 v10) s11 v11
theorem j0g {P:Program} {md:Region.Mode} {ops:Array Oper} {Q:Exit→Act→World→Prop} {S:World→Prop} {n:Nat} {a:Act} {w0:World} (s4 s9 s10 s11:Tmp) (M:Bool→Bool→Bool→Bool→Array Bool) (I:Option Value→Option Value→Option Value→Option Value→World→Prop) (i4 i9 i10 i11:Nat)
 (hr:∀ b4 b9 b10 b11,(b9=true→b4=true)→(b4&&b9&&b10&&b11)=false→Region.ready md ops (M b4 b9 b10 b11)=(if b4 then (if b9 then [] else [i9]) else [i4])++(if b10 then [] else [i10])++(if b11 then [] else [i11]))
 (m4:∀ b10 b11,(M false false b10 b11).setIfInBounds i4 true=M true false b10 b11)
 (m9:∀ b10 b11,(M true false b10 b11).setIfInBounds i9 true=M true true b10 b11)
 (m10:∀ b4 b9 b11,(M b4 b9 false b11).setIfInBounds i10 true=M b4 b9 true b11)
 (m11:∀ b4 b9 b10,(M b4 b9 b10 false).setIfInBounds i11 true=M b4 b9 b10 true)
 (h0:I none none none none w0)
 (h4:∀ v10 v11 w,I none none v10 v11 w→∀ K:Act→World→Prop,(∀ v w',S w'→I (some v) none v10 v11 w'→K (frO a s4 s9 s10 s11 (some v) none v10 v11) w')→wpOp P ops Q i4 K (frO a s4 s9 s10 s11 none none v10 v11) w)
 (h9:∀ v4 v10 v11 w,I (some v4) none v10 v11 w→∀ K:Act→World→Prop,(∀ v w',S w'→I (some v4) (some v) v10 v11 w'→K (frO a s4 s9 s10 s11 (some v4) (some v) v10 v11) w')→wpOp P ops Q i9 K (frO a s4 s9 s10 s11 (some v4) none v10 v11) w)
 (h10:∀ v4 v9 v11 w,(v9.isSome=true→v4.isSome=true)→I v4 v9 none v11 w→∀ K:Act→World→Prop,(∀ v w',S w'→I v4 v9 (some v) v11 w'→K (frO a s4 s9 s10 s11 v4 v9 (some v) v11) w')→wpOp P ops Q i10 K (frO a s4 s9 s10 s11 v4 v9 none v11) w)
 (h11:∀ v4 v9 v10 w,(v9.isSome=true→v4.isSome=true)→I v4 v9 v10 none w→∀ K:Act→World→Prop,(∀ v w',S w'→I v4 v9 v10 (some v) w'→K (frO a s4 s9 s10 s11 v4 v9 v10 (some v)) w')→wpOp P ops Q i11 K (frO a s4 s9 s10 s11 v4 v9 v10 none) w)
 (hend:∀ v4 v9 v10 v11 w,I (some v4) (some v9) (some v10) (some v11) w→wpAnyH P md ops Q S n (M true true true true) (frO a s4 s9 s10 s11 (some v4) (some v9) (some v10) (some v11)) w) :
 wpAnyH P md ops Q S (n+4) (M false false false false) a w0 :=
 g0z M (frO a s4 s9 s10 s11) I i4 i9 i10 i11 hr m4 m9 m10 m11 h4 h9 h10 h11 hend 4 none none none none w0 rfl (by simp) h0
end Go.Proofs.YtogamdaomdoapaaGreat