/- The engine, part 13: guarded operations that act, in regions that draw their order. -/
import Derived.Test.YtokhediaibdkjaaDoorE12
namespace Go.Pm
open Go.RowKit
section
variable {cx : Cx} {e : Env} {Rs : List Res} {P : Program} {K : Act → World → Prop} {ops : Array Oper} {g : Rg}
theorem An'.allG {f : Nat} {L : List Bool} (rs : List Nat) (hr : Region.ready .any ops L.toArray = rs) (hne : rs ≠ [])
    (h : ∀ i ∈ rs, ∃ o, ops[i]? = some o ∧ guardOk ops e o = some true ∧ OpAt cx e Rs none P QF o (fun a' w' => g.S cx (L.set i true).toArray w' ∧ (Closed ops (L.set i true).toArray → AnyS P ops (g.S cx) K f (L.set i true).toArray a' w'))) :
    An' cx e Rs P ops g K (f + 1) L := by
  intro hcl a w ha hw hS
  refine ⟨fun h0 => absurd (hr ▸ h0) hne, fun i hi => ?_⟩
  obtain ⟨o, ho, hgd, hop⟩ := h i (hr ▸ hi)
  have hset : (L.set i true).toArray = L.toArray.setIfInBounds i true := by simp
  have hwant := guardOk_spec ha hgd
  unfold wpOpIn
  simp only [ho]
  rw [if_pos hwant]
  refine Oper.wpIn_mono (fun a' w' h3 => ?_) (hop a w ha hw)
  rw [hset] at h3
  exact ⟨h3.1, h3.2 (hcl.set hi)⟩
theorem An'.oneG {f : Nat} {L : List Bool} (i : Nat) {o : Oper} (hr : Region.ready .any ops L.toArray = [i]) (ho : ops[i]? = some o) (hgd : guardOk ops e o = some true)
    (h : OpAt cx e Rs none P QF o (fun a' w' => g.S cx (L.set i true).toArray w' ∧ (Closed ops (L.set i true).toArray → AnyS P ops (g.S cx) K f (L.set i true).toArray a' w'))) : An' cx e Rs P ops g K (f + 1) L :=
  An'.allG [i] hr (by simp) fun j hj => by
    have : j = i := by simpa using hj
    subst this
    exact ⟨o, ho, hgd, h⟩
/-- A guarded operation that is passed over. -/
theorem An'.n {f : Nat} {L : List Bool} (i : Nat) (X : List Nat) {d : Nat} {op : Op} {t : TypeId} {ps : String} {af : Array Edge} {gd : Option (Nat × Bool)} (hX : g.X = X) (hc : chkQ ops L X i = true) (hi : ops[i]? = some { dst := some d, op, type := t, pos := ps, after := af, guard := gd })
    (hw : guardOk ops e { dst := some d, op, type := t, pos := ps, after := af, guard := gd } = some false) (hd : Nat.blt d cx.n = true) (h : An' cx ((d, undef) :: e) Rs P ops g K f (L.set i true)) : An' cx e Rs P ops g K (f + 1) L := by
  subst hX
  simp only [chkQ, Bool.and_eq_true, Bool.not_eq_true'] at hc
  obtain ⟨⟨⟨⟨h1, h2⟩, h3⟩, h4⟩, h5⟩ := hc
  exact An'.no i hi h1 h2 h3 h4 h5 hw hd rfl h
end
end Go.Pm
