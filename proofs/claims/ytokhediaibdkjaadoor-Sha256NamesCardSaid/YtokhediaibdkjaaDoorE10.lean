/- The engine, part 10: regions that draw their order, in which one write comes last in every order; shorter checks for the others. -/
import Derived.Test.YtokhediaibdkjaaDoorE9
namespace Go.Pm
open Go.RowKit

def dummy (o : Oper) : Oper := { dst := none, op := .move (.const undef), type := o.type, pos := o.pos, after := o.after, guard := none }
def dumm : List Oper → List Oper
  | [] => []
  | [o] => [dummy o]
  | o :: p :: r => o :: dumm (p :: r)
def lastOp : List Oper → Oper
  | [] => dummy { dst := none, op := .move (.const undef), type := 0, pos := "", after := #[], guard := none }
  | [o] => o
  | _ :: p :: r => lastOp (p :: r)

theorem dumm_length : ∀ l : List Oper, (dumm l).length = l.length
  | [] => rfl
  | [_] => rfl
  | _ :: p :: r => by simp [dumm, dumm_length (p :: r)]
theorem dumm_ne : ∀ (l : List Oper) (i : Nat), i + 1 ≠ l.length → (dumm l)[i]? = l[i]?
  | [], _, _ => rfl
  | [o], i, h => by
    cases i with
    | zero => simp at h
    | succ i => rfl
  | o :: p :: r, i, h => by
    cases i with
    | zero => rfl
    | succ i => simpa [dumm] using dumm_ne (p :: r) i (by simpa using h)
theorem dumm_last : ∀ (l : List Oper) (i : Nat), i + 1 = l.length → l[i]? = some (lastOp l) ∧ (dumm l)[i]? = some (dummy (lastOp l))
  | [], i, h => by simp at h
  | [o], i, h => by
    have : i = 0 := by simpa using h
    subst this; exact ⟨rfl, rfl⟩
  | o :: p :: r, i, h => by
    cases i with
    | zero => simp at h
    | succ i => simpa [dumm, lastOp] using dumm_last (p :: r) i (by simpa using h)

def downB (l : List Oper) : Bool := (List.range l.length).all fun i => match l[i]? with
  | some o => o.after.all fun e => !Region.binds .any e || Nat.blt e.on i
  | none => true
/-- The last one writes; all others come ahead of it. -/
def chkX (l : List Oper) : Bool :=
  Nat.blt 0 l.length && noDefer l.toArray && Region.lexB .any (dumm l).toArray && (lastOp l).dst.isNone && (lastOp l).guard.isNone && downB l && (List.range (l.length - 1)).all fun i => precedes l.toArray i l.length (l.length - 1)

section
variable {cx : Cx} {e : Env} {Rs : List Res} {r : Option Nat} {P : Program} {Q : Exit → Act → World → Prop} {K : Act → World → Prop}

theorem dumm_after {l : List Oper} {i : Nat} {o : Oper} (h : (dumm l)[i]? = some o) : ∃ o', l[i]? = some o' ∧ o'.after = o.after := by
  by_cases hi : i + 1 = l.length
  · obtain ⟨h1, h2⟩ := dumm_last l i hi
    rw [h2] at h
    cases h
    exact ⟨_, h1, rfl⟩
  · rw [dumm_ne l i hi] at h; exact ⟨o, h, rfl⟩
theorem dumm_after' {l : List Oper} {i : Nat} {o : Oper} (h : l[i]? = some o) : ∃ o', (dumm l)[i]? = some o' ∧ o'.after = o.after := by
  by_cases hi : i + 1 = l.length
  · obtain ⟨h1, h2⟩ := dumm_last l i hi
    rw [h1] at h
    cases h
    exact ⟨_, h2, rfl⟩
  · rw [← dumm_ne l i hi] at h; exact ⟨o, h, rfl⟩
theorem dumm_ready (l : List Oper) (L : Array Bool) (i : Nat) : i ∈ Region.ready .any (dumm l).toArray L ↔ i ∈ Region.ready .any l.toArray L := by
  rw [mem_ready, mem_ready]
  simp only [List.getElem?_toArray]
  constructor
  · rintro ⟨h1, o, ho, hall⟩
    obtain ⟨o', h2, h3⟩ := dumm_after ho
    exact ⟨h1, o', h2, by rw [h3]; exact hall⟩
  · rintro ⟨h1, o, ho, hall⟩
    obtain ⟨o', h2, h3⟩ := dumm_after' ho
    exact ⟨h1, o', h2, by rw [h3]; exact hall⟩
theorem dumm_yielded {l : List Oper} (hd : (lastOp l).dst = none) (t : Array Value) : yielded (dumm l).toArray t = yielded l.toArray t := by
  funext j
  unfold yielded
  simp only [List.getElem?_toArray]
  by_cases hj : j + 1 = l.length
  · obtain ⟨h1, h2⟩ := dumm_last l j hj
    simp [h1, h2, hd, dummy]
  · rw [dumm_ne l j hj]

theorem ready_ex {l : List Oper} (hdn : downB l = true) {L : Array Bool} (hsz : L.size = l.length) : ∀ (i : Nat), i < l.length → L.getD i true = false → ∃ j, j ∈ Region.ready .any l.toArray L := by
  intro i
  induction i using Nat.strongRecOn with
  | _ i ih =>
    intro hi hL
    by_cases hex : ∃ j, j < i ∧ L.getD j true = false
    · obtain ⟨j, hj, hLj⟩ := hex
      exact ih j hj (by omega) hLj
    · refine ⟨i, mem_ready.2 ⟨hL, l[i], by simp [hi], fun e he hb => ?_⟩⟩
      have h1 := List.all_eq_true.1 hdn i (List.mem_range.2 hi)
      rw [List.getElem?_eq_getElem hi] at h1
      have h2 := Array.all_eq_true_iff_forall_mem.1 h1 e he
      have h3 : e.on < i := by simpa [hb] using h2
      cases hc : L.getD e.on false with
      | true => rfl
      | false =>
        exfalso
        refine hex ⟨e.on, h3, ?_⟩
        have : e.on < L.size := by omega
        simpa [this] using hc

theorem all_listed {l : List Oper} {L : Array Bool} (hp : ∀ i, i + 1 < l.length → precedes l.toArray i l.length (l.length - 1) = true) (hcl : Closed l.toArray L) (hX : L.getD (l.length - 1) false = true) : Region.ready .any l.toArray L = [] := by
  cases hr : Region.ready .any l.toArray L with
  | nil => rfl
  | cons i is =>
    exfalso
    have hi : i ∈ Region.ready .any l.toArray L := by rw [hr]; simp
    obtain ⟨hu, o, ho, _⟩ := mem_ready.1 hi
    have hlt : i < l.length := by
      have := (Array.getElem?_eq_some_iff.1 ho).1
      simpa using this
    have : L.getD i false = true := by
      by_cases hl : i + 1 = l.length
      · have : i = l.length - 1 := by omega
        rw [this]; exact hX
      · exact precedes_spec _ _ _ (hp i (by omega)) hcl hX
    rcases Nat.lt_or_ge i L.size with h | h
    · simp [h] at hu this; rw [hu] at this; cases this
    · simp [Array.getElem?_eq_none h] at this

theorem anyX {l : List Oper} {C : World → Prop} (hd : (lastOp l).dst = none) (hg : (lastOp l).guard = none) (hdn : downB l = true)
    (hp : ∀ i, i + 1 < l.length → precedes l.toArray i l.length (l.length - 1) = true) (hl : 0 < l.length) : ∀ (f : Nat) (L : Array Bool) (a : Act) (w : World), Closed l.toArray L → C w → L.getD (l.length - 1) true = false → L.size = l.length →
    wpAnyQIn (FR none) 0 P .any (dumm l).toArray C (fun a => ∀ w, C w → (lastOp l).wpIn (FR none) 0 P a w (Q .normal) Q) f L a → wpAnyIn (FR none) 0 P .any l.toArray Q f L a w := by
  intro f
  induction f with
  | zero =>
    intro L a w hcl hC hX hsz h
    obtain ⟨j, hj⟩ := ready_ex hdn hsz (l.length - 1) (by omega) hX
    have h0 := h.1
    have := (dumm_ready l L j).2 hj
    rw [h0] at this
    cases this
  | succ f ih =>
    intro L a w hcl hC hX hsz h
    obtain ⟨j, hj⟩ := ready_ex hdn hsz (l.length - 1) (by omega) hX
    refine ⟨fun h0 => (by rw [h0] at hj; cases hj), fun i hi => ?_⟩
    have hq := h.2 i ((dumm_ready l L i).2 hi)
    by_cases hiX : i + 1 = l.length
    · obtain ⟨h1, h2⟩ := dumm_last l i hiX
      have hi' : i = l.length - 1 := by omega
      have hall : Region.ready .any l.toArray (L.setIfInBounds i true) = [] := all_listed hp (hcl.set hi) (by
        rw [← hi']
        have : i < L.size := by omega
        simp [this])
      have hq2 : ∀ w, C w → (lastOp l).wpIn (FR none) 0 P a w (Q .normal) Q := by
        unfold qOpIn at hq
        simp only [List.getElem?_toArray, h2] at hq
        have hw : Region.wanted (dummy (lastOp l)) (yielded (dumm l).toArray a.tmps) = true := by simp [Region.wanted, dummy]
        rw [if_pos hw] at hq
        obtain ⟨_, v, _, hK⟩ := hq
        have ha : a.put (dummy (lastOp l)).dst v = a := rfl
        rw [ha] at hK
        cases f with
        | zero => exact hK.2
        | succ f =>
          refine hK.1 ?_
          cases hr : Region.ready .any (dumm l).toArray (L.setIfInBounds i true) with
          | nil => rfl
          | cons k ks =>
            exfalso
            have : k ∈ Region.ready .any l.toArray (L.setIfInBounds i true) := (dumm_ready l _ k).1 (by rw [hr]; simp)
            rw [hall] at this; cases this
      unfold wpOpIn
      simp only [List.getElem?_toArray, h1]
      rw [if_pos (by simp [Region.wanted, hg])]
      refine Oper.wpIn_mono (fun a' w' hq' => ?_) (hq2 w hC)
      cases f with
      | zero => exact ⟨hall, hq'⟩
      | succ f => exact ⟨fun _ => hq', by rw [hall]; simp⟩
    · have hsame := dumm_ne l i hiX
      have hq' : qOpIn (FR none) 0 P l.toArray C i (wpAnyQIn (FR none) 0 P .any (dumm l).toArray C (fun a => ∀ w, C w → (lastOp l).wpIn (FR none) 0 P a w (Q .normal) Q) f (L.setIfInBounds i true)) a := by
        unfold qOpIn at hq ⊢
        simp only [List.getElem?_toArray, hsame, dumm_yielded hd] at hq ⊢
        exact hq
      refine wpOpIn_of_qOpIn rfl hC (fun a' w' hC' hK => ih _ a' w' (hcl.set hi) hC' ?_ (by simpa using hsz) hK) hq'
      have hne : ¬ i = l.length - 1 := by omega
      simp only [Array.getD_eq_getD_getElem?] at hX ⊢
      rwa [Array.getElem?_setIfInBounds_ne hne]

/-- A region that draws its order, in which a last operation writes behind all others. -/
theorem regionX {id : Nat} {l : List Oper} (hm : P.follows .mixedOrders = true) (hc : chkX l = true) (h : Dr cx e Rs P (dumm l).toArray (fun a w => (lastOp l).wpIn (FR none) 0 P a w (Q .normal) Q) (dumm l)) :
    At cx e Rs ((Code.region id l.toArray true).wpIn (FR r) 0 P Q) := by
  intro a w ha hw
  simp only [chkX, Bool.and_eq_true, Option.isNone_iff_eq_none, List.all_eq_true, List.mem_range] at hc
  obtain ⟨⟨⟨⟨⟨⟨hl, hn⟩, hB⟩, hd⟩, hg⟩, hdn⟩, hp⟩ := hc
  have hl : 0 < l.length := by simpa using hl
  simp only [Region.lexB, Bool.and_eq_true] at hB
  refine region_any hm hn (anyX (C := Sat cx.w0 cx.S0 Rs) hd hg hdn (fun i hi => hp i (by omega)) hl _ _ _ _ (Closed.start _ _) (hw.drew _) ?_ (by simp) ?_)
  · have : l.length - 1 < l.length := by omega
    simp [this]
  · have := wpAnyQIn_lex (F := FR none) (n := 0) (C := Sat cx.w0 cx.S0 Rs) (md := .any) hB.1 (dumm l) 0 (Array.replicate l.length false) a (by simp) (by simpa [dumm_length] using hB.2) (h a ha)
    simpa [dumm_length] using this

theorem Dr.last {ops : Array Oper} {o : Oper} (h : At cx e Rs K) : Dr cx e Rs P ops K [dummy o] := by
  intro a ha
  refine ⟨fun _ _ _ _ => trivial, ?_⟩
  rw [if_pos (by simp [Region.wanted, dummy])]
  refine ⟨undef, fun w hw => ?_, fun w' hw' => h _ w' (ha.put_none _) hw'⟩
  unfold Oper.quietAtIn
  exact ⟨rfl, rfl⟩
end

/-! ### Shorter checks for regions with more writes -/
def chkQ (ops : Array Oper) (L : List Bool) (X : List Nat) (i : Nat) : Bool :=
  noDefer ops && Region.noSelect ops && Region.free .any ops L.toArray i && (Region.ready .any ops L.toArray).contains i && !X.contains i
def chkZ (ops : Array Oper) (L : List Bool) (X : List Nat) (i : Nat) : Bool := chkQ ops L X i && X.all fun k => precedes ops i ops.size k

section
variable {cx : Cx} {e : Env} {Rs : List Res} {P : Program} {K : Act → World → Prop} {ops : Array Oper} {g : Rg}
theorem An'.q {f : Nat} {L : List Bool} (i : Nat) (X : List Nat) {d : Nat} {op : Op} {t : TypeId} {ps : String} {af : Array Edge} {gd : Option (Nat × Bool)} {v : Value} (hX : g.X = X) (hc : chkQ ops L X i = true) (hi : ops[i]? = some { dst := some d, op, type := t, pos := ps, after := af, guard := gd })
    (hw : guardOk ops e { dst := some d, op, type := t, pos := ps, after := af, guard := gd } = some true)
    (hg : Gives P cx e g.RsQ { dst := some d, op, type := t, pos := ps, after := af, guard := gd } v) (hd : Nat.blt d cx.n = true) (h : An' cx ((d, v) :: e) Rs P ops g K f (L.set i true)) : An' cx e Rs P ops g K (f + 1) L := by
  subst hX
  simp only [chkQ, Bool.and_eq_true, Bool.not_eq_true'] at hc
  obtain ⟨⟨⟨⟨h1, h2⟩, h3⟩, h4⟩, h5⟩ := hc
  exact An'.tk i hi h1 h2 h3 h4 h5 hw hg hd rfl h
theorem An'.z {f : Nat} {L : List Bool} (i : Nat) (X : List Nat) {d : Nat} {op : Op} {t : TypeId} {ps : String} {af : Array Edge} {gd : Option (Nat × Bool)} {v : Value} (hX : g.X = X) (hc : chkZ ops L X i = true) (hi : ops[i]? = some { dst := some d, op, type := t, pos := ps, after := af, guard := gd })
    (hw : guardOk ops e { dst := some d, op, type := t, pos := ps, after := af, guard := gd } = some true)
    (hg : Gives P cx e g.Rs0 { dst := some d, op, type := t, pos := ps, after := af, guard := gd } v) (hd : Nat.blt d cx.n = true) (h : An' cx ((d, v) :: e) Rs P ops g K f (L.set i true)) : An' cx e Rs P ops g K (f + 1) L := by
  subst hX
  simp only [chkZ, chkQ, Bool.and_eq_true, Bool.not_eq_true'] at hc
  obtain ⟨⟨⟨⟨⟨h1, h2⟩, h3⟩, h4⟩, h5⟩, h6⟩ := hc
  exact An'.tk0 i hi h1 h2 h3 h4 h5 h6 hw hg hd rfl h
end
end Go.Pm
