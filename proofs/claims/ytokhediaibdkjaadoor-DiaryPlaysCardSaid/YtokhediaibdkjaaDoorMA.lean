/- The proof's texts, merged: E1 E2 E3 Ty E4 E5 E6 E7 E8 E9 E10 E11 E12 E13 E14. -/
import Derived.WalkKit
import Derived.TacticsIn
import Derived.OrdersIn
import Derived.RangeFuncRecord
import Derived.Test.YtokhediaibdkjaaDoorProg
import Derived.LaidEqlPtr
import Derived.WalkSpells
import Derived.Sort.QuietThIn
import Derived.Scope
import Derived.Lib.AppendZerosOnto
import Derived.Lib.UnsafeStr
import Derived.Lib.Builder
import Derived.Laws.Externs
import Derived.Lib.ConvBytes
/-! From E1 -/
/- The engine, part 1: assertions on a frame (known slots) and on memory (owned blocks), and the rules of the code's control. -/
namespace Go.Pm
open Go.RowKit

/-! ### Frames -/

abbrev Env := List (Nat × Value)

def Env.get : Env → Nat → Option Value
  | [], _ => none
  | (i, v) :: e, j => bif Nat.beq i j then some v else Env.get e j

/-- What an operand is, by the known slots. -/
def ev (e : Env) : Operand → Option Value
  | .tmp t => e.get t
  | .const v => some v
  | .global g => some (.pointer (some ⟨g, 0, none⟩))
  | .func f => some (.func (.func f) #[] #[])

/-- The frame holds what is known, has n slots, and these deferred calls. -/
structure Ok (n : Nat) (ds : List Deferred) (e : Env) (a : Act) : Prop where
  size : a.tmps.size = n
  defs : a.defers = ds
  get : ∀ i v, e.get i = some v → a.tmps[i]? = some v

theorem Ok.eval {n ds e a} (h : Ok n ds e a) {x : Operand} {v : Value} (hx : ev e x = some v) : a.eval x = v := by
  cases x with
  | tmp t => simp [Act.eval, h.get t v hx]
  | const u => simpa [ev, Act.eval] using hx
  | global g => simpa [ev, Act.eval] using hx
  | func f => simpa [ev, Act.eval] using hx

theorem Ok.put {n ds e a} (h : Ok n ds e a) {d : Nat} (hd : Nat.blt d n = true) (v : Value) : Ok n ds ((d, v) :: e) (a.put (some d) v) := by
  refine ⟨by simp [Act.put, h.size], h.defs, fun i u hu => ?_⟩
  have hdn : d < n := by simpa using hd
  simp only [Act.put]
  by_cases hdi : d = i
  · subst hdi
    simp [Env.get] at hu
    simp [h.size, hdn, hu]
  · have hb : Nat.beq d i = false := by
      cases hb : Nat.beq d i with
      | true => exact absurd (Nat.eq_of_beq_eq_true hb) hdi
      | false => rfl
    simp only [Env.get, hb, cond_false] at hu
    rw [Array.getElem?_setIfInBounds_ne hdi]
    exact h.get i u hu

theorem Ok.put_none {n ds e a} (h : Ok n ds e a) (v : Value) : Ok n ds e (a.put none v) := h

/-- Fewer things are known. -/
def Env.Sub : Env → Env → Prop
  | [], _ => True
  | (i, v) :: r, e => e.get i = some v ∧ Env.Sub r e

theorem Env.Sub.get {e' e : Env} (h : Env.Sub e' e) : ∀ i v, e'.get i = some v → e.get i = some v := by
  induction e' with
  | nil => intro i v hv; simp [Env.get] at hv
  | cons p r ih =>
    obtain ⟨j, u⟩ := p
    intro i v hv
    simp only [Env.get] at hv
    cases hb : Nat.beq j i with
    | true =>
      rw [hb] at hv
      simp at hv
      subst hv
      rw [← Nat.eq_of_beq_eq_true hb]
      exact h.1
    | false =>
      rw [hb] at hv
      exact ih h.2 i v (by simpa using hv)

theorem Ok.sub {n ds e e' a} (h : Ok n ds e a) (hs : Env.Sub e' e) : Ok n ds e' a := ⟨h.size, h.defs, fun i v hv => h.get i v (hs.get i v hv)⟩

/-! ### Memory -/

/-- A thing owned: its blocks, and what holds of the world by those blocks alone. -/
structure Res where
  fp : List Nat
  P : World → Prop
  loc : ∀ {w w' : World}, (∀ k ∈ fp, w'.heap[k]? = w.heap[k]?) → P w → P w'

def fps (Rs : List Res) : List Nat := Rs.flatMap Res.fp

@[simp] theorem fps_nil : fps [] = [] := rfl
@[simp] theorem fps_cons (R : Res) (Rs : List Res) : fps (R :: Rs) = R.fp ++ fps Rs := by simp [fps]
theorem fps_append (A B : List Res) : fps (A ++ B) = fps A ++ fps B := by simp [fps]

/-- From world w0 on (whose blocks S0 may have been written), world w holds these things, apart from one another; all else that was there is as it was. -/
structure Sat (w0 : World) (S0 : List Nat) (Rs : List Res) (w : World) : Prop where
  os : w.os = w0.os
  tape : w.tape = w0.tape
  output : w.output = w0.output
  size : w0.heap.size ≤ w.heap.size
  frame : ∀ k, k < w0.heap.size → k ∉ S0 → w.heap[k]? = w0.heap[k]?
  holds : ∀ R ∈ Rs, R.P w
  lt : ∀ k ∈ fps Rs, k < w.heap.size
  nodup : (fps Rs).Nodup
  new : ∀ k ∈ fps Rs, k ∈ S0 ∨ w0.heap.size ≤ k

theorem Sat.below {w0 w : World} {Rs : List Res} (h : Sat w0 [] Rs w) : Below w0.heap.size w0 w :=
  ⟨h.os, h.tape, h.output, h.size, fun k hk => h.frame k hk (by simp)⟩

theorem Sat.refl (w : World) : Sat w [] [] w := ⟨rfl, rfl, rfl, Nat.le_refl _, fun _ _ _ => rfl, by simp, by simp, by simp, by simp⟩

theorem Sat.drew {w0 S0 Rs} {w : World} (h : Sat w0 S0 Rs w) (n : Nat) : Sat w0 S0 Rs { w with drawn := n } :=
  ⟨h.os, h.tape, h.output, h.size, h.frame, fun R hR => R.loc (w := w) (w' := { w with drawn := n }) (fun _ _ => rfl) (h.holds R hR), h.lt, h.nodup, h.new⟩

/-- One of a list; the others. -/
inductive Pick (R : Res) : List Res → List Res → Prop
  | here {L : List Res} : Pick R (R :: L) L
  | there {X : Res} {L L' : List Res} : Pick R L L' → Pick R (X :: L) (X :: L')

theorem Pick.perm {R L L'} (h : Pick R L L') : L.Perm (R :: L') := by
  induction h with
  | here => exact List.Perm.refl _
  | there _ ih => exact (List.Perm.cons _ ih).trans (List.Perm.swap _ _ _)

theorem Sat.perm {w0 S0 Rs Rs'} {w : World} (h : Sat w0 S0 Rs w) (hp : Rs.Perm Rs') : Sat w0 S0 Rs' w := by
  have hf : (fps Rs).Perm (fps Rs') := List.Perm.flatMap_right _ hp
  exact ⟨h.os, h.tape, h.output, h.size, h.frame, fun R hR => h.holds R (hp.mem_iff.2 hR), fun k hk => h.lt k (hf.mem_iff.2 hk), hf.nodup_iff.1 h.nodup, fun k hk => h.new k (hf.mem_iff.2 hk)⟩

theorem Sat.pick {w0 S0 Rs R Rs'} {w : World} (h : Sat w0 S0 Rs w) (hp : Pick R Rs Rs') : Sat w0 S0 (R :: Rs') w := h.perm hp.perm

theorem Sat.get {w0 S0 Rs R Rs'} {w : World} (h : Sat w0 S0 Rs w) (hp : Pick R Rs Rs') : R.P w := (h.pick hp).holds R (by simp)

/-- What is named no more. -/
theorem Sat.drop {w0 S0 R Rs} {w : World} (h : Sat w0 S0 (R :: Rs) w) : Sat w0 S0 Rs w :=
  ⟨h.os, h.tape, h.output, h.size, h.frame, fun X hX => h.holds X (by simp [hX]), fun k hk => h.lt k (by simp [hk]), (by have := h.nodup; simp at this; exact (List.nodup_append.1 this).2.1), fun k hk => h.new k (by simp [hk])⟩

theorem Sat.dropA {w0 S0 Rs} (A : List Res) {w : World} (h : Sat w0 S0 (A ++ Rs) w) : Sat w0 S0 Rs w := by
  induction A with
  | nil => exact h
  | cons R A ih => exact ih h.drop

/-- Some of a list; the others. -/
inductive Split : List Res → List Res → List Res → Prop
  | nil {L : List Res} : Split [] L L
  | cons {R : Res} {A L L' B : List Res} : Pick R L L' → Split A L' B → Split (R :: A) L B

theorem Split.perm {A L B} (h : Split A L B) : L.Perm (A ++ B) := by
  induction h with
  | nil => exact List.Perm.refl _
  | cons hp _ ih => exact hp.perm.trans (List.Perm.cons _ ih)

theorem Sat.split {w0 S0 Rs A B} {w : World} (h : Sat w0 S0 Rs w) (hs : Split A Rs B) : Sat w0 S0 (A ++ B) w := h.perm hs.perm

/-- One thing in the place of another one, over the same blocks; all other blocks are as they were. -/
theorem Sat.upd {w0 S0 R R' Rs} {w w' : World} (h : Sat w0 S0 (R :: Rs) w) (hfp : R'.fp = R.fp) (ho : w'.os = w.os) (ht : w'.tape = w.tape) (hu : w'.output = w.output)
    (hz : w'.heap.size = w.heap.size) (hk : ∀ k, k ∉ R.fp → w'.heap[k]? = w.heap[k]?) (hP : R'.P w') : Sat w0 S0 (R' :: Rs) w' := by
  have hnd := h.nodup
  simp only [fps_cons] at hnd
  have hap := List.nodup_append.1 hnd
  refine ⟨ho.trans h.os, ht.trans h.tape, hu.trans h.output, by rw [hz]; exact h.size, fun k hk0 hS => ?_, fun X hX => ?_, fun k hkk => ?_, by simp only [fps_cons, hfp]; exact hnd, fun k hkk => h.new k (by simpa [hfp] using hkk)⟩
  · rw [hk k (fun hR => ?_)]
    · exact h.frame k hk0 hS
    · rcases h.new k (by simp [hR]) with h1 | h1
      · exact hS h1
      · omega
  · rcases List.mem_cons.1 hX with rfl | hX
    · exact hP
    · refine X.loc (fun k hkX => hk k (fun hR => ?_)) (h.holds X (by simp [hX]))
      exact hap.2.2 k hR k (List.mem_flatMap.2 ⟨X, hX, hkX⟩) rfl
  · rw [hz]; exact h.lt k (by simpa [hfp] using hkk)

/-- A new block. -/
theorem Sat.new' {w0 S0 R Rs} {w w' : World} (h : Sat w0 S0 Rs w) (hfp : R.fp = [w.heap.size]) (ho : w'.os = w.os) (ht : w'.tape = w.tape) (hu : w'.output = w.output)
    (hz : w'.heap.size = w.heap.size + 1) (hk : ∀ k, k < w.heap.size → w'.heap[k]? = w.heap[k]?) (hP : R.P w') : Sat w0 S0 (R :: Rs) w' := by
  refine ⟨ho.trans h.os, ht.trans h.tape, hu.trans h.output, by have := h.size; omega, fun k hk0 hS => ?_, fun X hX => ?_, fun k hkk => ?_, ?_, fun k hkk => ?_⟩
  · rw [hk k (by have := h.size; omega)]; exact h.frame k hk0 hS
  · rcases List.mem_cons.1 hX with rfl | hX
    · exact hP
    · exact X.loc (fun k hkX => hk k (h.lt k (List.mem_flatMap.2 ⟨X, hX, hkX⟩))) (h.holds X hX)
  · simp only [fps_cons, hfp, List.cons_append, List.nil_append, List.mem_cons] at hkk
    rcases hkk with rfl | hkk
    · omega
    · have := h.lt k hkk; omega
  · simp only [fps_cons, hfp, List.cons_append, List.nil_append, List.nodup_cons]
    exact ⟨fun hm => absurd (h.lt _ hm) (Nat.lt_irrefl _), h.nodup⟩
  · simp only [fps_cons, hfp, List.cons_append, List.nil_append, List.mem_cons] at hkk
    rcases hkk with rfl | hkk
    · exact .inr h.size
    · exact h.new k hkk

/-- A callee's part, put into the caller's. -/
theorem Sat.join {w0 S0 A A' B} {w w' : World} (h : Sat w0 S0 (A ++ B) w) (h' : Sat w (fps A) A' w') : Sat w0 S0 (A' ++ B) w' := by
  have hnd := h.nodup
  rw [fps_append] at hnd
  have hap := List.nodup_append.1 hnd
  have hB : ∀ k, k ∈ fps B → w'.heap[k]? = w.heap[k]? := fun k hk =>
    h'.frame k (h.lt k (by rw [fps_append]; simp [hk])) (fun hA => hap.2.2 k hA k hk rfl)
  refine ⟨h'.os.trans h.os, h'.tape.trans h.tape, h'.output.trans h.output, Nat.le_trans h.size h'.size, fun k hk0 hS => ?_, fun X hX => ?_, fun k hkk => ?_, ?_, fun k hkk => ?_⟩
  · rw [h'.frame k (Nat.lt_of_lt_of_le hk0 h.size) (fun hA => ?_)]
    · exact h.frame k hk0 hS
    · rcases h.new k (by rw [fps_append]; simp [hA]) with h1 | h1
      · exact hS h1
      · omega
  · rcases List.mem_append.1 hX with hX | hX
    · exact h'.holds X hX
    · exact X.loc (fun k hkX => hB k (List.mem_flatMap.2 ⟨X, hX, hkX⟩)) (h.holds X (by simp [hX]))
  · rw [fps_append] at hkk
    rcases List.mem_append.1 hkk with hkk | hkk
    · exact h'.lt k hkk
    · exact Nat.lt_of_lt_of_le (h.lt k (by rw [fps_append]; simp [hkk])) h'.size
  · rw [fps_append]
    refine List.nodup_append.2 ⟨h'.nodup, hap.2.1, fun k hk j hj e => ?_⟩
    subst e
    rcases h'.new k hk with h1 | h1
    · exact hap.2.2 k h1 k hj rfl
    · have := h.lt k (by rw [fps_append]; simp [hj]); omega
  · rw [fps_append] at hkk
    rcases List.mem_append.1 hkk with hkk | hkk
    · rcases h'.new k hkk with h1 | h1
      · exact h.new k (by rw [fps_append]; simp [h1])
      · exact .inr (Nat.le_trans h.size h1)
    · exact h.new k (by rw [fps_append]; simp [hkk])

/-- A part of what is owned, seen from the world at hand: what a callee is handed. -/
theorem Sat.hand {w0 S0 A B} {w : World} (h : Sat w0 S0 (A ++ B) w) : Sat w (fps A) A w := by
  have hnd := h.nodup
  rw [fps_append] at hnd
  exact ⟨rfl, rfl, rfl, Nat.le_refl _, fun _ _ _ => rfl, fun R hR => h.holds R (by simp [hR]), fun k hk => h.lt k (by rw [fps_append]; simp [hk]), (List.nodup_append.1 hnd).1, fun k hk => .inl hk⟩

/-- An old block that nobody may have written. -/
theorem Sat.old {w0 S0 Rs} {w : World} (h : Sat w0 S0 Rs w) {k : Nat} {o : Obj} (hk : w0.heap[k]? = some o) (hS : k ∉ S0) : w.heap[k]? = some o := by
  rw [h.frame k (Array.getElem?_eq_some_iff.1 hk).1 hS]; exact hk

theorem cell_of_block {w w' : World} {p : Addr} (h : w'.heap[p.block]? = w.heap[p.block]?) : w'.cell? p = w.cell? p := by
  simp only [World.cell?, h]

theorem Sat.oldCell {w0 S0 Rs} {w : World} (h : Sat w0 S0 Rs w) {p : Addr} {v : Value} (hk : w0.cell? p = some v) (hS : p.block ∉ S0) : w.cell? p = some v := by
  rw [cell_of_block (h.frame p.block (block_lt_of_cell hk) hS)]; exact hk

/-! ### The judgement -/

structure Cx where
  n : Nat
  ds : List Deferred
  w0 : World
  S0 : List Nat

/-- In every frame and world that the assertion lets, K holds. -/
def At (cx : Cx) (e : Env) (Rs : List Res) (K : Act → World → Prop) : Prop := ∀ a w, Ok cx.n cx.ds e a → Sat cx.w0 cx.S0 Rs w → K a w

theorem At.mono {cx e Rs K K'} (h : At cx e Rs K) (hk : ∀ a w, K a w → K' a w) : At cx e Rs K' := fun a w ha hw => hk a w (h a w ha hw)

theorem At.weaken {cx e e' Rs Rs' B K} (h : At cx e' Rs' K) (he : Env.Sub e' e) (hR : Split Rs' Rs B) : At cx e Rs K :=
  fun a w ha hw => h a w (ha.sub he) (by
    have := hw.split hR
    have hp : (Rs' ++ B).Perm (B ++ Rs') := List.perm_append_comm
    exact (this.perm hp).dropA B)

/-- The fence of all calls here: all functions, no depth; in round r of a range over a function, if in any. -/
abbrev FR (r : Option Nat) : Fence := { fn := fun _ => True, depth := none, alive := false, round := r }

theorem room_FR (r : Option Nat) (n : Nat) : (FR r).room n := fun _ h => by simp at h

theorem callsIn_FR {r : Option Nat} {n : Nat} {P : Program} {f : FuncId} {args : Array Value} {w : World} {R : Ending → World → Prop} : CallsIn (FR r) n P f args w R ↔ Calls P f args w R := by
  have : CallsIn (FR r) n P f args w R ↔ CallsIn Fence.wide n P f args w R := Iff.rfl
  rw [this]; exact callsIn_wide

section code
variable {cx : Cx} {e : Env} {Rs : List Res} {r : Option Nat} {P : Program} {Q : Exit → Act → World → Prop}

theorem seq {x y : Code} (h : At cx e Rs (x.wpIn (FR r) 0 P (Exit.then (y.wpIn (FR r) 0 P Q) Q))) : At cx e Rs ((Code.seq x y).wpIn (FR r) 0 P Q) :=
  fun a w ha hw => wpIn_seq (h a w ha hw)

theorem skip (h : At cx e Rs (Q .normal)) : At cx e Rs (Code.skip.wpIn (FR r) 0 P Q) := fun a w ha hw => wpIn_skip (h a w ha hw)
theorem exitc {id : Nat} (h : At cx e Rs (Q (.exit id))) : At cx e Rs ((Code.exit id).wpIn (FR r) 0 P Q) := fun a w ha hw => wpIn_exit (h a w ha hw)
theorem ret (h : At cx e Rs (Q .ret)) : At cx e Rs (Code.ret.wpIn (FR r) 0 P Q) := fun a w ha hw => wpIn_ret (h a w ha hw)
theorem label {l : Nat} (h : At cx e Rs (Q .normal)) : At cx e Rs ((Code.label l).wpIn (FR r) 0 P Q) := fun a w ha hw => wpIn_label (h a w ha hw)
theorem block {id : Nat} {c : Code} (h : At cx e Rs (c.wpIn (FR r) 0 P (Exit.inBlock id Q))) : At cx e Rs ((Code.block id c).wpIn (FR r) 0 P Q) :=
  fun a w ha hw => wpIn_block (h a w ha hw)

theorem condT {c : Operand} {x y : Code} (hc : ev e c = some (.bool true)) (h : At cx e Rs (x.wpIn (FR r) 0 P Q)) : At cx e Rs ((Code.cond c x y).wpIn (FR r) 0 P Q) :=
  fun a w ha hw => wpIn_cond_true (ha.eval hc) (h a w ha hw)
theorem condF {c : Operand} {x y : Code} (hc : ev e c = some (.bool false)) (h : At cx e Rs (y.wpIn (FR r) 0 P Q)) : At cx e Rs ((Code.cond c x y).wpIn (FR r) 0 P Q) :=
  fun a w ha hw => wpIn_cond_false (ha.eval hc) (h a w ha hw)
theorem condS {c : Operand} {x y : Code} {b : Bool} (hc : ev e c = some (.bool b)) (ht : b = true → At cx e Rs (x.wpIn (FR r) 0 P Q)) (hf : b = false → At cx e Rs (y.wpIn (FR r) 0 P Q)) :
    At cx e Rs ((Code.cond c x y).wpIn (FR r) 0 P Q) :=
  fun a w ha hw => wpIn_cond_split (ha.eval hc) (fun hb => ht hb a w ha hw) (fun hb => hf hb a w ha hw)

/-- A loop: an invariant over a parameter x: the known slots and the things owned, as functions of x. -/
theorem loop {α : Type} {c : Code} (I : α → Prop) (E : α → Env) (RR : α → List Res) (μ : α → Nat) (x0 : α) (h0 : I x0) (he0 : Env.Sub (E x0) e) {B : List Res} (hR0 : Split (RR x0) Rs B)
    (round : ∀ x, I x → At cx (E x) (RR x) (c.wpIn (FR r) 0 P (Exit.then (fun a w => ∃ y, I y ∧ μ y < μ x ∧ Ok cx.n cx.ds (E y) a ∧ Sat cx.w0 cx.S0 (RR y) w) Q))) :
    At cx e Rs ((Code.loop c).wpIn (FR r) 0 P Q) := by
  intro a w ha hw
  have hstart : ∃ x, I x ∧ Ok cx.n cx.ds (E x) a ∧ Sat cx.w0 cx.S0 (RR x) w :=
    ⟨x0, h0, ha.sub he0, ((hw.split hR0).perm List.perm_append_comm).dropA B⟩
  intro b k cs hro hb hr
  have key : ∀ j x a w, μ x = j → I x → Ok cx.n cx.ds (E x) a → Sat cx.w0 cx.S0 (RR x) w →
      ∃ e a' w', Q e a' w' ∧ ArrivesIn (Machine.fenced P (FR r)) P (lone (b.atR a (.code c :: .inLoop c :: k)) cs w) b k cs e a' w' := by
    intro j
    induction j using Nat.strongRecOn with
    | _ j ih =>
      intro x a w hj hI ha hw
      obtain ⟨e, a₁, w₁, hq, harr⟩ := round x hI a w ha hw b (.inLoop c :: k) cs hro hb hr
      cases e with
      | normal =>
        obtain ⟨y, hIy, hlt, hay, hwy⟩ := hq
        obtain ⟨e₂, a₂, w₂, hq₂, harr₂⟩ := ih (μ y) (hj ▸ hlt) y a₁ w₁ rfl hIy hay hwy
        exact ⟨e₂, a₂, w₂, hq₂, .of_steps (StepsIn.trans harr (.one (fenced_calm hb hr rfl) stepR_inLoop)) harr₂⟩
      | exit id => exact ⟨_, a₁, w₁, hq, .pass (x := .inLoop c) rfl (fun _ _ => .inl (by simp)) harr⟩
      | goto l => exact ⟨_, a₁, w₁, hq, .pass (x := .inLoop c) rfl (fun _ _ => .inl (by simp)) harr⟩
      | ret => exact ⟨_, a₁, w₁, hq, .pass (x := .inLoop c) rfl (fun _ _ => .inl (by simp)) harr⟩
      | panic ch => exact ⟨_, a₁, w₁, hq, .pass (x := .inLoop c) rfl (fun _ _ => .inl (by simp)) harr⟩
      | outgrown => exact ⟨_, a₁, w₁, hq, .pass (x := .inLoop c) rfl (fun _ _ => .inl (by simp)) harr⟩
  obtain ⟨x, hI, hax, hwx⟩ := hstart
  obtain ⟨e', a', w', hq, harr⟩ := key _ x a w rfl hI hax hwx
  exact ⟨e', a', w', hq, .of_steps (.one (fenced_calm hb hr rfl) stepR_loop) harr⟩

/-- The end of a round. -/
theorem again {α : Type} {I : α → Prop} {E : α → Env} {RR : α → List Res} {μ : α → Nat} {m : Nat} (y : α) (hI : I y) (hμ : μ y < m) (he : Env.Sub (E y) e) {B : List Res} (hR : Split (RR y) Rs B) :
    At cx e Rs (fun a w => ∃ y, I y ∧ μ y < m ∧ Ok cx.n cx.ds (E y) a ∧ Sat cx.w0 cx.S0 (RR y) w) :=
  fun _ _ ha hw => ⟨y, hI, hμ, ha.sub he, ((hw.split hR).perm List.perm_append_comm).dropA B⟩

/-- A piece of code that is met in several ways: what holds behind it, over a parameter. -/
theorem cut {α : Type} {c : Code} {K : Act → World → Prop} (I : α → Prop) (E : α → Env) (RR : α → List Res)
    (h : At cx e Rs (c.wpIn (FR r) 0 P (Exit.then (fun a w => ∃ y, I y ∧ Ok cx.n cx.ds (E y) a ∧ Sat cx.w0 cx.S0 (RR y) w) Q)))
    (hk : ∀ y, I y → At cx (E y) (RR y) K) : At cx e Rs (c.wpIn (FR r) 0 P (Exit.then K Q)) := by
  intro a w ha hw
  refine wpIn_mono (h a w ha hw) fun x a' w' hx => ?_
  cases x with
  | normal => obtain ⟨y, hI, ha', hw'⟩ := hx; exact hk y hI a' w' ha' hw'
  | _ => exact hx

theorem met {α : Type} {I : α → Prop} {E : α → Env} {RR : α → List Res} (y : α) (hI : I y) (he : Env.Sub (E y) e) {B : List Res} (hR : Split (RR y) Rs B) :
    At cx e Rs (fun a w => ∃ y, I y ∧ Ok cx.n cx.ds (E y) a ∧ Sat cx.w0 cx.S0 (RR y) w) :=
  fun _ _ ha hw => ⟨y, hI, ha.sub he, ((hw.split hR).perm List.perm_append_comm).dropA B⟩

theorem region {id : Nat} {l : List Oper} (h : At cx e Rs (wpListIn (FR r) 0 P l.toArray Q l)) : At cx e Rs ((Code.region id l.toArray false).wpIn (FR r) 0 P Q) :=
  fun a w ha hw => wpIn_region_lit (h a w ha hw)

theorem done {ops : Array Oper} (h : At cx e Rs (Q .normal)) : At cx e Rs (wpListIn (FR r) 0 P ops Q []) := h

/-- The end of a region that code follows. -/
theorem nx {ops : Array Oper} {K : Act → World → Prop} (h : At cx e Rs K) : At cx e Rs (wpListIn (FR r) 0 P ops (Exit.then K Q) []) := h

/-- What is known of an operation's guard. -/
def guardOk (ops : Array Oper) (e : Env) (o : Oper) : Option Bool :=
  match o.guard with
  | none => some true
  | some (j, want) =>
    match (ops[j]?).bind (·.dst) with
    | some d => match e.get d with
      | some (.bool b) => some (b == want)
      | _ => none
    | none => none

theorem guardOk_spec {ops : Array Oper} {o : Oper} {b : Bool} {a : Act} {n ds} (ha : Ok n ds e a) (h : guardOk ops e o = some b) : Region.wanted o (yielded ops a.tmps) = b := by
  unfold guardOk at h
  unfold Region.wanted
  split at h
  · rename_i hg; simp [hg] at h ⊢; exact h
  · rename_i j want hg
    simp only [hg]
    split at h
    · rename_i d hd
      split at h
      · rename_i c hc
        have := ha.get d _ hc
        simp only [Option.some.injEq] at h
        subst h
        simp [yielded, hd, this]
      · cases h
    · cases h

/-- A guarded operation whose guard says yes. -/
theorem gt {ops : Array Oper} {rest : List Oper} {d : Option Tmp} {op : Op} {t : TypeId} {ps : String} {af : Array Edge} {g : Nat × Bool} (hg : guardOk ops e { dst := d, op, type := t, pos := ps, after := af, guard := some g } = some true)
    (h : At cx e Rs (wpListIn (FR r) 0 P ops Q ({ dst := d, op, type := t, pos := ps, after := af, guard := none } :: rest))) :
    At cx e Rs (wpListIn (FR r) 0 P ops Q ({ dst := d, op, type := t, pos := ps, after := af, guard := some g } :: rest)) := by
  intro a w ha hw
  have h1 := h a w ha hw
  have hwant := guardOk_spec ha hg
  unfold wpListIn at h1 ⊢
  rw [if_pos hwant]
  simp only [Region.wanted, if_true] at h1
  exact h1

/-- A guarded operation whose guard says no. -/
theorem gf {ops : Array Oper} {rest : List Oper} {d : Nat} {op : Op} {t : TypeId} {ps : String} {af : Array Edge} {g : Nat × Bool} (hg : guardOk ops e { dst := some d, op, type := t, pos := ps, after := af, guard := some g } = some false)
    (hd : Nat.blt d cx.n = true) (h : At cx ((d, undef) :: e) Rs (wpListIn (FR r) 0 P ops Q rest)) :
    At cx e Rs (wpListIn (FR r) 0 P ops Q ({ dst := some d, op, type := t, pos := ps, after := af, guard := some g } :: rest)) := by
  intro a w ha hw
  have hwant := guardOk_spec ha hg
  unfold wpListIn
  rw [if_neg (by rw [hwant]; simp)]
  exact ⟨fun _ _ => trivial, h _ w (ha.put hd undef) hw⟩

end code

/-! ### Entering and leaving a function -/

def Env.ofArgs : List Value → Nat → Env
  | [], _ => []
  | v :: vs, i => (i, v) :: Env.ofArgs vs (i + 1)

theorem Env.ofArgs_get (l : List Value) : ∀ (k i : Nat) (v : Value), (Env.ofArgs l k).get i = some v → k ≤ i ∧ l[i - k]? = some v := by
  induction l with
  | nil => intro k i v h; simp [Env.ofArgs, Env.get] at h
  | cons u l ih =>
    intro k i v h
    simp only [Env.ofArgs, Env.get] at h
    cases hb : Nat.beq k i with
    | true =>
      rw [hb] at h
      have := Nat.eq_of_beq_eq_true hb
      subst this
      simp at h
      simp [h]
    | false =>
      rw [hb] at h
      have hne : k ≠ i := fun he => by subst he; simp at hb
      obtain ⟨h1, h2⟩ := ih (k + 1) i v (by simpa using h)
      refine ⟨by omega, ?_⟩
      rw [show i - k = (i - (k + 1)) + 1 by omega]
      simpa using h2

theorem enter {P : Program} {f : FuncId} {fn : Func} {c : Code} {l : List Value} {w : World} {R : Ending → World → Prop} {S0 : List Nat} {Rs : List Res} {n : Nat}
    (hf : P.funcs[f]? = some fn) (hb : fn.body = some c) (hn : fn.ntmps = n) (hl : Nat.ble l.length n = true) (hs : Sat w S0 Rs w)
    (h : At ⟨n, [], w, S0⟩ (Env.ofArgs l 0) Rs (c.wpIn (FR none) 0 P (bodyPost P fn R))) : Calls P f l.toArray w R := by
  refine callsIn_FR.1 (callsIn_of_wp (F := FR none) (n := 0) hf hb trivial (h _ w ⟨?_, rfl, fun i v hv => ?_⟩ hs))
  · have : l.length ≤ n := Nat.le_of_ble_eq_true hl
    simp [hn]; omega
  · obtain ⟨_, h2⟩ := Env.ofArgs_get l 0 i v hv
    have hi : i < l.length := by
      rcases Nat.lt_or_ge i l.length with h' | h'
      · exact h'
      · simp at h2; rw [List.getElem?_eq_none h'] at h2; cases h2
    rw [Array.getElem?_append_left (by simpa using hi)]
    simpa using h2

/-- The same for a function that holds a range over a function. -/
theorem enterM {P : Program} {f : FuncId} {fn : Func} {c : Code} {l : List Value} {w : World} {R : Ending → World → Prop} {S0 : List Nat} {Rs : List Res} {n : Nat}
    (hf : P.funcs[f]? = some fn) (hb : fn.body = some c) (hn : fn.ntmps = n) (hl : Nat.ble l.length n = true) (hs : Sat w S0 Rs w)
    (h : At ⟨n, [], w, S0⟩ (Env.ofArgs l 0) Rs (c.wpIn (FR none) 0 P (bodyPostM (FR none) 0 P fn R))) : Calls P f l.toArray w R := by
  refine callsIn_FR.1 (callsIn_of_wp_marks (F := FR none) (n := 0) hf hb trivial (h _ w ⟨?_, rfl, fun i v hv => ?_⟩ hs))
  · have : l.length ≤ n := Nat.le_of_ble_eq_true hl
    simp [hn]; omega
  · obtain ⟨_, h2⟩ := Env.ofArgs_get l 0 i v hv
    have hi : i < l.length := by
      rcases Nat.lt_or_ge i l.length with h' | h'
      · exact h'
      · simp at h2; rw [List.getElem?_eq_none h'] at h2; cases h2
    rw [Array.getElem?_append_left (by simpa using hi)]
    simpa using h2

section leave
variable {cx : Cx} {e : Env} {Rs : List Res} {P : Program} {fn : Func} {R : Ending → World → Prop}

/-- No result. -/
theorem ret0 (hds : cx.ds = []) (hr : fn.results = #[]) (hR : ∀ w, Sat cx.w0 cx.S0 Rs w → R (.returned (.tuple #[])) w) : At cx e Rs (bodyPost P fn R .ret) :=
  fun _ w ha hw => ⟨ha.defs.trans hds, _, results_none hr _ _ _, hR w hw⟩
/-- One result, in a slot. -/
theorem ret1 {t : Tmp} {v : Value} (hds : cx.ds = []) (hr : fn.results = #[.tmp t]) (hv : e.get t = some v) (hR : ∀ w, Sat cx.w0 cx.S0 Rs w → R (.returned v) w) : At cx e Rs (bodyPost P fn R .ret) :=
  fun a w ha hw => ⟨ha.defs.trans hds, v, by have h1 := ha.get t v hv; simpa [h1] using results_tmp hr a.tmps P w, hR w hw⟩
theorem ret2 {t u : Tmp} {v x : Value} (hds : cx.ds = []) (hr : fn.results = #[.tmp t, .tmp u]) (hv : e.get t = some v) (hx : e.get u = some x) (hR : ∀ w, Sat cx.w0 cx.S0 Rs w → R (.returned (.tuple #[v, x])) w) : At cx e Rs (bodyPost P fn R .ret) :=
  fun a w ha hw => ⟨ha.defs.trans hds, _, by have h1 := ha.get t v hv; have h2 := ha.get u x hx; simpa [h1, h2] using results_tmp2 hr a.tmps P w, hR w hw⟩
theorem ret3 {t u s : Tmp} {v x y : Value} (hds : cx.ds = []) (hr : fn.results = #[.tmp t, .tmp u, .tmp s]) (hv : e.get t = some v) (hx : e.get u = some x) (hy : e.get s = some y)
    (hR : ∀ w, Sat cx.w0 cx.S0 Rs w → R (.returned (.tuple #[v, x, y])) w) : At cx e Rs (bodyPost P fn R .ret) :=
  fun a w ha hw => ⟨ha.defs.trans hds, _, by have h1 := ha.get t v hv; have h2 := ha.get u x hx; have h3 := ha.get s y hy; simpa [h1, h2, h3] using results_tmp3 hr a.tmps P w, hR w hw⟩

end leave
end Go.Pm

/-! From E2 -/
/- The engine, part 2: operations that only compute or read. -/
namespace Go.Pm
open Go.RowKit

/-! ### What the program's types say, as small functions -/
def scT (P : Program) (t : TypeId) : Bool := match P.underlying t with
  | some (.struct _) | some (.array _ _) => false
  | some _ => true
  | none => false
def agT (P : Program) (t : TypeId) : Option Nat := match P.underlying t with
  | some (.struct _) | some (.array _ _) => (P.info? t).map (·.size)
  | _ => none
def fieldOff (P : Program) (s f : Nat) : Option Nat := match P.underlying s with
  | some (.struct fs) => match fs[f]? with
    | some fl => match P.info? fl.type with
      | some i => if i.size = 0 then none else some fl.offset
      | none => none
    | none => none
  | _ => none
/-- Of a field of one cell: its place. -/
def fieldCell (P : Program) (s f : Nat) : Option Nat := match P.underlying s with
  | some (.struct fs) => match fs[f]? with
    | some fl => if scT P fl.type then some fl.offset else none
    | none => none
  | _ => none
/-- Of a field of many cells: its place, its size. -/
def fieldAgg (P : Program) (s f : Nat) : Option (Nat × Nat) := match P.underlying s with
  | some (.struct fs) => match fs[f]? with
    | some fl => (agT P fl.type).map fun n => (fl.offset, n)
    | none => none
  | _ => none
def elemSz (P : Program) (t : TypeId) : Option Nat := match P.underlying t with
  | some (.slice e) => (P.info? e).map (·.size)
  | _ => none
def arrOf (P : Program) (t : TypeId) : Option (Nat × Nat) := match P.underlying t with
  | some (.array n e) => (P.info? e).map fun i => (n, i.size)
  | _ => none
def intT (P : Program) (t : TypeId) : Option IntKind := match P.underlying t with
  | some (.int k) => some k
  | _ => none

/-! ### Owned blocks -/
def objR (b : Nat) (o : Obj) : Res := ⟨[b], fun w => w.heap[b]? = some o, fun {w w'} h hp => by rw [h b (by simp)]; exact hp⟩
def blk (b : Nat) (T : TypeId) (cs : List Value) : Res := objR b (.cells cs.toArray T (0, 0))

/-- In every world that the assertion lets, the cell holds v. -/
def Cell (cx : Cx) (Rs : List Res) (p : Addr) (v : Value) : Prop := ∀ w, Sat cx.w0 cx.S0 Rs w → w.cell? p = some v
/-- The cells vs, from an address on. -/
def Cells (cx : Cx) (Rs : List Res) (b o : Nat) (vs : List Value) : Prop := ∀ w, Sat cx.w0 cx.S0 Rs w → ∀ j v, vs[j]? = some v → w.cell? ⟨b, o + j, none⟩ = some v

theorem Cell.own {cx : Cx} {Rs B : List Res} {b o : Nat} {T : TypeId} {cs : List Value} {v : Value} (hk : Pick (blk b T cs) Rs B) (hv : cs[o]? = some v) : Cell cx Rs ⟨b, o, none⟩ v := by
  intro w hw
  have h : w.heap[b]? = some (.cells cs.toArray T (0, 0)) := hw.get hk
  simp [World.cell?, h, hv]

theorem Cell.old {cx : Cx} {Rs : List Res} {p : Addr} {v : Value} (hv : cx.w0.cell? p = some v) (hS : p.block ∉ cx.S0) : Cell cx Rs p v := fun _ hw => hw.oldCell hv hS

theorem Cells.own {cx : Cx} {Rs B : List Res} {b o : Nat} {T : TypeId} {cs vs : List Value} (hk : Pick (blk b T cs) Rs B) (hv : ∀ j v, vs[j]? = some v → cs[o + j]? = some v) : Cells cx Rs b o vs :=
  fun w hw j v hj => Cell.own (cx := cx) hk (hv j v hj) w hw

/-! ### An operation gives a value -/

/-- Whatever frame holds what is known of its operands, in every world that the assertion lets: it yields v and leaves the world as it is. -/
def Gives (P : Program) (cx : Cx) (e : Env) (Rs : List Res) (o : Oper) (v : Value) : Prop :=
  (∀ c, o.op ≠ .defer c) ∧ ∀ (ρ : Operand → Value) (w : World), (∀ x u, x ∈ o.op.operands → ev e x = some u → ρ x = u) → Sat cx.w0 cx.S0 Rs w → (execOp ρ o).run P w = .ok (.value v) w

theorem semAt_eq (r : Option Nat) (ρ : Operand → Value) (o : Oper) (h : ∀ c, o.op ≠ .defer c) : o.semAt r ρ = execOp ρ o := by
  cases r with
  | none => exact Oper.semAt_none ρ o
  | some l => exact Oper.semAt_some l ρ o h

section steps
variable {cx : Cx} {e : Env} {Rs : List Res} {r : Option Nat} {P : Program} {Q : Exit → Act → World → Prop} {K : Act → World → Prop}

/-- An operation, in every frame and world that the assertion lets; K holds behind it. -/
abbrev OpAt (cx : Cx) (e : Env) (Rs : List Res) (r : Option Nat) (P : Program) (Q : Exit → Act → World → Prop) (o : Oper) (K : Act → World → Prop) : Prop :=
  At cx e Rs (fun a w => o.wpIn (FR r) 0 P a w K Q)

theorem OpAt.of_run {o : Oper} (hnd : ∀ c, o.op ≠ .defer c) (h : At cx e Rs (fun a w => o.uponIn (FR r) 0 P a K Q ((execOp a.eval o).run P w))) : OpAt cx e Rs r P Q o K :=
  fun a w ha hw => ⟨fun _ _ => trivial, by rw [semAt_eq _ _ _ hnd]; exact h a w ha hw⟩

theorem gv {o : Oper} {v : Value} {d : Nat} (hg : Gives P cx e Rs o v) (hdst : o.dst = some d) (hd : Nat.blt d cx.n = true) (h : At cx ((d, v) :: e) Rs K) : OpAt cx e Rs r P Q o K :=
  OpAt.of_run hg.1 fun a w ha hw => by
    show Oper.uponIn (FR r) 0 P o a K Q ((execOp a.eval o).run P w)
    rw [hg.2 a.eval w (fun x u _ hx => ha.eval hx) hw, Oper.uponIn_value, hdst]
    exact h _ w (ha.put hd v) hw

/-- The next operation of a list. -/
theorem sq {ops : Array Oper} {rest : List Oper} {o : Oper} (hg : o.guard = none) (h : OpAt cx e Rs r P Q o (wpListIn (FR r) 0 P ops Q rest)) : At cx e Rs (wpListIn (FR r) 0 P ops Q (o :: rest)) := by
  intro a w ha hw
  unfold wpListIn
  rw [if_pos (by simp [Region.wanted, hg])]
  exact h a w ha hw

/-- The next operation gives a value. -/
theorem st {ops : Array Oper} {rest : List Oper} {op : Op} {t : TypeId} {ps : String} {af : Array Edge} {d : Nat} {v : Value} (hg : Gives P cx e Rs { dst := some d, op, type := t, pos := ps, after := af, guard := none } v)
    (hd : Nat.blt d cx.n = true) (h : At cx ((d, v) :: e) Rs (wpListIn (FR r) 0 P ops Q rest)) :
    At cx e Rs (wpListIn (FR r) 0 P ops Q ({ dst := some d, op, type := t, pos := ps, after := af, guard := none } :: rest)) := sq rfl (gv hg rfl hd h)

/-- The next operation gives a Bool: both ways. -/
theorem sp {ops : Array Oper} {rest : List Oper} {op : Op} {t : TypeId} {ps : String} {af : Array Edge} {d : Nat} {p : Prop} {hp : Decidable p} (hg : Gives P cx e Rs { dst := some d, op, type := t, pos := ps, after := af, guard := none } (.bool (decide p)))
    (hd : Nat.blt d cx.n = true) (hT : p → At cx ((d, .bool true) :: e) Rs (wpListIn (FR r) 0 P ops Q rest)) (hF : ¬p → At cx ((d, .bool false) :: e) Rs (wpListIn (FR r) 0 P ops Q rest)) :
    At cx e Rs (wpListIn (FR r) 0 P ops Q ({ dst := some d, op, type := t, pos := ps, after := af, guard := none } :: rest)) := by
  by_cases h : p
  · exact st hg hd (by rw [decide_eq_true h]; exact hT h)
  · exact st hg hd (by rw [decide_eq_false h]; exact hF h)

end steps

section gives
variable {P : Program} {cx : Cx} {e : Env} {Rs : List Res} {d : Option Tmp} {t : TypeId} {ps : String} {af : Array Edge} {gd : Option (Nat × Bool)}

theorem g_move {x : Operand} {v : Value} (hx : ev e x = some v) : Gives P cx e Rs ⟨d, .move x, t, ps, af, gd⟩ v :=
  ⟨nofun, fun ρ w hρ _ => by rw [← hρ x v (by simp [Op.operands]) hx]; rfl⟩
theorem g_assign {x : Operand} {v : Value} (hx : ev e x = some v) : Gives P cx e Rs ⟨d, .assign x, t, ps, af, gd⟩ v :=
  ⟨nofun, fun ρ w hρ _ => by rw [← hρ x v (by simp [Op.operands]) hx]; rfl⟩
theorem g_pickT {c x y : Operand} {v : Value} (hc : ev e c = some (.bool true)) (hx : ev e x = some v) : Gives P cx e Rs ⟨d, .pick c x y, t, ps, af, gd⟩ v :=
  ⟨nofun, fun ρ w hρ _ => by
    have h1 := hρ c _ (by simp [Op.operands]) hc
    have h2 := hρ x _ (by simp [Op.operands]) hx
    simp [execOp, h1, h2, asBool]⟩
theorem g_pickF {c x y : Operand} {v : Value} (hc : ev e c = some (.bool false)) (hy : ev e y = some v) : Gives P cx e Rs ⟨d, .pick c x y, t, ps, af, gd⟩ v :=
  ⟨nofun, fun ρ w hρ _ => by
    have h1 := hρ c _ (by simp [Op.operands]) hc
    have h2 := hρ y _ (by simp [Op.operands]) hy
    simp [execOp, h1, h2, asBool]⟩

theorem isAgg_no {t : TypeId} (h : scT P t = true) (w : World) : (isAgg t).run P w = .ok false w := by
  unfold scT at h
  cases hu : P.underlying t with
  | none => simp [hu] at h
  | some dsc =>
    unfold isAgg
    rw [Sem.run_bind, run_underlying hu w]
    cases dsc <;> simp_all

theorem g_load {x : Operand} {T : TypeId} {p : Addr} {v : Value} (hT : scT P T = true) (hx : ev e x = some (.pointer (some p))) (hc : Cell cx Rs p v) : Gives P cx e Rs ⟨d, .load T x, t, ps, af, gd⟩ v :=
  ⟨nofun, fun ρ w hρ hw => by
    have h1 := hρ x _ (by simp [Op.operands]) hx
    simp [execOp, h1, Instr.loadAt, Instr.sureAddr, loadVar, isAgg_no hT, hc w hw]⟩

theorem run_isAgg_yes {t : TypeId} {n : Nat} (h : agT P t = some n) (w : World) : (isAgg t).run P w = .ok true w ∧ (sizeOf t).run P w = .ok n w := by
  unfold agT at h
  cases hu : P.underlying t with
  | none => simp [hu] at h
  | some dsc =>
    have h2 : (P.info? t).map (·.size) = some n := by cases dsc <;> simp_all
    refine ⟨?_, ?_⟩
    · unfold isAgg
      rw [Sem.run_bind, run_underlying hu w]
      cases dsc <;> simp_all
    · cases hi : P.info? t with
      | none => simp [hi] at h2
      | some i => simp [hi] at h2; simp [sizeOf, typeInfo, hi, h2]

theorem run_loadAgg {t : TypeId} {n b o : Nat} {vs : List Value} {w : World} (h : agT P t = some n) (hn : vs.length = n) (hc : ∀ j v, vs[j]? = some v → w.cell? ⟨b, o + j, none⟩ = some v) :
    (loadVar t ⟨b, o, none⟩).run P w = .ok (.agg vs.toArray) w := by
  obtain ⟨h1, h2⟩ := run_isAgg_yes h w
  have hl : (loadCells ⟨b, o, none⟩ vs.length).run P w = .ok vs.toArray w := run_loadCells_list (P := P) w ⟨b, o, none⟩ vs (fun j v hv => by
    have : (⟨b, o, none⟩ : Addr).add j = ⟨b, o + j, none⟩ := by unfold Addr.add; split <;> simp_all
    rw [this]; exact hc j v hv)
  rw [hn] at hl
  simp [loadVar, h1, h2, hl]

theorem g_loadA {x : Operand} {T : TypeId} {n b o : Nat} {vs : List Value} (hT : agT P T = some n) (hx : ev e x = some (.pointer (some ⟨b, o, none⟩))) (hn : vs.length = n) (hc : Cells cx Rs b o vs) :
    Gives P cx e Rs ⟨d, .load T x, t, ps, af, gd⟩ (.agg vs.toArray) :=
  ⟨nofun, fun ρ w hρ hw => by
    have h1 := hρ x _ (by simp [Op.operands]) hx
    simp [execOp, h1, Instr.loadAt, Instr.sureAddr, run_loadAgg hT hn (hc w hw)]⟩

theorem g_nilCheck {x : Operand} {p : Addr} (hx : ev e x = some (.pointer (some p))) : Gives P cx e Rs ⟨d, .nilCheck x, t, ps, af, gd⟩ (.pointer (some p)) :=
  ⟨nofun, fun ρ w hρ _ => by
    have h1 := hρ x _ (by simp [Op.operands]) hx
    simp [execOp, h1]⟩

theorem add_at (b o k : Nat) : (⟨b, o, none⟩ : Addr).add k = ⟨b, o + k, none⟩ := by unfold Addr.add; split <;> simp_all

theorem g_fieldAddr {s f : Nat} {x : Operand} {b o k m : Nat} (hf : fieldOff P s f = some k) (hx : ev e x = some (.pointer (some ⟨b, o, none⟩))) (hm : o + k = m) :
    Gives P cx e Rs ⟨d, .fieldAddr s x f, t, ps, af, gd⟩ (.pointer (some ⟨b, m, none⟩)) :=
  ⟨nofun, fun ρ w hρ _ => by
    have h1 := hρ x _ (by simp [Op.operands]) hx
    unfold fieldOff at hf
    split at hf
    · rename_i fs hu
      split at hf
      · rename_i fl hfl
        split at hf
        · rename_i i hi
          split at hf
          · cases hf
          · rename_i hz
            simp only [Option.some.injEq] at hf
            subst hf; subst hm
            simp [execOp, h1, Instr.fieldAt, run_underlying hu, hfl, Instr.sureAddr, fieldPlace, sizeOf, typeInfo, hi, hz, add_at]
        · cases hf
      · cases hf
    · cases hf⟩

theorem elemSz_spec {t s : Nat} (h : elemSz P t = some s) : ∃ el i, P.underlying t = some (.slice el) ∧ P.info? el = some i ∧ i.size = s := by
  unfold elemSz at h
  split at h
  · rename_i el hu
    cases hi : P.info? el with
    | none => simp [hi] at h
    | some i => exact ⟨el, i, hu, hi, by simpa [hi] using h⟩
  · cases h
theorem arrOf_spec {t n s : Nat} (h : arrOf P t = some (n, s)) : ∃ el i, P.underlying t = some (.array n el) ∧ P.info? el = some i ∧ i.size = s := by
  unfold arrOf at h
  split at h
  · rename_i n' el hu
    cases hi : P.info? el with
    | none => simp [hi] at h
    | some i => simp [hi] at h; obtain ⟨rfl, h2⟩ := h; exact ⟨el, i, hu, hi, h2⟩
  · cases h

/-- x[i], x a slice. -/
theorem g_indexS {T : TypeId} {x ix : Operand} {b o len cap s m : Nat} {k : IntKind} {i : Int} (hT : elemSz P T = some s) (hx : ev e x = some (.slice (some ⟨b, o, none⟩) len cap)) (hi : ev e ix = some (.int k i))
    (h0 : 0 ≤ i) (h1 : i < len) (hm : o + i.toNat * s = m) : Gives P cx e Rs ⟨d, .indexAddr T x ix, t, ps, af, gd⟩ (.pointer (some ⟨b, m, none⟩)) :=
  ⟨nofun, fun ρ w hρ _ => by
    have e1 := hρ x _ (by simp [Op.operands]) hx
    have e2 := hρ ix _ (by simp [Op.operands]) hi
    obtain ⟨el, inf, hu, hinf, rfl⟩ := elemSz_spec hT
    subst hm
    simp [execOp, e1, e2, Instr.indexAt, asIntOf, run_underlying hu, h0, h1, sizeOf, typeInfo, hinf, add_at]⟩

/-- x[i], x an array's address. -/
theorem g_indexA {T : TypeId} {x ix : Operand} {b o n s m : Nat} {k : IntKind} {i : Int} (hT : arrOf P T = some (n, s)) (hx : ev e x = some (.pointer (some ⟨b, o, none⟩))) (hi : ev e ix = some (.int k i))
    (h0 : 0 ≤ i) (h1 : i < n) (hm : o + i.toNat * s = m) : Gives P cx e Rs ⟨d, .indexAddr T x ix, t, ps, af, gd⟩ (.pointer (some ⟨b, m, none⟩)) :=
  ⟨nofun, fun ρ w hρ _ => by
    have e1 := hρ x _ (by simp [Op.operands]) hx
    have e2 := hρ ix _ (by simp [Op.operands]) hi
    obtain ⟨el, inf, hu, hinf, rfl⟩ := arrOf_spec hT
    subst hm
    simp [execOp, e1, e2, Instr.indexAt, asIntOf, run_underlying hu, Instr.sureAddr, h0, h1, sizeOf, typeInfo, hinf, add_at]⟩

/-- What two ints make. -/
def binI (op : BinOp) (k : IntKind) (x y : Int) : Option Value :=
  match op with
  | .add => some (.int k (k.wrap (x + y)))
  | .sub => some (.int k (k.wrap (x - y)))
  | .mul => some (.int k (k.wrap (x * y)))
  | .quo => if y = 0 then none else some (.int k (k.wrap (x.tdiv y)))
  | .rem => if y = 0 then none else some (.int k (x.tmod y))
  | .and => some (.int k (k.wrap (BitVec.ofInt k.bits x &&& BitVec.ofInt k.bits y).toNat))
  | .or => some (.int k (k.wrap (BitVec.ofInt k.bits x ||| BitVec.ofInt k.bits y).toNat))
  | .xor => some (.int k (k.wrap (BitVec.ofInt k.bits x ^^^ BitVec.ofInt k.bits y).toNat))
  | .eql => some (.bool (decide (x = y)))
  | .neq => some (.bool (decide (x ≠ y)))
  | .lss => some (.bool (decide (x < y)))
  | .leq => some (.bool (decide (x ≤ y)))
  | .gtr => some (.bool (decide (x > y)))
  | .geq => some (.bool (decide (x ≥ y)))
  | _ => none

theorem run_eqGuard_int (op : BinOp) (T : TypeId) (x y : Operand) (k k2 : IntKind) (a b : Int) (w : World) : (eqGuard op T x y (.int k a) (.int k2 b)).run P w = .ok () w := by
  unfold eqGuard
  cases op <;> simp

theorem g_bin {op : BinOp} {T T2 : TypeId} {x y : Operand} {k : IntKind} {a b : Int} {v : Value} (hx : ev e x = some (.int k a)) (hy : ev e y = some (.int k b)) (hv : binI op k a b = some v) :
    Gives P cx e Rs ⟨d, .binOp op T x y T2, t, ps, af, gd⟩ v :=
  ⟨nofun, fun ρ w hρ _ => by
    have e1 := hρ x _ (by simp [Op.operands]) hx
    have e2 := hρ y _ (by simp [Op.operands]) hy
    simp only [execOp, e1, e2, Sem.run_bind, run_eqGuard_int, Result.andThen_ok]
    cases op <;> simp only [binI] at hv <;>
      first
        | (cases hv; unfold binOp; simp [Op.intArith, Op.intBits, Op.intCmp]; done)
        | (cases hv; unfold binOp; simp [Op.intCmp]; rfl)
        | (cases hv; unfold binOp; simp [Op.intCmp, bne]; done)
        | (split at hv
           · cases hv
           · rename_i hz; cases hv; unfold binOp; simp [Op.intDiv, hz]; done)
        | cases hv⟩

/-- Shifts. -/
def shfI (op : BinOp) (k : IntKind) (x : Int) (n : Nat) : Option Value :=
  match op with
  | .shl => some (.int k (k.wrap (x * 2 ^ (min n k.bits))))
  | .shr => some (.int k (x.fdiv (2 ^ (min n k.bits))))
  | _ => none
theorem g_shf {op : BinOp} {T T2 : TypeId} {x y : Operand} {k k2 : IntKind} {a b : Int} {v : Value} (hx : ev e x = some (.int k a)) (hy : ev e y = some (.int k2 b)) (h0 : 0 ≤ b) (hv : shfI op k a b.toNat = some v) :
    Gives P cx e Rs ⟨d, .binOp op T x y T2, t, ps, af, gd⟩ v :=
  ⟨nofun, fun ρ w hρ _ => by
    have e1 := hρ x _ (by simp [Op.operands]) hx
    have e2 := hρ y _ (by simp [Op.operands]) hy
    have hn : ¬ b < 0 := by omega
    cases op <;> simp only [shfI] at hv <;> first
      | (cases hv; simp only [execOp, e1, e2, Sem.run_bind, run_eqGuard_int, Result.andThen_ok]; unfold binOp; simp [Op.shift, hn]; done)
      | cases hv⟩

theorem g_not {T : TypeId} {x : Operand} {b : Bool} (hx : ev e x = some (.bool b)) : Gives P cx e Rs ⟨d, .unOp .not T x, t, ps, af, gd⟩ (.bool (!b)) :=
  ⟨nofun, fun ρ w hρ _ => by
    have e1 := hρ x _ (by simp [Op.operands]) hx
    simp [execOp, e1, Op.unary]⟩
theorem g_neg {T : TypeId} {x : Operand} {k : IntKind} {a : Int} {v : Value} (hx : ev e x = some (.int k a)) (hv : binI .sub k 0 a = some v) : Gives P cx e Rs ⟨d, .unOp .neg T x, t, ps, af, gd⟩ v :=
  ⟨nofun, fun ρ w hρ _ => by
    have e1 := hρ x _ (by simp [Op.operands]) hx
    simp only [binI, Option.some.injEq] at hv
    subst hv
    simp [execOp, e1, Op.unary, Op.intArith]⟩

theorem intT_spec {t : TypeId} {k : IntKind} (h : intT P t = some k) : P.underlying t = some (.int k) := by
  unfold intT at h
  split at h
  · simp_all
  · cases h

/-- A conversion among integers. -/
theorem g_conv {S T : TypeId} {x : Operand} {k0 k k2 : IntKind} {a c : Int} (hS : intT P S = some k0) (hT : intT P T = some k2) (hx : ev e x = some (.int k a)) (hv : k2.wrap a = c) :
    Gives P cx e Rs ⟨d, .convert S T x, t, ps, af, gd⟩ (.int k2 c) :=
  ⟨nofun, fun ρ w hρ _ => by
    have e1 := hρ x _ (by simp [Op.operands]) hx
    subst hv
    simp [execOp, e1, convert, run_underlying (intT_spec hS), run_underlying (intT_spec hT), Conv.intToInt]⟩

theorem g_extract {x : Operand} {n : Nat} {vs : Array Value} {v : Value} (hx : ev e x = some (.tuple vs)) (hv : vs[n]? = some v) : Gives P cx e Rs ⟨d, .extract x n, t, ps, af, gd⟩ v :=
  ⟨nofun, fun ρ w hρ _ => by
    have e1 := hρ x _ (by simp [Op.operands]) hx
    simp [execOp, e1, Instr.extract, hv]⟩

def strT (P : Program) (t : TypeId) : Bool := match P.underlying t with
  | some .string => true
  | _ => false
theorem strT_spec {t : TypeId} (h : strT P t = true) : P.underlying t = some .string := by
  unfold strT at h
  split at h
  · assumption
  · cases h

theorem g_len {x : Operand} {T s : Nat} {p : Option Addr} {n c : Nat} (hT : elemSz P T = some s) (hx : ev e x = some (.slice p n c)) : Gives P cx e Rs ⟨d, .call { callee := .builtin .len, args := #[x], argTypes := #[T] }, t, ps, af, gd⟩ (.int .i64 n) :=
  ⟨nofun, fun ρ w hρ _ => by
    have e1 := hρ x _ (by simp [Op.operands, Call.operands]) hx
    obtain ⟨el, inf, hu, hinf, rfl⟩ := elemSz_spec hT
    rw [BigFrame.execOp_builtin, BigFrame.builtin_len]; unfold Builtin.len_; simp [e1, goInt, run_underlying hu]⟩
theorem g_lenS {x : Operand} {T : Nat} {s : ByteArray} (hT : strT P T = true) (hx : ev e x = some (.string s)) : Gives P cx e Rs ⟨d, .call { callee := .builtin .len, args := #[x], argTypes := #[T] }, t, ps, af, gd⟩ (.int .i64 s.size) :=
  ⟨nofun, fun ρ w hρ _ => by
    have e1 := hρ x _ (by simp [Op.operands, Call.operands]) hx
    rw [BigFrame.execOp_builtin, BigFrame.builtin_len]; unfold Builtin.len_; simp [e1, goInt, run_underlying (strT_spec hT)]⟩
theorem g_cap {x : Operand} {T s : Nat} {p : Option Addr} {n c : Nat} (hT : elemSz P T = some s) (hx : ev e x = some (.slice p n c)) : Gives P cx e Rs ⟨d, .call { callee := .builtin .cap, args := #[x], argTypes := #[T] }, t, ps, af, gd⟩ (.int .i64 c) :=
  ⟨nofun, fun ρ w hρ _ => by
    have e1 := hρ x _ (by simp [Op.operands, Call.operands]) hx
    obtain ⟨el, inf, hu, hinf, rfl⟩ := elemSz_spec hT
    rw [BigFrame.execOp_builtin, BigFrame.builtin_cap]; unfold Builtin.cap_; simp [e1, goInt, run_underlying hu]⟩

def evs (e : Env) (l : List Operand) : Option (List Value) := l.mapM (ev e)

theorem evs_map {l : List Operand} {vs : List Value} (h : evs e l = some vs) (ρ : Operand → Value) (hρ : ∀ x u, x ∈ l → ev e x = some u → ρ x = u) : l.map ρ = vs := by
  induction l generalizing vs with
  | nil => simp [evs] at h; simp [h]
  | cons x l ih =>
    simp only [evs, List.mapM_cons, Option.bind_eq_bind] at h
    cases hx : ev e x with
    | none => simp [hx] at h
    | some u =>
      cases hl : List.mapM (ev e) l with
      | none => simp [hx, hl] at h
      | some us =>
        simp [hx, hl] at h
        subst h
        rw [List.map_cons, hρ x u (by simp) hx, ih (by simpa [evs] using hl) (fun y u hy => hρ y u (by simp [hy]))]

theorem g_makeFunc {fn : Fn} {first cap : List Operand} {fs vs : List Value} (h1 : evs e first = some fs) (h2 : evs e cap = some vs) :
    Gives P cx e Rs ⟨d, .makeFunc fn first.toArray cap.toArray, t, ps, af, gd⟩ (.func fn fs.toArray vs.toArray) :=
  ⟨nofun, fun ρ w hρ _ => by
    have e1 := evs_map h1 ρ (fun x u hx => hρ x u (by simp [Op.operands, hx]))
    have e2 := evs_map h2 ρ (fun x u hx => hρ x u (by simp [Op.operands, hx]))
    simp [execOp, Instr.makeFunc, ← e1, ← e2]⟩

/-- A field of a struct by value: one cell. -/
theorem g_field {T f : Nat} {x : Operand} {cs : Array Value} {o : Nat} {v : Value} (hf : fieldCell P T f = some o) (hx : ev e x = some (.agg cs)) (hv : cs[o]? = some v) : Gives P cx e Rs ⟨d, .field T x f, t, ps, af, gd⟩ v :=
  ⟨nofun, fun ρ w hρ _ => by
    have e1 := hρ x _ (by simp [Op.operands]) hx
    unfold fieldCell at hf
    split at hf
    · rename_i fs hu
      split at hf
      · rename_i fl hfl
        split at hf
        · rename_i hs
          simp only [Option.some.injEq] at hf
          subst hf
          simp [execOp, e1, Instr.field, run_underlying hu, hfl, asAgg, part, isAgg_no hs, hv]
        · cases hf
      · cases hf
    · cases hf⟩

/-- A field of a struct by value: many cells. -/
theorem g_fieldA {T f : Nat} {x : Operand} {cs : Array Value} {o n : Nat} (hf : fieldAgg P T f = some (o, n)) (hx : ev e x = some (.agg cs)) : Gives P cx e Rs ⟨d, .field T x f, t, ps, af, gd⟩ (.agg (cs.extract o (o + n))) :=
  ⟨nofun, fun ρ w hρ _ => by
    have e1 := hρ x _ (by simp [Op.operands]) hx
    unfold fieldAgg at hf
    split at hf
    · rename_i fs hu
      split at hf
      · rename_i fl hfl
        cases ha : agT P fl.type with
        | none => simp [ha] at hf
        | some m =>
          simp [ha] at hf
          obtain ⟨rfl, rfl⟩ := hf
          obtain ⟨h1, h2⟩ := run_isAgg_yes ha w
          simp [execOp, e1, Instr.field, run_underlying hu, hfl, asAgg, part, h1, h2]
      · cases hf
    · cases hf⟩

end gives
end Go.Pm

/-! From E3 -/
/- The engine, part 3: operations that make or write memory, and calls. -/
namespace Go.Pm
open Go.RowKit

def zeroCs (P : Program) (t : TypeId) : Option (List Value) := match P.info? t with
  | some i => i.zero.map (·.cells.toList)
  | none => none
def szT (P : Program) (t : TypeId) : Option Nat := (P.info? t).map (·.size)

theorem zeroCs_spec {P : Program} {t : TypeId} {zs : List Value} (h : zeroCs P t = some zs) : ∃ i z, P.info? t = some i ∧ i.zero = some z ∧ z.cells.toList = zs := by
  unfold zeroCs at h
  cases hi : P.info? t with
  | none => simp [hi] at h
  | some i =>
    cases hz : i.zero with
    | none => simp [hi, hz] at h
    | some z => exact ⟨i, z, rfl, hz, by simpa [hi, hz] using h⟩

theorem cellsObj (z : Value) (T : TypeId) : (Obj.cells z.cells T (0, 0)) = .cells z.cells.toList.toArray T (0, 0) := by simp

theorem Sat.hd {w0 w : World} {S0 : List Nat} {b : Nat} {E : TypeId} {cs : List Value} {R : List Res} (h : Sat w0 S0 (blk b E cs :: R) w) : w.heap[b]? = some (.cells cs.toArray E (0, 0)) := h.holds (blk b E cs) (by simp)

section
variable {cx : Cx} {e : Env} {Rs : List Res} {r : Option Nat} {P : Program} {Q : Exit → Act → World → Prop} {K : Act → World → Prop}
  {d : Nat} {t : TypeId} {ps : String} {af : Array Edge} {gd : Option (Nat × Bool)}

theorem At.newBlk {a : Act} {w : World} {T : TypeId} {cs : List Value} (ha : Ok cx.n cx.ds e a) (hw : Sat cx.w0 cx.S0 Rs w) (hd : Nat.blt d cx.n = true)
    (h : ∀ b, At cx ((d, .pointer (some ⟨b, 0, none⟩)) :: e) (blk b T cs :: Rs) K) : K (a.put (some d) (.pointer (some ⟨w.heap.size, 0, none⟩))) (w.alloc (.cells cs.toArray T (0, 0))) :=
  h _ _ _ (ha.put hd _) (hw.new' (R := blk w.heap.size T cs) rfl rfl rfl rfl (by simp) (fun k (hk : k < w.heap.size) => Below.heap_alloc w (.cells cs.toArray T (0, 0)) k hk) (heap_alloc_new w (.cells cs.toArray T (0, 0))))

/-- A new variable. -/
theorem o_alloc {T : TypeId} {zs : List Value} (hz : zeroCs P T = some zs) (hd : Nat.blt d cx.n = true) (h : ∀ b, At cx ((d, .pointer (some ⟨b, 0, none⟩)) :: e) (blk b T zs :: Rs) K) :
    OpAt cx e Rs r P Q ⟨some d, .alloc T, t, ps, af, gd⟩ K :=
  OpAt.of_run nofun fun a w ha hw => by
    obtain ⟨i, z, hi, hz0, rfl⟩ := zeroCs_spec hz
    have hrun : (execOp a.eval ⟨some d, .alloc T, t, ps, af, gd⟩).run P w = .ok (.value (.pointer (some ⟨w.heap.size, 0, none⟩))) (w.alloc (.cells z.cells.toList.toArray T (0, 0))) := by
      simp [execOp, Instr.alloc, zeroValue, typeInfo, hi, hz0, newVar, newRow]
    show Oper.uponIn (FR r) 0 P _ a K Q _
    rw [hrun, Oper.uponIn_value]
    exact At.newBlk ha hw hd h

/-- A new variable that holds a value. -/
theorem o_box {T : TypeId} {x : Operand} {v : Value} {cs : List Value} (hx : ev e x = some v) (hc : v.cells.toList = cs) (hd : Nat.blt d cx.n = true)
    (h : ∀ b, At cx ((d, .pointer (some ⟨b, 0, none⟩)) :: e) (blk b T cs :: Rs) K) : OpAt cx e Rs r P Q ⟨some d, .box T x, t, ps, af, gd⟩ K :=
  OpAt.of_run nofun fun a w ha hw => by
    subst hc
    have hrun : (execOp a.eval ⟨some d, .box T x, t, ps, af, gd⟩).run P w = .ok (.value (.pointer (some ⟨w.heap.size, 0, none⟩))) (w.alloc (.cells v.cells.toList.toArray T (0, 0))) := by
      simp [execOp, ha.eval hx, Instr.box, newVar, newRow]
    show Oper.uponIn (FR r) 0 P _ a K Q _
    rw [hrun, Oper.uponIn_value]
    exact At.newBlk ha hw hd h

/-- The cells 'vs' in the place of those that lie from o on. -/
def setR (cs : List Value) (o : Nat) (vs : List Value) : List Value := cs.take o ++ vs ++ cs.drop (o + vs.length)

theorem upd_setRow {R : List Res} {w : World} {b : Nat} {E : TypeId} {cs cs' : List Value} (hw : Sat cx.w0 cx.S0 (blk b E cs :: R) w) : Sat cx.w0 cx.S0 (blk b E cs' :: R) (w.setRow b cs'.toArray) := by
  have hb : w.heap[b]? = some (.cells cs.toArray E (0, 0)) := hw.hd
  exact hw.upd (R' := blk b E cs') rfl rfl rfl rfl (by simp) (fun k hk => setRow_other w b k _ (by simpa [blk, objR] using hk)) (setRow_heap w b _ _ E _ hb)

/-- A store of one cell. -/
theorem o_store {T : TypeId} {x y : Operand} {b o : Nat} {v : Value} {E : TypeId} {cs cs' : List Value} {B : List Res} (hT : szT P T = some 1) (hx : ev e x = some (.pointer (some ⟨b, o, none⟩))) (hy : ev e y = some v)
    (h1 : v.oneCell' = true) (hk : Pick (blk b E cs) Rs B) (ho : o < cs.length) (hc : cs.set o v = cs') (h : At cx e (blk b E cs' :: B) K) : OpAt cx e Rs r P Q ⟨none, .store T x y, t, ps, af, gd⟩ K :=
  OpAt.of_run nofun fun a w ha hw => by
    subst hc
    have hw' := hw.pick hk
    have hb : w.heap[b]? = some (.cells cs.toArray E (0, 0)) := hw'.hd
    have hvc : v.cells.toList = [v] := by cases v <;> first | rfl | cases h1
    have hsz : (sizeOf T).run P w = .ok 1 w := by
      cases hi : P.info? T with
      | none => simp [szT, hi] at hT
      | some i => simp [szT, hi] at hT; simp [sizeOf, typeInfo, hi, hT]
    have hst := run_storeCells_at P b o E [v] 0 cs.toArray w hb (by simp; omega) (by simp [h1])
    have hvs : v.cells.size = 1 := by have := congrArg List.length hvc; simpa using this
    have hrun : (execOp a.eval ⟨none, .store T x y, t, ps, af, gd⟩).run P w = .ok .skip (w.setRow b (cs.set o v).toArray) := by
      simp only [execOp, ha.eval hx, ha.eval hy, Instr.storeAt, Instr.sureAddr, storeVar, Sem.run_bind, Sem.run_pure, Result.andThen_ok, hsz, hvs]
      simp only [ne_eq, not_true_eq_false, if_false, hvc]
      rw [hst]
      simp [List.set_eq_take_append_cons_drop, ho]
    show Oper.uponIn (FR r) 0 P _ a K Q _
    rw [hrun, Oper.uponIn_skip]
    exact h _ _ (ha.put_none _) (upd_setRow hw')

/-- A store of a struct or an array. -/
theorem o_storeA {T : TypeId} {x y : Operand} {b o n : Nat} {vs : List Value} {E : TypeId} {cs cs' : List Value} {B : List Res} (hT : szT P T = some n) (hx : ev e x = some (.pointer (some ⟨b, o, none⟩))) (hy : ev e y = some (.agg vs.toArray))
    (hn : vs.length = n) (h1 : ∀ v ∈ vs, v.oneCell' = true) (hk : Pick (blk b E cs) Rs B) (ho : o + n ≤ cs.length) (hc : setR cs o vs = cs') (h : At cx e (blk b E cs' :: B) K) :
    OpAt cx e Rs r P Q ⟨none, .store T x y, t, ps, af, gd⟩ K :=
  OpAt.of_run nofun fun a w ha hw => by
    subst hc
    have hw' := hw.pick hk
    have hb : w.heap[b]? = some (.cells cs.toArray E (0, 0)) := hw'.hd
    have hsz : (sizeOf T).run P w = .ok n w := by
      cases hi : P.info? T with
      | none => simp [szT, hi] at hT
      | some i => simp [szT, hi] at hT; simp [sizeOf, typeInfo, hi, hT]
    have hst := run_storeCells_at P b o E vs 0 cs.toArray w hb (by simp; omega) h1
    have hrun : (execOp a.eval ⟨none, .store T x y, t, ps, af, gd⟩).run P w = .ok .skip (w.setRow b (setR cs o vs).toArray) := by
      simp only [execOp, ha.eval hx, ha.eval hy, Instr.storeAt, Instr.sureAddr, storeVar, Sem.run_bind, Sem.run_pure, Result.andThen_ok, hsz, Value.cells, List.size_toArray, hn]
      simp only [ne_eq, not_true_eq_false, if_false]
      rw [hst]
      simp [setR]
    show Oper.uponIn (FR r) 0 P _ a K Q _
    rw [hrun, Oper.uponIn_skip]
    exact h _ _ (ha.put_none _) (upd_setRow hw')

/-- A call of a function by its contract: it is handed A (of what is owned) and leaves A' x. -/
theorem o_call {f : FuncId} {fn : Func} {l : List Operand} {vs : List Value} {ats : Array TypeId} {A B : List Res} {β : Type} {I : β → Prop} {val : β → Value} {A' : β → List Res} (hf : P.funcs[f]? = some fn) (hb : fn.body.isSome = true)
    (hnm : (fn.name == "runtime.NumGoroutine") = false) (ha : evs e l = some vs) (hs : Split A Rs B)
    (hC : ∀ w, Sat cx.w0 cx.S0 Rs w → Sat w (fps A) A w → Calls P f vs.toArray w (fun en w' => ∃ x, I x ∧ en = .returned (val x) ∧ Sat w (fps A) (A' x) w'))
    (hd : Nat.blt d cx.n = true) (h : ∀ x, I x → At cx ((d, val x) :: e) (A' x ++ B) K) :
    OpAt cx e Rs r P Q ⟨some d, .call { callee := .value (.func f), args := l.toArray, argTypes := ats }, t, ps, af, gd⟩ K :=
  OpAt.of_run nofun fun a w haa hw => by
    have e1 := evs_map ha a.eval (fun x u _ hx => haa.eval hx)
    have hbn : fn.body.isNone = false := by cases hbb : fn.body <;> simp_all
    have hrun : (execOp a.eval ⟨some d, .call { callee := .value (.func f), args := l.toArray, argTypes := ats }, t, ps, af, gd⟩).run P w = .ok (.enter f vs.toArray) w := by
      have e2 : l.toArray.map a.eval = vs.toArray := by rw [← e1]; simp
      simp only [execOp, resolve, Act.eval, Deferred.ofValue, Sem.run_bind, Sem.run_pure, Result.andThen_ok, invoke, callFunc, run_program, hf, hnm]
      simp [hbn, ← e1]
    show Oper.uponIn (FR r) 0 P _ a K Q _
    rw [hrun, Oper.uponIn_enter]
    refine ⟨by simp, callsIn_FR.2 ((hC w hw (hw.split hs).hand).mono ?_)⟩
    rintro en w' ⟨x, hI, rfl, hsat⟩
    exact h x hI _ w' (haa.put hd _) ((hw.split hs).join hsat)

end
end Go.Pm

/-! From Ty -/
/- Facts on the program's types, by program (gen_types.py). -/
namespace Go.Proofs.YtokhediaibdkjaaDoor
open Go.Pm
set_option maxRecDepth 100000
theorem sc_2 : scT Tryd.prog 2 = true := by kernel_rfl
theorem sz_2 : szT Tryd.prog 2 = some 1 := by kernel_rfl
theorem zr_2 : zeroCs Tryd.prog 2 = some [.int .i64 0] := by kernel_rfl
theorem it_2 : intT Tryd.prog 2 = some .i64 := by kernel_rfl
theorem sc_3 : scT Tryd.prog 3 = true := by kernel_rfl
theorem sz_3 : szT Tryd.prog 3 = some 1 := by kernel_rfl
theorem zr_3 : zeroCs Tryd.prog 3 = some [.int .i64 0] := by kernel_rfl
theorem it_3 : intT Tryd.prog 3 = some .i64 := by kernel_rfl
theorem sc_4 : scT Tryd.prog 4 = true := by kernel_rfl
theorem sz_4 : szT Tryd.prog 4 = some 1 := by kernel_rfl
theorem zr_4 : zeroCs Tryd.prog 4 = some [.bool false] := by kernel_rfl
theorem sc_5 : scT Tryd.prog 5 = true := by kernel_rfl
theorem sz_5 : szT Tryd.prog 5 = some 1 := by kernel_rfl
theorem zr_5 : zeroCs Tryd.prog 5 = some [.int .u8 0] := by kernel_rfl
theorem it_5 : intT Tryd.prog 5 = some .u8 := by kernel_rfl
theorem sc_9 : scT Tryd.prog 9 = true := by kernel_rfl
theorem sz_9 : szT Tryd.prog 9 = some 1 := by kernel_rfl
theorem zr_9 : zeroCs Tryd.prog 9 = some [.string .empty] := by kernel_rfl
theorem str_9 : strT Tryd.prog 9 = true := by kernel_rfl
theorem sc_21 : scT Tryd.prog 21 = true := by kernel_rfl
theorem sz_21 : szT Tryd.prog 21 = some 1 := by kernel_rfl
theorem zr_21 : zeroCs Tryd.prog 21 = some [.int .i32 0] := by kernel_rfl
theorem it_21 : intT Tryd.prog 21 = some .i32 := by kernel_rfl
theorem sc_22 : scT Tryd.prog 22 = true := by kernel_rfl
theorem sz_22 : szT Tryd.prog 22 = some 1 := by kernel_rfl
theorem zr_22 : zeroCs Tryd.prog 22 = some [.slice none 0 0] := by kernel_rfl
theorem el_22 : elemSz Tryd.prog 22 = some 1 := by kernel_rfl
theorem sc_23 : scT Tryd.prog 23 = true := by kernel_rfl
theorem sz_23 : szT Tryd.prog 23 = some 1 := by kernel_rfl
theorem zr_23 : zeroCs Tryd.prog 23 = some [.slice none 0 0] := by kernel_rfl
theorem el_23 : elemSz Tryd.prog 23 = some 1 := by kernel_rfl
theorem sc_24 : scT Tryd.prog 24 = true := by kernel_rfl
theorem sz_24 : szT Tryd.prog 24 = some 1 := by kernel_rfl
theorem zr_24 : zeroCs Tryd.prog 24 = some [.int .i64 0] := by kernel_rfl
theorem it_24 : intT Tryd.prog 24 = some .i64 := by kernel_rfl
theorem sc_34 : scT Tryd.prog 34 = true := by kernel_rfl
theorem sz_34 : szT Tryd.prog 34 = some 1 := by kernel_rfl
theorem zr_34 : zeroCs Tryd.prog 34 = some [.int .u64 0] := by kernel_rfl
theorem it_34 : intT Tryd.prog 34 = some .u64 := by kernel_rfl
theorem sc_38 : scT Tryd.prog 38 = true := by kernel_rfl
theorem sz_38 : szT Tryd.prog 38 = some 1 := by kernel_rfl
theorem zr_38 : zeroCs Tryd.prog 38 = some [.int .u32 0] := by kernel_rfl
theorem it_38 : intT Tryd.prog 38 = some .u32 := by kernel_rfl
theorem sc_86 : scT Tryd.prog 86 = true := by kernel_rfl
theorem sz_86 : szT Tryd.prog 86 = some 1 := by kernel_rfl
theorem zr_86 : zeroCs Tryd.prog 86 = some [.int .u16 0] := by kernel_rfl
theorem it_86 : intT Tryd.prog 86 = some .u16 := by kernel_rfl
theorem sc_99 : scT Tryd.prog 99 = true := by kernel_rfl
theorem sz_99 : szT Tryd.prog 99 = some 1 := by kernel_rfl
theorem zr_99 : zeroCs Tryd.prog 99 = some [.int .u64 0] := by kernel_rfl
theorem it_99 : intT Tryd.prog 99 = some .u64 := by kernel_rfl
theorem sc_29 : scT Tryd.prog 29 = true := by kernel_rfl
theorem sz_29 : szT Tryd.prog 29 = some 1 := by kernel_rfl
theorem zr_29 : zeroCs Tryd.prog 29 = some [.pointer none] := by kernel_rfl
theorem sc_48 : scT Tryd.prog 48 = true := by kernel_rfl
theorem sz_48 : szT Tryd.prog 48 = some 1 := by kernel_rfl
theorem zr_48 : zeroCs Tryd.prog 48 = some [.pointer none] := by kernel_rfl
theorem sc_51 : scT Tryd.prog 51 = true := by kernel_rfl
theorem sz_51 : szT Tryd.prog 51 = some 1 := by kernel_rfl
theorem zr_51 : zeroCs Tryd.prog 51 = some [.pointer none] := by kernel_rfl
theorem sc_54 : scT Tryd.prog 54 = true := by kernel_rfl
theorem sz_54 : szT Tryd.prog 54 = some 1 := by kernel_rfl
theorem zr_54 : zeroCs Tryd.prog 54 = some [.pointer none] := by kernel_rfl
theorem sc_55 : scT Tryd.prog 55 = true := by kernel_rfl
theorem sz_55 : szT Tryd.prog 55 = some 1 := by kernel_rfl
theorem zr_55 : zeroCs Tryd.prog 55 = some [.pointer none] := by kernel_rfl
theorem ag_39 : agT Tryd.prog 39 = some 8 := by kernel_rfl
theorem sz_39 : szT Tryd.prog 39 = some 8 := by kernel_rfl
theorem zr_39 : zeroCs Tryd.prog 39 = some [.int .u32 0, .int .u32 0, .int .u32 0, .int .u32 0, .int .u32 0, .int .u32 0, .int .u32 0, .int .u32 0] := by kernel_rfl
theorem ar_39 : arrOf Tryd.prog 39 = some (8, 1) := by kernel_rfl
theorem ag_41 : agT Tryd.prog 41 = some 11 := by kernel_rfl
theorem sz_41 : szT Tryd.prog 41 = some 11 := by kernel_rfl
theorem zr_41 : zeroCs Tryd.prog 41 = some [.int .i64 0, .int .u32 0, .int .u32 0, .int .u32 0, .int .u32 0, .int .u32 0, .int .u32 0, .int .u32 0, .int .u32 0, .slice none 0 0, .int .u64 0] := by kernel_rfl
theorem fo_41_0 : fieldOff Tryd.prog 41 0 = some 0 := by kernel_rfl
theorem fc_41_0 : fieldCell Tryd.prog 41 0 = some 0 := by kernel_rfl
theorem fo_41_1 : fieldOff Tryd.prog 41 1 = some 1 := by kernel_rfl
theorem fa_41_1 : fieldAgg Tryd.prog 41 1 = some (1, 8) := by kernel_rfl
theorem fo_41_2 : fieldOff Tryd.prog 41 2 = some 9 := by kernel_rfl
theorem fc_41_2 : fieldCell Tryd.prog 41 2 = some 9 := by kernel_rfl
theorem fo_41_3 : fieldOff Tryd.prog 41 3 = some 10 := by kernel_rfl
theorem fc_41_3 : fieldCell Tryd.prog 41 3 = some 10 := by kernel_rfl
theorem ag_59 : agT Tryd.prog 59 = some 5 := by kernel_rfl
theorem sz_59 : szT Tryd.prog 59 = some 5 := by kernel_rfl
theorem zr_59 : zeroCs Tryd.prog 59 = some [.int .i64 0, .int .i64 0, .int .i64 0, .int .i64 0, .slice none 0 0] := by kernel_rfl
theorem fo_59_0 : fieldOff Tryd.prog 59 0 = some 0 := by kernel_rfl
theorem fc_59_0 : fieldCell Tryd.prog 59 0 = some 0 := by kernel_rfl
theorem fo_59_1 : fieldOff Tryd.prog 59 1 = some 1 := by kernel_rfl
theorem fc_59_1 : fieldCell Tryd.prog 59 1 = some 1 := by kernel_rfl
theorem fo_59_2 : fieldOff Tryd.prog 59 2 = some 2 := by kernel_rfl
theorem fc_59_2 : fieldCell Tryd.prog 59 2 = some 2 := by kernel_rfl
theorem fo_59_3 : fieldOff Tryd.prog 59 3 = some 3 := by kernel_rfl
theorem fc_59_3 : fieldCell Tryd.prog 59 3 = some 3 := by kernel_rfl
theorem fo_59_4 : fieldOff Tryd.prog 59 4 = some 4 := by kernel_rfl
theorem fc_59_4 : fieldCell Tryd.prog 59 4 = some 4 := by kernel_rfl
theorem ag_71 : agT Tryd.prog 71 = some 6 := by kernel_rfl
theorem sz_71 : szT Tryd.prog 71 = some 6 := by kernel_rfl
theorem zr_71 : zeroCs Tryd.prog 71 = some [.slice none 0 0, .slice none 0 0, .int .i64 0, .bool false, .int .i64 0, .slice none 0 0] := by kernel_rfl
theorem fo_71_0 : fieldOff Tryd.prog 71 0 = some 0 := by kernel_rfl
theorem fc_71_0 : fieldCell Tryd.prog 71 0 = some 0 := by kernel_rfl
theorem fo_71_1 : fieldOff Tryd.prog 71 1 = some 1 := by kernel_rfl
theorem fc_71_1 : fieldCell Tryd.prog 71 1 = some 1 := by kernel_rfl
theorem fo_71_2 : fieldOff Tryd.prog 71 2 = some 2 := by kernel_rfl
theorem fc_71_2 : fieldCell Tryd.prog 71 2 = some 2 := by kernel_rfl
theorem fo_71_3 : fieldOff Tryd.prog 71 3 = some 3 := by kernel_rfl
theorem fc_71_3 : fieldCell Tryd.prog 71 3 = some 3 := by kernel_rfl
theorem fo_71_4 : fieldOff Tryd.prog 71 4 = some 4 := by kernel_rfl
theorem fc_71_4 : fieldCell Tryd.prog 71 4 = some 4 := by kernel_rfl
theorem fo_71_5 : fieldOff Tryd.prog 71 5 = some 5 := by kernel_rfl
theorem fc_71_5 : fieldCell Tryd.prog 71 5 = some 5 := by kernel_rfl
theorem ag_73 : agT Tryd.prog 73 = some 2 := by kernel_rfl
theorem sz_73 : szT Tryd.prog 73 = some 2 := by kernel_rfl
theorem zr_73 : zeroCs Tryd.prog 73 = some [.int .u64 0, .slice none 0 0] := by kernel_rfl
theorem fo_73_0 : fieldOff Tryd.prog 73 0 = some 0 := by kernel_rfl
theorem fc_73_0 : fieldCell Tryd.prog 73 0 = some 0 := by kernel_rfl
theorem fo_73_1 : fieldOff Tryd.prog 73 1 = some 1 := by kernel_rfl
theorem fc_73_1 : fieldCell Tryd.prog 73 1 = some 1 := by kernel_rfl
theorem ag_81 : agT Tryd.prog 81 = some 3 := by kernel_rfl
theorem sz_81 : szT Tryd.prog 81 = some 3 := by kernel_rfl
theorem zr_81 : zeroCs Tryd.prog 81 = some [.pointer none, .int .i64 0, .int .i64 0] := by kernel_rfl
theorem fo_81_0 : fieldOff Tryd.prog 81 0 = some 0 := by kernel_rfl
theorem fc_81_0 : fieldCell Tryd.prog 81 0 = some 0 := by kernel_rfl
theorem fo_81_1 : fieldOff Tryd.prog 81 1 = some 1 := by kernel_rfl
theorem fc_81_1 : fieldCell Tryd.prog 81 1 = some 1 := by kernel_rfl
theorem fo_81_2 : fieldOff Tryd.prog 81 2 = some 2 := by kernel_rfl
theorem fc_81_2 : fieldCell Tryd.prog 81 2 = some 2 := by kernel_rfl
theorem ag_106 : agT Tryd.prog 106 = some 4 := by kernel_rfl
theorem sz_106 : szT Tryd.prog 106 = some 4 := by kernel_rfl
theorem zr_106 : zeroCs Tryd.prog 106 = some [.int .i64 0, .int .i64 0, .int .i64 0, .slice none 0 0] := by kernel_rfl
theorem fo_106_0 : fieldOff Tryd.prog 106 0 = some 0 := by kernel_rfl
theorem fc_106_0 : fieldCell Tryd.prog 106 0 = some 0 := by kernel_rfl
theorem fo_106_1 : fieldOff Tryd.prog 106 1 = some 1 := by kernel_rfl
theorem fc_106_1 : fieldCell Tryd.prog 106 1 = some 1 := by kernel_rfl
theorem fo_106_2 : fieldOff Tryd.prog 106 2 = some 2 := by kernel_rfl
theorem fc_106_2 : fieldCell Tryd.prog 106 2 = some 2 := by kernel_rfl
theorem fo_106_3 : fieldOff Tryd.prog 106 3 = some 3 := by kernel_rfl
theorem fc_106_3 : fieldCell Tryd.prog 106 3 = some 3 := by kernel_rfl
theorem ag_112 : agT Tryd.prog 112 = some 3 := by kernel_rfl
theorem sz_112 : szT Tryd.prog 112 = some 3 := by kernel_rfl
theorem zr_112 : zeroCs Tryd.prog 112 = some [.pointer none, .int .i64 0, .int .i64 0] := by kernel_rfl
theorem fo_112_0 : fieldOff Tryd.prog 112 0 = some 0 := by kernel_rfl
theorem fc_112_0 : fieldCell Tryd.prog 112 0 = some 0 := by kernel_rfl
theorem fo_112_1 : fieldOff Tryd.prog 112 1 = some 1 := by kernel_rfl
theorem fc_112_1 : fieldCell Tryd.prog 112 1 = some 1 := by kernel_rfl
theorem fo_112_2 : fieldOff Tryd.prog 112 2 = some 2 := by kernel_rfl
theorem fc_112_2 : fieldCell Tryd.prog 112 2 = some 2 := by kernel_rfl
theorem ag_118 : agT Tryd.prog 118 = some 64 := by kernel_rfl
theorem sz_118 : szT Tryd.prog 118 = some 64 := by kernel_rfl
theorem zr_118 : zeroCs Tryd.prog 118 = some (List.replicate 64 (.int .u32 0)) := by kernel_rfl
theorem ar_118 : arrOf Tryd.prog 118 = some (64, 1) := by kernel_rfl
theorem ag_122 : agT Tryd.prog 122 = some 16 := by kernel_rfl
theorem sz_122 : szT Tryd.prog 122 = some 16 := by kernel_rfl
theorem zr_122 : zeroCs Tryd.prog 122 = some (List.replicate 16 (.int .u32 0)) := by kernel_rfl
theorem ar_122 : arrOf Tryd.prog 122 = some (2, 8) := by kernel_rfl
theorem ag_131 : agT Tryd.prog 131 = some 2 := by kernel_rfl
theorem sz_131 : szT Tryd.prog 131 = some 2 := by kernel_rfl
theorem zr_131 : zeroCs Tryd.prog 131 = some [.int .i64 0, .slice none 0 0] := by kernel_rfl
theorem fo_131_0 : fieldOff Tryd.prog 131 0 = some 0 := by kernel_rfl
theorem fc_131_0 : fieldCell Tryd.prog 131 0 = some 0 := by kernel_rfl
theorem fo_131_1 : fieldOff Tryd.prog 131 1 = some 1 := by kernel_rfl
theorem fc_131_1 : fieldCell Tryd.prog 131 1 = some 1 := by kernel_rfl
theorem ag_133 : agT Tryd.prog 133 = some 6 := by kernel_rfl
theorem sz_133 : szT Tryd.prog 133 = some 6 := by kernel_rfl
theorem zr_133 : zeroCs Tryd.prog 133 = some [.slice none 0 0, .slice none 0 0, .int .i64 0, .bool false, .int .i64 0, .slice none 0 0] := by kernel_rfl
theorem fo_133_0 : fieldOff Tryd.prog 133 0 = some 0 := by kernel_rfl
theorem fc_133_0 : fieldCell Tryd.prog 133 0 = some 0 := by kernel_rfl
theorem fo_133_1 : fieldOff Tryd.prog 133 1 = some 1 := by kernel_rfl
theorem fc_133_1 : fieldCell Tryd.prog 133 1 = some 1 := by kernel_rfl
theorem fo_133_2 : fieldOff Tryd.prog 133 2 = some 2 := by kernel_rfl
theorem fc_133_2 : fieldCell Tryd.prog 133 2 = some 2 := by kernel_rfl
theorem fo_133_3 : fieldOff Tryd.prog 133 3 = some 3 := by kernel_rfl
theorem fc_133_3 : fieldCell Tryd.prog 133 3 = some 3 := by kernel_rfl
theorem fo_133_4 : fieldOff Tryd.prog 133 4 = some 4 := by kernel_rfl
theorem fa_133_4 : fieldAgg Tryd.prog 133 4 = some (4, 2) := by kernel_rfl
theorem ag_152 : agT Tryd.prog 152 = some 64 := by kernel_rfl
theorem sz_152 : szT Tryd.prog 152 = some 64 := by kernel_rfl
theorem zr_152 : zeroCs Tryd.prog 152 = some (List.replicate 64 (.int .u8 0)) := by kernel_rfl
theorem ar_152 : arrOf Tryd.prog 152 = some (64, 1) := by kernel_rfl
theorem ag_154 : agT Tryd.prog 154 = some 65 := by kernel_rfl
theorem sz_154 : szT Tryd.prog 154 = some 65 := by kernel_rfl
theorem fo_154_0 : fieldOff Tryd.prog 154 0 = some 0 := by kernel_rfl
theorem fc_154_0 : fieldCell Tryd.prog 154 0 = some 0 := by kernel_rfl
theorem fo_154_1 : fieldOff Tryd.prog 154 1 = some 1 := by kernel_rfl
theorem fa_154_1 : fieldAgg Tryd.prog 154 1 = some (1, 64) := by kernel_rfl
theorem ag_157 : agT Tryd.prog 157 = some 8 := by kernel_rfl
theorem sz_157 : szT Tryd.prog 157 = some 8 := by kernel_rfl
theorem zr_157 : zeroCs Tryd.prog 157 = some [.int .u64 0, .int .u64 0, .int .u64 0, .int .u64 0, .int .u64 0, .int .u64 0, .int .u64 0, .int .u64 0] := by kernel_rfl
theorem ar_157 : arrOf Tryd.prog 157 = some (8, 1) := by kernel_rfl
theorem ag_158 : agT Tryd.prog 158 = some 8 := by kernel_rfl
theorem sz_158 : szT Tryd.prog 158 = some 8 := by kernel_rfl
theorem zr_158 : zeroCs Tryd.prog 158 = some [.int .u64 0, .int .u64 0, .int .u64 0, .int .u64 0, .int .u64 0, .int .u64 0, .int .u64 0, .int .u64 0] := by kernel_rfl
theorem ar_158 : arrOf Tryd.prog 158 = some (8, 1) := by kernel_rfl
theorem ag_178 : agT Tryd.prog 178 = some 2 := by kernel_rfl
theorem sz_178 : szT Tryd.prog 178 = some 2 := by kernel_rfl
theorem zr_178 : zeroCs Tryd.prog 178 = some [.int .i64 0, .slice none 0 0] := by kernel_rfl
theorem fo_178_0 : fieldOff Tryd.prog 178 0 = some 0 := by kernel_rfl
theorem fc_178_0 : fieldCell Tryd.prog 178 0 = some 0 := by kernel_rfl
theorem fo_178_1 : fieldOff Tryd.prog 178 1 = some 1 := by kernel_rfl
theorem fc_178_1 : fieldCell Tryd.prog 178 1 = some 1 := by kernel_rfl
theorem sc_113 : scT Tryd.prog 113 = true := by kernel_rfl
theorem sz_113 : szT Tryd.prog 113 = some 1 := by kernel_rfl
theorem zr_113 : zeroCs Tryd.prog 113 = some [.slice none 0 0] := by kernel_rfl
theorem el_113 : elemSz Tryd.prog 113 = some 1 := by kernel_rfl
theorem sc_115 : scT Tryd.prog 115 = true := by kernel_rfl
theorem sz_115 : szT Tryd.prog 115 = some 1 := by kernel_rfl
theorem zr_115 : zeroCs Tryd.prog 115 = some [.slice none 0 0] := by kernel_rfl
theorem el_115 : elemSz Tryd.prog 115 = some 1 := by kernel_rfl
theorem sc_128 : scT Tryd.prog 128 = true := by kernel_rfl
theorem sz_128 : szT Tryd.prog 128 = some 1 := by kernel_rfl
theorem zr_128 : zeroCs Tryd.prog 128 = some [.slice none 0 0] := by kernel_rfl
theorem el_128 : elemSz Tryd.prog 128 = some 64 := by kernel_rfl
theorem sc_129 : scT Tryd.prog 129 = true := by kernel_rfl
theorem sz_129 : szT Tryd.prog 129 = some 1 := by kernel_rfl
theorem zr_129 : zeroCs Tryd.prog 129 = some [.slice none 0 0] := by kernel_rfl
theorem el_129 : elemSz Tryd.prog 129 = some 65 := by kernel_rfl
theorem sc_46 : scT Tryd.prog 46 = true := by kernel_rfl
theorem sz_46 : szT Tryd.prog 46 = some 1 := by kernel_rfl
theorem zr_46 : zeroCs Tryd.prog 46 = some [.slice none 0 0] := by kernel_rfl
theorem el_46 : elemSz Tryd.prog 46 = some 5 := by kernel_rfl
theorem sc_102 : scT Tryd.prog 102 = true := by kernel_rfl
theorem sz_102 : szT Tryd.prog 102 = some 1 := by kernel_rfl
theorem zr_102 : zeroCs Tryd.prog 102 = some [.slice none 0 0] := by kernel_rfl
theorem el_102 : elemSz Tryd.prog 102 = some 4 := by kernel_rfl
theorem sc_69 : scT Tryd.prog 69 = true := by kernel_rfl
theorem sz_69 : szT Tryd.prog 69 = some 1 := by kernel_rfl
theorem zr_69 : zeroCs Tryd.prog 69 = some [.slice none 0 0] := by kernel_rfl
theorem el_69 : elemSz Tryd.prog 69 = some 2 := by kernel_rfl
theorem sc_165 : scT Tryd.prog 165 = true := by kernel_rfl
theorem sz_165 : szT Tryd.prog 165 = some 1 := by kernel_rfl
theorem zr_165 : zeroCs Tryd.prog 165 = some [.slice none 0 0] := by kernel_rfl
theorem el_165 : elemSz Tryd.prog 165 = some 1 := by kernel_rfl
theorem sc_187 : scT Tryd.prog 187 = true := by kernel_rfl
theorem sz_187 : szT Tryd.prog 187 = some 1 := by kernel_rfl
theorem zr_187 : zeroCs Tryd.prog 187 = some [.slice none 0 0] := by kernel_rfl
theorem el_187 : elemSz Tryd.prog 187 = some 1 := by kernel_rfl
theorem sc_166 : scT Tryd.prog 166 = true := by kernel_rfl
theorem sz_166 : szT Tryd.prog 166 = some 1 := by kernel_rfl
theorem zr_166 : zeroCs Tryd.prog 166 = some [.pointer none] := by kernel_rfl
theorem ag_168 : agT Tryd.prog 168 = some 2 := by kernel_rfl
theorem sz_168 : szT Tryd.prog 168 = some 2 := by kernel_rfl
theorem zr_168 : zeroCs Tryd.prog 168 = some [.pointer none, .slice none 0 0] := by kernel_rfl
theorem fo_168_0 : fieldOff Tryd.prog 168 0 = some 0 := by kernel_rfl
theorem fc_168_0 : fieldCell Tryd.prog 168 0 = some 0 := by kernel_rfl
theorem fo_168_1 : fieldOff Tryd.prog 168 1 = some 1 := by kernel_rfl
theorem fc_168_1 : fieldCell Tryd.prog 168 1 = some 1 := by kernel_rfl
theorem ag_151 : agT Tryd.prog 151 = some 64 := by kernel_rfl
theorem sz_151 : szT Tryd.prog 151 = some 64 := by kernel_rfl
theorem zr_151 : zeroCs Tryd.prog 151 = some (List.replicate 64 (.int .u8 0)) := by kernel_rfl
theorem ar_151 : arrOf Tryd.prog 151 = some (64, 1) := by kernel_rfl
end Go.Proofs.YtokhediaibdkjaaDoor

/-! From E4 -/
/- The engine, part 4: slices, strings, appends, copies. -/
namespace Go.Pm
open Go.RowKit

/-- A byte as a value. -/
abbrev B8 (x : UInt8) : Value := .int .u8 (x.toNat : Int)

/-- From an address on (or from nowhere, if there are none) lie these cells. -/
def RdC (w : World) (p : Option Addr) (vs : List Value) : Prop := ∀ j u, vs[j]? = some u → ∃ b o, p = some ⟨b, o, none⟩ ∧ w.cell? ⟨b, o + j, none⟩ = some u
def RdA (cx : Cx) (Rs : List Res) (p : Option Addr) (vs : List Value) : Prop := ∀ w, Sat cx.w0 cx.S0 Rs w → RdC w p vs

theorem RdC.nil {w : World} {p : Option Addr} : RdC w p [] := fun j u h => by simp at h

theorem RdA.old {cx : Cx} {Rs : List Res} {p : Option Addr} {vs : List Value} (h : RdC cx.w0 p vs) (hS : ∀ a, p = some a → a.block ∉ cx.S0) : RdA cx Rs p vs := by
  intro w hw j u hj
  obtain ⟨b, o, rfl, hc⟩ := h j u hj
  exact ⟨b, o, rfl, hw.oldCell hc (hS ⟨b, o, none⟩ rfl)⟩

theorem RdA.own {cx : Cx} {Rs B : List Res} {b o : Nat} {T : TypeId} {cs vs : List Value} (hk : Pick (blk b T cs) Rs B) (hv : ∀ j v, vs[j]? = some v → cs[o + j]? = some v) : RdA cx Rs (some ⟨b, o, none⟩) vs :=
  fun w hw j u hj => ⟨b, o, rfl, Cells.own (cx := cx) hk hv w hw j u hj⟩

/-- Behind the first k of n places (of size s). -/
def adv (p : Option Addr) (c k s : Nat) : Option Addr := if c = k then p else p.map (·.add (k * s))
@[simp] theorem adv_zero (p : Option Addr) (c s : Nat) : adv p c 0 s = p := by
  unfold adv
  split
  · rfl
  · cases p <;> simp [Addr.add]

theorem RdC.adv {w : World} {p : Option Addr} {vs : List Value} (h : RdC w p vs) {c k s : Nat} (hc : c = k → vs.length ≤ k * s) : RdC w (adv p c k s) (vs.drop (k * s)) := by
  intro j u hj
  rw [List.getElem?_drop] at hj
  obtain ⟨b, o, rfl, hcell⟩ := h _ u hj
  have hne : c ≠ k := fun he => by
    have := hc he
    have hlt : k * s + j < vs.length := by
      rcases Nat.lt_or_ge (k * s + j) vs.length with h' | h'
      · exact h'
      · simp [List.getElem?_eq_none h'] at hj
    omega
  refine ⟨b, o + k * s, by simp [Pm.adv, hne, add_at], ?_⟩
  rw [Nat.add_assoc]; exact hcell

theorem RdC.take {w : World} {p : Option Addr} {vs : List Value} (h : RdC w p vs) (n : Nat) : RdC w p (vs.take n) := by
  intro j u hj
  rw [List.getElem?_take] at hj
  split at hj
  · exact h j u hj
  · cases hj

/-- An owned block whose last place but one may not be written (a row that a constant laid). -/
def blkF (b : Nat) (T : TypeId) (cs : List Value) (fr : Nat × Nat) : Res := objR b (.cells cs.toArray T fr)
theorem RdA.ownF {cx : Cx} {Rs B : List Res} {b o : Nat} {T : TypeId} {cs vs : List Value} {fr : Nat × Nat} (hk : Pick (blkF b T cs fr) Rs B) (hv : ∀ j v, vs[j]? = some v → cs[o + j]? = some v) : RdA cx Rs (some ⟨b, o, none⟩) vs := by
  intro w hw j u hj
  have h : w.heap[b]? = some (.cells cs.toArray T fr) := hw.get hk
  exact ⟨b, o, rfl, by simp [World.cell?, h, hv j u hj]⟩

/-! ### A slice that grows: nil, or at the head of an owned block -/
def vecFp : Value → List Nat
  | .slice (some a) _ _ => [a.block]
  | _ => []
def vec (v : Value) (T : TypeId) (s n : Nat) (xs : List Value) : Res :=
  ⟨vecFp v, fun w => w.ownsRow 0 T s v n xs, fun {w w'} h hp => by
    refine ⟨hp.1, ?_⟩
    rcases hp.2 with hn | ⟨g, cap, cur, rfl, hb, hg, rest⟩
    · exact .inl hn
    · exact .inr ⟨g, cap, cur, rfl, hb, by rw [h g (by simp [vecFp])]; exact hg, rest⟩⟩

theorem RdA.vec {cx : Cx} {Rs B : List Res} {p : Option Addr} {n cap T s : Nat} {xs : List Value} (hk : Pick (vec (.slice p n cap) T s n xs) Rs B) : RdA cx Rs p xs := by
  intro w hw j u hj
  have h : w.ownsRow 0 T s (.slice p n cap) n xs := hw.get hk
  rcases h.2 with ⟨he, hn⟩ | ⟨g, cap', cur, he, _, hg, hnc, _, hsz, htk⟩
  · have := h.1
    subst hn
    simp at this
    subst this
    simp at hj
  · simp only [Value.slice.injEq, true_and] at he
    obtain ⟨rfl, rfl⟩ := he
    refine ⟨g, 0, rfl, ?_⟩
    rw [← htk, List.getElem?_take] at hj
    split at hj
    · simp [World.cell?, hg]; simpa using hj
    · cases hj

section gives
variable {P : Program} {cx : Cx} {e : Env} {Rs : List Res} {d : Option Tmp} {t : TypeId} {ps : String} {af : Array Edge} {gd : Option (Nat × Bool)}

/-- x[i], x a slice whose address need not be known. -/
def adr (p : Option Addr) (k : Nat) : Addr := (p.getD default).add k
theorem adr_some (b o k : Nat) : adr (some ⟨b, o, none⟩) k = ⟨b, o + k, none⟩ := add_at b o k
theorem g_indexP {T : TypeId} {x ix : Operand} {p : Option Addr} {len cap s m : Nat} {k : IntKind} {i : Int} (hT : elemSz P T = some s) (hx : ev e x = some (.slice p len cap)) (hi : ev e ix = some (.int k i)) (hp : p.isSome = true)
    (h0 : 0 ≤ i) (h1 : i < len) (hm : i.toNat * s = m) : Gives P cx e Rs ⟨d, .indexAddr T x ix, t, ps, af, gd⟩ (.pointer (some (adr p m))) :=
  ⟨nofun, fun ρ w hρ _ => by
    have e1 := hρ x _ (by simp [Op.operands]) hx
    have e2 := hρ ix _ (by simp [Op.operands]) hi
    obtain ⟨el, inf, hu, hinf, rfl⟩ := elemSz_spec hT
    subst hm
    obtain ⟨a, rfl⟩ := Option.isSome_iff_exists.1 hp
    simp [execOp, e1, e2, Instr.indexAt, asIntOf, run_underlying hu, h0, h1, sizeOf, typeInfo, hinf, adr]⟩

theorem RdC.some {w : World} {p : Option Addr} {vs : List Value} (h : RdC w p vs) (hn : vs ≠ []) : p.isSome = true := by
  cases vs with
  | nil => exact absurd rfl hn
  | cons v vs => obtain ⟨b, o, rfl, _⟩ := h 0 v (by simp); rfl
theorem Cell.rd {vs : List Value} {p : Option Addr} {j : Nat} {u : Value} (h : RdA cx Rs p vs) (hj : vs[j]? = .some u) : Cell cx Rs (adr p j) u := by
  intro w hw
  obtain ⟨b, o, rfl, hc⟩ := h w hw j u hj
  rw [adr_some]; exact hc

/-- A bound of a slice expression. -/
def bnd (e : Env) (o : Option Operand) (dflt : Nat) : Option Int :=
  match o with
  | none => some dflt
  | some x => match ev e x with
    | some (.int _ i) => some i
    | _ => none

theorem bnd_spec {o : Option Operand} {dflt : Nat} {i : Int} (h : bnd e o dflt = some i) : (o = none ∧ i = dflt) ∨ ∃ x k, o = some x ∧ ev e x = some (.int k i) := by
  unfold bnd at h
  split at h
  · left; simp at h; exact ⟨rfl, h.symm⟩
  · rename_i x
    split at h
    · rename_i k j hj; simp at h; subst h; exact .inr ⟨x, k, rfl, hj⟩
    · cases h

theorem run_sliceBound (w : World) (k : IntKind) (i : Int) (y : Nat) (c : BoundsCode) (h0 : 0 ≤ i) (h1 : i ≤ y) : (Instr.sliceBound (.int k i) y c).run P w = .ok i.toNat w := by
  simp [Instr.sliceBound, asIntOf, h0, h1]

theorem run_sliceBounds (w : World) (isS : Bool) (len cap : Nat) (lo hi mx : Option Value) (l h m : Int)
    (hl : (lo = none ∧ l = 0) ∨ ∃ k, lo = some (.int k l)) (hh : (hi = none ∧ h = len ∧ mx = none) ∨ ∃ k, hi = some (.int k h)) (hm : (mx = none ∧ m = cap) ∨ ∃ k, mx = some (.int k m))
    (h0 : 0 ≤ l) (h1 : l ≤ h) (h2 : h ≤ m) (h3 : m ≤ cap) : (Instr.sliceBounds isS len cap lo hi mx).run P w = .ok (l.toNat, h.toNat, m.toNat) w := by
  have hc : (h.toNat : Int) = h := by omega
  have hcm : (m.toNat : Int) = m := by omega
  rcases hm with ⟨rfl, rfl⟩ | ⟨k3, rfl⟩
  · rcases hh with ⟨rfl, rfl, _⟩ | ⟨k2, rfl⟩
    · rcases hl with ⟨rfl, rfl⟩ | ⟨k1, rfl⟩
      · simp [Instr.sliceBounds]
      · simp only [Instr.sliceBounds]
        have := run_sliceBound (P := P) w k1 l len (if (none : Option Value).isSome then .slice3C else .sliceB) h0 h1
        simp at this
        simp [this]
    · have hb := fun c => run_sliceBound (P := P) w k2 h cap c (by omega) (by omega)
      rcases hl with ⟨rfl, rfl⟩ | ⟨k1, rfl⟩
      · simp [Instr.sliceBounds, hb]
      · have := fun c => run_sliceBound (P := P) w k1 l h.toNat c h0 (by omega)
        simp [Instr.sliceBounds, hb, this]
  · rcases hh with ⟨_, _, hx⟩ | ⟨k2, rfl⟩
    · cases hx
    · have ha := fun c => run_sliceBound (P := P) w k3 m cap c (by omega) (by omega)
      have hb := fun c => run_sliceBound (P := P) w k2 h m.toNat c (by omega) (by omega)
      rcases hl with ⟨rfl, rfl⟩ | ⟨k1, rfl⟩
      · simp [Instr.sliceBounds, ha, hb]
      · have := fun c => run_sliceBound (P := P) w k1 l h.toNat c h0 (by omega)
        simp [Instr.sliceBounds, ha, hb, this]

/-- The bounds as the operation hands them over. -/
theorem bnd_map {ρ : Operand → Value} {lo : Option Operand} {dflt : Nat} {l : Int} (hl : bnd e lo dflt = some l) (hρ : ∀ x u, lo = some x → ev e x = some u → ρ x = u) :
    (lo.map ρ = none ∧ l = dflt ∧ lo = none) ∨ ∃ k, lo.map ρ = some (.int k l) := by
  rcases bnd_spec hl with ⟨rfl, rfl⟩ | ⟨x, k, rfl, hx⟩
  · exact .inl ⟨rfl, rfl, rfl⟩
  · exact .inr ⟨k, by simp [hρ x _ rfl hx]⟩

/-- x[lo:hi:max], x a slice. -/
theorem g_slice {T : TypeId} {x : Operand} {lo hi mx : Option Operand} {p p' : Option Addr} {len cap s n' c' : Nat} {l h m : Int} (hT : elemSz P T = some s) (hx : ev e x = some (.slice p len cap))
    (hl : bnd e lo 0 = some l) (hh : bnd e hi len = some h) (hm : bnd e mx cap = some m) (hmh : mx.isSome = true → hi.isSome = true)
    (h0 : 0 ≤ l) (h1 : l ≤ h) (h2 : h ≤ m) (h3 : m ≤ cap) (hp : adv p m.toNat l.toNat s = p') (hn : h.toNat - l.toNat = n') (hc : m.toNat - l.toNat = c') :
    Gives P cx e Rs ⟨d, .slice T x lo hi mx, t, ps, af, gd⟩ (.slice p' n' c') :=
  ⟨nofun, fun ρ w hρ _ => by
    have e1 := hρ x _ (by simp [Op.operands]) hx
    obtain ⟨el, inf, hu, hinf, rfl⟩ := elemSz_spec hT
    subst hp; subst hn; subst hc
    have b1 := bnd_map hl (ρ := ρ) (fun y u hy => hρ y u (by simp [Op.operands, hy]))
    have b2 := bnd_map hh (ρ := ρ) (fun y u hy => hρ y u (by simp [Op.operands, hy]))
    have b3 := bnd_map hm (ρ := ρ) (fun y u hy => hρ y u (by simp [Op.operands, hy]))
    have hb := run_sliceBounds (P := P) w true len cap (lo.map ρ) (hi.map ρ) (mx.map ρ) l h m (by rcases b1 with ⟨b, c, _⟩ | b; exact .inl ⟨b, c⟩; exact .inr b)
      (by rcases b2 with ⟨b, c, d'⟩ | b
          · refine .inl ⟨b, c, ?_⟩
            cases mx with
            | none => rfl
            | some y => have := hmh rfl; simp [d'] at this
          · exact .inr b) (by rcases b3 with ⟨b, c, _⟩ | b; exact .inl ⟨b, c⟩; exact .inr b) h0 h1 h2 h3
    simp [execOp, e1, Instr.sliceAt, Instr.slice, run_underlying hu, hb, sizeOf, typeInfo, hinf, adv]⟩

/-- x[lo:hi], x an array's address. -/
theorem g_sliceA {T : TypeId} {x : Operand} {lo hi : Option Operand} {b o len s n' c' : Nat} {p' : Option Addr} {l h : Int} (hT : arrOf P T = some (len, s)) (hx : ev e x = some (.pointer (some ⟨b, o, none⟩)))
    (hl : bnd e lo 0 = some l) (hh : bnd e hi len = some h) (h0 : 0 ≤ l) (h1 : l ≤ h) (h2 : h ≤ len) (hp : adv (some ⟨b, o, none⟩) len l.toNat s = p') (hn : h.toNat - l.toNat = n') (hc : len - l.toNat = c') :
    Gives P cx e Rs ⟨d, .slice T x lo hi none, t, ps, af, gd⟩ (.slice p' n' c') :=
  ⟨nofun, fun ρ w hρ _ => by
    have e1 := hρ x _ (by simp [Op.operands]) hx
    obtain ⟨el, inf, hu, hinf, rfl⟩ := arrOf_spec hT
    subst hp; subst hn; subst hc
    have b1 := bnd_map hl (ρ := ρ) (fun y u hy => hρ y u (by simp [Op.operands, hy]))
    have b2 := bnd_map hh (ρ := ρ) (fun y u hy => hρ y u (by simp [Op.operands, hy]))
    have hb := run_sliceBounds (P := P) w false len len (lo.map ρ) (hi.map ρ) none l h len (by rcases b1 with ⟨b, c, _⟩ | b; exact .inl ⟨b, c⟩; exact .inr b)
      (by rcases b2 with ⟨b, c, d'⟩ | b; exact .inl ⟨b, c, rfl⟩; exact .inr b) (.inl ⟨rfl, rfl⟩) h0 h1 h2 (Int.le_refl _)
    by_cases hz : len = l.toNat
    · simp [execOp, e1, Instr.sliceAt, run_underlying hu, Instr.sureAddr, hb, sizeOf, typeInfo, hinf, adv, ← hz]
    · simp [execOp, e1, Instr.sliceAt, run_underlying hu, Instr.sureAddr, hb, sizeOf, typeInfo, hinf, adv, hz]⟩

/-- string(b). -/
theorem foldl_push (l : List UInt8) : ∀ (s : List UInt8), (l.map (fun x => (x.toNat : Int))).foldl (fun r n => r.push (UInt8.ofNat n.toNat)) (ByteArray.mk s.toArray) = ByteArray.mk (s ++ l).toArray := by
  induction l with
  | nil => intro s; simp
  | cons x l ih =>
    intro s
    simp only [List.map_cons, List.foldl_cons]
    have : (ByteArray.mk s.toArray).push (UInt8.ofNat (x.toNat : Int).toNat) = ByteArray.mk (s ++ [x]).toArray := by
      simp [ByteArray.push]
    rw [this, ih]
    simp

def bytesT (P : Program) (t : TypeId) : Bool := match P.underlying t with
  | some (.slice e) => match P.underlying e with
    | some (.int .u8) => true
    | _ => false
  | _ => false
theorem bytesT_spec {t : TypeId} (h : bytesT P t = true) : ∃ el, P.underlying t = some (.slice el) ∧ P.underlying el = some (.int .u8) := by
  unfold bytesT at h
  split at h
  · rename_i el hu
    split at h
    · rename_i h2; exact ⟨el, hu, h2⟩
    · cases h
  · cases h

theorem g_str {S T : TypeId} {x : Operand} {p : Option Addr} {n c : Nat} {l : List UInt8} (hS : bytesT P S = true) (hT : strT P T = true) (hx : ev e x = some (.slice p n c)) (hl : l.length = n) (hr : RdA cx Rs p (l.map B8)) :
    Gives P cx e Rs ⟨d, .convert S T x, t, ps, af, gd⟩ (.string ⟨l.toArray⟩) :=
  ⟨nofun, fun ρ w hρ hw => by
    have e1 := hρ x _ (by simp [Op.operands]) hx
    obtain ⟨el, hu, hel⟩ := bytesT_spec hS
    have hc := run_convert_bytes_string (P := P) w S T el p n c hu hel (strT_spec hT)
    simp only [execOp, e1, Sem.run_bind, hc]
    cases l with
    | nil =>
      subst hl
      cases p with
      | none => simp [Conv.bytesToString]; rfl
      | some a => simp [Conv.bytesToString, loadCells, loadCellsFrom]; rfl
    | cons y l =>
      obtain ⟨b, o, rfl, _⟩ := hr w hw 0 (B8 y) (by simp)
      have hld : (loadCells ⟨b, o, none⟩ n).run P w = .ok (((y :: l).map (fun x => (x.toNat : Int))).map (Value.int .u8)).toArray w := by
        have := run_loadCells_list (P := P) w ⟨b, o, none⟩ ((y :: l).map B8) (fun j v hv => by
          obtain ⟨b', o', he, h2⟩ := hr w hw j v hv
          simp only [Option.some.injEq, Addr.mk.injEq, and_true] at he
          obtain ⟨rfl, rfl⟩ := he
          rw [add_at]; exact h2)
        rw [List.length_map, hl] at this
        rw [this]; simp [B8]
      rw [run_bytesToString w _ n c _ hld]
      have := foldl_push (y :: l) []
      simp only [List.nil_append] at this
      rw [show (ByteArray.empty : ByteArray) = ByteArray.mk ([] : List UInt8).toArray from rfl, this]
      simp⟩

end gives
end Go.Pm

/-! From E5 -/
/- The engine, part 5: comparisons, structs by value, appends, copies, makes. -/
namespace Go.Pm
open Go.RowKit

section gives
variable {P : Program} {cx : Cx} {e : Env} {Rs : List Res} {d : Option Tmp} {t : TypeId} {ps : String} {af : Array Edge} {gd : Option (Nat × Bool)}

theorem g_sIdx {T : TypeId} {x ix : Operand} {s : ByteArray} {k : IntKind} {i : Int} {b : UInt8} (hT : strT P T = true) (hx : ev e x = some (.string s)) (hi : ev e ix = some (.int k i)) (h0 : 0 ≤ i) (hb : s[i.toNat]? = some b) :
    Gives P cx e Rs ⟨d, .index T x ix, t, ps, af, gd⟩ (B8 b) :=
  ⟨nofun, fun ρ w hρ _ => by
    have e1 := hρ x _ (by simp [Op.operands]) hx
    have e2 := hρ ix _ (by simp [Op.operands]) hi
    simp only [execOp, e1, e2, Instr.index, asIntOf, Sem.run_bind, Sem.run_pure, Result.andThen_ok, run_underlying (strT_spec hT)]
    simp [h0, hb]⟩

def ptrT (P : Program) (t : TypeId) : Bool := match P.underlying t with
  | some (.pointer _) => true
  | _ => false
theorem ptrT_spec {t : TypeId} (h : ptrT P t = true) : ∃ el, P.underlying t = some (.pointer el) := by
  unfold ptrT at h
  split at h
  · rename_i el hu; exact ⟨el, hu⟩
  · cases h

theorem run_eqGuard_ptr (op : BinOp) (T : TypeId) (x y : Operand) (a b : Option Addr) (w : World) : (eqGuard op T x y (.pointer a) (.pointer b)).run P w = .ok () w := by
  cases op <;> rfl
theorem ptrT_pointee {t : TypeId} (h : ptrT P t = true) : P.underlying t = some (.pointer (P.pointee t)) := by
  obtain ⟨el, hu⟩ := ptrT_spec h
  simp [Program.pointee, hu]

/-- A pointer held against nil. -/
theorem g_eqNil {T T2 : TypeId} {x : Operand} {y : Operand} {p : Option Addr} (hT : ptrT P T = true) (hx : ev e x = some (.pointer p)) (hy : ev e y = some (.pointer none)) :
    Gives P cx e Rs ⟨d, .binOp .eql T x y T2, t, ps, af, gd⟩ (.bool p.isNone) :=
  ⟨nofun, fun ρ w hρ _ => by
    have e1 := hρ x _ (by simp [Op.operands]) hx
    have e2 := hρ y _ (by simp [Op.operands]) hy
    simp only [execOp, e1, e2, Sem.run_bind, run_eqGuard_ptr, Result.andThen_ok, run_eql_pointer_nil w T p (ptrT_pointee hT)]
    rfl⟩
theorem g_neNil {T T2 : TypeId} {x : Operand} {y : Operand} {p : Option Addr} (hT : ptrT P T = true) (hx : ev e x = some (.pointer p)) (hy : ev e y = some (.pointer none)) :
    Gives P cx e Rs ⟨d, .binOp .neq T x y T2, t, ps, af, gd⟩ (.bool p.isSome) :=
  ⟨nofun, fun ρ w hρ _ => by
    have e1 := hρ x _ (by simp [Op.operands]) hx
    have e2 := hρ y _ (by simp [Op.operands]) hy
    simp only [execOp, e1, e2, Sem.run_bind, run_eqGuard_ptr, Result.andThen_ok, run_neq_pointer_nil w T p (ptrT_pointee hT)]
    cases p <;> rfl⟩

theorem run_eqGuard_str (op : BinOp) (T : TypeId) (x y : Operand) (a b : ByteArray) (w : World) : (eqGuard op T x y (.string a) (.string b)).run P w = .ok () w := by
  cases op <;> rfl
theorem run_eqGuard_bool (op : BinOp) (T : TypeId) (x y : Operand) (a b : Bool) (w : World) : (eqGuard op T x y (.bool a) (.bool b)).run P w = .ok () w := by
  cases op <;> rfl

theorem toList_loop (bs : ByteArray) : ∀ (n i : Nat) (r : List UInt8), bs.size - i = n → ByteArray.toList.loop bs i r = r.reverse ++ bs.data.toList.drop i := by
  intro n
  induction n with
  | zero =>
    intro i r hn
    unfold ByteArray.toList.loop
    have : ¬ i < bs.size := by omega
    simp only [this, if_false]
    have hs : bs.size = bs.data.toList.length := by rw [Array.length_toList]; rfl
    have h2 : bs.data.toList.length ≤ i := by omega
    simp [List.drop_eq_nil_of_le h2]
  | succ n ih =>
    intro i r hn
    unfold ByteArray.toList.loop
    have hlt : i < bs.size := by omega
    simp only [hlt, if_true]
    rw [ih (i + 1) _ (by omega)]
    have hs : bs.size = bs.data.toList.length := by rw [Array.length_toList]; rfl
    have h2 : i < bs.data.toList.length := by omega
    rw [List.drop_eq_getElem_cons h2]
    have : bs.get! i = bs.data.toList[i] := by
      simp only [ByteArray.get!, Array.getElem_toList]
      exact getElem!_pos bs.data i (by simpa using h2)
    simp [this]
theorem toList_eq (bs : ByteArray) : bs.toList = bs.data.toList := by
  unfold ByteArray.toList
  rw [toList_loop bs _ 0 [] rfl]; simp
@[simp] theorem toList_mk (l : List UInt8) : (ByteArray.mk l.toArray).toList = l := by rw [toList_eq]

theorem beq_dec (a b : List UInt8) : (a == b) = decide (a = b) := by rw [Bool.eq_iff_iff]; simp

/-- Two strings. -/
theorem g_eqS {T T2 : TypeId} {x y : Operand} {a b : ByteArray} (hx : ev e x = some (.string a)) (hy : ev e y = some (.string b)) : Gives P cx e Rs ⟨d, .binOp .eql T x y T2, t, ps, af, gd⟩ (.bool (decide (a.data.toList = b.data.toList))) :=
  ⟨nofun, fun ρ w hρ _ => by
    have e1 := hρ x _ (by simp [Op.operands]) hx
    have e2 := hρ y _ (by simp [Op.operands]) hy
    simp only [execOp, e1, e2, Sem.run_bind, run_eqGuard_str, Result.andThen_ok]
    unfold binOp
    simp only [Op.stringOp, toList_eq, Sem.run_pure, Result.andThen_ok, beq_dec]⟩
theorem g_neS {T T2 : TypeId} {x y : Operand} {a b : ByteArray} (hx : ev e x = some (.string a)) (hy : ev e y = some (.string b)) : Gives P cx e Rs ⟨d, .binOp .neq T x y T2, t, ps, af, gd⟩ (.bool (decide (a.data.toList ≠ b.data.toList))) :=
  ⟨nofun, fun ρ w hρ _ => by
    have e1 := hρ x _ (by simp [Op.operands]) hx
    have e2 := hρ y _ (by simp [Op.operands]) hy
    simp only [execOp, e1, e2, Sem.run_bind, run_eqGuard_str, Result.andThen_ok]
    unfold binOp
    simp only [Op.stringOp, toList_eq, Sem.run_pure, Result.andThen_ok, beq_dec, ne_eq, decide_not]⟩

def boolT (P : Program) (t : TypeId) : Bool := match P.underlying t with
  | some .bool => true
  | _ => false
theorem boolT_spec {t : TypeId} (h : boolT P t = true) : P.underlying t = some .bool := by
  unfold boolT at h
  split at h
  · assumption
  · cases h
theorem g_eqB {T T2 : TypeId} {x y : Operand} {a b : Bool} (hT : boolT P T = true) (hx : ev e x = some (.bool a)) (hy : ev e y = some (.bool b)) : Gives P cx e Rs ⟨d, .binOp .eql T x y T2, t, ps, af, gd⟩ (.bool (a == b)) :=
  ⟨nofun, fun ρ w hρ _ => by
    have e1 := hρ x _ (by simp [Op.operands]) hx
    have e2 := hρ y _ (by simp [Op.operands]) hy
    simp only [execOp, e1, e2, Sem.run_bind, run_eqGuard_bool, Result.andThen_ok, run_eql_bool w T a b (boolT_spec hT)]
    rfl⟩
theorem g_neB {T T2 : TypeId} {x y : Operand} {a b : Bool} (hT : boolT P T = true) (hx : ev e x = some (.bool a)) (hy : ev e y = some (.bool b)) : Gives P cx e Rs ⟨d, .binOp .neq T x y T2, t, ps, af, gd⟩ (.bool (a != b)) :=
  ⟨nofun, fun ρ w hρ _ => by
    have e1 := hρ x _ (by simp [Op.operands]) hx
    have e2 := hρ y _ (by simp [Op.operands]) hy
    simp only [execOp, e1, e2, Sem.run_bind, run_eqGuard_bool, Result.andThen_ok, run_neq_bool w T a b (boolT_spec hT)]
    rfl⟩

/-- A slice held against nil. -/
theorem g_eqSn {T T2 s : Nat} {x y : Operand} {p : Option Addr} {n c : Nat} (hT : elemSz P T = some s) (hx : ev e x = some (.slice p n c)) (hy : ev e y = some (.slice none 0 0)) :
    Gives P cx e Rs ⟨d, .binOp .eql T x y T2, t, ps, af, gd⟩ (.bool p.isNone) :=
  ⟨nofun, fun ρ w hρ _ => by
    have e1 := hρ x _ (by simp [Op.operands]) hx
    have e2 := hρ y _ (by simp [Op.operands]) hy
    obtain ⟨el, inf, hu, hinf, rfl⟩ := elemSz_spec hT
    have hg : (eqGuard .eql T x y (.slice p n c) (.slice none 0 0)).run P w = .ok () w := rfl
    have hq : ∀ d, (Op.equalIn (d + 1) T (.slice p n c) (.slice none 0 0)).run P w = .ok p.isNone w := fun d => by cases p <;> simp [Op.equalIn, run_underlying hu]
    have hb : (binOp .eql T (.slice p n c) (.slice none 0 0)).run P w = .ok (.bool p.isNone) w := by
      simp only [binOp]
      have : (Op.equal T (.slice p n c) (.slice none 0 0)).run P w = .ok p.isNone w := hq 9999
      simp [this]
    simp only [execOp, e1, e2, Sem.run_bind, hg, Result.andThen_ok, hb]
    rfl⟩

/-- A struct or an array, made of its parts. -/
theorem g_build {T : TypeId} {parts : List (Nat × Operand)} {vs : List Value} {cs : List Value} (hp : evs e (parts.map (·.2)) = some vs) (hb : P.built T ((parts.map (·.1)).zip vs) = some cs.toArray) :
    Gives P cx e Rs ⟨d, .build T parts.toArray, t, ps, af, gd⟩ (.agg cs.toArray) :=
  ⟨nofun, fun ρ w hρ _ => by
    have e1 := evs_map hp ρ (fun x u hx => hρ x u (by simpa [Op.operands] using hx))
    have e2 : (parts.toArray.map fun (i, x) => (i, ρ x)) = ((parts.map (·.1)).zip vs).toArray := by
      rw [← e1]
      simp only [List.map_toArray]
      congr 1
      clear hp hb hρ e1
      induction parts with
      | nil => rfl
      | cons q qs ih => simp [ih]
    have hr := run_build (P := P) w T ((parts.map (·.1)).zip vs).toArray cs.toArray (by simpa using hb)
    simp only [execOp, e2, Sem.run_bind, hr, Result.andThen_ok, Sem.run_pure]⟩

theorem g_min {ats : Array TypeId} {x y : Operand} {k : IntKind} {a b c : Int} (hx : ev e x = some (.int k a)) (hy : ev e y = some (.int k b)) (hc : (if b < a then b else a) = c) :
    Gives P cx e Rs ⟨d, .call { callee := .builtin .min, args := #[x, y], argTypes := ats }, t, ps, af, gd⟩ (.int k c) :=
  ⟨nofun, fun ρ w hρ _ => by
    have e1 := hρ x _ (by simp [Op.operands, Call.operands]) hx
    have e2 := hρ y _ (by simp [Op.operands, Call.operands]) hy
    subst hc
    rw [BigFrame.execOp_builtin, BigFrame.builtin_min]; simp [Builtin.min_, e1, e2, Builtin.min2]⟩
theorem g_max {ats : Array TypeId} {x y : Operand} {k : IntKind} {a b c : Int} (hx : ev e x = some (.int k a)) (hy : ev e y = some (.int k b)) (hc : (if a < b then b else a) = c) :
    Gives P cx e Rs ⟨d, .call { callee := .builtin .max, args := #[x, y], argTypes := ats }, t, ps, af, gd⟩ (.int k c) :=
  ⟨nofun, fun ρ w hρ _ => by
    have e1 := hρ x _ (by simp [Op.operands, Call.operands]) hx
    have e2 := hρ y _ (by simp [Op.operands, Call.operands]) hy
    subst hc
    rw [BigFrame.execOp_builtin, BigFrame.builtin_max]; simp [Builtin.max_, e1, e2, Builtin.max2]⟩

/-- An element of an array by value. -/
theorem g_idxA {T : TypeId} {x ix : Operand} {cs : Array Value} {k : IntKind} {i : Int} {n : Nat} {v : Value} (hT : arrOf P T = some (n, 1)) (hs : ∀ el, P.underlying T = some (.array n el) → scT P el = true) (hx : ev e x = some (.agg cs)) (hi : ev e ix = some (.int k i))
    (h0 : 0 ≤ i) (h1 : i < n) (hv : cs[i.toNat]? = some v) : Gives P cx e Rs ⟨d, .index T x ix, t, ps, af, gd⟩ v :=
  ⟨nofun, fun ρ w hρ _ => by
    have e1 := hρ x _ (by simp [Op.operands]) hx
    have e2 := hρ ix _ (by simp [Op.operands]) hi
    obtain ⟨el, inf, hu, hinf, hsz⟩ := arrOf_spec hT
    simp [execOp, e1, e2, Instr.index, asIntOf, run_underlying hu, h0, h1, part, isAgg_no (hs el hu), sizeOf, typeInfo, hinf, hsz, hv]⟩

end gives

section effects
variable {cx : Cx} {e : Env} {Rs : List Res} {r : Option Nat} {P : Program} {Q : Exit → Act → World → Prop} {K : Act → World → Prop}
  {d : Nat} {t : TypeId} {ps : String} {af : Array Edge} {gd : Option (Nat × Bool)}

/-- make([]T, n), T of s cells that are at first all zv. -/
theorem o_make {T E s by_ : Nat} {x y : Operand} {k k' : IntKind} {n : Int} {zv : Value} (hu : P.underlying T = some (.slice E)) (hz : zeroCs P E = some (List.replicate s zv)) (hsz : szT P E = some s) (hby : (P.info? E).map (·.bytes) = some by_) (hs : 0 < s)
    (hx : ev e x = some (.int k n)) (hy : ev e y = some (.int k' n)) (h0 : 0 ≤ n) (hbytes : (by_ : Int) * n ≤ 281474976710656) (h63 : n ≤ 9223372036854775807) (hd : Nat.blt d cx.n = true)
    (h : ∀ b, At cx ((d, .slice (some ⟨b, 0, none⟩) n.toNat n.toNat) :: e) (blk b E (List.replicate (n.toNat * s) zv) :: Rs) K) : OpAt cx e Rs r P Q ⟨some d, .makeSlice T x y, t, ps, af, gd⟩ K :=
  OpAt.of_run nofun fun a w ha hw => by
    obtain ⟨i, z, hi, hz0, hzc⟩ := zeroCs_spec hz
    have his : i.size = s := by simpa [szT, hi] using hsz
    have hib : i.bytes = by_ := by simpa [hi] using hby
    subst hib
    have hr := run_make (P := P) w T E i z hu hi hz0 k k' n n h0 (Int.le_refl _) hbytes h63
    have hzs : z.cells.size = s := by have := congrArg List.length hzc; simpa using this
    have hcs : madeCells z.cells (n.toNat * i.size) = (List.replicate (n.toNat * s) zv).toArray := by
      rw [his]
      apply Array.ext
      · simp [madeCells]
      · intro j h1 h2
        have hm : j % z.cells.size < z.cells.size := Nat.mod_lt _ (by omega)
        simp only [madeCells, Array.getElem_map, List.getElem_toArray, List.getElem_replicate, Array.getElem_range]
        rw [getElem!_pos z.cells _ hm]
        have := congrArg (fun l : List Value => l[j % z.cells.size]?) hzc
        simp only [Array.getElem?_toList, List.getElem?_replicate] at this
        rw [Array.getElem?_eq_getElem hm, if_pos (by omega)] at this
        simpa using this
    have hrun : (execOp a.eval ⟨some d, .makeSlice T x y, t, ps, af, gd⟩).run P w = .ok (.value (.slice (some ⟨w.heap.size, 0, none⟩) n.toNat n.toNat)) (w.alloc (.cells (List.replicate (n.toNat * s) zv).toArray E (0, 0))) := by
      simp only [execOp, ha.eval hx, ha.eval hy, Sem.run_bind, hr, Result.andThen_ok, Sem.run_pure, hcs]
    show Oper.uponIn (FR r) 0 P _ a K Q _
    rw [hrun, Oper.uponIn_value]
    exact h w.heap.size _ _ (ha.put hd _) (hw.new' (R := blk w.heap.size E _) rfl rfl rfl rfl (by simp) (fun k (hk : k < w.heap.size) => Below.heap_alloc w _ k hk) (heap_alloc_new w _))

/-- A slice's literal: []T{..}. -/
theorem o_buildSlice {T E s len : Nat} {parts : List (Nat × Operand)} {vs cs zs : List Value} (hu : P.underlying T = some (.slice E)) (hz : zeroCs P E = some zs) (hsz : szT P E = some s) (hlen : 0 < len * s) (hmax : len * s ≤ 16777216)
    (hp : evs e (parts.map (·.2)) = some vs) (hf : Instr.fill (fun i => some (i * s, s)) ((Array.range (len * s)).map (zs.toArray[· % zs.toArray.size]!)) ((parts.map (·.1)).zip vs) = some cs.toArray) (hd : Nat.blt d cx.n = true)
    (h : ∀ b, At cx ((d, .slice (some ⟨b, 0, none⟩) len len) :: e) (blk b E cs :: Rs) K) : OpAt cx e Rs r P Q ⟨some d, .buildSlice T len parts.toArray, t, ps, af, gd⟩ K :=
  OpAt.of_run nofun fun a w ha hw => by
    obtain ⟨i, z, hi, hz0, hzc⟩ := zeroCs_spec hz
    have his : i.size = s := by simpa [szT, hi] using hsz
    have e1 := evs_map hp a.eval (fun x u _ hx => ha.eval hx)
    have e2 : (parts.toArray.map fun (i, x) => (i, a.eval x)).toList = ((parts.map (·.1)).zip vs) := by
      rw [← e1]
      simp only [List.map_toArray]
      clear hp hf e1
      induction parts with
      | nil => rfl
      | cons q qs ih => simpa using ih
    have hzt : z.cells = zs.toArray := by rw [← hzc]
    have hrun : (execOp a.eval ⟨some d, .buildSlice T len parts.toArray, t, ps, af, gd⟩).run P w = .ok (.value (.slice (some ⟨w.heap.size, 0, none⟩) len len)) (w.alloc (.cells cs.toArray E (0, 0))) := by
      have n1 : ¬ (len * s > 2 ^ 24) := by omega
      have n2 : ¬ (len * s = 0) := by omega
      simp only [execOp, Instr.buildSlice, Sem.run_bind, run_underlying hu, Result.andThen_ok, sizeOf, typeInfo, run_program, hi, Sem.run_pure, his, n1, n2, if_false, zeroValue, hz0, e2, hzt, hf, newRow]
      rfl
    show Oper.uponIn (FR r) 0 P _ a K Q _
    rw [hrun, Oper.uponIn_value]
    exact h w.heap.size _ _ (ha.put hd _) (hw.new' (R := blk w.heap.size E cs) rfl rfl rfl rfl (by simp) (fun k (hk : k < w.heap.size) => Below.heap_alloc w _ k hk) (heap_alloc_new w _))

/-- The mark that a constant's row gets. -/
theorem o_mark {T : TypeId} {x : Operand} {b n c E : Nat} {cs : List Value} {B : List Res} (hu : P.underlying T = some (.slice E)) (hE : P.underlying E = some (.int .u8)) (hx : ev e x = some (.slice (some ⟨b, 0, none⟩) n c)) (hk : Pick (blk b E cs) Rs B) (hd : Nat.blt d cx.n = true)
    (h : At cx ((d, .slice (some ⟨b, 0, none⟩) n c) :: e) (blkF b E cs (cs.length, cs.length + 1) :: B) K) : OpAt cx e Rs r P Q ⟨some d, .convert T T x, t, ps, af, gd⟩ K :=
  OpAt.of_run nofun fun a w ha hw => by
    have hw' := hw.pick hk
    have hb := hw'.hd
    have hbz : b < w.heap.size := (Array.getElem?_eq_some_iff.1 hb).1
    have hfr : w.freeze ⟨b, cs.length, none⟩ 1 = w.putObj b (.cells cs.toArray E (cs.length, cs.length + 1)) := by
      unfold World.freeze World.putObj
      rw [if_neg (by decide)]
      congr 1
      apply Array.ext
      · simp
      · intro i h1 h2
        rw [Array.getElem_modify]
        by_cases hbi : b = i
        · subst hbi
          have : w.heap[b] = .cells cs.toArray E (0, 0) := (Array.getElem?_eq_some_iff.1 hb).2
          simp [this]
        · rw [if_neg hbi, Array.getElem_setIfInBounds_ne _ hbi]
    have hsh : w.shape? b = some (E, cs.length) := by simp [World.shape?, hb]
    have hrun : (execOp a.eval ⟨some d, .convert T T x, t, ps, af, gd⟩).run P w = .ok (.value (.slice (some ⟨b, 0, none⟩) n c)) (w.putObj b (.cells cs.toArray E (cs.length, cs.length + 1))) := by
      simp [execOp, ha.eval hx, convert, run_underlying hu, run_underlying hE, markStringish, hsh, hfr]
    show Oper.uponIn (FR r) 0 P _ a K Q _
    rw [hrun, Oper.uponIn_value]
    exact h _ _ (ha.put hd _) (hw'.upd (R' := blkF b E cs (cs.length, cs.length + 1)) rfl rfl rfl rfl (by simp) (fun k hk => World.putObj_heap_other (by simpa [blk, objR] using hk)) (World.putObj_heap_same hbz))

/-- A growing slice in the place of another one. -/
theorem Sat.grown {w0 w w' : World} {S0 : List Nat} {v v' : Value} {E s n n' : Nat} {xs xs' : List Value} {B : List Res} (h : Sat w0 S0 (vec v E s n xs :: B) w) (hg : w.grownBy w' v.ownBlock)
    (hv' : w'.ownsRow 0 E s v' n' xs') (hb : v'.ownBlock = v.ownBlock ∨ ∀ g, v'.ownBlock = some g → w.heap.size ≤ g) : Sat w0 S0 (vec v' E s n' xs' :: B) w' := by
  have hown : w.ownsRow 0 E s v n xs := h.holds (vec v E s n xs) (by simp)
  have fpe : ∀ {W : World} {u : Value} {m : Nat} {ys : List Value}, W.ownsRow 0 E s u m ys → ∀ k, k ∈ vecFp u ↔ u.ownBlock = some k := by
    intro W u m ys ho k
    rcases ho.2 with ⟨rfl, _⟩ | ⟨g, cap, cur, rfl, _⟩ <;> simp [vecFp, Value.ownBlock, eq_comm]
  have hv1 : ∀ k, k ∈ (vec v E s n xs).fp ↔ v.ownBlock = some k := fpe hown
  have hv2 : ∀ k, k ∈ (vec v' E s n' xs').fp ↔ v'.ownBlock = some k := fpe hv'
  have hnd := h.nodup
  simp only [fps_cons] at hnd
  have hap := List.nodup_append.1 hnd
  have hB : ∀ k, k ∈ fps B → w'.heap[k]? = w.heap[k]? := fun k hk =>
    hg.block k (h.lt k (by simp [hk])) (fun he => hap.2.2 k ((hv1 k).2 he.symm) k hk rfl)
  have hfv : (vec v' E s n' xs').fp.Nodup := by
    show (vecFp v').Nodup
    unfold vecFp
    split <;> simp
  refine ⟨hg.os.trans h.os, hg.tape.trans h.tape, hg.output.trans h.output, Nat.le_trans h.size hg.size, fun k hk0 hS => ?_, fun X hX => ?_, fun k hkk => ?_, ?_, fun k hkk => ?_⟩
  · rw [hg.block k (Nat.lt_of_lt_of_le hk0 h.size) (fun he => ?_)]
    · exact h.frame k hk0 hS
    · rcases h.new k (by simp [(hv1 k).2 he.symm]) with h1 | h1
      · exact hS h1
      · omega
  · rcases List.mem_cons.1 hX with rfl | hX
    · exact hv'
    · exact X.loc (fun k hkX => hB k (List.mem_flatMap.2 ⟨X, hX, hkX⟩)) (h.holds X (by simp [hX]))
  · simp only [fps_cons, List.mem_append] at hkk
    rcases hkk with hkk | hkk
    · exact (hv'.lt k ((hv2 k).1 hkk)).2
    · exact Nat.lt_of_lt_of_le (h.lt k (by simp [hkk])) hg.size
  · simp only [fps_cons]
    refine List.nodup_append.2 ⟨hfv, hap.2.1, fun k hk j hj he => ?_⟩
    subst he
    have h2 := (hv2 k).1 hk
    rcases hb with hb | hb
    · exact hap.2.2 k ((hv1 k).2 (hb ▸ h2)) k hj rfl
    · have := hb k h2; have := h.lt k (by simp [hj]); omega
  · simp only [fps_cons, List.mem_append] at hkk
    rcases hkk with hkk | hkk
    · have h2 := (hv2 k).1 hkk
      rcases hb with hb | hb
      · exact h.new k (by simp [(hv1 k).2 (hb ▸ h2)])
      · exact .inr (Nat.le_trans h.size (hb k h2))
    · exact h.new k (by simp [hkk])

/-- append: onto a slice that grows, what can be read. -/
theorem o_append {T E s by_ : Nat} {x y : Operand} {v : Value} {n m c : Nat} {p : Option Addr} {xs news zs : List Value} {B : List Res} (hu : P.underlying T = some (.slice E)) (hz : zeroCs P E = some zs) (hsz : szT P E = some s) (hzl : zs.length = s) (hby : (P.info? E).map (·.bytes) = some by_) (hs : 0 < s)
    (hx : ev e x = some v) (hy : ev e y = some (.slice p m c)) (hk : Pick (vec v E s n xs) Rs B) (hl : news.length = m * s) (hr : RdA cx Rs p news) (h1 : ∀ u ∈ news, u.oneCell' = true) (hnil : p = none → c = 0)
    (h63 : n + m ≤ maxLen) (hbytes : (n + m) * by_ ≤ 140737488355328) (hd : Nat.blt d cx.n = true)
    (h : ∀ q cap, (q = none ↔ v = .slice none 0 0 ∧ m = 0) → n + m ≤ cap → (q = none → cap = 0) → At cx ((d, .slice q (n + m) cap) :: e) (vec (.slice q (n + m) cap) E s (n + m) (xs ++ news) :: B) K) :
    OpAt cx e Rs r P Q ⟨some d, .call { callee := .builtin .append, args := #[x, y], argTypes := #[T, T] }, t, ps, af, gd⟩ K :=
  OpAt.of_run nofun fun a w ha hw => by
    obtain ⟨i, z, hi, hz0, hzc⟩ := zeroCs_spec hz
    have his : i.size = s := by simpa [szT, hi] using hsz
    have hib : i.bytes = by_ := by simpa [hi] using hby
    have hw' := hw.pick hk
    have hown : w.ownsRow 0 E s v n xs := hw'.holds (vec v E s n xs) (by simp)
    have hzs : z.cells.size = s := by have := congrArg List.length hzc; simp at this; omega
    have wk : ∀ {w' : World}, w.grownBy w' none → w.grownBy w' v.ownBlock := fun hg => ⟨hg.os, hg.tape, hg.output, hg.size, fun k hk _ => hg.block k hk (by simp)⟩
    have up : ∀ {w' : World} {v' : Value} {k : Nat} {ys : List Value}, w'.ownsRow w.heap.size E s v' k ys → w'.ownsRow 0 E s v' k ys := fun ho => by
      refine ⟨ho.1, ?_⟩
      rcases ho.2 with hq | ⟨g, cap, cur, h1, _, h3⟩
      · exact .inl hq
      · exact .inr ⟨g, cap, cur, h1, Nat.zero_le _, h3⟩
    have key : ∃ v' w', (Builtin.append_ #[T, T] t #[v, .slice p m c]).run P w = .ok v' w' ∧ w'.ownsRow 0 E s v' (n + m) (xs ++ news) ∧ w.grownBy w' v.ownBlock ∧ (v' = .slice none 0 0 ↔ v = .slice none 0 0 ∧ m = 0) ∧
        (v'.ownBlock = v.ownBlock ∨ ∀ g, v'.ownBlock = some g → w.heap.size ≤ g) := by
      cases p with
      | some ad =>
        have hnews : ∀ j u, news[j]? = some u → w.cell? (ad.add j) = some u := fun j u hj => by
          obtain ⟨b, o, he, hc⟩ := hr w hw j u hj
          simp only [Option.some.injEq] at he
          subst he
          rw [add_at]; exact hc
        rcases hown.2 with ⟨rfl, rfl⟩ | ⟨g, cap, cur, rfl, _, hgg, hnc, hcm, hcs, htk⟩
        · have hx0 : xs = [] := List.eq_nil_of_length_eq_zero (by simpa using hown.1)
          subst hx0
          obtain ⟨v', w', h1', h2', h3', h4'⟩ := run_append_own (P := P) w w.heap.size T t E i z s by_ hu hi hz0 his hib hzs hs (.slice none 0 0) 0 [] (World.ownsRow_nil w _ E s) ad m c news hl hnews h1 h63 hbytes (Nat.le_refl _)
          exact ⟨v', w', h1', up h2', h3', h4', .inr (fun g hg => (h2'.lt g hg).1)⟩
        · by_cases hroom : n + m ≤ cap
          · obtain ⟨w', h1', h2', h3'⟩ := run_append_fits (P := P) w 0 T t E i s hu hi his g n cap xs hown ad m c news hl hnews h1 hroom
            exact ⟨_, w', h1', h2', h3', by simp, .inl rfl⟩
          · obtain ⟨v', w', h1', h2', h3'⟩ := run_append_arg_grows (P := P) w T t E i z s by_ hu hi hz0 his hib hzs hs ⟨g, 0, none⟩ n cap xs hown.1 (hown.cells (by rfl)) ad m c news hl hnews (by omega) h63 hbytes
            refine ⟨v', w', h1', up h2', wk h3', ?_, .inr (fun g hg => (h2'.lt g hg).1)⟩
            rcases h2'.2 with ⟨rfl, hz⟩ | ⟨g', cap', cur', rfl, _⟩
            · omega
            · simp
      | none =>
        have hn : news = [] := by
          cases news with
          | nil => rfl
          | cons u us => obtain ⟨b, o, he, _⟩ := hr w hw 0 u (by simp); cases he
        subst hn
        have hm : m = 0 := by
          rcases Nat.eq_zero_or_pos m with h0 | h0
          · exact h0
          · have := Nat.mul_pos h0 hs; simp at hl; omega
        subst hm
        have hc0 := hnil rfl
        subst hc0
        exact ⟨v, w, run_append_owned_none (P := P) w 0 T t E i s hu hi v n xs hown, by simpa using hown, ⟨rfl, rfl, rfl, Nat.le_refl _, fun _ _ _ => rfl⟩, by simp, .inl rfl⟩
    obtain ⟨v', w', hrun', hown', hg, hnn, hfresh⟩ := key
    have hrun : (execOp a.eval ⟨some d, .call { callee := .builtin .append, args := #[x, y], argTypes := #[T, T] }, t, ps, af, gd⟩).run P w = .ok (.value v') w' := by
      rw [BigFrame.execOp_builtin, BigFrame.builtin_append]
      simp [ha.eval hx, ha.eval hy, hrun']
    show Oper.uponIn (FR r) 0 P _ a K Q _
    rw [hrun, Oper.uponIn_value]
    obtain ⟨q, cap, rfl, hcap, hqc⟩ : ∃ q cap, v' = .slice q (n + m) cap ∧ n + m ≤ cap ∧ (q = none → cap = 0) := by
      rcases hown'.2 with ⟨rfl, hz⟩ | ⟨g, cap, cur, rfl, _, _, hle, _⟩
      · exact ⟨none, 0, by rw [hz], by omega, fun _ => rfl⟩
      · exact ⟨_, cap, rfl, hle, by simp⟩
    refine h q cap ?_ hcap hqc _ _ (ha.put hd _) (hw'.grown hg hown' hfresh)
    rw [← hnn]
    constructor
    · rintro rfl
      have hz0 := hqc rfl
      subst hz0
      have : n + m = 0 := by omega
      rw [this]
    · intro he
      simp only [Value.slice.injEq] at he
      exact he.1

/-- copy: into an owned row. -/
theorem o_copy {T S E E2 : Nat} {x y : Operand} {b o n c m c2 : Nat} {p : Option Addr} {cs cs' vs : List Value} {B : List Res} (hu : P.underlying T = some (.slice E)) (hsz : szT P E = some 1) (hx : ev e x = some (.slice (some ⟨b, o, none⟩) n c)) (hy : ev e y = some (.slice p m c2))
    (hk : Pick (blk b E2 cs) Rs B) (hl : vs.length = Nat.min m n) (hr : RdA cx Rs p vs) (h1 : ∀ u ∈ vs, u.oneCell' = true) (ho : o + vs.length ≤ cs.length) (hc : setR cs o vs = cs') (hd : Nat.blt d cx.n = true)
    (h : At cx ((d, .int .i64 vs.length) :: e) (blk b E2 cs' :: B) K) :
    OpAt cx e Rs r P Q ⟨some d, .call { callee := .builtin .copy, args := #[x, y], argTypes := #[T, S] }, t, ps, af, gd⟩ K :=
  OpAt.of_run nofun fun a w ha hw => by
    subst hc
    have hw' := hw.pick hk
    have hb := hw'.hd
    have hrun' : (Builtin.copy_ #[T, S] t #[.slice (some ⟨b, o, none⟩) n c, .slice p m c2]).run P w = .ok (goInt vs.length) (w.setRow b (setR cs o vs).toArray) := by
      cases p with
      | some ad =>
        have hr' := run_copy_row (P := P) w T S t E b o n c ad m c2 cs.toArray E2 vs hu hsz hb hl (fun j u hj => by
          obtain ⟨b', o', he, hc⟩ := hr w hw j u hj
          simp only [Option.some.injEq] at he
          subst he
          rw [add_at]; exact hc) (by simpa using ho) h1
        rw [hr']; simp [setR]
      | none =>
        have hn : vs = [] := by
          cases vs with
          | nil => rfl
          | cons u us => obtain ⟨b, o, he, _⟩ := hr w hw 0 u (by simp); cases he
        subst hn
        have := run_copy_none (P := P) w T S t E (some ⟨b, o, none⟩) none n c m c2 hu hsz (by simpa using hl.symm)
        rw [this]
        have he : setR cs o [] = cs := by simp [setR]
        rw [he, setRow_self w b cs.toArray E2 (0, 0) hb]
        rfl
    have hrun : (execOp a.eval ⟨some d, .call { callee := .builtin .copy, args := #[x, y], argTypes := #[T, S] }, t, ps, af, gd⟩).run P w = .ok (.value (.int .i64 vs.length)) (w.setRow b (setR cs o vs).toArray) := by
      rw [BigFrame.execOp_builtin, BigFrame.builtin_copy]
      simp [ha.eval hx, ha.eval hy, hrun', goInt]
    show Oper.uponIn (FR r) 0 P _ a K Q _
    rw [hrun, Oper.uponIn_value]
    exact h _ _ (ha.put hd _) (upd_setRow hw')

end effects
end Go.Pm

/-! From E6 -/
/- The engine, part 6: regions that draw their order. (A) all operations are quiet: one walk of the text's order. (B) some write: quiet ones are taken first, the others in whatever order they may come. -/
namespace Go.Pm
open Go.RowKit

/-! ### From any order of an activation of a function to any order in a round -/

def noDefer (ops : Array Oper) : Bool := ops.all fun o => match o.op with | .defer _ => false | _ => true
theorem noDefer_spec {ops : Array Oper} (h : noDefer ops = true) {j : Nat} {o : Oper} (ho : ops[j]? = some o) : ∀ c, o.op ≠ .defer c := by
  intro c heq
  have := Array.all_eq_true_iff_forall_mem.1 h o (Array.mem_of_getElem? ho)
  simp [heq] at this

section
variable {P : Program} {ops : Array Oper} {Q : Exit → Act → World → Prop} {a : Act} {w : World}

theorem wpIn_FR {o : Oper} {r : Option Nat} {K : Act → World → Prop} (hd : ∀ c, o.op ≠ .defer c) (h : o.wpIn (FR none) 0 P a w K Q) : o.wpIn (FR r) 0 P a w K Q := by
  refine ⟨fun _ _ => trivial, ?_⟩
  have h2 := h.2
  rw [semAt_eq _ _ _ hd] at h2 ⊢
  generalize (execOp a.eval o).run P w = res at *
  cases res with
  | halt x w' => cases x <;> simp only [Oper.uponIn] at h2 ⊢ <;> exact h2
  | ok n w' =>
    cases n <;> simp only [Oper.uponIn] at h2 ⊢ <;> first | exact h2 | skip

theorem wpOpsIn_FR {r : Option Nat} (hn : noDefer ops = true) : ∀ (l : List Nat) (a : Act) (w : World), wpOpsIn (FR none) 0 P ops Q l a w → wpOpsIn (FR r) 0 P ops Q l a w := by
  intro l
  induction l with
  | nil => intro a w h; exact h
  | cons i rest ih =>
    intro a w h
    simp only [wpOpsIn] at h ⊢
    cases ho : ops[i]? with
    | none => simp only [ho] at h ⊢; exact ih a w h
    | some o =>
      simp only [ho] at h ⊢
      by_cases hw : Region.wanted o (yielded ops a.tmps) = true
      · simp only [hw, if_true] at h ⊢
        exact wpIn_FR (noDefer_spec hn ho) (Oper.wpIn_mono ih h)
      · simp only [hw] at h ⊢
        exact ⟨fun _ _ => trivial, ih _ w h.2⟩

theorem region_any {r : Option Nat} {id : Nat} (hm : P.follows .mixedOrders = true) (hn : noDefer ops = true)
    (h : wpAnyIn (FR none) 0 P .any ops Q ops.size (Array.replicate ops.size false) a { w with drawn := w.drawn + 1 }) : (Code.region id ops true).wpIn (FR r) 0 P Q a w :=
  wpIn_region_draw fun t => wpOpsIn_FR hn _ _ _ (by
    simp only [Region.schedule, hm, Bool.true_or, if_true]
    exact wpAnyIn_sound ops.size t _ a _ h)
end

/-! ### (A) All quiet -/
section quiet
variable {cx : Cx} {e : Env} {Rs : List Res} {r : Option Nat} {P : Program} {Q : Exit → Act → World → Prop}

/-- From here on all operations are quiet: the text's order serves every order. -/
def Dr (cx : Cx) (e : Env) (Rs : List Res) (P : Program) (ops : Array Oper) (Q : Act → World → Prop) (l : List Oper) : Prop :=
  ∀ a, Ok cx.n cx.ds e a → wpQuietIn (FR none) 0 P ops (Sat cx.w0 cx.S0 Rs) (fun a' => ∀ w', Sat cx.w0 cx.S0 Rs w' → Q a' w') l a

theorem regionQ {id : Nat} {l : List Oper} (hm : P.follows .mixedOrders = true) (hn : noDefer l.toArray = true) (hB : Region.lexB .any l.toArray = true) (h : Dr cx e Rs P l.toArray (Q .normal) l) :
    At cx e Rs ((Code.region id l.toArray true).wpIn (FR r) 0 P Q) := by
  intro a w ha hw
  simp only [Region.lexB, Bool.and_eq_true] at hB
  refine region_any hm hn (wpAnyIn_of_quiet (C := Sat cx.w0 cx.S0 Rs) (Q := fun a' => ∀ w', Sat cx.w0 cx.S0 Rs w' → Q .normal a' w') rfl (fun _ w' hw' h => h w' hw') _ _ _ _ (hw.drew _) ?_)
  have := wpAnyQIn_lex (F := FR none) (n := 0) (C := Sat cx.w0 cx.S0 Rs) (md := .any) hB.1 l 0 (Array.replicate l.length false) a (by simp) (by simpa using hB.2) (h a ha)
  simpa using this

theorem Dr.nil {ops : Array Oper} {K : Act → World → Prop} (h : At cx e Rs K) : Dr cx e Rs P ops K [] := fun a ha w' hw' => h a w' ha hw'

theorem Dr.st {ops : Array Oper} {K : Act → World → Prop} {rest : List Oper} {op : Op} {t : TypeId} {ps : String} {af : Array Edge} {d : Nat} {v : Value} (hg : Gives P cx e Rs { dst := some d, op, type := t, pos := ps, after := af, guard := none } v)
    (hd : Nat.blt d cx.n = true) (h : Dr cx ((d, v) :: e) Rs P ops K rest) : Dr cx e Rs P ops K ({ dst := some d, op, type := t, pos := ps, after := af, guard := none } :: rest) := by
  intro a ha
  refine ⟨fun _ _ _ _ => trivial, ?_⟩
  rw [if_pos (by simp [Region.wanted])]
  refine ⟨v, fun w hw => ?_, h _ (ha.put hd v)⟩
  unfold Oper.quietAtIn
  rw [hg.2 a.eval w (fun x u _ hx => ha.eval hx) hw]
  exact ⟨rfl, rfl⟩

theorem Dr.gt {ops : Array Oper} {K : Act → World → Prop} {rest : List Oper} {d : Option Tmp} {op : Op} {t : TypeId} {ps : String} {af : Array Edge} {g : Nat × Bool} (hg : guardOk ops e { dst := d, op, type := t, pos := ps, after := af, guard := some g } = some true)
    (h : Dr cx e Rs P ops K ({ dst := d, op, type := t, pos := ps, after := af, guard := none } :: rest)) : Dr cx e Rs P ops K ({ dst := d, op, type := t, pos := ps, after := af, guard := some g } :: rest) := by
  intro a ha
  have h1 := h a ha
  have hwant := guardOk_spec ha hg
  refine ⟨fun _ _ _ _ => trivial, ?_⟩
  have h2 := h1.2
  rw [if_pos hwant]
  simp only [Region.wanted, if_true] at h2
  exact h2

theorem Dr.gf {ops : Array Oper} {K : Act → World → Prop} {rest : List Oper} {d : Nat} {op : Op} {t : TypeId} {ps : String} {af : Array Edge} {g : Nat × Bool} (hg : guardOk ops e { dst := some d, op, type := t, pos := ps, after := af, guard := some g } = some false)
    (hd : Nat.blt d cx.n = true) (h : Dr cx ((d, undef) :: e) Rs P ops K rest) : Dr cx e Rs P ops K ({ dst := some d, op, type := t, pos := ps, after := af, guard := some g } :: rest) := by
  intro a ha
  have hwant := guardOk_spec ha hg
  refine ⟨fun _ _ _ _ => trivial, ?_⟩
  rw [if_neg (by rw [hwant]; simp)]
  exact h _ (ha.put hd undef)

/-- Two ways of a Bool. -/
theorem Dr.sp {ops : Array Oper} {K : Act → World → Prop} {rest : List Oper} {op : Op} {t : TypeId} {ps : String} {af : Array Edge} {d : Nat} {p : Prop} {hp : Decidable p} (hg : Gives P cx e Rs { dst := some d, op, type := t, pos := ps, after := af, guard := none } (.bool (decide p)))
    (hd : Nat.blt d cx.n = true) (hT : p → Dr cx ((d, .bool true) :: e) Rs P ops K rest) (hF : ¬p → Dr cx ((d, .bool false) :: e) Rs P ops K rest) :
    Dr cx e Rs P ops K ({ dst := some d, op, type := t, pos := ps, after := af, guard := none } :: rest) := by
  by_cases h : p
  · exact Dr.st hg hd (by rw [decide_eq_true h]; exact hT h)
  · exact Dr.st hg hd (by rw [decide_eq_false h]; exact hF h)

theorem run_callOp {f : FuncId} {fn : Func} {l : List Operand} {vs : List Value} {ats : Array TypeId} {d : Option Tmp} {t : TypeId} {ps : String} {af : Array Edge} {gd : Option (Nat × Bool)} {n : Nat} {ds : List Deferred} (hf : P.funcs[f]? = some fn) (hb : fn.body.isSome = true)
    (hnm : (fn.name == "runtime.NumGoroutine") = false) (ha : evs e l = some vs) {a : Act} (haa : Ok n ds e a) (w : World) :
    (execOp a.eval ⟨d, .call { callee := .value (.func f), args := l.toArray, argTypes := ats }, t, ps, af, gd⟩).run P w = .ok (.enter f vs.toArray) w := by
  have e1 := evs_map ha a.eval (fun x u _ hx => haa.eval hx)
  have hbn : fn.body.isNone = false := by cases hbb : fn.body <;> simp_all
  simp only [execOp, resolve, Act.eval, Deferred.ofValue, Sem.run_bind, Sem.run_pure, Result.andThen_ok, invoke, callFunc, run_program, hf, hnm]
  simp [hbn, ← e1]

/-- A quiet call: it gives v whatever the world, and leaves all that is owned. -/
theorem Dr.call {ops : Array Oper} {K : Act → World → Prop} {rest : List Oper} {f : FuncId} {fn : Func} {l : List Operand} {vs : List Value} {ats : Array TypeId} {v : Value} {d : Nat} {t : TypeId} {ps : String} {af : Array Edge}
    (hf : P.funcs[f]? = some fn) (hb : fn.body.isSome = true) (hnm : (fn.name == "runtime.NumGoroutine") = false) (ha : evs e l = some vs)
    (hC : ∀ w, Sat cx.w0 cx.S0 Rs w → Calls P f vs.toArray w (fun en w' => en = .returned v ∧ Sat w [] [] w')) (hd : Nat.blt d cx.n = true) (h : Dr cx ((d, v) :: e) Rs P ops K rest) :
    Dr cx e Rs P ops K ({ dst := some d, op := .call { callee := .value (.func f), args := l.toArray, argTypes := ats }, type := t, pos := ps, after := af, guard := none } :: rest) := by
  intro a haa
  refine ⟨fun _ _ _ _ => trivial, ?_⟩
  rw [if_pos (by simp [Region.wanted])]
  refine ⟨v, fun w hw => ?_, h _ (haa.put hd v)⟩
  unfold Oper.quietAtIn
  rw [run_callOp hf hb hnm ha haa w]
  refine ⟨rfl, by simp, callsIn_FR.2 ((hC w hw).mono ?_)⟩
  rintro en w' ⟨he, hs⟩
  exact ⟨he, Sat.join (A := []) (A' := []) hw hs⟩

end quiet

/-! ### (B) Some write -/

/-- Nothing but going on. -/
def QF : Exit → Act → World → Prop := fun _ _ _ => False

theorem wpIn_QF {P : Program} {o : Oper} {a : Act} {w : World} {K : Act → World → Prop} {Q : Exit → Act → World → Prop} (h : o.wpIn (FR none) 0 P a w K QF) : o.wpIn (FR none) 0 P a w K Q := by
  refine ⟨fun _ _ => trivial, ?_⟩
  have h2 := h.2
  generalize (o.semAt (FR none).round a.eval).run P w = res at *
  cases res with
  | halt x w' => cases x <;> simp only [Oper.uponIn] at h2 ⊢ <;> exact h2.elim
  | ok n w' =>
    cases n <;> simp only [Oper.uponIn] at h2 ⊢ <;> first
      | exact h2
      | exact ⟨h2.1, h2.2.mono fun e w'' he => by
          cases e with
          | returned v => exact he
          | panicked c => exact (he : False).elim
          | outgrown => obtain ⟨_, _, hq⟩ := he; exact (hq : False).elim⟩

section loud
variable {P : Program} {ops : Array Oper}

def Closed (ops : Array Oper) (L : Array Bool) : Prop := ∀ j oj, ops[j]? = some oj → L.getD j false = true → ∀ e ∈ oj.after, Region.binds .any e = true → L.getD e.on false = true

theorem Closed.start (ops : Array Oper) (n : Nat) : Closed ops (Array.replicate n false) := by
  intro j oj _ hl
  rcases Nat.lt_or_ge j n with h | h <;> simp [h] at hl

theorem Closed.set {L : Array Bool} {i : Nat} (hc : Closed ops L) (hi : i ∈ Region.ready .any ops L) : Closed ops (L.setIfInBounds i true) := by
  obtain ⟨_, oi, hoi, hall⟩ := mem_ready.1 hi
  intro j oj hj hl e he hb
  by_cases hij : i = j
  · subst hij
    have : oj = oi := Option.some.inj (hj.symm.trans hoi)
    subst this
    exact getD_set_true (hall e he hb)
  · rw [getD_set_ne false hij] at hl
    exact getD_set_true (hc j oj hj hl e he hb)

/-- In whatever order, S being shown anew behind every operation. -/
def AnyS (P : Program) (ops : Array Oper) (S : Array Bool → World → Prop) (K : Act → World → Prop) : Nat → Array Bool → Act → World → Prop
  | 0, L, a, w => Region.ready .any ops L = [] ∧ K a w
  | f + 1, L, a, w => (Region.ready .any ops L = [] → K a w) ∧
    ∀ i ∈ Region.ready .any ops L, wpOpIn (FR none) 0 P ops QF i (fun a' w' => S (L.setIfInBounds i true) w' ∧ AnyS P ops S K f (L.setIfInBounds i true) a' w') a w

theorem wpOpIn_QF {i : Nat} {K : Act → World → Prop} {a : Act} {w : World} {Q : Exit → Act → World → Prop} (h : wpOpIn (FR none) 0 P ops QF i K a w) : wpOpIn (FR none) 0 P ops Q i K a w := by
  unfold wpOpIn at *
  split
  · rename_i ho; simpa [ho] using h
  · rename_i o ho
    simp only [ho] at h
    split
    · rename_i hw; simp only [hw, if_true] at h; exact wpIn_QF h
    · rename_i hw; simp only [hw] at h; exact h

theorem anyS_sound {S : Array Bool → World → Prop} {Q : Exit → Act → World → Prop} : ∀ (f : Nat) (L : Array Bool) (a : Act) (w : World), AnyS P ops S (Q .normal) f L a w → wpAnyIn (FR none) 0 P .any ops Q f L a w
  | 0, _, _, _, h => h
  | f + 1, _, _, _, h => ⟨h.1, fun i hi => wpOpIn_mono (fun a' w' h' => anyS_sound f _ a' w' h'.2) (wpOpIn_QF (h.2 i hi))⟩

/-- Operation i yields v wherever it may come. -/
def YS (P : Program) (ops : Array Oper) (S : Array Bool → World → Prop) (i : Nat) (oi : Oper) (v : Value) (a : Act) : Prop :=
  (Region.wanted oi (yielded ops a.tmps) = true ∧ ∀ L w, Closed ops L → L.getD i false = false → S L w → (execOp a.eval oi).run P w = .ok (.value v) w) ∨
  (Region.wanted oi (yielded ops a.tmps) = false ∧ v = undef)

theorem YS.of_same {S : Array Bool → World → Prop} {i : Nat} {o : Oper} {v : Value} {a a' : Act} (hy : YS P ops S i o v a) (he : execOp a'.eval o = execOp a.eval o)
    (hw : Region.wanted o (yielded ops a'.tmps) = Region.wanted o (yielded ops a.tmps)) : YS P ops S i o v a' := by
  unfold YS at *
  rw [he, hw]; exact hy

theorem YS.op {S : Array Bool → World → Prop} {i : Nat} {o : Oper} {v : Value} {a : Act} {L : Array Bool} {K : Act → World → Prop} {w : World} (hi : ops[i]? = some o) (hd : ∀ c, o.op ≠ .defer c) (hy : YS P ops S i o v a) (hc : Closed ops L) (hl : L.getD i false = false) (hS : S L w)
    (h : K (a.put o.dst v) w) : wpOpIn (FR none) 0 P ops QF i K a w := by
  unfold wpOpIn
  simp only [hi]
  rcases hy with ⟨hw, hv⟩ | ⟨hw, rfl⟩
  · simp only [hw, if_true]
    exact ⟨fun _ _ => trivial, by rw [semAt_eq _ _ _ hd, hv L w hc hl hS]; exact h⟩
  · simp only [hw, Bool.false_eq_true, if_false]
    exact ⟨fun _ _ => trivial, h⟩

theorem op_put {S : Array Bool → World → Prop} {i j : Nat} {oi oj : Oper} {v : Value} (hj : ops[j]? = some oj) (hap : oi.apart ops oj = true) (hs : Region.noSelect ops = true) (hi : ops[i]? = some oi)
    (hd : ∀ c, oj.op ≠ .defer c) {K : Act → World → Prop} {a : Act} {w : World} (hy : YS P ops S i oi v a) (h : wpOpIn (FR none) 0 P ops QF j K (a.put oi.dst v) w) :
    wpOpIn (FR none) 0 P ops QF j (fun a' w' => YS P ops S i oi v a' ∧ K (a'.put oi.dst v) w') a w := by
  have hsi := fun cs b => Region.noSelect_spec hs i oi cs b hi
  have hsj := fun cs b => Region.noSelect_spec hs j oj cs b hj
  obtain ⟨h1, h2, h3⟩ := Oper.apart_spec hap
  have keep : ∀ (b : Act), YS P ops S i oi v b → ∀ u, YS P ops S i oi v (b.put oj.dst u) := fun b hb u => hb.of_same (execOp_put oi hsi b oj.dst u h3) (wanted_put oi b oj.dst u h3)
  unfold wpOpIn at *
  simp only [hj] at *
  rw [wanted_put oj a oi.dst v h1] at h
  split
  · rename_i hw
    simp only [hw, if_true] at h
    refine ⟨fun _ _ => trivial, ?_⟩
    have h := h.2
    rw [semAt_eq _ _ _ hd, execOp_put oj hsj a oi.dst v h1] at h
    rw [semAt_eq _ _ _ hd]
    generalize (execOp a.eval oj).run P w = res at *
    cases res with
    | ok x w' =>
      cases x <;> simp only [Oper.uponIn] at h ⊢
      case value u => exact ⟨keep a hy u, by rw [← Act.put_comm a v u h2]; exact h⟩
      case skip => exact ⟨keep a hy _, by rw [← Act.put_comm a v undef h2]; exact h⟩
      case defer d =>
        refine ⟨keep { a with defers := d :: a.defers } (hy.of_same (a := a) rfl rfl) _, ?_⟩
        rw [← Act.put_comm _ v undef h2, ← Act.put_defers]
        exact h
      case enter f args =>
        refine ⟨h.1, CallsIn.mono h.2 fun e w'' he => ?_⟩
        cases e with
        | returned u => exact ⟨keep a hy u, by rw [← Act.put_comm a v u h2]; exact he⟩
        | panicked c => exact he
        | outgrown => exact he
      case row row args => exact ⟨h.1, RowsIn.mono h.2 fun u w'' he => ⟨keep a hy u, by rw [← Act.put_comm a v u h2]; exact he⟩⟩
      case round l f tmps assign body =>
        refine ⟨h.1, RoundIn.mono h.2 fun e w'' he => ?_⟩
        cases e with
        | returned u => exact ⟨keep a hy u, by rw [← Act.put_comm a v u h2]; exact he⟩
        | panicked c => exact he
        | outgrown => exact he
    | halt x w' => cases x <;> simp only [Oper.uponIn] at h ⊢ <;> exact h
  · rename_i hw
    simp only [hw] at h
    exact ⟨fun _ _ => trivial, keep a hy _, by rw [← Act.put_comm a v undef h2]; exact h.2⟩

/-- A quiet operation that may come up is taken first. -/
theorem anyS_first {S : Array Bool → World → Prop} {K : Act → World → Prop} {i : Nat} {oi : Oper} {v : Value} (hi : ops[i]? = some oi) (hs : Region.noSelect ops = true) (hn : noDefer ops = true) (hSi : ∀ L w, S (L.setIfInBounds i true) w ↔ S L w) :
    ∀ (f : Nat) (L : Array Bool) (a : Act) (w : World), Closed ops L →
      (∀ j oj, ops[j]? = some oj → j ≠ i → L.getD j true = false → (∀ e ∈ oj.after, Region.binds .any e = true → e.on ≠ i) → oi.apart ops oj = true) →
      i ∈ Region.ready .any ops L → YS P ops S i oi v a → S L w → AnyS P ops S K f (L.setIfInBounds i true) (a.put oi.dst v) w → AnyS P ops S K (f + 1) L a w := by
  have both : ∀ {L : Array Bool} {k : Nat}, L.getD k true = false → L.getD k false = false := fun {L k} h => by
    rcases Nat.lt_or_ge k L.size with h' | h'
    · simp [h'] at h ⊢; exact h
    · simp [Array.getElem?_eq_none h'] at h
  intro f
  induction f with
  | zero =>
    intro L a w hcl _ hr hy hS H
    refine ⟨fun h => (by rw [h] at hr; cases hr), fun j hj => ?_⟩
    by_cases hji : j = i
    · subst hji; exact hy.op hi (noDefer_spec hn hi) hcl (both (mem_ready.1 hr).1) hS ⟨(hSi _ _).2 hS, H⟩
    · have := ready_mono hj hji
      rw [H.1] at this
      cases this
  | succ f ih =>
    intro L a w hcl hfree hr hy hS H
    refine ⟨fun h => (by rw [h] at hr; cases hr), fun j hj => ?_⟩
    by_cases hji : j = i
    · subst hji; exact hy.op hi (noDefer_spec hn hi) hcl (both (mem_ready.1 hr).1) hS ⟨(hSi _ _).2 hS, H⟩
    · have h1 := H.2 j (ready_mono hj hji)
      obtain ⟨hjun, oj, hoj, hall⟩ := mem_ready.1 hj
      have hnot : ∀ e ∈ oj.after, Region.binds .any e = true → e.on ≠ i := fun e he hb heq => by
        have h2 := hall e he hb
        rw [heq, both (mem_ready.1 hr).1] at h2
        cases h2
      have h2 := op_put hoj (hfree j oj hoj hji hjun hnot) hs hi (noDefer_spec hn hoj) hy h1
      have hfree' : ∀ k ok, ops[k]? = some ok → k ≠ i → (L.setIfInBounds j true).getD k true = false → (∀ e ∈ ok.after, Region.binds .any e = true → e.on ≠ i) → oi.apart ops ok = true := fun k ok hk hki hun hno => by
        refine hfree k ok hk hki ?_ hno
        by_cases hjk : j = k
        · subst hjk; exact hjun
        · rw [getD_set_ne true hjk] at hun; exact hun
      refine wpOpIn_mono (fun a' w' h3 => ?_) h2
      have hcomm : (L.setIfInBounds i true).setIfInBounds j true = (L.setIfInBounds j true).setIfInBounds i true := Array.setIfInBounds_comm _ _ (Ne.symm hji)
      have hS' : S (L.setIfInBounds j true) w' := by have := h3.2.1; rw [hcomm] at this; exact (hSi _ _).1 this
      refine ⟨hS', ih (L.setIfInBounds j true) a' w' (hcl.set hj) hfree' (ready_mono hr (Ne.symm hji)) h3.1 hS' ?_⟩
      rw [← hcomm]
      exact h3.2.2

/-- Does j wait for i, at some steps? -/
def precedes (ops : Array Oper) (i : Nat) : Nat → Nat → Bool
  | 0, _ => false
  | f + 1, j => match ops[j]? with
    | some oj => oj.after.any fun e => Region.binds .any e && (e.on == i || precedes ops i f e.on)
    | none => false

theorem precedes_spec {i : Nat} : ∀ (f j : Nat) (L : Array Bool), precedes ops i f j = true → Closed ops L → L.getD j false = true → L.getD i false = true := by
  intro f
  induction f with
  | zero => intro j L h; simp [precedes] at h
  | succ f ih =>
    intro j L h hc hl
    unfold precedes at h
    split at h
    · rename_i oj hj
      obtain ⟨e, he, hb⟩ := Array.any_eq_true'.1 h
      simp only [Bool.and_eq_true, Bool.or_eq_true, beq_iff_eq] at hb
      have h1 := hc j oj hj hl e he hb.1
      rcases hb.2 with h2 | h2
      · rw [h2] at h1; exact h1
      · exact ih e.on L h2 hc h1
    · cases h

end loud

/-- What stays true in a region that writes: RsQ always; Rs0, as long as none of X has come up. -/
structure Rg where
  RsQ : List Res
  Rs0 : List Res
  X : List Nat

def Rg.S (g : Rg) (cx : Cx) (L : Array Bool) (w : World) : Prop := Sat cx.w0 cx.S0 g.RsQ w ∧ ((g.X.all fun k => !L.getD k false) = true → Sat cx.w0 cx.S0 g.Rs0 w)

section user
variable {cx : Cx} {e : Env} {Rs : List Res} {r : Option Nat} {P : Program} {Q : Exit → Act → World → Prop} {K : Act → World → Prop} {ops : Array Oper} {g : Rg}

/-- The state of a walk through such a region: L has come up. -/
def An (cx : Cx) (e : Env) (Rs : List Res) (P : Program) (ops : Array Oper) (g : Rg) (K : Act → World → Prop) (f : Nat) (L : List Bool) : Prop :=
  Closed ops L.toArray ∧ noDefer ops = true ∧ Region.noSelect ops = true ∧ At cx e Rs (fun a w => g.S cx L.toArray w ∧ AnyS P ops (g.S cx) K f L.toArray a w)

/-- What is to be shown, once the closing facts are known. -/
def An' (cx : Cx) (e : Env) (Rs : List Res) (P : Program) (ops : Array Oper) (g : Rg) (K : Act → World → Prop) (f : Nat) (L : List Bool) : Prop :=
  Closed ops L.toArray → At cx e Rs (fun a w => g.S cx L.toArray w → AnyS P ops (g.S cx) K f L.toArray a w)

theorem regionL {id : Nat} {l : List Oper} (g : Rg) {B : List Res} (hm : P.follows .mixedOrders = true) (hn : noDefer l.toArray = true) (hQ : Split g.RsQ Rs B) {B' : List Res} (h0 : Split g.Rs0 Rs B')
    (h : An' cx e Rs P l.toArray g (Q .normal) l.length (List.replicate l.length false)) : At cx e Rs ((Code.region id l.toArray true).wpIn (FR r) 0 P Q) := by
  intro a w ha hw
  refine region_any hm hn (anyS_sound (S := g.S cx) _ _ _ _ ?_)
  have hst : g.S cx (List.replicate l.length false).toArray { w with drawn := w.drawn + 1 } :=
    ⟨(((hw.drew _).split hQ).perm List.perm_append_comm).dropA B, fun _ => (((hw.drew _).split h0).perm List.perm_append_comm).dropA B'⟩
  have := h (by simpa using Closed.start l.toArray l.length) a _ ha (hw.drew (w.drawn + 1)) hst
  simpa using this

def setAt (L : List Bool) (i : Nat) : List Bool := L.set i true

/-- A quiet operation, reading what stays true throughout (or only itself). -/
theorem An'.tk {f : Nat} {L L' : List Bool} (i : Nat) {d : Nat} {op : Op} {t : TypeId} {ps : String} {af : Array Edge} {gd : Option (Nat × Bool)} {v : Value} (hi : ops[i]? = some { dst := some d, op, type := t, pos := ps, after := af, guard := gd })
    (hn : noDefer ops = true) (hs : Region.noSelect ops = true) (hf : Region.free .any ops L.toArray i = true) (hr : (Region.ready .any ops L.toArray).contains i = true) (hX : g.X.contains i = false)
    (hw : guardOk ops e { dst := some d, op, type := t, pos := ps, after := af, guard := gd } = some true)
    (hg : Gives P cx e g.RsQ { dst := some d, op, type := t, pos := ps, after := af, guard := gd } v) (hd : Nat.blt d cx.n = true) (hL : L.set i true = L') (h : An' cx ((d, v) :: e) Rs P ops g K f L') : An' cx e Rs P ops g K (f + 1) L := by
  subst hL
  intro hcl a w ha hw' hS
  have hr' : i ∈ Region.ready .any ops L.toArray := by simpa using hr
  have hset : (L.set i true).toArray = L.toArray.setIfInBounds i true := by simp
  have hSi : ∀ (M : Array Bool) (w : World), g.S cx (M.setIfInBounds i true) w ↔ g.S cx M w := fun M w => by
    have : (g.X.all fun k => !(M.setIfInBounds i true).getD k false) = g.X.all fun k => !M.getD k false := by
      rw [Bool.eq_iff_iff]
      simp only [List.all_eq_true]
      constructor <;> intro hh k hk <;> have := hh k hk <;> have hne : i ≠ k := (fun he => by subst he; simp at hX; exact hX hk)
      · rwa [getD_set_ne false hne] at this
      · rwa [getD_set_ne false hne]
    unfold Rg.S
    rw [this]
  refine anyS_first hi hs hn hSi f L.toArray a w hcl (Region.free_spec hi hf) hr' (.inl ⟨guardOk_spec ha hw, fun M w2 _ _ hS2 => hg.2 a.eval w2 (fun x u _ hx => ha.eval hx) hS2.1⟩) hS ?_
  have := h (by rw [hset]; exact hcl.set hr') _ w (ha.put hd v) hw' (by rw [hset]; exact (hSi _ _).2 hS)
  rw [hset] at this
  exact this

/-- A quiet operation that reads what is written later on: it comes ahead of all of X. -/
theorem An'.tk0 {f : Nat} {L L' : List Bool} (i : Nat) {d : Nat} {op : Op} {t : TypeId} {ps : String} {af : Array Edge} {gd : Option (Nat × Bool)} {v : Value} (hi : ops[i]? = some { dst := some d, op, type := t, pos := ps, after := af, guard := gd })
    (hn : noDefer ops = true) (hs : Region.noSelect ops = true) (hf : Region.free .any ops L.toArray i = true) (hr : (Region.ready .any ops L.toArray).contains i = true) (hX : g.X.contains i = false) (hp : (g.X.all fun k => precedes ops i ops.size k) = true)
    (hw : guardOk ops e { dst := some d, op, type := t, pos := ps, after := af, guard := gd } = some true)
    (hg : Gives P cx e g.Rs0 { dst := some d, op, type := t, pos := ps, after := af, guard := gd } v) (hd : Nat.blt d cx.n = true) (hL : L.set i true = L') (h : An' cx ((d, v) :: e) Rs P ops g K f L') : An' cx e Rs P ops g K (f + 1) L := by
  subst hL
  intro hcl a w ha hw' hS
  have hr' : i ∈ Region.ready .any ops L.toArray := by simpa using hr
  have hset : (L.set i true).toArray = L.toArray.setIfInBounds i true := by simp
  have hSi : ∀ (M : Array Bool) (w : World), g.S cx (M.setIfInBounds i true) w ↔ g.S cx M w := fun M w => by
    have : (g.X.all fun k => !(M.setIfInBounds i true).getD k false) = g.X.all fun k => !M.getD k false := by
      rw [Bool.eq_iff_iff]
      simp only [List.all_eq_true]
      constructor <;> intro hh k hk <;> have := hh k hk <;> have hne : i ≠ k := (fun he => by subst he; simp at hX; exact hX hk)
      · rwa [getD_set_ne false hne] at this
      · rwa [getD_set_ne false hne]
    unfold Rg.S
    rw [this]
  refine anyS_first hi hs hn hSi f L.toArray a w hcl (Region.free_spec hi hf) hr' (.inl ⟨guardOk_spec ha hw, fun M w2 hcM hun hS2 => hg.2 a.eval w2 (fun x u _ hx => ha.eval hx) (hS2.2 ?_)⟩) hS ?_
  · rw [List.all_eq_true] at hp ⊢
    intro k hk
    cases hl : M.getD k false with
    | false => rfl
    | true => have := precedes_spec _ _ _ (hp k hk) hcM hl; rw [this] at hun; cases hun
  have := h (by rw [hset]; exact hcl.set hr') _ w (ha.put hd v) hw' (by rw [hset]; exact (hSi _ _).2 hS)
  rw [hset] at this
  exact this

/-- A guarded operation whose guard says no. -/
theorem An'.no {f : Nat} {L L' : List Bool} (i : Nat) {d : Nat} {op : Op} {t : TypeId} {ps : String} {af : Array Edge} {gd : Option (Nat × Bool)} (hi : ops[i]? = some { dst := some d, op, type := t, pos := ps, after := af, guard := gd })
    (hn : noDefer ops = true) (hs : Region.noSelect ops = true) (hf : Region.free .any ops L.toArray i = true) (hr : (Region.ready .any ops L.toArray).contains i = true) (hX : g.X.contains i = false)
    (hw : guardOk ops e { dst := some d, op, type := t, pos := ps, after := af, guard := gd } = some false)
    (hd : Nat.blt d cx.n = true) (hL : L.set i true = L') (h : An' cx ((d, undef) :: e) Rs P ops g K f L') : An' cx e Rs P ops g K (f + 1) L := by
  subst hL
  intro hcl a w ha hw' hS
  have hr' : i ∈ Region.ready .any ops L.toArray := by simpa using hr
  have hset : (L.set i true).toArray = L.toArray.setIfInBounds i true := by simp
  have hSi : ∀ (M : Array Bool) (w : World), g.S cx (M.setIfInBounds i true) w ↔ g.S cx M w := fun M w => by
    have : (g.X.all fun k => !(M.setIfInBounds i true).getD k false) = g.X.all fun k => !M.getD k false := by
      rw [Bool.eq_iff_iff]
      simp only [List.all_eq_true]
      constructor <;> intro hh k hk <;> have := hh k hk <;> have hne : i ≠ k := (fun he => by subst he; simp at hX; exact hX hk)
      · rwa [getD_set_ne false hne] at this
      · rwa [getD_set_ne false hne]
    unfold Rg.S
    rw [this]
  refine anyS_first hi hs hn hSi f L.toArray a w hcl (Region.free_spec hi hf) hr' (.inr ⟨guardOk_spec ha hw, rfl⟩) hS ?_
  have := h (by rw [hset]; exact hcl.set hr') _ w (ha.put hd undef) hw' (by rw [hset]; exact (hSi _ _).2 hS)
  rw [hset] at this
  exact this

/-- Whichever of those that may come up comes up. -/
theorem An'.all {f : Nat} {L : List Bool} (rs : List Nat) (hr : Region.ready .any ops L.toArray = rs) (hne : rs ≠ [])
    (h : ∀ i ∈ rs, ∃ o, ops[i]? = some o ∧ o.guard = none ∧ OpAt cx e Rs none P QF o (fun a' w' => g.S cx (L.set i true).toArray w' ∧ (Closed ops (L.set i true).toArray → AnyS P ops (g.S cx) K f (L.set i true).toArray a' w'))) :
    An' cx e Rs P ops g K (f + 1) L := by
  intro hcl a w ha hw hS
  refine ⟨fun h0 => absurd (hr ▸ h0) hne, fun i hi => ?_⟩
  obtain ⟨o, ho, hgd, hop⟩ := h i (hr ▸ hi)
  have hset : (L.set i true).toArray = L.toArray.setIfInBounds i true := by simp
  unfold wpOpIn
  simp only [ho, Region.wanted, hgd, if_true]
  refine Oper.wpIn_mono (fun a' w' h3 => ?_) (hop a w ha hw)
  rw [hset] at h3
  exact ⟨h3.1, h3.2 (hcl.set hi)⟩

/-- One alone may come up. -/
theorem An'.one {f : Nat} {L : List Bool} (i : Nat) {o : Oper} (hr : Region.ready .any ops L.toArray = [i]) (ho : ops[i]? = some o) (hgd : o.guard = none)
    (h : OpAt cx e Rs none P QF o (fun a' w' => g.S cx (L.set i true).toArray w' ∧ (Closed ops (L.set i true).toArray → AnyS P ops (g.S cx) K f (L.set i true).toArray a' w'))) : An' cx e Rs P ops g K (f + 1) L :=
  An'.all [i] hr (by simp) fun j hj => by
    have : j = i := by simpa using hj
    subst this
    exact ⟨o, ho, hgd, h⟩

/-- Behind an operation that was carried out: nothing of X has come up yet. -/
theorem An'.on0 {f : Nat} {L L' : List Bool} {i : Nat} {B B' : List Res} (hQ : Split g.RsQ Rs B) (h0 : Split g.Rs0 Rs B') (hL : L.set i true = L') (h : An' cx e Rs P ops g K f L') :
    At cx e Rs (fun a' w' => g.S cx (L.set i true).toArray w' ∧ (Closed ops (L.set i true).toArray → AnyS P ops (g.S cx) K f (L.set i true).toArray a' w')) := by
  subst hL
  intro a w ha hw
  have hS : g.S cx (L.set i true).toArray w := ⟨((hw.split hQ).perm List.perm_append_comm).dropA B, fun _ => ((hw.split h0).perm List.perm_append_comm).dropA B'⟩
  exact ⟨hS, fun hc => h hc a w ha hw hS⟩

/-- Behind an operation of X. -/
theorem An'.onX {f : Nat} {L L' : List Bool} {i : Nat} {B : List Res} (hQ : Split g.RsQ Rs B) (hX : (g.X.all fun k => !L'.toArray.getD k false) = false) (hL : L.set i true = L') (h : An' cx e Rs P ops g K f L') :
    At cx e Rs (fun a' w' => g.S cx (L.set i true).toArray w' ∧ (Closed ops (L.set i true).toArray → AnyS P ops (g.S cx) K f (L.set i true).toArray a' w')) := by
  subst hL
  intro a w ha hw
  have hS : g.S cx (L.set i true).toArray w := ⟨((hw.split hQ).perm List.perm_append_comm).dropA B, fun hh => by rw [hX] at hh; cases hh⟩
  exact ⟨hS, fun hc => h hc a w ha hw hS⟩

/-- All have come up. -/
theorem An'.fin {f : Nat} {L : List Bool} (hr : Region.ready .any ops L.toArray = []) (h : At cx e Rs K) : An' cx e Rs P ops g K f L := by
  intro _ a w ha hw _
  cases f with
  | zero => exact ⟨hr, h a w ha hw⟩
  | succ f => exact ⟨fun _ => h a w ha hw, by rw [hr]; simp⟩

end user
end Go.Pm

/-! From E7 -/
/- The engine, part 7: a range over a function. -/
namespace Go.Pm
open Go.RowKit

/-- One call of yield: it comes to a round, which hands back a Bool. -/
def YieldCall (P : Program) (lp : Nat) (vs : List Value) (w : World) (R : Bool → World → Prop) : Prop :=
  ∃ fn tmps assign body, (Instr.yield lp vs.toArray).run P w = .ok (.round lp fn tmps assign body) w ∧
    RoundIn (FR none) 0 P lp fn tmps assign body w (fun en w' => ∃ b, en = .returned (.bool b) ∧ R b w')

section
variable {cx : Cx} {e : Env} {Rs : List Res} {r : Option Nat} {P : Program} {Q : Exit → Act → World → Prop} {K : Act → World → Prop}
  {d : Nat} {t : TypeId} {ps : String} {af : Array Edge} {gd : Option (Nat × Bool)}

/-- A call of yield in the iterator's text. -/
theorem o_yield {x : Operand} {lp : Nat} {l : List Operand} {vs : List Value} {ats : Array TypeId} {A B : List Res} {β : Type} {I : β → Bool → Prop} {A' : β → List Res} (hx : ev e x = some (.func (.yield lp) #[] #[])) (ha : evs e l = some vs) (hs : Split A Rs B)
    (hY : ∀ w, Sat cx.w0 cx.S0 Rs w → Sat w (fps A) A w → YieldCall P lp vs w (fun b w' => ∃ s, I s b ∧ Sat w (fps A) (A' s) w')) (hd : Nat.blt d cx.n = true)
    (h : ∀ s b, I s b → At cx ((d, .bool b) :: e) (A' s ++ B) K) : OpAt cx e Rs r P Q ⟨some d, .call { callee := .value x, args := l.toArray, argTypes := ats }, t, ps, af, gd⟩ K :=
  OpAt.of_run nofun fun a w haa hw => by
    have e1 := evs_map ha a.eval (fun x u _ hx => haa.eval hx)
    obtain ⟨fn, tmps, assign, body, hy, hR⟩ := hY w hw (hw.split hs).hand
    have e2 : l.toArray.map a.eval = vs.toArray := by rw [← e1]; simp
    have hrun : (execOp a.eval ⟨some d, .call { callee := .value x, args := l.toArray, argTypes := ats }, t, ps, af, gd⟩).run P w = .ok (.round lp fn tmps assign body) w := by
      simp only [execOp, resolve, haa.eval hx, Deferred.ofValue, Sem.run_bind, Sem.run_pure, Result.andThen_ok, invoke, e2]
      simpa using hy
    show Oper.uponIn (FR r) 0 P _ a K Q _
    rw [hrun, Oper.uponIn_round]
    refine ⟨by simp, ?_⟩
    have hR' : RoundIn (FR r) 0 P lp fn tmps assign body w (fun en w' => ∃ b, en = .returned (.bool b) ∧ ∃ s, I s b ∧ Sat w (fps A) (A' s) w') := hR
    refine hR'.mono ?_
    rintro en w' ⟨b, rfl, s, hI, hsat⟩
    exact h s b hI _ w' (haa.put hd _) ((hw.split hs).join hsat)

theorem foldl_tmpsL (ps : List Tmp) : ∀ (vs : List Value) (e : Env) (T : Array Value) (n : Nat), ps.length = vs.length → (∀ p ∈ ps, p < n) → Ok n [] e ⟨T, []⟩ →
    Ok n [] ((ps.zip vs).reverse ++ e) ⟨(ps.zip vs).foldl (fun tmps (x : Tmp × Value) => tmps.setIfInBounds x.1 x.2) T, []⟩ := by
  induction ps with
  | nil => intro vs e T n hl _ h; cases vs with
    | nil => simpa using h
    | cons v vs => simp at hl
  | cons p ps ih =>
    intro vs e T n hl hlt h
    cases vs with
    | nil => simp at hl
    | cons v vs =>
      have hp : Ok n [] ((p, v) :: e) ⟨T.setIfInBounds p v, []⟩ := h.put (by simpa using hlt p (by simp)) v
      have := ih vs ((p, v) :: e) (T.setIfInBounds p v) n (by simpa using hl) (fun q hq => hlt q (by simp [hq])) hp
      simpa using this
theorem foldl_tmps (ps : List Tmp) (vs : List Value) (e : Env) (T : Array Value) (n : Nat) (hl : ps.length = vs.length) (hlt : ∀ p ∈ ps, p < n) (h : Ok n [] e ⟨T, []⟩) :
    Ok n [] ((ps.zip vs).reverse ++ e) ⟨(ps.toArray.zip vs.toArray).foldl (fun tmps (p, v) => tmps.setIfInBounds p v) T, []⟩ := by
  have he : (ps.toArray.zip vs.toArray).foldl (fun tmps (p, v) => tmps.setIfInBounds p v) T = (ps.zip vs).foldl (fun tmps (x : Tmp × Value) => tmps.setIfInBounds x.1 x.2) T := by
    rw [← Array.foldl_toList]; simp
  rw [he]
  exact foldl_tmpsL ps vs e T n hl hlt h

/-- A round: the assignments to the loop's left sides, then the body, in a frame that holds what was known where the loop began. -/
theorem yield_walk {lp n : Nat} {fn : FuncId} {T : Array Value} {psl : List Tmp} {assign body : Code} {D : Nat} {vs : List Value} {A : List Res} {w : World} {R : Bool → World → Prop} {ds : List Deferred}
    (hs : Sat w (fps (objR lp (.loop ⟨.ready, none, fn, T, psl.toArray, assign, body, D⟩) :: A)) (objR lp (.loop ⟨.ready, none, fn, T, psl.toArray, assign, body, D⟩) :: A) w)
    (hT : Ok n ds e ⟨T, ds⟩) (hl : psl.length = vs.length) (hlt : ∀ p ∈ psl, p < n)
    (h : At ⟨n, [], w, fps (objR lp (.loop ⟨.ready, none, fn, T, psl.toArray, assign, body, D⟩) :: A)⟩ ((psl.zip vs).reverse ++ e) (objR lp (.loop ⟨.ready, none, fn, T, psl.toArray, assign, body, D⟩) :: A)
      (assign.wpIn (FR (some lp)) 0 P (Exit.then (fun a₁ w₁ => ∃ w₂, (Instr.beginRound lp).run P w₁ = .ok () w₂ ∧ body.wpIn (FR (some lp)) 0 P (roundPost P lp (fun en w' => ∃ b, en = .returned (.bool b) ∧ R b w')) a₁ w₂) (fun _ _ _ => False)))) :
    YieldCall P lp vs w R := by
  have hlp : w.heap[lp]? = some (.loop ⟨.ready, none, fn, T, psl.toArray, assign, body, D⟩) := hs.holds (objR lp (.loop ⟨.ready, none, fn, T, psl.toArray, assign, body, D⟩)) (by simp)
  have hy := run_yield (P := P) (args := vs.toArray) hlp (by simp [hl])
  have hT' : Ok n [] e ⟨T, []⟩ := ⟨hT.size, rfl, hT.get⟩
  refine ⟨fn, _, assign, body, hy, roundIn_of_wpIn (F := FR none) trivial ?_⟩
  exact h _ w (foldl_tmps psl vs e T n hl hlt hT') hs

theorem objR_put {b : Nat} {o o' : Obj} {B : List Res} {w0 w : World} {S0 : List Nat} (hw : Sat w0 S0 (objR b o :: B) w) : Sat w0 S0 (objR b o' :: B) (w.putObj b o') := by
  have hb : w.heap[b]? = some o := hw.holds (objR b o) (by simp)
  exact hw.upd (R' := objR b o') rfl rfl rfl rfl (by simp) (fun k hk => World.putObj_heap_other (by simpa [objR] using hk)) (World.putObj_heap_same (Array.getElem?_eq_some_iff.1 hb).1)

/-- The body begins. -/
theorem begin_round {lp : Nat} {L : Loop} {B : List Res} {body : Code} (hk : Pick (objR lp (.loop L)) Rs B) (hr : L.state = .ready) {Q : Exit → Act → World → Prop}
    (h : At cx e (objR lp (.loop { L with state := .busy }) :: B) (body.wpIn (FR (some lp)) 0 P Q)) :
    At cx e Rs (fun a₁ w₁ => ∃ w₂, (Instr.beginRound lp).run P w₁ = .ok () w₂ ∧ body.wpIn (FR (some lp)) 0 P Q a₁ w₂) := by
  intro a w ha hw
  have hlp : w.heap[lp]? = some (.loop L) := hw.get hk
  exact ⟨_, run_beginRound hlp hr, h _ _ ha (objR_put (hw.pick hk))⟩

/-- The round ends: on to the next one. -/
theorem round_on {lp : Nat} {L : Loop} {B : List Res} {R : Bool → World → Prop} (hk : Pick (objR lp (.loop L)) Rs B) (h : ∀ w, Sat cx.w0 cx.S0 (objR lp (.loop { L with state := .ready, pending := none }) :: B) w → R true w) :
    At cx e Rs (roundPost P lp (fun en w' => ∃ b, en = .returned (.bool b) ∧ R b w') .normal) := by
  intro a w _ hw
  have hlp : w.heap[lp]? = some (.loop L) := hw.get hk
  exact ⟨_, _, run_endRound none hlp, true, rfl, h _ (objR_put (hw.pick hk))⟩

/-- The round ends by a jump out of the loop. -/
theorem round_exit {lp id : Nat} {L : Loop} {B : List Res} {R : Bool → World → Prop} (hk : Pick (objR lp (.loop L)) Rs B) (h : ∀ w, Sat cx.w0 cx.S0 (objR lp (.loop { L with state := .done, pending := some (.exit id) }) :: B) w → R false w) :
    At cx e Rs (roundPost P lp (fun en w' => ∃ b, en = .returned (.bool b) ∧ R b w') (.exit id)) := by
  intro a w _ hw
  have hlp : w.heap[lp]? = some (.loop L) := hw.get hk
  exact ⟨_, _, run_endRound (some (.exit id)) hlp, false, rfl, h _ (objR_put (hw.pick hk))⟩

theorem round_ret {lp : Nat} {L : Loop} {B : List Res} {R : Bool → World → Prop} (hk : Pick (objR lp (.loop L)) Rs B) (h : ∀ w, Sat cx.w0 cx.S0 (objR lp (.loop { L with state := .done, pending := some .ret }) :: B) w → R false w) :
    At cx e Rs (roundPost P lp (fun en w' => ∃ b, en = .returned (.bool b) ∧ R b w') .ret) := by
  intro a w _ hw
  have hlp : w.heap[lp]? = some (.loop L) := hw.get hk
  exact ⟨_, _, run_endRound (some .ret) hlp, false, rfl, h _ (objR_put (hw.pick hk))⟩

abbrev markOf (D : Nat) : Deferred := { target := .collected D, args := #[] }

/-- The statement. -/
theorem rangeF {β : Type} {g : Operand} {psl : List Tmp} {assign body : Code} {gf : FuncId} {fnn : Func} {lb : List Value} {I : β → Prop} {stt : β → LoopState} {pend : β → Option Code} {RR : β → List Res} (hg : ev e g = some (.func (.func gf) #[] lb.toArray))
    (hf : P.funcs[gf]? = some fnn) (hb : fnn.body.isSome = true) (hnm : (fnn.name == "runtime.NumGoroutine") = false)
    (h : ∀ (a : Act) (fn : FuncId) (D lp : Nat) (w : World), Ok cx.n cx.ds e a → Sat cx.w0 cx.S0 (objR lp (.loop ⟨.ready, none, fn, a.tmps, psl.toArray, assign, body, D⟩) :: objR D (.deferred (some [])) :: Rs) w →
      Calls P gf (.func (.yield lp) #[] #[] :: lb).toArray w (fun en w' => (∃ v, en = .returned v) ∧ ∃ x, I x ∧ Sat cx.w0 cx.S0 (objR lp (.loop ⟨stt x, pend x, fn, a.tmps, psl.toArray, assign, body, D⟩) :: objR D (.deferred (some [])) :: RR x) w'))
    (hst : ∀ x, I x → stt x ≠ .busy)
    (hgo : ∀ D x, I x → pend x = none → At { cx with ds := markOf D :: cx.ds } e (objR D (.deferred (some [])) :: RR x) (Q .normal))
    (hjump : ∀ D x c, I x → pend x = some c → At { cx with ds := markOf D :: cx.ds } e (objR D (.deferred (some [])) :: RR x) (c.wpIn (FR none) 0 P Q)) :
    At cx e Rs ((Code.rangeFunc g psl.toArray assign body).wpIn (FR none) 0 P Q) := by
  intro a w ha hw
  refine wpIn_rangeFunc fun fn _ => ?_
  have hbn : fnn.body.isNone = false := by cases hbb : fnn.body <;> simp_all
  have h1 : Sat cx.w0 cx.S0 (objR w.heap.size (.deferred (some [])) :: Rs) (w.alloc (.deferred (some []))) :=
    hw.new' (R := objR w.heap.size (.deferred (some []))) rfl rfl rfl rfl (by simp) (fun k (hk : k < w.heap.size) => Below.heap_alloc w _ k hk) (heap_alloc_new w _)
  have h2 : Sat cx.w0 cx.S0 (objR (w.heap.size + 1) (.loop ⟨.ready, none, fn, a.tmps, psl.toArray, assign, body, w.heap.size⟩) :: objR w.heap.size (.deferred (some [])) :: Rs)
      ((w.alloc (.deferred (some []))).alloc (.loop ⟨.ready, none, fn, a.tmps, psl.toArray, assign, body, w.heap.size⟩)) := by
    have := h1.new' (R := objR (w.heap.size + 1) (.loop ⟨.ready, none, fn, a.tmps, psl.toArray, assign, body, w.heap.size⟩)) (w' := (w.alloc (.deferred (some []))).alloc (.loop ⟨.ready, none, fn, a.tmps, psl.toArray, assign, body, w.heap.size⟩))
      (by simp [objR]) rfl rfl rfl (by simp) (fun k (hk : k < (w.alloc (.deferred (some []))).heap.size) => Below.heap_alloc _ _ k hk) (by have := heap_alloc_new (w.alloc (.deferred (some []))) (.loop ⟨.ready, none, fn, a.tmps, psl.toArray, assign, body, w.heap.size⟩); rwa [World.size_alloc] at this)
    exact this
  obtain ⟨W2, hW2⟩ : ∃ W2, (w.alloc (.deferred (some []))).alloc (.loop ⟨.ready, none, fn, a.tmps, psl.toArray, assign, body, w.heap.size⟩) = W2 := ⟨_, rfl⟩
  rw [hW2] at h2
  refine ⟨w.heap.size + 1, [markOf w.heap.size], W2, { target := .fn (.func gf) lb.toArray, args := #[.func (.yield (w.heap.size + 1)) #[] #[]] }, W2, gf, (.func (.yield (w.heap.size + 1)) #[] #[] :: lb).toArray, W2,
    by rw [← hW2]; exact run_enterLoop_outer _ _ _ _ _, ?_, fun _ _ => trivial, ?_, by simp, ?_⟩
  · have h3 : a.eval (.const (.func (.yield (w.heap.size + 1)) #[] #[])) = .func (.yield (w.heap.size + 1)) #[] #[] := rfl
    simp [resolve, ha.eval hg, Deferred.ofValue, h3]
  · have hne : ¬ fnn.name = "runtime.NumGoroutine" := by simpa using hnm
    have hbs : ¬ fnn.body = none := fun h0 => by simp [h0] at hb
    simp [invoke, callFunc, hf, hne, hbs]
  · refine callsIn_FR.2 ((h a fn w.heap.size (w.heap.size + 1) _ ha h2).mono ?_)
    rintro en w' ⟨⟨v, rfl⟩, x, hI, hsat⟩
    have hlp := hsat.holds (objR (w.heap.size + 1) (.loop ⟨stt x, pend x, fn, a.tmps, psl.toArray, assign, body, w.heap.size⟩)) (by simp)
    have hend := run_endLoop (P := P) (w := w') hlp (hst x hI)
    refine ⟨pend x, _, hend, ?_⟩
    have hsat' := (objR_put (o' := .loop ⟨.exhausted, pend x, fn, a.tmps, psl.toArray, assign, body, w.heap.size⟩) hsat).drop
    have ha' : Ok cx.n (markOf w.heap.size :: cx.ds) e { a with defers := [markOf w.heap.size] ++ a.defers } := ⟨ha.size, by simp [ha.defs], ha.get⟩
    cases hp : pend x with
    | none => rw [hp] at hsat'; exact hgo w.heap.size x hI hp { a with defers := [markOf w.heap.size] ++ a.defers } _ ha' hsat'
    | some c => rw [hp] at hsat'; exact hjump w.heap.size x c hI hp { a with defers := [markOf w.heap.size] ++ a.defers } _ ha' hsat'

end

section leave
variable {cx : Cx} {e : Env} {Rs : List Res} {P : Program} {fn : Func} {R : Ending → World → Prop}

/-- Leaving a function that has no mark (yet). -/
theorem retM0 {vf : Act → World → Value} (hds : cx.ds = []) (hv : ∀ a w, Ok cx.n cx.ds e a → Sat cx.w0 cx.S0 Rs w → (results fn a.tmps).run P w = .ok (vf a w) w ∧ R (.returned (vf a w)) w) : At cx e Rs (bodyPostM (FR none) 0 P fn R .ret) := by
  intro a w ha hw
  have h := hv a w ha hw
  show LeavesInM (FR none) 0 P fn a.tmps R a.defers .returning w
  rw [ha.defs, hds]
  exact ⟨_, h.1, h.2⟩

/-- Leaving a function that ranged over a function once. -/
theorem retM1 {D : Nat} {B : List Res} {vf : Act → World → Value} (hds : cx.ds = [markOf D]) (hk : Pick (objR D (.deferred (some []))) Rs B)
    (hv : ∀ a w, Ok cx.n cx.ds e a → Sat cx.w0 cx.S0 B w → (results fn a.tmps).run P w = .ok (vf a w) w ∧ R (.returned (vf a w)) w) : At cx e Rs (bodyPostM (FR none) 0 P fn R .ret) := by
  intro a w ha hw
  have hD : w.heap[D]? = some (.deferred (some [])) := hw.get hk
  show LeavesInM (FR none) 0 P fn a.tmps R a.defers .returning w
  rw [ha.defs, hds]
  have hsat := (objR_put (o' := .deferred none) (hw.pick hk)).drop
  have h := hv a _ ha hsat
  exact ⟨by simp, .inl ⟨D, _, rfl, run_takeDeferred hD, ⟨_, h.1, h.2⟩⟩⟩

/-- The results, for 'retM': by the known slots. -/
theorem res0 {a : Act} {w : World} (hr : fn.results = #[]) : (results fn a.tmps).run P w = .ok (.tuple #[]) w := results_none hr _ _ _
theorem res1 {n ds} {a : Act} {w : World} {t : Tmp} {v : Value} (ha : Ok n ds e a) (hr : fn.results = #[.tmp t]) (hv : e.get t = some v) : (results fn a.tmps).run P w = .ok v w := by
  have h1 := ha.get t v hv; simpa [h1] using results_tmp hr a.tmps P w
theorem res2 {n ds} {a : Act} {w : World} {t u : Tmp} {v x : Value} (ha : Ok n ds e a) (hr : fn.results = #[.tmp t, .tmp u]) (hv : e.get t = some v) (hx : e.get u = some x) : (results fn a.tmps).run P w = .ok (.tuple #[v, x]) w := by
  have h1 := ha.get t v hv; have h2 := ha.get u x hx; simpa [h1, h2] using results_tmp2 hr a.tmps P w
theorem res3 {n ds} {a : Act} {w : World} {t u s : Tmp} {v x y : Value} (ha : Ok n ds e a) (hr : fn.results = #[.tmp t, .tmp u, .tmp s]) (hv : e.get t = some v) (hx : e.get u = some x) (hy : e.get s = some y) : (results fn a.tmps).run P w = .ok (.tuple #[v, x, y]) w := by
  have h1 := ha.get t v hv; have h2 := ha.get u x hx; have h3 := ha.get s y hy; simpa [h1, h2, h3] using results_tmp3 hr a.tmps P w

/-- A result that lies in memory: a struct or an array in a block of its own. -/
theorem run_cellRes {b T n : Nat} {vs : List Value} {E : TypeId} {w : World} (hT : agT P T = some n) (hn : vs.length = n) (hb : w.heap[b]? = some (.cells vs.toArray E (0, 0))) : (loadVar T ⟨b, 0, none⟩).run P w = .ok (.agg vs.toArray) w :=
  run_loadAgg hT hn (fun j v hj => by simp [World.cell?, hb, hj])
theorem resc1 {n ds} {a : Act} {w : World} {t : Tmp} {b T m : Nat} {vs : List Value} {E : TypeId} (ha : Ok n ds e a) (hr : fn.results = #[.cell t T]) (hv : e.get t = some (.pointer (some ⟨b, 0, none⟩))) (hT : agT P T = some m) (hn : vs.length = m) (hb : w.heap[b]? = some (.cells vs.toArray E (0, 0))) :
    (results fn a.tmps).run P w = .ok (.agg vs.toArray) w := by
  have h1 := ha.get t _ hv
  simp [results, hr, h1, asAddr, run_cellRes hT hn hb]
theorem resc2 {n ds} {a : Act} {w : World} {t u : Tmp} {b T m : Nat} {vs : List Value} {x : Value} {E : TypeId} (ha : Ok n ds e a) (hr : fn.results = #[.cell t T, .tmp u]) (hv : e.get t = some (.pointer (some ⟨b, 0, none⟩))) (hx : e.get u = some x) (hT : agT P T = some m) (hn : vs.length = m) (hb : w.heap[b]? = some (.cells vs.toArray E (0, 0))) :
    (results fn a.tmps).run P w = .ok (.tuple #[.agg vs.toArray, x]) w := by
  have h1 := ha.get t _ hv
  have h2 := ha.get u _ hx
  simp [results, hr, h1, h2, asAddr, run_cellRes hT hn hb]
theorem resc3 {n ds} {a : Act} {w : World} {t u s : Tmp} {b T m : Nat} {vs : List Value} {x y : Value} {E : TypeId} (ha : Ok n ds e a) (hr : fn.results = #[.cell t T, .tmp u, .tmp s]) (hv : e.get t = some (.pointer (some ⟨b, 0, none⟩))) (hx : e.get u = some x) (hy : e.get s = some y) (hT : agT P T = some m) (hn : vs.length = m) (hb : w.heap[b]? = some (.cells vs.toArray E (0, 0))) :
    (results fn a.tmps).run P w = .ok (.tuple #[.agg vs.toArray, x, y]) w := by
  have h1 := ha.get t _ hv
  have h2 := ha.get u _ hx
  have h3 := ha.get s _ hy
  simp [results, hr, h1, h2, h3, asAddr, run_cellRes hT hn hb]

/-- Leaving, by 'resc..' or 'res..'. -/
theorem retG {vf : Act → World → Value} (hds : cx.ds = []) (hv : ∀ a w, Ok cx.n cx.ds e a → Sat cx.w0 cx.S0 Rs w → (results fn a.tmps).run P w = .ok (vf a w) w ∧ R (.returned (vf a w)) w) : At cx e Rs (bodyPost P fn R .ret) :=
  fun a w ha hw => ⟨ha.defs.trans hds, _, (hv a w ha hw).1, (hv a w ha hw).2⟩

end leave
end Go.Pm

/-! From E8 -/
/- The engine, part 8: exits, scopes; numbers of a width as bit vectors; Go's ints within their bounds. -/
namespace Go.Pm
open Go.RowKit

section exits
variable {cx : Cx} {e : Env} {Rs : List Res} {r : Option Nat} {P : Program} {Q : Exit → Act → World → Prop} {K : Act → World → Prop}
theorem th_n (h : At cx e Rs K) : At cx e Rs (Exit.then K Q .normal) := h
theorem th_x {id : Nat} (h : At cx e Rs (Q (.exit id))) : At cx e Rs (Exit.then K Q (.exit id)) := h
theorem th_r (h : At cx e Rs (Q .ret)) : At cx e Rs (Exit.then K Q .ret) := h
theorem ib_n {id : Nat} (h : At cx e Rs (Q .normal)) : At cx e Rs (Exit.inBlock id Q .normal) := h
theorem ib_r {id : Nat} (h : At cx e Rs (Q .ret)) : At cx e Rs (Exit.inBlock id Q .ret) := h
theorem ib_x {id : Nat} (h : At cx e Rs (Q .normal)) : At cx e Rs (Exit.inBlock id Q (.exit id)) := fun a w ha hw => by
  have := h a w ha hw
  simpa [Exit.inBlock] using this
theorem ib_y {id id' : Nat} (hne : Nat.beq id' id = false) (h : At cx e Rs (Q (.exit id'))) : At cx e Rs (Exit.inBlock id Q (.exit id')) := fun a w ha hw => by
  have h1 := h a w ha hw
  have : ¬ id' = id := fun he => by subst he; simp at hne
  simpa [Exit.inBlock, this] using h1
theorem ng_n (h : At cx e Rs (Q .normal)) : At cx e Rs (Exit.noGoto Q .normal) := h
theorem ng_r (h : At cx e Rs (Q .ret)) : At cx e Rs (Exit.noGoto Q .ret) := h
theorem ng_x {id : Nat} (h : At cx e Rs (Q (.exit id))) : At cx e Rs (Exit.noGoto Q (.exit id)) := h

theorem stepR_scope {P : Program} {b : Frame} {a : Act} {k : List Item} {cs : List Frame} {w : World} {c : Code} : step P (lone (b.atR a (.code (.scope c) :: k)) cs w) = .next (lone (b.atR a (.code c :: .inScope c :: k)) cs w) :=
  step_lone_go (by simp [stepG, stepG.exec, Frame.atR])
theorem stepR_inScope {P : Program} {b : Frame} {a : Act} {k : List Item} {cs : List Frame} {w : World} {c : Code} : step P (lone (b.atR a (.inScope c :: k)) cs w) = .next (lone (b.atR a k) cs w) :=
  step_lone_go (by simp [stepG, stepG.exec, Frame.atR])

theorem wpIn_scope {F : Fence} {n : Nat} {a : Act} {w : World} {c : Code} (h : c.wpIn F n P (Exit.noGoto Q) a w) : (Code.scope c).wpIn F n P Q a w := by
  intro b k cs hro hb hr
  have h0 : (lone (b.atR a (.code (.scope c) :: k)) cs w).fenced P F := fenced_calm hb hr rfl
  obtain ⟨e, a₁, w₁, hq, harr⟩ := h b (.inScope c :: k) cs hro hb hr
  cases e with
  | normal => exact ⟨.normal, a₁, w₁, hq, .head h0 stepR_scope (StepsIn.trans harr (.one (fenced_calm hb hr rfl) stepR_inScope))⟩
  | exit id =>
    have hx : exitTo id (.inScope c :: k) = exitTo id k := by simp [exitTo]
    exact ⟨.exit id, a₁, w₁, hq, fun k' hk => .head h0 stepR_scope (harr.1 k' (by rw [hx]; exact hk)),
      fun hr' hk => let ⟨k₁, h1, h2⟩ := harr.2 hr' (by rw [hx]; exact hk); ⟨k₁, h1, .head h0 stepR_scope h2⟩⟩
  | goto l => exact hq.elim
  | ret => exact ⟨_, a₁, w₁, hq, .of_steps (.one h0 stepR_scope) harr⟩
  | panic ch => exact ⟨_, a₁, w₁, hq, .of_steps (.one h0 stepR_scope) harr⟩
  | outgrown => exact ⟨_, a₁, w₁, hq, .of_steps (.one h0 stepR_scope) harr⟩
theorem scope {c : Code} (h : At cx e Rs (c.wpIn (FR r) 0 P (Exit.noGoto Q))) : At cx e Rs ((Code.scope c).wpIn (FR r) 0 P Q) := fun a w ha hw => wpIn_scope (h a w ha hw)
end exits

/-- Cells of an owned block, by a part of its list. -/
theorem Cells.part {cx : Cx} {Rs B : List Res} {b o : Nat} {T : TypeId} {cs vs : List Value} (hk : Pick (blk b T cs) Rs B) (hv : (cs.drop o).take vs.length = vs) : Cells cx Rs b o vs :=
  Cells.own hk fun j v hj => by
    rw [← hv, List.getElem?_take] at hj
    split at hj
    · rwa [List.getElem?_drop] at hj
    · cases hj
theorem RdA.part {cx : Cx} {Rs B : List Res} {b o : Nat} {T : TypeId} {cs vs : List Value} (hk : Pick (blk b T cs) Rs B) (hv : (cs.drop o).take vs.length = vs) : RdA cx Rs (some ⟨b, o, none⟩) vs :=
  RdA.own hk fun j v hj => by
    rw [← hv, List.getElem?_take] at hj
    split at hj
    · rwa [List.getElem?_drop] at hj
    · cases hj

/-! ### Numbers -/
theorem wrap_i64 {n : Int} (h0 : -9223372036854775808 ≤ n) (h1 : n < 9223372036854775808) : IntKind.i64.wrap n = n := by
  simp only [IntKind.wrap, IntKind.bits, IntKind.signed]
  simp
  split <;> omega
theorem wrap_u8 (n : Int) : IntKind.u8.wrap n = n % 256 := by simp [IntKind.wrap, IntKind.bits, IntKind.signed]
theorem wrap_u16 (n : Int) : IntKind.u16.wrap n = n % 65536 := by simp [IntKind.wrap, IntKind.bits, IntKind.signed]
theorem wrap_u32 (n : Int) : IntKind.u32.wrap n = n % 4294967296 := by simp [IntKind.wrap, IntKind.bits, IntKind.signed]
theorem wrap_u64 (n : Int) : IntKind.u64.wrap n = n % 18446744073709551616 := by simp [IntKind.wrap, IntKind.bits, IntKind.signed]

abbrev U32 (x : BitVec 32) : Value := .int .u32 (x.toNat : Int)
abbrev U64 (x : BitVec 64) : Value := .int .u64 (x.toNat : Int)
abbrev I64 (x : Int) : Value := .int .i64 x

section gives
variable {P : Program} {cx : Cx} {e : Env} {Rs : List Res} {d : Option Tmp} {t : TypeId} {ps : String} {af : Array Edge} {gd : Option (Nat × Bool)} {T T2 : TypeId} {x y : Operand}

theorem g_iadd {a b c : Int} (hx : ev e x = some (.int .i64 a)) (hy : ev e y = some (.int .i64 b)) (hc : a + b = c) (h0 : -9223372036854775808 ≤ c) (h1 : c < 9223372036854775808) : Gives P cx e Rs ⟨d, .binOp .add T x y T2, t, ps, af, gd⟩ (.int .i64 c) :=
  g_bin hx hy (by simp only [binI]; rw [hc, wrap_i64 h0 h1])
theorem g_isub {a b c : Int} (hx : ev e x = some (.int .i64 a)) (hy : ev e y = some (.int .i64 b)) (hc : a - b = c) (h0 : -9223372036854775808 ≤ c) (h1 : c < 9223372036854775808) : Gives P cx e Rs ⟨d, .binOp .sub T x y T2, t, ps, af, gd⟩ (.int .i64 c) :=
  g_bin hx hy (by simp only [binI]; rw [hc, wrap_i64 h0 h1])
theorem g_imul {a b c : Int} (hx : ev e x = some (.int .i64 a)) (hy : ev e y = some (.int .i64 b)) (hc : a * b = c) (h0 : -9223372036854775808 ≤ c) (h1 : c < 9223372036854775808) : Gives P cx e Rs ⟨d, .binOp .mul T x y T2, t, ps, af, gd⟩ (.int .i64 c) :=
  g_bin hx hy (by simp only [binI]; rw [hc, wrap_i64 h0 h1])
theorem g_iquo {a b c : Int} (hx : ev e x = some (.int .i64 a)) (hy : ev e y = some (.int .i64 b)) (ha : 0 ≤ a) (ha2 : a < 9223372036854775808) (hb : 0 < b) (hc : a / b = c) : Gives P cx e Rs ⟨d, .binOp .quo T x y T2, t, ps, af, gd⟩ (.int .i64 c) :=
  g_bin hx hy (by
    simp only [binI]
    rw [if_neg (by omega), Int.tdiv_eq_ediv_of_nonneg ha, hc]
    have h1 : 0 ≤ a / b := Int.ediv_nonneg ha (by omega)
    have h2 : a / b ≤ a := Int.ediv_le_self b ha
    rw [wrap_i64 (by omega) (by omega)])
theorem g_irem {a b c : Int} (hx : ev e x = some (.int .i64 a)) (hy : ev e y = some (.int .i64 b)) (ha : 0 ≤ a) (hb : 0 < b) (hc : a % b = c) : Gives P cx e Rs ⟨d, .binOp .rem T x y T2, t, ps, af, gd⟩ (.int .i64 c) :=
  g_bin hx hy (by
    simp only [binI]
    rw [if_neg (by omega), Int.tmod_eq_emod_of_nonneg ha, hc])
theorem g_ineg {a c : Int} (hx : ev e x = some (.int .i64 a)) (hc : -a = c) (h0 : -9223372036854775808 ≤ c) (h1 : c < 9223372036854775808) : Gives P cx e Rs ⟨d, .unOp .neg T x, t, ps, af, gd⟩ (.int .i64 c) :=
  g_neg hx (by simp only [binI]; rw [show (0 : Int) - a = c by omega, wrap_i64 h0 h1])

/-- A comparison that is known. -/
theorem g_T {op : BinOp} {k : IntKind} {a b : Int} {p : Prop} {hp : Decidable p} (hx : ev e x = some (.int k a)) (hy : ev e y = some (.int k b)) (hv : binI op k a b = some (.bool (decide p))) (h : p) :
    Gives P cx e Rs ⟨d, .binOp op T x y T2, t, ps, af, gd⟩ (.bool true) := g_bin hx hy (by rw [hv, decide_eq_true h])
theorem g_F {op : BinOp} {k : IntKind} {a b : Int} {p : Prop} {hp : Decidable p} (hx : ev e x = some (.int k a)) (hy : ev e y = some (.int k b)) (hv : binI op k a b = some (.bool (decide p))) (h : ¬p) :
    Gives P cx e Rs ⟨d, .binOp op T x y T2, t, ps, af, gd⟩ (.bool false) := g_bin hx hy (by rw [hv, decide_eq_false h])
theorem g_eqST {a b : ByteArray} (hx : ev e x = some (.string a)) (hy : ev e y = some (.string b)) (h : a.data.toList = b.data.toList) : Gives P cx e Rs ⟨d, .binOp .eql T x y T2, t, ps, af, gd⟩ (.bool true) := by
  have := g_eqS (P := P) (cx := cx) (Rs := Rs) (d := d) (T := T) (T2 := T2) (t := t) (ps := ps) (af := af) (gd := gd) hx hy
  rwa [decide_eq_true h] at this
theorem g_eqSF {a b : ByteArray} (hx : ev e x = some (.string a)) (hy : ev e y = some (.string b)) (h : a.data.toList ≠ b.data.toList) : Gives P cx e Rs ⟨d, .binOp .eql T x y T2, t, ps, af, gd⟩ (.bool false) := by
  have := g_eqS (P := P) (cx := cx) (Rs := Rs) (d := d) (T := T) (T2 := T2) (t := t) (ps := ps) (af := af) (gd := gd) hx hy
  rwa [decide_eq_false h] at this
theorem g_neSF {a b : ByteArray} (hx : ev e x = some (.string a)) (hy : ev e y = some (.string b)) (h : a.data.toList = b.data.toList) : Gives P cx e Rs ⟨d, .binOp .neq T x y T2, t, ps, af, gd⟩ (.bool false) := by
  have := g_neS (P := P) (cx := cx) (Rs := Rs) (d := d) (T := T) (T2 := T2) (t := t) (ps := ps) (af := af) (gd := gd) hx hy
  rwa [decide_eq_false (by simpa using h)] at this
theorem g_neST {a b : ByteArray} (hx : ev e x = some (.string a)) (hy : ev e y = some (.string b)) (h : a.data.toList ≠ b.data.toList) : Gives P cx e Rs ⟨d, .binOp .neq T x y T2, t, ps, af, gd⟩ (.bool true) := by
  have := g_neS (P := P) (cx := cx) (Rs := Rs) (d := d) (T := T) (T2 := T2) (t := t) (ps := ps) (af := af) (gd := gd) hx hy
  rwa [decide_eq_true h] at this

/-- The arithmetic of 32 and of 64 bits. -/
theorem bv_of {n : Nat} (a : BitVec n) : BitVec.ofInt n (a.toNat : Int) = a := by simp
theorem g_add32 {a b : BitVec 32} (hx : ev e x = some (U32 a)) (hy : ev e y = some (U32 b)) : Gives P cx e Rs ⟨d, .binOp .add T x y T2, t, ps, af, gd⟩ (U32 (a + b)) :=
  g_bin hx hy (congrArg (fun z : Int => some (Value.int .u32 z)) (by rw [wrap_u32, BitVec.toNat_add]; have := a.isLt; have := b.isLt; omega))
theorem g_sub32 {a b : BitVec 32} (hx : ev e x = some (U32 a)) (hy : ev e y = some (U32 b)) : Gives P cx e Rs ⟨d, .binOp .sub T x y T2, t, ps, af, gd⟩ (U32 (a - b)) :=
  g_bin hx hy (congrArg (fun z : Int => some (Value.int .u32 z)) (by rw [wrap_u32, BitVec.toNat_sub]; have := a.isLt; have := b.isLt; omega))
theorem g_mul32 {a b : BitVec 32} (hx : ev e x = some (U32 a)) (hy : ev e y = some (U32 b)) : Gives P cx e Rs ⟨d, .binOp .mul T x y T2, t, ps, af, gd⟩ (U32 (a * b)) :=
  g_bin hx hy (congrArg (fun z : Int => some (Value.int .u32 z)) (by rw [wrap_u32, BitVec.toNat_mul]; simp))
theorem g_and32 {a b : BitVec 32} (hx : ev e x = some (U32 a)) (hy : ev e y = some (U32 b)) : Gives P cx e Rs ⟨d, .binOp .and T x y T2, t, ps, af, gd⟩ (U32 (a &&& b)) :=
  g_bin hx hy (congrArg (fun z : Int => some (Value.int .u32 z)) (by
    have h : BitVec.ofInt IntKind.u32.bits (a.toNat : Int) = a := bv_of a
    have h2 : BitVec.ofInt IntKind.u32.bits (b.toNat : Int) = b := bv_of b
    rw [wrap_u32, h, h2]; have h3 := (a &&& b).isLt; exact Int.emod_eq_of_lt (Int.natCast_nonneg _) (Int.ofNat_lt.2 h3)))
theorem g_or32 {a b : BitVec 32} (hx : ev e x = some (U32 a)) (hy : ev e y = some (U32 b)) : Gives P cx e Rs ⟨d, .binOp .or T x y T2, t, ps, af, gd⟩ (U32 (a ||| b)) :=
  g_bin hx hy (congrArg (fun z : Int => some (Value.int .u32 z)) (by
    have h : BitVec.ofInt IntKind.u32.bits (a.toNat : Int) = a := bv_of a
    have h2 : BitVec.ofInt IntKind.u32.bits (b.toNat : Int) = b := bv_of b
    rw [wrap_u32, h, h2]; have h3 := (a ||| b).isLt; exact Int.emod_eq_of_lt (Int.natCast_nonneg _) (Int.ofNat_lt.2 h3)))
theorem g_xor32 {a b : BitVec 32} (hx : ev e x = some (U32 a)) (hy : ev e y = some (U32 b)) : Gives P cx e Rs ⟨d, .binOp .xor T x y T2, t, ps, af, gd⟩ (U32 (a ^^^ b)) :=
  g_bin hx hy (congrArg (fun z : Int => some (Value.int .u32 z)) (by
    have h : BitVec.ofInt IntKind.u32.bits (a.toNat : Int) = a := bv_of a
    have h2 : BitVec.ofInt IntKind.u32.bits (b.toNat : Int) = b := bv_of b
    rw [wrap_u32, h, h2]; have h3 := (a ^^^ b).isLt; exact Int.emod_eq_of_lt (Int.natCast_nonneg _) (Int.ofNat_lt.2 h3)))
theorem quo_u {n : Nat} {a b : BitVec n} : ((a.toNat : Int).tdiv (b.toNat : Int)) = ((a / b).toNat : Int) := by
  rw [Int.tdiv_eq_ediv_of_nonneg (by omega), BitVec.toNat_udiv]; rfl
theorem g_quo32 {a b : BitVec 32} (hx : ev e x = some (U32 a)) (hy : ev e y = some (U32 b)) (hb : b.toNat ≠ 0) : Gives P cx e Rs ⟨d, .binOp .quo T x y T2, t, ps, af, gd⟩ (U32 (a / b)) :=
  g_bin hx hy (by
    simp only [binI]
    rw [if_neg (by omega)]
    exact congrArg (fun z : Int => some (Value.int .u32 z)) (by rw [quo_u, wrap_u32]; have := (a / b).isLt; omega))
theorem g_rem32 {a b : BitVec 32} (hx : ev e x = some (U32 a)) (hy : ev e y = some (U32 b)) (hb : b.toNat ≠ 0) : Gives P cx e Rs ⟨d, .binOp .rem T x y T2, t, ps, af, gd⟩ (U32 (a % b)) :=
  g_bin hx hy (by
    simp only [binI]
    rw [if_neg (by omega)]
    exact congrArg (fun z : Int => some (Value.int .u32 z)) (by rw [Int.tmod_eq_emod_of_nonneg (by omega), BitVec.toNat_umod]; rfl))
theorem shl_u (a n m : Nat) {M : Nat} (hm : 2 ^ m = M) : ((a : Int) * 2 ^ (min n m)) % (M : Int) = (((a <<< n) % M : Nat) : Int) := by
  subst hm
  rw [Nat.shiftLeft_eq]
  rcases Nat.le_total n m with h | h
  · rw [Nat.min_eq_left h]; simp
  · rw [Nat.min_eq_right h]
    have e1 : a * 2 ^ n = (a * 2 ^ (n - m)) * 2 ^ m := by rw [Nat.mul_assoc, ← Nat.pow_add, Nat.sub_add_cancel h]
    rw [e1, Nat.mul_mod_left]
    have e2 : ((a : Int) * 2 ^ m) = ((a * 2 ^ m : Nat) : Int) := by simp
    rw [e2, ← Int.natCast_emod, Nat.mul_mod_left]
theorem g_shl32 {a : BitVec 32} {k : IntKind} {c : Int} {n : Nat} (hx : ev e x = some (U32 a)) (hy : ev e y = some (.int k c)) (hn : c = n) : Gives P cx e Rs ⟨d, .binOp .shl T x y T2, t, ps, af, gd⟩ (U32 (a <<< n)) :=
  g_shf hx hy (by omega) (by
    subst hn
    exact congrArg (fun z : Int => some (Value.int .u32 z)) (by
      rw [wrap_u32, BitVec.toNat_shiftLeft]
      exact shl_u a.toNat n 32 (M := 4294967296) (by decide)))
theorem shr_u (a n m : Nat) (ha : a < 2 ^ m) : (a : Int).fdiv (2 ^ (min n m)) = ((a >>> n : Nat) : Int) := by
  rw [Nat.shiftRight_eq_div_pow]
  have e2 : (2 ^ (min n m) : Int) = ((2 ^ (min n m) : Nat) : Int) := by simp
  rw [e2, Int.fdiv_eq_ediv_of_nonneg _ (Int.natCast_nonneg _), ← Int.natCast_ediv]
  rcases Nat.le_total n m with h | h
  · rw [Nat.min_eq_left h]
  · rw [Nat.min_eq_right h, Nat.div_eq_of_lt ha, Nat.div_eq_of_lt (Nat.lt_of_lt_of_le ha (Nat.pow_le_pow_right (by decide) h))]
theorem g_shr32 {a : BitVec 32} {k : IntKind} {c : Int} {n : Nat} (hx : ev e x = some (U32 a)) (hy : ev e y = some (.int k c)) (hn : c = n) : Gives P cx e Rs ⟨d, .binOp .shr T x y T2, t, ps, af, gd⟩ (U32 (a >>> n)) :=
  g_shf hx hy (by omega) (by
    subst hn
    exact congrArg (fun z : Int => some (Value.int .u32 z)) (by
      rw [BitVec.toNat_ushiftRight]
      exact shr_u a.toNat n 32 a.isLt))
theorem g_add64 {a b : BitVec 64} (hx : ev e x = some (U64 a)) (hy : ev e y = some (U64 b)) : Gives P cx e Rs ⟨d, .binOp .add T x y T2, t, ps, af, gd⟩ (U64 (a + b)) :=
  g_bin hx hy (congrArg (fun z : Int => some (Value.int .u64 z)) (by rw [wrap_u64, BitVec.toNat_add]; have := a.isLt; have := b.isLt; omega))
theorem g_sub64 {a b : BitVec 64} (hx : ev e x = some (U64 a)) (hy : ev e y = some (U64 b)) : Gives P cx e Rs ⟨d, .binOp .sub T x y T2, t, ps, af, gd⟩ (U64 (a - b)) :=
  g_bin hx hy (congrArg (fun z : Int => some (Value.int .u64 z)) (by rw [wrap_u64, BitVec.toNat_sub]; have := a.isLt; have := b.isLt; omega))
theorem g_mul64 {a b : BitVec 64} (hx : ev e x = some (U64 a)) (hy : ev e y = some (U64 b)) : Gives P cx e Rs ⟨d, .binOp .mul T x y T2, t, ps, af, gd⟩ (U64 (a * b)) :=
  g_bin hx hy (congrArg (fun z : Int => some (Value.int .u64 z)) (by rw [wrap_u64, BitVec.toNat_mul]; simp))
theorem g_and64 {a b : BitVec 64} (hx : ev e x = some (U64 a)) (hy : ev e y = some (U64 b)) : Gives P cx e Rs ⟨d, .binOp .and T x y T2, t, ps, af, gd⟩ (U64 (a &&& b)) :=
  g_bin hx hy (congrArg (fun z : Int => some (Value.int .u64 z)) (by
    have h : BitVec.ofInt IntKind.u64.bits (a.toNat : Int) = a := bv_of a
    have h2 : BitVec.ofInt IntKind.u64.bits (b.toNat : Int) = b := bv_of b
    rw [wrap_u64, h, h2]; have h3 := (a &&& b).isLt; exact Int.emod_eq_of_lt (Int.natCast_nonneg _) (Int.ofNat_lt.2 h3)))
theorem g_or64 {a b : BitVec 64} (hx : ev e x = some (U64 a)) (hy : ev e y = some (U64 b)) : Gives P cx e Rs ⟨d, .binOp .or T x y T2, t, ps, af, gd⟩ (U64 (a ||| b)) :=
  g_bin hx hy (congrArg (fun z : Int => some (Value.int .u64 z)) (by
    have h : BitVec.ofInt IntKind.u64.bits (a.toNat : Int) = a := bv_of a
    have h2 : BitVec.ofInt IntKind.u64.bits (b.toNat : Int) = b := bv_of b
    rw [wrap_u64, h, h2]; have h3 := (a ||| b).isLt; exact Int.emod_eq_of_lt (Int.natCast_nonneg _) (Int.ofNat_lt.2 h3)))
theorem g_quo64 {a b : BitVec 64} (hx : ev e x = some (U64 a)) (hy : ev e y = some (U64 b)) (hb : b.toNat ≠ 0) : Gives P cx e Rs ⟨d, .binOp .quo T x y T2, t, ps, af, gd⟩ (U64 (a / b)) :=
  g_bin hx hy (by
    simp only [binI]
    rw [if_neg (by omega)]
    exact congrArg (fun z : Int => some (Value.int .u64 z)) (by rw [quo_u, wrap_u64]; have := (a / b).isLt; omega))
theorem g_rem64 {a b : BitVec 64} (hx : ev e x = some (U64 a)) (hy : ev e y = some (U64 b)) (hb : b.toNat ≠ 0) : Gives P cx e Rs ⟨d, .binOp .rem T x y T2, t, ps, af, gd⟩ (U64 (a % b)) :=
  g_bin hx hy (by
    simp only [binI]
    rw [if_neg (by omega)]
    exact congrArg (fun z : Int => some (Value.int .u64 z)) (by rw [Int.tmod_eq_emod_of_nonneg (by omega), BitVec.toNat_umod]; rfl))
theorem g_shl64 {a : BitVec 64} {k : IntKind} {c : Int} {n : Nat} (hx : ev e x = some (U64 a)) (hy : ev e y = some (.int k c)) (hn : c = n) : Gives P cx e Rs ⟨d, .binOp .shl T x y T2, t, ps, af, gd⟩ (U64 (a <<< n)) :=
  g_shf hx hy (by omega) (by
    subst hn
    exact congrArg (fun z : Int => some (Value.int .u64 z)) (by
      rw [wrap_u64, BitVec.toNat_shiftLeft]
      exact shl_u a.toNat n 64 (M := 18446744073709551616) (by decide)))
theorem g_shr64 {a : BitVec 64} {k : IntKind} {c : Int} {n : Nat} (hx : ev e x = some (U64 a)) (hy : ev e y = some (.int k c)) (hn : c = n) : Gives P cx e Rs ⟨d, .binOp .shr T x y T2, t, ps, af, gd⟩ (U64 (a >>> n)) :=
  g_shf hx hy (by omega) (by
    subst hn
    exact congrArg (fun z : Int => some (Value.int .u64 z)) (by
      rw [BitVec.toNat_ushiftRight]
      exact shr_u a.toNat n 64 a.isLt))
theorem g_add8 {a b : UInt8} (hx : ev e x = some (B8 a)) (hy : ev e y = some (B8 b)) : Gives P cx e Rs ⟨d, .binOp .add T x y T2, t, ps, af, gd⟩ (B8 (a + b)) :=
  g_bin hx hy (congrArg (fun z : Int => some (Value.int .u8 z)) (by rw [wrap_u8, UInt8.toNat_add]; simp))

/-- Conversions. -/
theorem g_to32 {S T : TypeId} {k0 k : IntKind} {a : Int} {n : Nat} (hS : intT P S = some k0) (hT : intT P T = some .u32) (hx : ev e x = some (.int k a)) (ha : a = n) : Gives P cx e Rs ⟨d, .convert S T x, t, ps, af, gd⟩ (U32 (BitVec.ofNat 32 n)) :=
  g_conv hS hT hx (by subst ha; rw [wrap_u32, BitVec.toNat_ofNat]; rfl)
theorem g_to64 {S T : TypeId} {k0 k : IntKind} {a : Int} {n : Nat} (hS : intT P S = some k0) (hT : intT P T = some .u64) (hx : ev e x = some (.int k a)) (ha : a = n) : Gives P cx e Rs ⟨d, .convert S T x, t, ps, af, gd⟩ (U64 (BitVec.ofNat 64 n)) :=
  g_conv hS hT hx (by subst ha; rw [wrap_u64, BitVec.toNat_ofNat]; rfl)
theorem g_to8 {S T : TypeId} {k0 k : IntKind} {a : Int} {n : Nat} (hS : intT P S = some k0) (hT : intT P T = some .u8) (hx : ev e x = some (.int k a)) (ha : a = n) : Gives P cx e Rs ⟨d, .convert S T x, t, ps, af, gd⟩ (B8 (UInt8.ofNat n)) :=
  g_conv hS hT hx (by subst ha; rw [wrap_u8]; simp)
theorem g_toI {S T : TypeId} {k0 k : IntKind} {a c : Int} (hS : intT P S = some k0) (hT : intT P T = some .i64) (hx : ev e x = some (.int k a)) (hc : a = c) (h0 : -9223372036854775808 ≤ c) (h1 : c < 9223372036854775808) : Gives P cx e Rs ⟨d, .convert S T x, t, ps, af, gd⟩ (.int .i64 c) :=
  g_conv hS hT hx (by subst hc; exact wrap_i64 h0 h1)
end gives
end Go.Pm

/-! From E9 -/
/- The engine, part 9: calls of functions that own nothing; more facts on types. -/
namespace Go.Pm
open Go.RowKit
section
variable {cx : Cx} {e : Env} {Rs : List Res} {r : Option Nat} {P : Program} {Q : Exit → Act → World → Prop} {K : Act → World → Prop}
  {d : Nat} {t : TypeId} {ps : String} {af : Array Edge} {gd : Option (Nat × Bool)}
/-- A call that gives v, whatever is owned. -/
theorem o_callP {f : FuncId} {fn : Func} {l : List Operand} {vs : List Value} {ats : Array TypeId} {v : Value} (hf : P.funcs[f]? = some fn) (hb : fn.body.isSome = true)
    (hnm : (fn.name == "runtime.NumGoroutine") = false) (ha : evs e l = some vs)
    (hC : ∀ w, Sat cx.w0 cx.S0 Rs w → Calls P f vs.toArray w (fun en w' => en = .returned v ∧ Sat w [] [] w'))
    (hd : Nat.blt d cx.n = true) (h : At cx ((d, v) :: e) Rs K) :
    OpAt cx e Rs r P Q ⟨some d, .call { callee := .value (.func f), args := l.toArray, argTypes := ats }, t, ps, af, gd⟩ K :=
  o_call (A := []) (B := Rs) (β := Unit) (I := fun _ => True) (val := fun _ => v) (A' := fun _ => []) hf hb hnm ha .nil
    (fun w hw _ => (hC w hw).mono (fun _en _w' ⟨h1, h2⟩ => ⟨(), trivial, h1, h2⟩)) hd (fun _ _ => h)
end
section
variable {P : Program} {cx : Cx} {e : Env} {Rs : List Res} {d : Option Tmp} {t : TypeId} {ps : String} {af : Array Edge} {gd : Option (Nat × Bool)}
theorem g_to64i {S T : TypeId} {x : Operand} {k0 k : IntKind} {a : Int} (hS : intT P S = some k0) (hT : intT P T = some .u64) (hx : ev e x = some (.int k a)) : Gives P cx e Rs ⟨d, .convert S T x, t, ps, af, gd⟩ (U64 (BitVec.ofInt 64 a)) :=
  g_conv hS hT hx (by rw [wrap_u64, BitVec.toNat_ofInt]; exact (Int.toNat_of_nonneg (Int.emod_nonneg _ (by decide))).symm)
end

/-- A loop's state, round by round. -/
def iter {α : Type} (f : Nat → α → α) : Nat → α → α
  | 0, s => s
  | n + 1, s => f n (iter f n s)
theorem iter_inv {α : Type} {f : Nat → α → α} {I : α → Prop} (hf : ∀ n s, I s → I (f n s)) : ∀ n s, I s → I (iter f n s)
  | 0, _, h => h
  | n + 1, s, h => hf n _ (iter_inv hf n s h)
end Go.Pm
namespace Go.Proofs.YtokhediaibdkjaaDoor
open Go.Pm
set_option maxRecDepth 100000
theorem mixed : Tryd.prog.follows .mixedOrders = true := by kernel_rfl
theorem bo_4 : boolT Tryd.prog 4 = true := by kernel_rfl
theorem by_23 : bytesT Tryd.prog 23 = true := by kernel_rfl
theorem un_23 : Tryd.prog.underlying 23 = some (.slice 5) := by kernel_rfl
theorem bt_5 : (Tryd.prog.info? 5).map (·.bytes) = some 1 := by kernel_rfl
theorem un_22 : Tryd.prog.underlying 22 = some (.slice 23) := by kernel_rfl
theorem bt_23 : (Tryd.prog.info? 23).map (·.bytes) = some 24 := by kernel_rfl
theorem un_5 : Tryd.prog.underlying 5 = some (.int .u8) := by kernel_rfl
theorem un_165 : Tryd.prog.underlying 165 = some (.slice 38) := by kernel_rfl
theorem bt_38 : (Tryd.prog.info? 38).map (·.bytes) = some 4 := by kernel_rfl
theorem un_187 : Tryd.prog.underlying 187 = some (.slice 34) := by kernel_rfl
theorem bt_34 : (Tryd.prog.info? 34).map (·.bytes) = some 8 := by kernel_rfl
theorem pt_29 : ptrT Tryd.prog 29 = true := by kernel_rfl
theorem pt_48 : ptrT Tryd.prog 48 = true := by kernel_rfl
theorem pt_51 : ptrT Tryd.prog 51 = true := by kernel_rfl
theorem pt_54 : ptrT Tryd.prog 54 = true := by kernel_rfl
theorem pt_55 : ptrT Tryd.prog 55 = true := by kernel_rfl
theorem pt_166 : ptrT Tryd.prog 166 = true := by kernel_rfl
theorem un_39 : Tryd.prog.underlying 39 = some (.array 8 38) := by kernel_rfl
end Go.Proofs.YtokhediaibdkjaaDoor

/-! From E10 -/
/- The engine, part 10: regions that draw their order, in which one write comes last in every order; shorter checks for the others. -/
namespace Go.Pm
open Go.RowKit

def dummy (o : Oper) : Oper := { dst := none, op := .move (.const undef), type := o.type, pos := o.pos, after := o.after, guard := none }
def dumm : List Oper → List Oper
  | [] => []
  | [o] => [dummy o]
  | o :: p :: r => o :: dumm (p :: r)
def lastOp : List Oper → Oper
  | [] => dummy { dst := none, op := .move (.const undef), type := 0, pos := "", after := #[], guard := none }
  | [o] => o
  | _ :: p :: r => lastOp (p :: r)

theorem dumm_length : ∀ l : List Oper, (dumm l).length = l.length
  | [] => rfl
  | [_] => rfl
  | _ :: p :: r => by simp [dumm, dumm_length (p :: r)]
theorem dumm_ne : ∀ (l : List Oper) (i : Nat), i + 1 ≠ l.length → (dumm l)[i]? = l[i]?
  | [], _, _ => rfl
  | [o], i, h => by
    cases i with
    | zero => simp at h
    | succ i => rfl
  | o :: p :: r, i, h => by
    cases i with
    | zero => rfl
    | succ i => simpa [dumm] using dumm_ne (p :: r) i (by simpa using h)
theorem dumm_last : ∀ (l : List Oper) (i : Nat), i + 1 = l.length → l[i]? = some (lastOp l) ∧ (dumm l)[i]? = some (dummy (lastOp l))
  | [], i, h => by simp at h
  | [o], i, h => by
    have : i = 0 := by simpa using h
    subst this; exact ⟨rfl, rfl⟩
  | o :: p :: r, i, h => by
    cases i with
    | zero => simp at h
    | succ i => simpa [dumm, lastOp] using dumm_last (p :: r) i (by simpa using h)

def downB (l : List Oper) : Bool := (List.range l.length).all fun i => match l[i]? with
  | some o => o.after.all fun e => !Region.binds .any e || Nat.blt e.on i
  | none => true
/-- The last one writes; all others come ahead of it. -/
def chkX (l : List Oper) : Bool :=
  Nat.blt 0 l.length && noDefer l.toArray && Region.lexB .any (dumm l).toArray && (lastOp l).dst.isNone && (lastOp l).guard.isNone && downB l && (List.range (l.length - 1)).all fun i => precedes l.toArray i l.length (l.length - 1)

section
variable {cx : Cx} {e : Env} {Rs : List Res} {r : Option Nat} {P : Program} {Q : Exit → Act → World → Prop} {K : Act → World → Prop}

theorem dumm_after {l : List Oper} {i : Nat} {o : Oper} (h : (dumm l)[i]? = some o) : ∃ o', l[i]? = some o' ∧ o'.after = o.after := by
  by_cases hi : i + 1 = l.length
  · obtain ⟨h1, h2⟩ := dumm_last l i hi
    rw [h2] at h
    cases h
    exact ⟨_, h1, rfl⟩
  · rw [dumm_ne l i hi] at h; exact ⟨o, h, rfl⟩
theorem dumm_after' {l : List Oper} {i : Nat} {o : Oper} (h : l[i]? = some o) : ∃ o', (dumm l)[i]? = some o' ∧ o'.after = o.after := by
  by_cases hi : i + 1 = l.length
  · obtain ⟨h1, h2⟩ := dumm_last l i hi
    rw [h1] at h
    cases h
    exact ⟨_, h2, rfl⟩
  · rw [← dumm_ne l i hi] at h; exact ⟨o, h, rfl⟩
theorem dumm_ready (l : List Oper) (L : Array Bool) (i : Nat) : i ∈ Region.ready .any (dumm l).toArray L ↔ i ∈ Region.ready .any l.toArray L := by
  rw [mem_ready, mem_ready]
  simp only [List.getElem?_toArray]
  constructor
  · rintro ⟨h1, o, ho, hall⟩
    obtain ⟨o', h2, h3⟩ := dumm_after ho
    exact ⟨h1, o', h2, by rw [h3]; exact hall⟩
  · rintro ⟨h1, o, ho, hall⟩
    obtain ⟨o', h2, h3⟩ := dumm_after' ho
    exact ⟨h1, o', h2, by rw [h3]; exact hall⟩
theorem dumm_yielded {l : List Oper} (hd : (lastOp l).dst = none) (t : Array Value) : yielded (dumm l).toArray t = yielded l.toArray t := by
  funext j
  unfold yielded
  simp only [List.getElem?_toArray]
  by_cases hj : j + 1 = l.length
  · obtain ⟨h1, h2⟩ := dumm_last l j hj
    simp [h1, h2, hd, dummy]
  · rw [dumm_ne l j hj]

theorem ready_ex {l : List Oper} (hdn : downB l = true) {L : Array Bool} (hsz : L.size = l.length) : ∀ (i : Nat), i < l.length → L.getD i true = false → ∃ j, j ∈ Region.ready .any l.toArray L := by
  intro i
  induction i using Nat.strongRecOn with
  | _ i ih =>
    intro hi hL
    by_cases hex : ∃ j, j < i ∧ L.getD j true = false
    · obtain ⟨j, hj, hLj⟩ := hex
      exact ih j hj (by omega) hLj
    · refine ⟨i, mem_ready.2 ⟨hL, l[i], by simp [hi], fun e he hb => ?_⟩⟩
      have h1 := List.all_eq_true.1 hdn i (List.mem_range.2 hi)
      rw [List.getElem?_eq_getElem hi] at h1
      have h2 := Array.all_eq_true_iff_forall_mem.1 h1 e he
      have h3 : e.on < i := by simpa [hb] using h2
      cases hc : L.getD e.on false with
      | true => rfl
      | false =>
        exfalso
        refine hex ⟨e.on, h3, ?_⟩
        have : e.on < L.size := by omega
        simpa [this] using hc

theorem all_listed {l : List Oper} {L : Array Bool} (hp : ∀ i, i + 1 < l.length → precedes l.toArray i l.length (l.length - 1) = true) (hcl : Closed l.toArray L) (hX : L.getD (l.length - 1) false = true) : Region.ready .any l.toArray L = [] := by
  cases hr : Region.ready .any l.toArray L with
  | nil => rfl
  | cons i is =>
    exfalso
    have hi : i ∈ Region.ready .any l.toArray L := by rw [hr]; simp
    obtain ⟨hu, o, ho, _⟩ := mem_ready.1 hi
    have hlt : i < l.length := by
      have := (Array.getElem?_eq_some_iff.1 ho).1
      simpa using this
    have : L.getD i false = true := by
      by_cases hl : i + 1 = l.length
      · have : i = l.length - 1 := by omega
        rw [this]; exact hX
      · exact precedes_spec _ _ _ (hp i (by omega)) hcl hX
    rcases Nat.lt_or_ge i L.size with h | h
    · simp [h] at hu this; rw [hu] at this; cases this
    · simp [Array.getElem?_eq_none h] at this

theorem anyX {l : List Oper} {C : World → Prop} (hd : (lastOp l).dst = none) (hg : (lastOp l).guard = none) (hdn : downB l = true)
    (hp : ∀ i, i + 1 < l.length → precedes l.toArray i l.length (l.length - 1) = true) (hl : 0 < l.length) : ∀ (f : Nat) (L : Array Bool) (a : Act) (w : World), Closed l.toArray L → C w → L.getD (l.length - 1) true = false → L.size = l.length →
    wpAnyQIn (FR none) 0 P .any (dumm l).toArray C (fun a => ∀ w, C w → (lastOp l).wpIn (FR none) 0 P a w (Q .normal) Q) f L a → wpAnyIn (FR none) 0 P .any l.toArray Q f L a w := by
  intro f
  induction f with
  | zero =>
    intro L a w hcl hC hX hsz h
    obtain ⟨j, hj⟩ := ready_ex hdn hsz (l.length - 1) (by omega) hX
    have h0 := h.1
    have := (dumm_ready l L j).2 hj
    rw [h0] at this
    cases this
  | succ f ih =>
    intro L a w hcl hC hX hsz h
    obtain ⟨j, hj⟩ := ready_ex hdn hsz (l.length - 1) (by omega) hX
    refine ⟨fun h0 => (by rw [h0] at hj; cases hj), fun i hi => ?_⟩
    have hq := h.2 i ((dumm_ready l L i).2 hi)
    by_cases hiX : i + 1 = l.length
    · obtain ⟨h1, h2⟩ := dumm_last l i hiX
      have hi' : i = l.length - 1 := by omega
      have hall : Region.ready .any l.toArray (L.setIfInBounds i true) = [] := all_listed hp (hcl.set hi) (by
        rw [← hi']
        have : i < L.size := by omega
        simp [this])
      have hq2 : ∀ w, C w → (lastOp l).wpIn (FR none) 0 P a w (Q .normal) Q := by
        unfold qOpIn at hq
        simp only [List.getElem?_toArray, h2] at hq
        have hw : Region.wanted (dummy (lastOp l)) (yielded (dumm l).toArray a.tmps) = true := by simp [Region.wanted, dummy]
        rw [if_pos hw] at hq
        obtain ⟨_, v, _, hK⟩ := hq
        have ha : a.put (dummy (lastOp l)).dst v = a := rfl
        rw [ha] at hK
        cases f with
        | zero => exact hK.2
        | succ f =>
          refine hK.1 ?_
          cases hr : Region.ready .any (dumm l).toArray (L.setIfInBounds i true) with
          | nil => rfl
          | cons k ks =>
            exfalso
            have : k ∈ Region.ready .any l.toArray (L.setIfInBounds i true) := (dumm_ready l _ k).1 (by rw [hr]; simp)
            rw [hall] at this; cases this
      unfold wpOpIn
      simp only [List.getElem?_toArray, h1]
      rw [if_pos (by simp [Region.wanted, hg])]
      refine Oper.wpIn_mono (fun a' w' hq' => ?_) (hq2 w hC)
      cases f with
      | zero => exact ⟨hall, hq'⟩
      | succ f => exact ⟨fun _ => hq', by rw [hall]; simp⟩
    · have hsame := dumm_ne l i hiX
      have hq' : qOpIn (FR none) 0 P l.toArray C i (wpAnyQIn (FR none) 0 P .any (dumm l).toArray C (fun a => ∀ w, C w → (lastOp l).wpIn (FR none) 0 P a w (Q .normal) Q) f (L.setIfInBounds i true)) a := by
        unfold qOpIn at hq ⊢
        simp only [List.getElem?_toArray, hsame, dumm_yielded hd] at hq ⊢
        exact hq
      refine wpOpIn_of_qOpIn rfl hC (fun a' w' hC' hK => ih _ a' w' (hcl.set hi) hC' ?_ (by simpa using hsz) hK) hq'
      have hne : ¬ i = l.length - 1 := by omega
      simp only [Array.getD_eq_getD_getElem?] at hX ⊢
      rwa [Array.getElem?_setIfInBounds_ne hne]

/-- A region that draws its order, in which a last operation writes behind all others. -/
theorem regionX {id : Nat} {l : List Oper} (hm : P.follows .mixedOrders = true) (hc : chkX l = true) (h : Dr cx e Rs P (dumm l).toArray (fun a w => (lastOp l).wpIn (FR none) 0 P a w (Q .normal) Q) (dumm l)) :
    At cx e Rs ((Code.region id l.toArray true).wpIn (FR r) 0 P Q) := by
  intro a w ha hw
  simp only [chkX, Bool.and_eq_true, Option.isNone_iff_eq_none, List.all_eq_true, List.mem_range] at hc
  obtain ⟨⟨⟨⟨⟨⟨hl, hn⟩, hB⟩, hd⟩, hg⟩, hdn⟩, hp⟩ := hc
  have hl : 0 < l.length := by simpa using hl
  simp only [Region.lexB, Bool.and_eq_true] at hB
  refine region_any hm hn (anyX (C := Sat cx.w0 cx.S0 Rs) hd hg hdn (fun i hi => hp i (by omega)) hl _ _ _ _ (Closed.start _ _) (hw.drew _) ?_ (by simp) ?_)
  · have : l.length - 1 < l.length := by omega
    simp [this]
  · have := wpAnyQIn_lex (F := FR none) (n := 0) (C := Sat cx.w0 cx.S0 Rs) (md := .any) hB.1 (dumm l) 0 (Array.replicate l.length false) a (by simp) (by simpa [dumm_length] using hB.2) (h a ha)
    simpa [dumm_length] using this

theorem Dr.last {ops : Array Oper} {o : Oper} (h : At cx e Rs K) : Dr cx e Rs P ops K [dummy o] := by
  intro a ha
  refine ⟨fun _ _ _ _ => trivial, ?_⟩
  rw [if_pos (by simp [Region.wanted, dummy])]
  refine ⟨undef, fun w hw => ?_, fun w' hw' => h _ w' (ha.put_none _) hw'⟩
  unfold Oper.quietAtIn
  exact ⟨rfl, rfl⟩
end

/-! ### Shorter checks for regions with more writes -/
def chkQ (ops : Array Oper) (L : List Bool) (X : List Nat) (i : Nat) : Bool :=
  noDefer ops && Region.noSelect ops && Region.free .any ops L.toArray i && (Region.ready .any ops L.toArray).contains i && !X.contains i
def chkZ (ops : Array Oper) (L : List Bool) (X : List Nat) (i : Nat) : Bool := chkQ ops L X i && X.all fun k => precedes ops i ops.size k

section
variable {cx : Cx} {e : Env} {Rs : List Res} {P : Program} {K : Act → World → Prop} {ops : Array Oper} {g : Rg}
theorem An'.q {f : Nat} {L : List Bool} (i : Nat) (X : List Nat) {d : Nat} {op : Op} {t : TypeId} {ps : String} {af : Array Edge} {gd : Option (Nat × Bool)} {v : Value} (hX : g.X = X) (hc : chkQ ops L X i = true) (hi : ops[i]? = some { dst := some d, op, type := t, pos := ps, after := af, guard := gd })
    (hw : guardOk ops e { dst := some d, op, type := t, pos := ps, after := af, guard := gd } = some true)
    (hg : Gives P cx e g.RsQ { dst := some d, op, type := t, pos := ps, after := af, guard := gd } v) (hd : Nat.blt d cx.n = true) (h : An' cx ((d, v) :: e) Rs P ops g K f (L.set i true)) : An' cx e Rs P ops g K (f + 1) L := by
  subst hX
  simp only [chkQ, Bool.and_eq_true, Bool.not_eq_true'] at hc
  obtain ⟨⟨⟨⟨h1, h2⟩, h3⟩, h4⟩, h5⟩ := hc
  exact An'.tk i hi h1 h2 h3 h4 h5 hw hg hd rfl h
theorem An'.z {f : Nat} {L : List Bool} (i : Nat) (X : List Nat) {d : Nat} {op : Op} {t : TypeId} {ps : String} {af : Array Edge} {gd : Option (Nat × Bool)} {v : Value} (hX : g.X = X) (hc : chkZ ops L X i = true) (hi : ops[i]? = some { dst := some d, op, type := t, pos := ps, after := af, guard := gd })
    (hw : guardOk ops e { dst := some d, op, type := t, pos := ps, after := af, guard := gd } = some true)
    (hg : Gives P cx e g.Rs0 { dst := some d, op, type := t, pos := ps, after := af, guard := gd } v) (hd : Nat.blt d cx.n = true) (h : An' cx ((d, v) :: e) Rs P ops g K f (L.set i true)) : An' cx e Rs P ops g K (f + 1) L := by
  subst hX
  simp only [chkZ, chkQ, Bool.and_eq_true, Bool.not_eq_true'] at hc
  obtain ⟨⟨⟨⟨⟨h1, h2⟩, h3⟩, h4⟩, h5⟩, h6⟩ := hc
  exact An'.tk0 i hi h1 h2 h3 h4 h5 h6 hw hg hd rfl h
end
end Go.Pm

/-! From E11 -/
/- The engine, part 11: what may be read beside what is owned; more on slices that grow. -/
namespace Go.Pm
open Go.RowKit

/-- These cells lie there, in no block of S. -/
def RdS (w : World) (S : List Nat) (p : Option Addr) (vs : List Value) : Prop := ∀ j u, vs[j]? = some u → ∃ b o, p = some ⟨b, o, none⟩ ∧ b ∉ S ∧ w.cell? ⟨b, o + j, none⟩ = some u

theorem RdS.c {w : World} {S : List Nat} {p : Option Addr} {vs : List Value} (h : RdS w S p vs) : RdC w p vs := fun j u hj => by
  obtain ⟨b, o, h1, _, h3⟩ := h j u hj; exact ⟨b, o, h1, h3⟩
theorem RdC.s {w : World} {p : Option Addr} {vs : List Value} (h : RdC w p vs) : RdS w [] p vs := fun j u hj => by
  obtain ⟨b, o, h1, h3⟩ := h j u hj; exact ⟨b, o, h1, by simp, h3⟩
theorem RdS.nil {w : World} {S : List Nat} {p : Option Addr} : RdS w S p [] := fun j u h => by simp at h
theorem RdS.some {w : World} {S : List Nat} {p : Option Addr} {vs : List Value} (h : RdS w S p vs) (hn : vs ≠ []) : p.isSome = true := h.c.some hn
theorem RdA.of {cx : Cx} {Rs : List Res} {p : Option Addr} {vs : List Value} (h : RdS cx.w0 cx.S0 p vs) : RdA cx Rs p vs := fun w hw j u hj => by
  obtain ⟨b, o, rfl, hS, hc⟩ := h j u hj
  exact ⟨b, o, rfl, hw.oldCell hc hS⟩
theorem RdS.adv {w : World} {S : List Nat} {p : Option Addr} {vs : List Value} (h : RdS w S p vs) {c k s : Nat} (hc : c = k → vs.length ≤ k * s) : RdS w S (Pm.adv p c k s) (vs.drop (k * s)) := by
  intro j u hj
  rw [List.getElem?_drop] at hj
  obtain ⟨b, o, rfl, hS, hcell⟩ := h _ u hj
  have hne : c ≠ k := fun he => by
    have := hc he
    have hlt : k * s + j < vs.length := by
      rcases Nat.lt_or_ge (k * s + j) vs.length with h' | h'
      · exact h'
      · simp [List.getElem?_eq_none h'] at hj
    omega
  refine ⟨b, o + k * s, by simp [Pm.adv, hne, add_at], hS, ?_⟩
  rw [Nat.add_assoc]; exact hcell
theorem RdS.take {w : World} {S : List Nat} {p : Option Addr} {vs : List Value} (h : RdS w S p vs) (n : Nat) : RdS w S p (vs.take n) := by
  intro j u hj
  rw [List.getElem?_take] at hj
  split at hj
  · exact h j u hj
  · cases hj
theorem RdS.sub {w : World} {S S' : List Nat} {p : Option Addr} {vs : List Value} (h : RdS w S p vs) (hs : ∀ k, k ∈ S' → k ∈ S) : RdS w S' p vs := fun j u hj => by
  obtain ⟨b, o, h1, h2, h3⟩ := h j u hj; exact ⟨b, o, h1, fun hh => h2 (hs _ hh), h3⟩

/-- What was there before, handed on. -/
theorem RdS.ofOld {w0 w : World} {S0 : List Nat} {p : Option Addr} {vs : List Value} {A Rs B : List Res} (h : RdS w0 S0 p vs) (hw : Sat w0 S0 Rs w) (hs : Split A Rs B) : RdS w (fps A) p vs := fun j u hj => by
  obtain ⟨b, o, rfl, hS, hc⟩ := h j u hj
  refine ⟨b, o, rfl, fun hA => ?_, hw.oldCell hc hS⟩
  have hb : b < w0.heap.size := block_lt_of_cell hc
  have := (hw.split hs).new b (by rw [fps_append]; simp [hA])
  rcases this with h1 | h1
  · exact hS h1
  · omega
/-- What another thing owns, handed on. -/
theorem RdS.ofOwn {w0 w : World} {S0 : List Nat} {p : Option Addr} {vs : List Value} {A Rs B B' : List Res} {R : Res} (hw : Sat w0 S0 Rs w) (hs : Split A Rs B) (hk : Pick R B B') (h : RdC w p vs) (hp : ∀ b o, p = Option.some ⟨b, o, none⟩ → b ∈ R.fp) : RdS w (fps A) p vs := fun j u hj => by
  obtain ⟨b, o, rfl, hc⟩ := h j u hj
  refine ⟨b, o, rfl, fun hA => ?_, hc⟩
  have hnd := (hw.split hs).nodup
  rw [fps_append] at hnd
  have hBm : b ∈ fps B := by
    have hp1 : (fps B).Perm (fps (R :: B')) := List.Perm.flatMap_right _ hk.perm
    exact hp1.mem_iff.2 (by rw [fps_cons]; exact List.mem_append_left _ (hp b o rfl))
  exact (List.nodup_append.1 hnd).2.2 b hA b hBm rfl
theorem RdC.ofVec {w : World} {p : Option Addr} {n cap T s : Nat} {xs : List Value} (h : w.ownsRow 0 T s (.slice p n cap) n xs) : RdC w p xs := by
  intro j u hj
  rcases h.2 with ⟨he, hn⟩ | ⟨g, cap', cur, he, _, hg, hnc, _, hsz, htk⟩
  · have := h.1
    subst hn
    simp at this
    subst this
    simp at hj
  · simp only [Value.slice.injEq, true_and] at he
    obtain ⟨rfl, rfl⟩ := he
    refine ⟨g, 0, rfl, ?_⟩
    rw [← htk, List.getElem?_take] at hj
    split at hj
    · simp [World.cell?, hg]; simpa using hj
    · cases hj
theorem RdS.ofVec {w0 w : World} {S0 : List Nat} {p : Option Addr} {n cap T s : Nat} {xs : List Value} {A Rs B B' : List Res} (hw : Sat w0 S0 Rs w) (hs : Split A Rs B) (hk : Pick (vec (.slice p n cap) T s n xs) B B') : RdS w (fps A) p xs := by
  have hB : Sat w0 S0 B w := (hw.split hs).dropA A
  have hv : w.ownsRow 0 T s (.slice p n cap) n xs := hB.get hk
  refine RdS.ofOwn hw hs hk (RdC.ofVec hv) fun b o hp => ?_
  subst hp
  simp [vec, vecFp]

section
variable {cx : Cx} {e : Env} {Rs : List Res} {r : Option Nat} {P : Program} {Q : Exit → Act → World → Prop} {K : Act → World → Prop}
  {d : Nat} {t : TypeId} {ps : String} {af : Array Edge} {gd : Option (Nat × Bool)}

theorem At.up {Rs' : List Res} (hs : ∀ w, Sat cx.w0 cx.S0 Rs w → Sat cx.w0 cx.S0 Rs' w) (h : At cx e Rs' K) : At cx e Rs K := fun a w ha hw => h a w ha (hs w hw)

theorem vec_of_blk {b E s n : Nat} {cs : List Value} {B : List Res} (hk : Pick (blk b E cs) Rs B) (hl : cs.length = n * s) (hm : n ≤ maxLen) (h : At cx e (vec (.slice (some ⟨b, 0, none⟩) n n) E s n cs :: B) K) : At cx e Rs K :=
  At.up (fun w hw => by
    have hw' := hw.pick hk
    refine hw'.upd (R' := vec (.slice (some ⟨b, 0, none⟩) n n) E s n cs) rfl rfl rfl rfl rfl (fun _ _ => rfl) ⟨hl, .inr ⟨b, n, cs.toArray, rfl, Nat.zero_le _, hw'.hd, Nat.le_refl _, hm, by simpa using hl, ?_⟩⟩
    rw [← hl]; simp) h

theorem vec_cut {p : Option Addr} {E s n m cap : Nat} {xs : List Value} {B : List Res} (hk : Pick (vec (.slice p n cap) E s n xs) Rs B) (hm : m ≤ n) (hp : p.isSome = true) (h : At cx e (vec (.slice p m cap) E s m (xs.take (m * s)) :: B) K) : At cx e Rs K :=
  At.up (fun w hw => by
    have hw' := hw.pick hk
    have hv : w.ownsRow 0 E s (.slice p n cap) n xs := hw'.holds (vec (.slice p n cap) E s n xs) (by simp)
    have hms : m * s ≤ n * s := Nat.mul_le_mul_right s hm
    refine hw'.upd (R' := vec (.slice p m cap) E s m (xs.take (m * s))) (by cases p <;> rfl) rfl rfl rfl rfl (fun _ _ => rfl) ?_
    refine ⟨by rw [List.length_take, hv.1]; omega, ?_⟩
    rcases hv.2 with ⟨he, _⟩ | ⟨g, cap', cur, he, h1, h2, h3, h4, h5, h6⟩
    · simp only [Value.slice.injEq] at he; rw [he.1] at hp; cases hp
    · simp only [Value.slice.injEq, true_and] at he
      obtain ⟨rfl, rfl⟩ := he
      exact .inr ⟨g, cap, cur, rfl, h1, h2, by omega, h4, h5, by rw [← h6, List.take_take, Nat.min_eq_left hms]⟩) h

/-- []T{}. -/
theorem o_buildSlice0 {T E s : Nat} (hu : P.underlying T = some (.slice E)) (hsz : szT P E = some s) (hd : Nat.blt d cx.n = true)
    (h : ∀ b, At cx ((d, .slice (some ⟨b, 0, none⟩) 0 0) :: e) (vec (.slice (some ⟨b, 0, none⟩) 0 0) E s 0 [] :: Rs) K) : OpAt cx e Rs r P Q ⟨some d, .buildSlice T 0 (List.toArray []), t, ps, af, gd⟩ K :=
  OpAt.of_run nofun fun a w ha hw => by
    cases hi : P.info? E with
    | none => simp [szT, hi] at hsz
    | some i =>
      have hrun : (execOp a.eval ⟨some d, .buildSlice T 0 (List.toArray []), t, ps, af, gd⟩).run P w = .ok (.value (.slice (some ⟨w.heap.size, 0, none⟩) 0 0)) (w.alloc (.cells #[] E (0, 0))) := by
        simp [execOp, Instr.buildSlice, run_underlying hu, sizeOf, typeInfo, hi, Instr.fill, newRow, Array.range]
        exact congrArg (fun x => w.alloc (Obj.cells x E)) (by
          apply Array.ext
          · simp
          · intro i h1 h2; simp at h2)
      show Oper.uponIn (FR r) 0 P _ a K Q _
      rw [hrun, Oper.uponIn_value]
      have h1 := hw.new' (R := vec (.slice (some ⟨w.heap.size, 0, none⟩) 0 0) E s 0 []) (w' := w.alloc (.cells #[] E (0, 0))) rfl rfl rfl rfl (by simp) (fun k (hk : k < w.heap.size) => Below.heap_alloc w _ k hk)
        ⟨by simp, .inr ⟨w.heap.size, 0, #[], rfl, Nat.zero_le _, heap_alloc_new w _, Nat.le_refl _, by simp [maxLen], by simp, by simp⟩⟩
      exact h w.heap.size _ _ (ha.put hd _) h1

theorem zeroCells_one {z : Value} {zv : Value} (hz : z.cells.toList = [zv]) (n : Nat) : Builtin.zeroCells z.cells n = (List.replicate n zv).toArray := by
  have h1 : z.cells = #[zv] := by rw [← hz]
  rw [h1]
  apply Array.ext
  · simp [Builtin.zeroCells]
  · intro i h1 h2
    simp [Builtin.zeroCells, Nat.mod_one]

/-- append(s, make([]T, k)...), s full (or nil). -/
theorem o_appendZ {T TI E n k by_ : Nat} {ki kn : IntKind} {x y : Operand} {p : Option Addr} {xs : List Value} {zv : Value} {B : List Res} (hu : P.underlying T = some (.slice E)) (htn : P.underlying TI = some (.int kn)) (hz : zeroCs P E = some [zv]) (hsz : szT P E = some 1) (hby : (P.info? E).map (·.bytes) = some by_)
    (hx : ev e x = some (.slice p n n)) (hy : ev e y = some (.int ki (k : Int))) (hk : Pick (vec (.slice p n n) E 1 n xs) Rs B) (h63 : n + k ≤ maxLen) (hbytes : (n + k) * by_ ≤ 140737488355328) (hd : Nat.blt d cx.n = true)
    (h : ∀ q cap, (q = none ↔ p = none ∧ k = 0) → n + k ≤ cap → (q = none → cap = 0) → At cx ((d, .slice q (n + k) cap) :: e) (vec (.slice q (n + k) cap) E 1 (n + k) (xs ++ List.replicate k zv) :: B) K) :
    OpAt cx e Rs r P Q ⟨some d, .call { callee := .builtin .append, args := #[x, y], argTypes := #[T, TI] }, t, ps, af, gd⟩ K :=
  OpAt.of_run nofun fun a w ha hw => by
    obtain ⟨i, z, hi, hz0, hzc⟩ := zeroCs_spec hz
    have his : i.size = 1 := by simpa [szT, hi] using hsz
    have hib : i.bytes = by_ := by simpa [hi] using hby
    subst hib
    have hw' := hw.pick hk
    have hown : w.ownsRow 0 E 1 (.slice p n n) n xs := hw'.holds (vec (.slice p n n) E 1 n xs) (by simp)
    have key : ∃ v' w', (Builtin.append_ #[T, TI] t #[.slice p n n, .int ki (k : Int)]).run P w = .ok v' w' ∧ w'.ownsRow 0 E 1 v' (n + k) (xs ++ List.replicate k zv) ∧ w.grownBy w' (Value.slice p n n).ownBlock ∧
        (v' = .slice none 0 0 ↔ p = none ∧ k = 0) ∧ (v'.ownBlock = (Value.slice p n n).ownBlock ∨ ∀ g, v'.ownBlock = some g → w.heap.size ≤ g) := by
      rcases Nat.eq_zero_or_pos k with rfl | hk0
      · have hw0 : IntKind.i64.wrap (0 : Int) = 0 := by decide
        refine ⟨.slice p n n, w, ?_, by simpa using hown, ⟨rfl, rfl, rfl, Nat.le_refl _, fun _ _ _ => rfl⟩, ?_, .inl rfl⟩
        · cases p <;> simp [Builtin.append_, run_underlying hu, run_underlying htn, sizeOf, typeInfo, hi, asInt, asIntOf, hw0, storeCells]
        · simp only [Value.slice.injEq, and_true]
          constructor
          · rintro ⟨rfl, _⟩; rfl
          · rintro rfl
            rcases hown.2 with ⟨_, hn⟩ | ⟨g, cap, cur, he, _⟩
            · exact ⟨rfl, hn, hn⟩
            · simp at he
      · have hge := grownCap_ge w (n + k) n E
        have hcm : grownCap w (n + k) n E ≤ maxLen := grownCap_le_maxLen w (n + k) n E h63
        have hxl : xs.length = n := by simpa using hown.1
        have hfirst : (Builtin.firstCells i.size n (.slice p n n)).run P w.drew = .ok xs.toArray w.drew := by
          rw [his]
          cases p with
          | none =>
            rcases hown.2 with ⟨_, hn⟩ | ⟨g, cap, cur, he, _⟩
            · subst hn
              have : xs = [] := List.eq_nil_of_length_eq_zero hxl
              subst this
              simpa using run_firstCells_none (P := P) (w := w.drew) 1 0 0 0
            · simp at he
          | some ad =>
            refine run_firstCells_some (P := P) (w := w.drew) 1 n ad n n xs (by simp [hxl]) (fun j u hj => ?_)
            rcases hown.2 with ⟨he, _⟩ | ⟨g, cap, cur, he, _, hg, _⟩
            · simp at he
            · have := hown.cells (g := ad.block) (by rfl) j u hj
              simp only [Value.slice.injEq, Option.some.injEq] at he
              rw [he.1]
              rw [he.1] at this
              exact this
        have h63' : n + k ≤ 9223372036854775807 := by simp only [maxLen] at h63; omega
        have hr := Go.Lib.run_append_grow_zeros (P := P) w T TI t E i z ki kn hu htn hi hz0 p n n xs hfirst k hk0 (by omega) (by omega) (by omega) (by
          have : k * i.bytes ≤ (n + k) * i.bytes := Nat.mul_le_mul_right _ (by omega)
          omega) (growslice_fits (by omega) hbytes)
        rw [zeroCells_one hzc, zeroCells_one hzc] at hr
        refine ⟨_, _, hr, ⟨by simp [hxl], .inr ⟨w.heap.size, _, _, rfl, Nat.zero_le _, heap_alloc_new w.drew _, hge, hcm, ?_, ?_⟩⟩, ⟨rfl, rfl, rfl, by simp, fun k hk _ => heap_alloc_old w.drew _ hk⟩, ?_, .inr ?_⟩
        · simp [hxl]; omega
        · have e1 : (xs.toArray ++ (List.replicate k zv).toArray ++ (List.replicate (grownCap w (n + k) n E - (n + k)) zv).toArray).toList = (xs ++ List.replicate k zv) ++ List.replicate (grownCap w (n + k) n E - (n + k)) zv := by simp
          rw [e1, Nat.mul_one]
          exact List.take_left' (by simp [hxl])
        · simp; omega
        · intro g hg
          simp [Value.ownBlock] at hg
          omega
    obtain ⟨v', w', hrun', hown', hg, hnn, hfresh⟩ := key
    have hrun : (execOp a.eval ⟨some d, .call { callee := .builtin .append, args := #[x, y], argTypes := #[T, TI] }, t, ps, af, gd⟩).run P w = .ok (.value v') w' := by
      rw [BigFrame.execOp_builtin, BigFrame.builtin_append]
      simp [ha.eval hx, ha.eval hy, hrun']
    show Oper.uponIn (FR r) 0 P _ a K Q _
    rw [hrun, Oper.uponIn_value]
    obtain ⟨q, cap, rfl, hcap, hqc⟩ : ∃ q cap, v' = .slice q (n + k) cap ∧ n + k ≤ cap ∧ (q = none → cap = 0) := by
      rcases hown'.2 with ⟨rfl, hz⟩ | ⟨g, cap, cur, rfl, _, _, hle, _⟩
      · exact ⟨none, 0, by rw [hz], by omega, fun _ => rfl⟩
      · exact ⟨_, cap, rfl, hle, by simp⟩
    refine h q cap ?_ hcap hqc _ _ (ha.put hd _) (hw'.grown hg hown' hfresh)
    rw [← hnn]
    constructor
    · rintro rfl
      have hz0 := hqc rfl
      subst hz0
      have : n + k = 0 := by omega
      rw [this]
    · intro he
      simp only [Value.slice.injEq] at he
      exact he.1
end

section
variable {cx : Cx} {e : Env} {Rs : List Res} {P : Program} {K : Act → World → Prop} {ops : Array Oper} {g : Rg}
theorem An'.onx {f : Nat} {L : List Bool} {i : Nat} {B : List Res} (X : List Nat) (hX : g.X = X) (hc : (X.all fun k => !(L.set i true).toArray.getD k false) = false) (hQ : Split g.RsQ Rs B) (h : An' cx e Rs P ops g K f (L.set i true)) :
    At cx e Rs (fun a' w' => g.S cx (L.set i true).toArray w' ∧ (Closed ops (L.set i true).toArray → AnyS P ops (g.S cx) K f (L.set i true).toArray a' w')) := by
  subst hX
  exact An'.onX hQ hc rfl h
theorem Cells.rd {b o : Nat} {vs us : List Value} (h : RdA cx Rs (some ⟨b, 0, none⟩) vs) (hv : (vs.drop o).take us.length = us) : Cells cx Rs b o us := by
  intro w hw j v hj
  have h1 : vs[o + j]? = some v := by
    rw [← hv, List.getElem?_take] at hj
    split at hj
    · rwa [List.getElem?_drop] at hj
    · cases hj
  obtain ⟨b', o', he, hc⟩ := h w hw (o + j) v h1
  simp only [Option.some.injEq, Addr.mk.injEq, and_true] at he
  obtain ⟨rfl, rfl⟩ := he
  rw [Nat.zero_add] at hc
  exact hc
end
theorem RdC.ofBlk {w0 w : World} {S0 : List Nat} {Rs B : List Res} {b o : Nat} {T : TypeId} {cs vs : List Value} (hw : Sat w0 S0 Rs w) (hk : Pick (blk b T cs) Rs B) (hv : (cs.drop o).take vs.length = vs) : RdC w (Option.some ⟨b, o, none⟩) vs :=
  RdA.part (cx := ⟨0, [], w0, S0⟩) hk hv w hw
theorem RdC.cell {w : World} {b o : Nat} {vs : List Value} (h : RdC w (Option.some ⟨b, o, none⟩) vs) {j : Nat} {u : Value} (hj : vs[j]? = Option.some u) : w.cell? ⟨b, o + j, none⟩ = Option.some u := by
  obtain ⟨b', o', he, hc⟩ := h j u hj
  simp only [Option.some.injEq, Addr.mk.injEq, and_true] at he
  obtain ⟨rfl, rfl⟩ := he
  exact hc
theorem ret0n {cx : Cx} {e : Env} {Rs : List Res} {P : Program} {fn : Func} {R : Ending → World → Prop} (hds : cx.ds = []) (hr : fn.results = #[]) (hR : ∀ w, Sat cx.w0 cx.S0 Rs w → R (.returned (.tuple #[])) w) : At cx e Rs (bodyPost P fn R .normal) :=
  fun _ w ha hw => ⟨ha.defs.trans hds, _, results_none hr _ _ _, hR w hw⟩
theorem Cell.rd0 {cx : Cx} {Rs : List Res} {b j : Nat} {vs : List Value} {u : Value} (h : RdA cx Rs (some ⟨b, 0, none⟩) vs) (hj : vs[j]? = some u) : Cell cx Rs ⟨b, j, none⟩ u := fun w hw => by
  have := (h w hw).cell hj
  rwa [Nat.zero_add] at this
theorem fill_cons1 {place : Nat → Option (Nat × Nat)} {cells : Array Value} {i off : Nat} {v : Value} {rest : List (Nat × Value)} (hp : place i = some (off, 1)) (h1 : v.oneCell' = true) (ho : off < cells.size) :
    Instr.fill place cells ((i, v) :: rest) = Instr.fill place (cells.setIfInBounds off v) rest := by
  have hc : v.cells = #[v] := by cases v <;> first | rfl | cases h1
  have hsz : v.cells.size = 1 := by rw [hc]; rfl
  rw [Instr.fill]
  simp only [hp]
  rw [if_neg (by simp [hsz]; omega)]
  congr 1
  rw [hc]
  simp [Array.zipIdx]
theorem fill_all : ∀ (vs : List Value) (k : Nat) (cells : Array Value), (∀ v ∈ vs, v.oneCell' = true) → k + vs.length = cells.size → Instr.fill (fun i => some (i * 1, 1)) cells ((List.range' k vs.length).zip vs) = some (cells.toList.take k ++ vs).toArray
  | [], k, cells, _, h => by
    have : k = cells.toList.length := by simpa using h
    subst this
    rw [List.take_length]
    simp [Instr.fill]
  | v :: vs, k, cells, h1, h => by
    simp only [List.length_cons] at h ⊢
    rw [List.range'_succ, List.zip_cons_cons, fill_cons1 (off := k) (by simp) (h1 v (by simp)) (by omega), fill_all vs (k + 1) _ (fun u hu => h1 u (by simp [hu])) (by simp; omega)]
    congr 2
    have hk : k < cells.toList.length := by simp; omega
    rw [Array.toList_setIfInBounds, List.take_add_one, List.getElem?_set_self hk, List.take_set_of_le (by omega)]
    simp
section
variable {cx : Cx} {e : Env} {Rs : List Res} {r : Option Nat} {P : Program} {Q : Exit → Act → World → Prop} {K : Act → World → Prop}
  {d : Nat} {t : TypeId} {ps : String} {af : Array Edge} {gd : Option (Nat × Bool)}
/-- A slice's literal, of one-celled elements. -/
theorem o_buildSlice1 {T E len : Nat} {parts : List (Nat × Operand)} {vs zs : List Value} (hu : P.underlying T = some (.slice E)) (hz : zeroCs P E = some zs) (hsz : szT P E = some 1) (hlen : 0 < len) (hmax : len ≤ 16777216)
    (hp : evs e (parts.map (·.2)) = some vs) (hl : vs.length = len) (hi : parts.map (·.1) = List.range' 0 len) (h1 : ∀ v ∈ vs, v.oneCell' = true) (hd : Nat.blt d cx.n = true)
    (h : ∀ b, At cx ((d, .slice (some ⟨b, 0, none⟩) len len) :: e) (blk b E vs :: Rs) K) : OpAt cx e Rs r P Q ⟨some d, .buildSlice T len parts.toArray, t, ps, af, gd⟩ K :=
  o_buildSlice (s := 1) (cs := vs) hu hz hsz (by omega) (by omega) hp (by
    subst hl
    rw [hi, fill_all vs 0 _ h1 (by simp)]
    simp) hd h
end
theorem Sat.clear {w0 w : World} {S0 : List Nat} {Rs : List Res} (h : Sat w0 S0 Rs w) : Sat w0 S0 [] w := ⟨h.os, h.tape, h.output, h.size, h.frame, by simp, by simp, by simp, by simp⟩
end Go.Pm

/-! From E12 -/
/- The engine, part 12: what package strings' Builder needs. -/
namespace Go.Pm
open Go.RowKit
section
variable {P : Program} {cx : Cx} {e : Env} {Rs : List Res} {d : Option Tmp} {t : TypeId} {ps : String} {af : Array Edge} {gd : Option (Nat × Bool)}

theorem shape_blk {w0 w : World} {S0 : List Nat} {b E : Nat} {cs : List Value} {B : List Res} (hw : Sat w0 S0 Rs w) (hk : Pick (blk b E cs) Rs B) : w.shape? b = some (E, cs.length) := by
  have h : w.heap[b]? = some (.cells cs.toArray E (0, 0)) := hw.get hk
  simp [World.shape?, h]

theorem g_toUnsafe {S T el E b : Nat} {x : Operand} {cs : List Value} {B : List Res} (hs : P.underlying S = some (.pointer el)) (hd : P.underlying T = some .unsafePointer) (hz : szT P el = some 2) (hx : ev e x = some (.pointer (some ⟨b, 0, none⟩))) (hk : Pick (blk b E cs) Rs B) (hl : 0 < cs.length) :
    Gives P cx e Rs ⟨d, .convert S T x, t, ps, af, gd⟩ (.pointer (some ⟨b, 0, none⟩)) :=
  ⟨nofun, fun ρ w hρ hw => by
    have e1 := hρ x _ (by simp [Op.operands]) hx
    cases hi : P.info? el with
    | none => simp [szT, hi] at hz
    | some j =>
      have hj : j.size ≠ 0 := by simp [szT, hi] at hz; omega
      have := Go.Lib.run_to_unsafe (P := P) w (e := E) (cells := cs.length) ⟨b, 0, none⟩ hs hd hi hj (shape_blk hw hk) hl
      simp [execOp, e1, this]⟩
theorem g_fromUnsafe {S T el E b n : Nat} {x : Operand} {cs : List Value} {B : List Res} (hs : P.underlying S = some .unsafePointer) (hd : P.underlying T = some (.pointer el)) (hz : szT P el = some n) (hx : ev e x = some (.pointer (some ⟨b, 0, none⟩))) (hk : Pick (blk b E cs) Rs B)
    (hlies : liesAt P P.depth E (cs.length / P.cellsOf E) 0 el 1 = true) : Gives P cx e Rs ⟨d, .convert S T x, t, ps, af, gd⟩ (.pointer (some ⟨b, 0, none⟩)) :=
  ⟨nofun, fun ρ w hρ hw => by
    have e1 := hρ x _ (by simp [Op.operands]) hx
    cases hi : P.info? el with
    | none => simp [szT, hi] at hz
    | some j =>
      have := Go.Lib.run_from_unsafe (P := P) w (e := E) (cells := cs.length) ⟨b, 0, none⟩ hs hd hi (shape_blk hw hk) hlies
      simp [execOp, e1, this]⟩
theorem g_nePtrSame {T T2 el n : Nat} {x y : Operand} {a : Addr} (hT : P.underlying T = some (.pointer el)) (hz : szT P el = some n) (hx : ev e x = some (.pointer (some a))) (hy : ev e y = some (.pointer (some a))) :
    Gives P cx e Rs ⟨d, .binOp .neq T x y T2, t, ps, af, gd⟩ (.bool false) :=
  ⟨nofun, fun ρ w hρ _ => by
    have e1 := hρ x _ (by simp [Op.operands]) hx
    have e2 := hρ y _ (by simp [Op.operands]) hy
    cases hi : P.info? el with
    | none => simp [szT, hi] at hz
    | some j =>
      simp only [execOp, e1, e2, Sem.run_bind, run_eqGuard_ptr, Result.andThen_ok, Go.Lib.run_neq_ptr_same w a hT hi]
      rfl⟩
theorem g_unsafeData {x : Operand} {ats : Array TypeId} {a : Addr} {n c : Nat} (hx : ev e x = some (.slice (some a) n c)) (hc : c ≠ 0) : Gives P cx e Rs ⟨d, .call { callee := .builtin .unsafeSliceData, args := #[x], argTypes := ats }, t, ps, af, gd⟩ (.pointer (some a)) :=
  ⟨nofun, fun ρ w hρ _ => by
    have e1 := hρ x _ (by simp [Op.operands, Call.operands]) hx
    have := Go.Lib.run_unsafeSliceData_row (P := P) (w := w) ats t a n c hc
    rw [BigFrame.execOp_builtin, BigFrame.builtin_unsafeSliceData]
    simp [e1, this]⟩

/-- The halves of a byte. -/
theorem g_hi4 {T T2 : TypeId} {x y : Operand} {a : UInt8} {k : IntKind} (hx : ev e x = some (B8 a)) (hy : ev e y = some (.int k 4)) : Gives P cx e Rs ⟨d, .binOp .shr T x y T2, t, ps, af, gd⟩ (.int .u8 ((a.toNat / 16 : Nat) : Int)) :=
  g_shf hx hy (by decide) (by
    simp only [shfI, IntKind.bits]
    rw [show (2 : Int) ^ (min (4 : Int).toNat 8) = 16 by decide, Int.fdiv_eq_ediv_of_nonneg _ (by decide)]
    rfl)
theorem g_lo4 {T T2 : TypeId} {x y : Operand} {a : UInt8} (hx : ev e x = some (B8 a)) (hy : ev e y = some (.int .u8 15)) : Gives P cx e Rs ⟨d, .binOp .and T x y T2, t, ps, af, gd⟩ (.int .u8 ((a.toNat % 16 : Nat) : Int)) :=
  g_bin hx hy (by
    simp only [binI]
    rw [wrap_u8]
    have h3 : ((BitVec.ofInt 8 (a.toNat : Int) &&& BitVec.ofInt 8 (15 : Int)).toNat : Int) = ((a.toNat % 16 : Nat) : Int) := by
      have h2 : BitVec.ofInt 8 (15 : Int) = BitVec.ofNat 8 15 := rfl
      rw [h2, BitVec.ofInt_natCast, BitVec.toNat_and, BitVec.toNat_ofNat, BitVec.toNat_ofNat]
      have : a.toNat < 256 := a.toNat_lt
      rw [Nat.mod_eq_of_lt (by omega)]
      congr 1
      exact Nat.and_two_pow_sub_one_eq_mod a.toNat 4
    have h4 : ((BitVec.ofInt IntKind.u8.bits (a.toNat : Int) &&& BitVec.ofInt IntKind.u8.bits (15 : Int)).toNat : Int) = ((a.toNat % 16 : Nat) : Int) := h3
    refine congrArg (fun z : Int => some (Value.int .u8 z)) ?_
    rw [h4]
    exact Int.emod_eq_of_lt (by omega) (by omega))
end

section
variable {cx : Cx} {e : Env} {Rs : List Res} {r : Option Nat} {P : Program} {Q : Exit → Act → World → Prop} {K : Act → World → Prop}
  {d : Nat} {t : TypeId} {ps : String} {af : Array Edge} {gd : Option (Nat × Bool)}
/-- A call of a function of the runtime that has no body, and hands back what it is handed. -/
theorem o_extern {f : FuncId} {fn : Func} {x : Operand} {v : Value} {ats : Array TypeId} {ex : Array Value → Sem Value} (hf : P.funcs[f]? = some fn) (hnm : (fn.name == "runtime.NumGoroutine") = false) (hb : fn.body.isNone = true) (hn : Extern.findNext fn = none) (he : Extern.find fn = some ex)
    (hx : ev e x = some v) (hr : ∀ w, (ex #[v]).run P w = .ok v w) (hd : Nat.blt d cx.n = true) (h : At cx ((d, v) :: e) Rs K) :
    OpAt cx e Rs r P Q ⟨some d, .call { callee := .value (.func f), args := #[x], argTypes := ats }, t, ps, af, gd⟩ K :=
  OpAt.of_run nofun fun a w ha hw => by
    have hrun : (execOp a.eval ⟨some d, .call { callee := .value (.func f), args := #[x], argTypes := ats }, t, ps, af, gd⟩).run P w = .ok (.value v) w := by
      have h1 := run_callFunc_extern (P := P) hf hnm hb hn he #[v] w
      rw [hr w] at h1
      simp only [execOp, resolve, Act.eval, Deferred.ofValue, Sem.run_bind, Sem.run_pure, Result.andThen_ok, invoke]
      simp only [List.map_toArray, List.map_cons, List.map_nil, ha.eval hx]
      rw [show (#[] ++ #[v] ++ #[] : Array Value) = #[v] by simp, h1]
      rfl
    show Oper.uponIn (FR r) 0 P _ a K Q _
    rw [hrun, Oper.uponIn_value]
    exact h _ w (ha.put hd _) hw

theorem freeze_other {w : World} {g n k : Nat} (hk : k ≠ g) : (w.freeze ⟨g, 0, none⟩ n).heap[k]? = w.heap[k]? := by
  unfold World.freeze
  split
  · rfl
  · simp only
    rw [Array.getElem?_modify, if_neg (by simpa using (Ne.symm hk))]
theorem freeze_size {w : World} {g n : Nat} : (w.freeze ⟨g, 0, none⟩ n).heap.size = w.heap.size := by
  unfold World.freeze
  split
  · rfl
  · simp
theorem freeze_os {w : World} {g n : Nat} : (w.freeze ⟨g, 0, none⟩ n).os = w.os ∧ (w.freeze ⟨g, 0, none⟩ n).tape = w.tape ∧ (w.freeze ⟨g, 0, none⟩ n).output = w.output := by
  unfold World.freeze
  split <;> exact ⟨rfl, rfl, rfl⟩

/-- unsafe.String over a row that is let go. -/
theorem o_unsafeString {T TI E n cap : Nat} {x y : Operand} {a : Addr} {l : List UInt8} {B : List Res} (hT : P.underlying T = some (.pointer E)) (hc : P.cellsOf E = 1) (hx : ev e x = some (.pointer (some a))) (hy : ev e y = some (.int .i64 (n : Int))) (hk : Pick (vec (.slice (some a) n cap) E 1 n (l.map B8)) Rs B)
    (hl : l ≠ []) (hd : Nat.blt d cx.n = true) (h : At cx ((d, .string ⟨l.toArray⟩) :: e) B K) :
    OpAt cx e Rs r P Q ⟨some d, .call { callee := .builtin .unsafeString, args := #[x, y], argTypes := #[T, TI] }, t, ps, af, gd⟩ K :=
  OpAt.of_run nofun fun act w ha hw => by
    have hw' := hw.pick hk
    have hv : w.ownsRow 0 E 1 (.slice (some a) n cap) n (l.map B8) := hw'.holds (vec (.slice (some a) n cap) E 1 n (l.map B8)) (by simp)
    have hln : l.length = n := by simpa using hv.1
    rcases hv.2 with ⟨he, _⟩ | ⟨g, cap', cur, he, h1, h2, h3, h4, h5, h6⟩
    · simp at he
    · have hcell := hv.cells (g := a.block) rfl
      simp only [Value.slice.injEq, true_and, Option.some.injEq] at he
      obtain ⟨rfl, rfl⟩ := he
      have hgz : g < w.heap.size := (Array.getElem?_eq_some_iff.1 h2).1
      have hus := Go.Lib.run_unsafeString_row (P := P) w T TI t E hT hc g cur.size (by simp [World.shape?, h2]) l hl (by omega) (by unfold maxLen at h4; omega) (fun j x hj => hcell j (B8 x) (by simp [hj]))
      have hrun : (execOp act.eval ⟨some d, .call { callee := .builtin .unsafeString, args := #[x, y], argTypes := #[T, TI] }, t, ps, af, gd⟩).run P w = .ok (.value (.string ⟨l.toArray⟩)) (w.freeze ⟨g, 0, none⟩ l.length) := by
        rw [BigFrame.execOp_builtin, BigFrame.builtin_unsafeString]
        have e1 := ha.eval hx
        have e2 := ha.eval hy
        rw [← hln] at e2
        simp [e1, e2, hus]
      show Oper.uponIn (FR r) 0 P _ act K Q _
      rw [hrun, Oper.uponIn_value]
      obtain ⟨o1, o2, o3⟩ := freeze_os (w := w) (g := g) (n := l.length)
      have hgz' : g < (w.freeze ⟨g, 0, none⟩ l.length).heap.size := by rw [freeze_size]; exact hgz
      exact h _ _ (ha.put hd _) (hw'.upd (R' := objR g ((w.freeze ⟨g, 0, none⟩ l.length).heap[g])) rfl o1 o2 o3 freeze_size (fun k hk => freeze_other (by simpa [vec, vecFp] using hk)) (by show _ = _; exact Array.getElem?_eq_getElem hgz')).drop

/-- []byte(s). -/
theorem o_bytes {S T E : Nat} {x : Operand} {s : ByteArray} (hs : P.underlying S = some .string) (hT : P.underlying T = some (.slice E)) (hE : P.underlying E = some (.int .u8)) (hx : ev e x = some (.string s)) (hd : Nat.blt d cx.n = true)
    (h : ∀ b cap rest fr, s.size ≤ cap → At cx ((d, .slice (some ⟨b, 0, none⟩) s.size cap) :: e) (blkF b E (s.data.toList.map B8 ++ rest) fr :: Rs) K) : OpAt cx e Rs r P Q ⟨some d, .convert S T x, t, ps, af, gd⟩ K :=
  OpAt.of_run nofun fun act w ha hw => by
    have h1 := Go.Lib.run_convert_string_bytes (P := P) w S T E s hs hT hE
    have hrun : (execOp act.eval ⟨some d, .convert S T x, t, ps, af, gd⟩).run P w = .ok (.value (.slice (some ⟨w.heap.size, 0, none⟩) s.size (grownCap w s.size 0 E))) (Go.Lib.bytesWorld w E s) := by
      simp only [execOp, ha.eval hx, Sem.run_bind, h1, Result.andThen_ok, Sem.run_pure]
    show Oper.uponIn (FR r) 0 P _ act K Q _
    rw [hrun, Oper.uponIn_value]
    have hcs : Go.Lib.bytesCells w E s = (s.data.toList.map B8 ++ List.replicate (grownCap w s.size 0 E - s.size) (Value.int .u8 0)).toArray := by
      apply Array.ext'
      simp [Go.Lib.bytesCells]
    have hos : (Go.Lib.bytesWorld w E s).os = w.os ∧ (Go.Lib.bytesWorld w E s).tape = w.tape ∧ (Go.Lib.bytesWorld w E s).output = w.output := by
      unfold Go.Lib.bytesWorld World.freeze
      split <;> exact ⟨rfl, rfl, rfl⟩
    refine h w.heap.size (grownCap w s.size 0 E) (List.replicate (grownCap w s.size 0 E - s.size) (Value.int .u8 0)) ((Go.Lib.bytesCells w E s).size, (Go.Lib.bytesCells w E s).size + 1) (grownCap_ge _ _ _ _) _ _ (ha.put hd _) ?_
    exact hw.new' (R := blkF w.heap.size E _ _) rfl hos.1 hos.2.1 hos.2.2 (Go.Lib.bytesWorld_size _ _ _) (fun k hk => Go.Lib.bytesWorld_at_old w E s k hk) (by show _ = _; rw [Go.Lib.bytesWorld_at_new, hcs])
end
end Go.Pm

/-! From E13 -/
/- The engine, part 13: guarded operations that act, in regions that draw their order. -/
namespace Go.Pm
open Go.RowKit
section
variable {cx : Cx} {e : Env} {Rs : List Res} {P : Program} {K : Act → World → Prop} {ops : Array Oper} {g : Rg}
theorem An'.allG {f : Nat} {L : List Bool} (rs : List Nat) (hr : Region.ready .any ops L.toArray = rs) (hne : rs ≠ [])
    (h : ∀ i ∈ rs, ∃ o, ops[i]? = some o ∧ guardOk ops e o = some true ∧ OpAt cx e Rs none P QF o (fun a' w' => g.S cx (L.set i true).toArray w' ∧ (Closed ops (L.set i true).toArray → AnyS P ops (g.S cx) K f (L.set i true).toArray a' w'))) :
    An' cx e Rs P ops g K (f + 1) L := by
  intro hcl a w ha hw hS
  refine ⟨fun h0 => absurd (hr ▸ h0) hne, fun i hi => ?_⟩
  obtain ⟨o, ho, hgd, hop⟩ := h i (hr ▸ hi)
  have hset : (L.set i true).toArray = L.toArray.setIfInBounds i true := by simp
  have hwant := guardOk_spec ha hgd
  unfold wpOpIn
  simp only [ho]
  rw [if_pos hwant]
  refine Oper.wpIn_mono (fun a' w' h3 => ?_) (hop a w ha hw)
  rw [hset] at h3
  exact ⟨h3.1, h3.2 (hcl.set hi)⟩
theorem An'.oneG {f : Nat} {L : List Bool} (i : Nat) {o : Oper} (hr : Region.ready .any ops L.toArray = [i]) (ho : ops[i]? = some o) (hgd : guardOk ops e o = some true)
    (h : OpAt cx e Rs none P QF o (fun a' w' => g.S cx (L.set i true).toArray w' ∧ (Closed ops (L.set i true).toArray → AnyS P ops (g.S cx) K f (L.set i true).toArray a' w'))) : An' cx e Rs P ops g K (f + 1) L :=
  An'.allG [i] hr (by simp) fun j hj => by
    have : j = i := by simpa using hj
    subst this
    exact ⟨o, ho, hgd, h⟩
/-- A guarded operation that is passed over. -/
theorem An'.n {f : Nat} {L : List Bool} (i : Nat) (X : List Nat) {d : Nat} {op : Op} {t : TypeId} {ps : String} {af : Array Edge} {gd : Option (Nat × Bool)} (hX : g.X = X) (hc : chkQ ops L X i = true) (hi : ops[i]? = some { dst := some d, op, type := t, pos := ps, after := af, guard := gd })
    (hw : guardOk ops e { dst := some d, op, type := t, pos := ps, after := af, guard := gd } = some false) (hd : Nat.blt d cx.n = true) (h : An' cx ((d, undef) :: e) Rs P ops g K f (L.set i true)) : An' cx e Rs P ops g K (f + 1) L := by
  subst hX
  simp only [chkQ, Bool.and_eq_true, Bool.not_eq_true'] at hc
  obtain ⟨⟨⟨⟨h1, h2⟩, h3⟩, h4⟩, h5⟩ := hc
  exact An'.no i hi h1 h2 h3 h4 h5 hw hd rfl h
end
end Go.Pm

/-! From E14 -/
/- The engine, part 14: elements of many cells: loads, literals, lists of rows. -/
namespace Go.Pm
open Go.RowKit

section
variable {P : Program} {cx : Cx} {e : Env} {Rs : List Res} {d : Option Tmp} {t : TypeId} {ps : String} {af : Array Edge} {gd : Option (Nat × Bool)}

/-- A struct or an array, read where a slice lies. -/
theorem g_loadAP {x : Operand} {T : TypeId} {n j : Nat} {p : Option Addr} {cs vs : List Value} (hT : agT P T = some n) (hx : ev e x = some (.pointer (some (adr p j)))) (hn : vs.length = n) (h0 : 0 < n) (hr : RdA cx Rs p cs) (hv : (cs.drop j).take n = vs) :
    Gives P cx e Rs ⟨d, .load T x, t, ps, af, gd⟩ (.agg vs.toArray) :=
  ⟨nofun, fun ρ w hρ hw => by
    have h1 := hρ x _ (by simp [Op.operands]) hx
    have hsub : ∀ k v, vs[k]? = some v → cs[j + k]? = some v := fun k v hk => by
      rw [← hv, List.getElem?_take] at hk
      split at hk
      · rwa [List.getElem?_drop] at hk
      · cases hk
    obtain ⟨u, hu⟩ : ∃ u, vs[0]? = some u := ⟨vs[0], by simp [hn, h0]⟩
    obtain ⟨b, o, rfl, _⟩ := hr w hw (j + 0) u (hsub 0 u hu)
    rw [adr_some] at h1
    have hc : ∀ k v, vs[k]? = some v → w.cell? ⟨b, o + j + k, none⟩ = some v := fun k v hk => by
      obtain ⟨b', o', he, hc⟩ := hr w hw (j + k) v (hsub k v hk)
      simp only [Option.some.injEq, Addr.mk.injEq, and_true] at he
      obtain ⟨rfl, rfl⟩ := he
      rw [Nat.add_assoc]; exact hc
    simp [execOp, h1, Instr.loadAt, Instr.sureAddr, run_loadAgg hT hn hc]⟩

/-- A slice as an array's address. -/
theorem g_toArr {x : Operand} {T n len cap s : Nat} {a : Addr} (hT : arrOf P T = some (n, s)) (hx : ev e x = some (.slice (some a) len cap)) (hl : n ≤ len) : Gives P cx e Rs ⟨d, .sliceToArrayPointer T x, t, ps, af, gd⟩ (.pointer (some a)) :=
  ⟨nofun, fun ρ w hρ _ => by
    have e1 := hρ x _ (by simp [Op.operands]) hx
    obtain ⟨el, inf, hu, hinf, rfl⟩ := arrOf_spec hT
    have hnl : ¬ len < n := by omega
    simp [execOp, e1, Instr.arrayAt, run_underlying hu, hnl]⟩
end

/-! ### Literals whose parts have many cells -/
theorem foldl_set : ∀ (vs : List Value) (cells : Array Value) (off k : Nat), off + k + vs.length ≤ cells.size →
    (vs.zipIdx k).foldl (fun cs (x : Value × Nat) => cs.setIfInBounds (off + x.2) x.1) cells = (setR cells.toList (off + k) vs).toArray
  | [], cells, off, k, _ => by simp [setR]
  | v :: vs, cells, off, k, h => by
    simp only [List.length_cons] at h
    rw [List.zipIdx_cons, List.foldl_cons, foldl_set vs _ off (k + 1) (by simp; omega)]
    congr 1
    have hk : off + k < cells.toList.length := by simp; omega
    simp only [setR, List.length_cons, Array.toList_setIfInBounds]
    rw [show off + (k + 1) = off + k + 1 by omega, List.take_add_one, List.getElem?_set_self hk, List.take_set_of_le (by omega), List.drop_set_of_lt (by omega)]
    simp [Nat.add_assoc, Nat.add_comm 1]
theorem fill_cons {place : Nat → Option (Nat × Nat)} {cells : Array Value} {i off size : Nat} {v : Value} {rest : List (Nat × Value)} (hp : place i = some (off, size)) (hs : v.cells.size = size) (ho : off + size ≤ cells.size) :
    Instr.fill place cells ((i, v) :: rest) = Instr.fill place (setR cells.toList off v.cells.toList).toArray rest := by
  rw [Instr.fill]
  simp only [hp]
  rw [if_neg (by simp [hs]; omega)]
  congr 1
  have h := foldl_set v.cells.toList cells off 0 (by simp [hs]; exact ho)
  rw [Nat.add_zero] at h
  rw [← h, ← Array.foldl_toList]
  simp
theorem fill_nil {place : Nat → Option (Nat × Nat)} {cells : Array Value} : Instr.fill place cells [] = some cells := rfl

section
variable {cx : Cx} {e : Env} {Rs : List Res} {r : Option Nat} {P : Program} {Q : Exit → Act → World → Prop} {K : Act → World → Prop}
  {d : Nat} {t : TypeId} {ps : String} {af : Array Edge} {gd : Option (Nat × Bool)}
/-- A slice's literal of one element of many cells. -/
theorem o_buildSliceA {T E s : Nat} {x : Operand} {vs zs : List Value} (hu : P.underlying T = some (.slice E)) (hz : zeroCs P E = some zs) (hsz : szT P E = some s) (hs0 : 0 < s) (hmax : s ≤ 16777216)
    (hx : ev e x = some (.agg vs.toArray)) (hl : vs.length = s) (hd : Nat.blt d cx.n = true)
    (h : ∀ b, At cx ((d, .slice (some ⟨b, 0, none⟩) 1 1) :: e) (blk b E vs :: Rs) K) : OpAt cx e Rs r P Q ⟨some d, .buildSlice T 1 #[(0, x)], t, ps, af, gd⟩ K :=
  o_buildSlice (parts := [(0, x)]) (s := s) (len := 1) (vs := [.agg vs.toArray]) (cs := vs) hu hz hsz (by omega) (by omega) (by simp [evs, hx]) (by
    simp only [List.map_cons, List.map_nil, List.zip_cons_cons, List.zip_nil_right]
    rw [fill_cons (off := 0) (size := s) (by simp) (by simp [Value.cells, hl]) (by simp), fill_nil]
    congr 2
    simp [setR, Value.cells, hl]) hd h
end

/-! ### Rows of equal length, end to end -/
theorem flat_length {α : Type} {l : List (List α)} {n : Nat} (h : ∀ x ∈ l, x.length = n) : l.flatten.length = l.length * n := by
  induction l with
  | nil => simp
  | cons x l ih => rw [List.flatten_cons, List.length_append, ih (fun y hy => h y (by simp [hy])), h x (by simp), List.length_cons, Nat.add_mul]; omega
theorem flat_get {α : Type} {l : List (List α)} {n i : Nat} {x : List α} (h : ∀ x ∈ l, x.length = n) (hi : l[i]? = some x) : (l.flatten.drop (i * n)).take n = x := by
  induction l generalizing i with
  | nil => simp at hi
  | cons y l ih =>
    have hy := h y (by simp)
    cases i with
    | zero =>
      simp at hi
      subst hi
      rw [Nat.zero_mul, List.drop_zero, List.flatten_cons, ← hy]
      exact List.take_left
    | succ i =>
      rw [List.flatten_cons, Nat.add_mul, Nat.one_mul, Nat.add_comm (i * n) n, ← List.drop_drop]
      have : (y ++ l.flatten).drop n = l.flatten := by rw [← hy]; exact List.drop_left
      rw [this]
      exact ih (fun z hz => h z (by simp [hz])) (by simpa using hi)
theorem flat_set {l : List (List Value)} {n i : Nat} {x : List Value} (h : ∀ x ∈ l, x.length = n) (hx : x.length = n) (hi : i < l.length) : setR l.flatten (i * n) x = (l.set i x).flatten := by
  induction l generalizing i with
  | nil => simp at hi
  | cons y l ih =>
    have hy := h y (by simp)
    cases i with
    | zero =>
      simp only [setR, Nat.zero_mul, List.take_zero, List.nil_append, Nat.zero_add, hx, List.set_cons_zero, List.flatten_cons]
      congr 1
      rw [← hy]; exact List.drop_left
    | succ i =>
      have ih' := ih (i := i) (fun z hz => h z (by simp [hz])) (by simpa using hi)
      simp only [setR, List.set_cons_succ, List.flatten_cons] at ih' ⊢
      rw [← ih']
      have e1 : (i + 1) * n = y.length + i * n := by rw [hy, Nat.add_mul]; omega
      rw [e1, List.take_length_add_append, Nat.add_assoc, List.drop_length_add_append]
      simp
end Go.Pm
