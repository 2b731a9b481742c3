/- The engine, part 1: assertions on a frame (known slots) and on memory (owned blocks), and the rules of the code's control. -/
import Derived.WalkKit
import Derived.TacticsIn
import Derived.OrdersIn
import Derived.RangeFuncRecord
namespace Go.Pm
open Go.RowKit

/-! ### Frames -/

abbrev Env := List (Nat × Value)

def Env.get : Env → Nat → Option Value
  | [], _ => none
  | (i, v) :: e, j => bif Nat.beq i j then some v else Env.get e j

/-- What an operand is, by the known slots. -/
def ev (e : Env) : Operand → Option Value
  | .tmp t => e.get t
  | .const v => some v
  | .global g => some (.pointer (some ⟨g, 0, none⟩))
  | .func f => some (.func (.func f) #[] #[])

/-- The frame holds what is known, has n slots, and these deferred calls. -/
structure Ok (n : Nat) (ds : List Deferred) (e : Env) (a : Act) : Prop where
  size : a.tmps.size = n
  defs : a.defers = ds
  get : ∀ i v, e.get i = some v → a.tmps[i]? = some v

theorem Ok.eval {n ds e a} (h : Ok n ds e a) {x : Operand} {v : Value} (hx : ev e x = some v) : a.eval x = v := by
  cases x with
  | tmp t => simp [Act.eval, h.get t v hx]
  | const u => simpa [ev, Act.eval] using hx
  | global g => simpa [ev, Act.eval] using hx
  | func f => simpa [ev, Act.eval] using hx

theorem Ok.put {n ds e a} (h : Ok n ds e a) {d : Nat} (hd : Nat.blt d n = true) (v : Value) : Ok n ds ((d, v) :: e) (a.put (some d) v) := by
  refine ⟨by simp [Act.put, h.size], h.defs, fun i u hu => ?_⟩
  have hdn : d < n := by simpa using hd
  simp only [Act.put]
  by_cases hdi : d = i
  · subst hdi
    simp [Env.get] at hu
    simp [h.size, hdn, hu]
  · have hb : Nat.beq d i = false := by
      cases hb : Nat.beq d i with
      | true => exact absurd (Nat.eq_of_beq_eq_true hb) hdi
      | false => rfl
    simp only [Env.get, hb, cond_false] at hu
    rw [Array.getElem?_setIfInBounds_ne hdi]
    exact h.get i u hu

theorem Ok.put_none {n ds e a} (h : Ok n ds e a) (v : Value) : Ok n ds e (a.put none v) := h

/-- Fewer things are known. -/
def Env.Sub : Env → Env → Prop
  | [], _ => True
  | (i, v) :: r, e => e.get i = some v ∧ Env.Sub r e

theorem Env.Sub.get {e' e : Env} (h : Env.Sub e' e) : ∀ i v, e'.get i = some v → e.get i = some v := by
  induction e' with
  | nil => intro i v hv; simp [Env.get] at hv
  | cons p r ih =>
    obtain ⟨j, u⟩ := p
    intro i v hv
    simp only [Env.get] at hv
    cases hb : Nat.beq j i with
    | true =>
      rw [hb] at hv
      simp at hv
      subst hv
      rw [← Nat.eq_of_beq_eq_true hb]
      exact h.1
    | false =>
      rw [hb] at hv
      exact ih h.2 i v (by simpa using hv)

theorem Ok.sub {n ds e e' a} (h : Ok n ds e a) (hs : Env.Sub e' e) : Ok n ds e' a := ⟨h.size, h.defs, fun i v hv => h.get i v (hs.get i v hv)⟩

/-! ### Memory -/

/-- A thing owned: its blocks, and what holds of the world by those blocks alone. -/
structure Res where
  fp : List Nat
  P : World → Prop
  loc : ∀ {w w' : World}, (∀ k ∈ fp, w'.heap[k]? = w.heap[k]?) → P w → P w'

def fps (Rs : List Res) : List Nat := Rs.flatMap Res.fp

@[simp] theorem fps_nil : fps [] = [] := rfl
@[simp] theorem fps_cons (R : Res) (Rs : List Res) : fps (R :: Rs) = R.fp ++ fps Rs := by simp [fps]
theorem fps_append (A B : List Res) : fps (A ++ B) = fps A ++ fps B := by simp [fps]

/-- From world w0 on (whose blocks S0 may have been written), world w holds these things, apart from one another; all else that was there is as it was. -/
structure Sat (w0 : World) (S0 : List Nat) (Rs : List Res) (w : World) : Prop where
  os : w.os = w0.os
  tape : w.tape = w0.tape
  output : w.output = w0.output
  size : w0.heap.size ≤ w.heap.size
  frame : ∀ k, k < w0.heap.size → k ∉ S0 → w.heap[k]? = w0.heap[k]?
  holds : ∀ R ∈ Rs, R.P w
  lt : ∀ k ∈ fps Rs, k < w.heap.size
  nodup : (fps Rs).Nodup
  new : ∀ k ∈ fps Rs, k ∈ S0 ∨ w0.heap.size ≤ k

theorem Sat.below {w0 w : World} {Rs : List Res} (h : Sat w0 [] Rs w) : Below w0.heap.size w0 w :=
  ⟨h.os, h.tape, h.output, h.size, fun k hk => h.frame k hk (by simp)⟩

theorem Sat.refl (w : World) : Sat w [] [] w := ⟨rfl, rfl, rfl, Nat.le_refl _, fun _ _ _ => rfl, by simp, by simp, by simp, by simp⟩

theorem Sat.drew {w0 S0 Rs} {w : World} (h : Sat w0 S0 Rs w) (n : Nat) : Sat w0 S0 Rs { w with drawn := n } :=
  ⟨h.os, h.tape, h.output, h.size, h.frame, fun R hR => R.loc (w := w) (w' := { w with drawn := n }) (fun _ _ => rfl) (h.holds R hR), h.lt, h.nodup, h.new⟩

/-- One of a list; the others. -/
inductive Pick (R : Res) : List Res → List Res → Prop
  | here {L : List Res} : Pick R (R :: L) L
  | there {X : Res} {L L' : List Res} : Pick R L L' → Pick R (X :: L) (X :: L')

theorem Pick.perm {R L L'} (h : Pick R L L') : L.Perm (R :: L') := by
  induction h with
  | here => exact List.Perm.refl _
  | there _ ih => exact (List.Perm.cons _ ih).trans (List.Perm.swap _ _ _)

theorem Sat.perm {w0 S0 Rs Rs'} {w : World} (h : Sat w0 S0 Rs w) (hp : Rs.Perm Rs') : Sat w0 S0 Rs' w := by
  have hf : (fps Rs).Perm (fps Rs') := List.Perm.flatMap_right _ hp
  exact ⟨h.os, h.tape, h.output, h.size, h.frame, fun R hR => h.holds R (hp.mem_iff.2 hR), fun k hk => h.lt k (hf.mem_iff.2 hk), hf.nodup_iff.1 h.nodup, fun k hk => h.new k (hf.mem_iff.2 hk)⟩

theorem Sat.pick {w0 S0 Rs R Rs'} {w : World} (h : Sat w0 S0 Rs w) (hp : Pick R Rs Rs') : Sat w0 S0 (R :: Rs') w := h.perm hp.perm

theorem Sat.get {w0 S0 Rs R Rs'} {w : World} (h : Sat w0 S0 Rs w) (hp : Pick R Rs Rs') : R.P w := (h.pick hp).holds R (by simp)

/-- What is named no more. -/
theorem Sat.drop {w0 S0 R Rs} {w : World} (h : Sat w0 S0 (R :: Rs) w) : Sat w0 S0 Rs w :=
  ⟨h.os, h.tape, h.output, h.size, h.frame, fun X hX => h.holds X (by simp [hX]), fun k hk => h.lt k (by simp [hk]), (by have := h.nodup; simp at this; exact (List.nodup_append.1 this).2.1), fun k hk => h.new k (by simp [hk])⟩

theorem Sat.dropA {w0 S0 Rs} (A : List Res) {w : World} (h : Sat w0 S0 (A ++ Rs) w) : Sat w0 S0 Rs w := by
  induction A with
  | nil => exact h
  | cons R A ih => exact ih h.drop

/-- Some of a list; the others. -/
inductive Split : List Res → List Res → List Res → Prop
  | nil {L : List Res} : Split [] L L
  | cons {R : Res} {A L L' B : List Res} : Pick R L L' → Split A L' B → Split (R :: A) L B

theorem Split.perm {A L B} (h : Split A L B) : L.Perm (A ++ B) := by
  induction h with
  | nil => exact List.Perm.refl _
  | cons hp _ ih => exact hp.perm.trans (List.Perm.cons _ ih)

theorem Sat.split {w0 S0 Rs A B} {w : World} (h : Sat w0 S0 Rs w) (hs : Split A Rs B) : Sat w0 S0 (A ++ B) w := h.perm hs.perm

/-- One thing in the place of another one, over the same blocks; all other blocks are as they were. -/
theorem Sat.upd {w0 S0 R R' Rs} {w w' : World} (h : Sat w0 S0 (R :: Rs) w) (hfp : R'.fp = R.fp) (ho : w'.os = w.os) (ht : w'.tape = w.tape) (hu : w'.output = w.output)
    (hz : w'.heap.size = w.heap.size) (hk : ∀ k, k ∉ R.fp → w'.heap[k]? = w.heap[k]?) (hP : R'.P w') : Sat w0 S0 (R' :: Rs) w' := by
  have hnd := h.nodup
  simp only [fps_cons] at hnd
  have hap := List.nodup_append.1 hnd
  refine ⟨ho.trans h.os, ht.trans h.tape, hu.trans h.output, by rw [hz]; exact h.size, fun k hk0 hS => ?_, fun X hX => ?_, fun k hkk => ?_, by simp only [fps_cons, hfp]; exact hnd, fun k hkk => h.new k (by simpa [hfp] using hkk)⟩
  · rw [hk k (fun hR => ?_)]
    · exact h.frame k hk0 hS
    · rcases h.new k (by simp [hR]) with h1 | h1
      · exact hS h1
      · omega
  · rcases List.mem_cons.1 hX with rfl | hX
    · exact hP
    · refine X.loc (fun k hkX => hk k (fun hR => ?_)) (h.holds X (by simp [hX]))
      exact hap.2.2 k hR k (List.mem_flatMap.2 ⟨X, hX, hkX⟩) rfl
  · rw [hz]; exact h.lt k (by simpa [hfp] using hkk)

/-- A new block. -/
theorem Sat.new' {w0 S0 R Rs} {w w' : World} (h : Sat w0 S0 Rs w) (hfp : R.fp = [w.heap.size]) (ho : w'.os = w.os) (ht : w'.tape = w.tape) (hu : w'.output = w.output)
    (hz : w'.heap.size = w.heap.size + 1) (hk : ∀ k, k < w.heap.size → w'.heap[k]? = w.heap[k]?) (hP : R.P w') : Sat w0 S0 (R :: Rs) w' := by
  refine ⟨ho.trans h.os, ht.trans h.tape, hu.trans h.output, by have := h.size; omega, fun k hk0 hS => ?_, fun X hX => ?_, fun k hkk => ?_, ?_, fun k hkk => ?_⟩
  · rw [hk k (by have := h.size; omega)]; exact h.frame k hk0 hS
  · rcases List.mem_cons.1 hX with rfl | hX
    · exact hP
    · exact X.loc (fun k hkX => hk k (h.lt k (List.mem_flatMap.2 ⟨X, hX, hkX⟩))) (h.holds X hX)
  · simp only [fps_cons, hfp, List.cons_append, List.nil_append, List.mem_cons] at hkk
    rcases hkk with rfl | hkk
    · omega
    · have := h.lt k hkk; omega
  · simp only [fps_cons, hfp, List.cons_append, List.nil_append, List.nodup_cons]
    exact ⟨fun hm => absurd (h.lt _ hm) (Nat.lt_irrefl _), h.nodup⟩
  · simp only [fps_cons, hfp, List.cons_append, List.nil_append, List.mem_cons] at hkk
    rcases hkk with rfl | hkk
    · exact .inr h.size
    · exact h.new k hkk

/-- A callee's part, put into the caller's. -/
theorem Sat.join {w0 S0 A A' B} {w w' : World} (h : Sat w0 S0 (A ++ B) w) (h' : Sat w (fps A) A' w') : Sat w0 S0 (A' ++ B) w' := by
  have hnd := h.nodup
  rw [fps_append] at hnd
  have hap := List.nodup_append.1 hnd
  have hB : ∀ k, k ∈ fps B → w'.heap[k]? = w.heap[k]? := fun k hk =>
    h'.frame k (h.lt k (by rw [fps_append]; simp [hk])) (fun hA => hap.2.2 k hA k hk rfl)
  refine ⟨h'.os.trans h.os, h'.tape.trans h.tape, h'.output.trans h.output, Nat.le_trans h.size h'.size, fun k hk0 hS => ?_, fun X hX => ?_, fun k hkk => ?_, ?_, fun k hkk => ?_⟩
  · rw [h'.frame k (Nat.lt_of_lt_of_le hk0 h.size) (fun hA => ?_)]
    · exact h.frame k hk0 hS
    · rcases h.new k (by rw [fps_append]; simp [hA]) with h1 | h1
      · exact hS h1
      · omega
  · rcases List.mem_append.1 hX with hX | hX
    · exact h'.holds X hX
    · exact X.loc (fun k hkX => hB k (List.mem_flatMap.2 ⟨X, hX, hkX⟩)) (h.holds X (by simp [hX]))
  · rw [fps_append] at hkk
    rcases List.mem_append.1 hkk with hkk | hkk
    · exact h'.lt k hkk
    · exact Nat.lt_of_lt_of_le (h.lt k (by rw [fps_append]; simp [hkk])) h'.size
  · rw [fps_append]
    refine List.nodup_append.2 ⟨h'.nodup, hap.2.1, fun k hk j hj e => ?_⟩
    subst e
    rcases h'.new k hk with h1 | h1
    · exact hap.2.2 k h1 k hj rfl
    · have := h.lt k (by rw [fps_append]; simp [hj]); omega
  · rw [fps_append] at hkk
    rcases List.mem_append.1 hkk with hkk | hkk
    · rcases h'.new k hkk with h1 | h1
      · exact h.new k (by rw [fps_append]; simp [h1])
      · exact .inr (Nat.le_trans h.size h1)
    · exact h.new k (by rw [fps_append]; simp [hkk])

/-- A part of what is owned, seen from the world at hand: what a callee is handed. -/
theorem Sat.hand {w0 S0 A B} {w : World} (h : Sat w0 S0 (A ++ B) w) : Sat w (fps A) A w := by
  have hnd := h.nodup
  rw [fps_append] at hnd
  exact ⟨rfl, rfl, rfl, Nat.le_refl _, fun _ _ _ => rfl, fun R hR => h.holds R (by simp [hR]), fun k hk => h.lt k (by rw [fps_append]; simp [hk]), (List.nodup_append.1 hnd).1, fun k hk => .inl hk⟩

/-- An old block that nobody may have written. -/
theorem Sat.old {w0 S0 Rs} {w : World} (h : Sat w0 S0 Rs w) {k : Nat} {o : Obj} (hk : w0.heap[k]? = some o) (hS : k ∉ S0) : w.heap[k]? = some o := by
  rw [h.frame k (Array.getElem?_eq_some_iff.1 hk).1 hS]; exact hk

theorem cell_of_block {w w' : World} {p : Addr} (h : w'.heap[p.block]? = w.heap[p.block]?) : w'.cell? p = w.cell? p := by
  simp only [World.cell?, h]

theorem Sat.oldCell {w0 S0 Rs} {w : World} (h : Sat w0 S0 Rs w) {p : Addr} {v : Value} (hk : w0.cell? p = some v) (hS : p.block ∉ S0) : w.cell? p = some v := by
  rw [cell_of_block (h.frame p.block (block_lt_of_cell hk) hS)]; exact hk

/-! ### The judgement -/

structure Cx where
  n : Nat
  ds : List Deferred
  w0 : World
  S0 : List Nat

/-- In every frame and world that the assertion lets, K holds. -/
def At (cx : Cx) (e : Env) (Rs : List Res) (K : Act → World → Prop) : Prop := ∀ a w, Ok cx.n cx.ds e a → Sat cx.w0 cx.S0 Rs w → K a w

theorem At.mono {cx e Rs K K'} (h : At cx e Rs K) (hk : ∀ a w, K a w → K' a w) : At cx e Rs K' := fun a w ha hw => hk a w (h a w ha hw)

theorem At.weaken {cx e e' Rs Rs' B K} (h : At cx e' Rs' K) (he : Env.Sub e' e) (hR : Split Rs' Rs B) : At cx e Rs K :=
  fun a w ha hw => h a w (ha.sub he) (by
    have := hw.split hR
    have hp : (Rs' ++ B).Perm (B ++ Rs') := List.perm_append_comm
    exact (this.perm hp).dropA B)

/-- The fence of all calls here: all functions, no depth; in round r of a range over a function, if in any. -/
abbrev FR (r : Option Nat) : Fence := { fn := fun _ => True, depth := none, alive := false, round := r }

theorem room_FR (r : Option Nat) (n : Nat) : (FR r).room n := fun _ h => by simp at h

theorem callsIn_FR {r : Option Nat} {n : Nat} {P : Program} {f : FuncId} {args : Array Value} {w : World} {R : Ending → World → Prop} : CallsIn (FR r) n P f args w R ↔ Calls P f args w R := by
  have : CallsIn (FR r) n P f args w R ↔ CallsIn Fence.wide n P f args w R := Iff.rfl
  rw [this]; exact callsIn_wide

section code
variable {cx : Cx} {e : Env} {Rs : List Res} {r : Option Nat} {P : Program} {Q : Exit → Act → World → Prop}

theorem seq {x y : Code} (h : At cx e Rs (x.wpIn (FR r) 0 P (Exit.then (y.wpIn (FR r) 0 P Q) Q))) : At cx e Rs ((Code.seq x y).wpIn (FR r) 0 P Q) :=
  fun a w ha hw => wpIn_seq (h a w ha hw)

theorem skip (h : At cx e Rs (Q .normal)) : At cx e Rs (Code.skip.wpIn (FR r) 0 P Q) := fun a w ha hw => wpIn_skip (h a w ha hw)
theorem exitc {id : Nat} (h : At cx e Rs (Q (.exit id))) : At cx e Rs ((Code.exit id).wpIn (FR r) 0 P Q) := fun a w ha hw => wpIn_exit (h a w ha hw)
theorem ret (h : At cx e Rs (Q .ret)) : At cx e Rs (Code.ret.wpIn (FR r) 0 P Q) := fun a w ha hw => wpIn_ret (h a w ha hw)
theorem label {l : Nat} (h : At cx e Rs (Q .normal)) : At cx e Rs ((Code.label l).wpIn (FR r) 0 P Q) := fun a w ha hw => wpIn_label (h a w ha hw)
theorem block {id : Nat} {c : Code} (h : At cx e Rs (c.wpIn (FR r) 0 P (Exit.inBlock id Q))) : At cx e Rs ((Code.block id c).wpIn (FR r) 0 P Q) :=
  fun a w ha hw => wpIn_block (h a w ha hw)

theorem condT {c : Operand} {x y : Code} (hc : ev e c = some (.bool true)) (h : At cx e Rs (x.wpIn (FR r) 0 P Q)) : At cx e Rs ((Code.cond c x y).wpIn (FR r) 0 P Q) :=
  fun a w ha hw => wpIn_cond_true (ha.eval hc) (h a w ha hw)
theorem condF {c : Operand} {x y : Code} (hc : ev e c = some (.bool false)) (h : At cx e Rs (y.wpIn (FR r) 0 P Q)) : At cx e Rs ((Code.cond c x y).wpIn (FR r) 0 P Q) :=
  fun a w ha hw => wpIn_cond_false (ha.eval hc) (h a w ha hw)
theorem condS {c : Operand} {x y : Code} {b : Bool} (hc : ev e c = some (.bool b)) (ht : b = true → At cx e Rs (x.wpIn (FR r) 0 P Q)) (hf : b = false → At cx e Rs (y.wpIn (FR r) 0 P Q)) :
    At cx e Rs ((Code.cond c x y).wpIn (FR r) 0 P Q) :=
  fun a w ha hw => wpIn_cond_split (ha.eval hc) (fun hb => ht hb a w ha hw) (fun hb => hf hb a w ha hw)

/-- A loop: an invariant over a parameter x: the known slots and the things owned, as functions of x. -/
theorem loop {α : Type} {c : Code} (I : α → Prop) (E : α → Env) (RR : α → List Res) (μ : α → Nat) (x0 : α) (h0 : I x0) (he0 : Env.Sub (E x0) e) {B : List Res} (hR0 : Split (RR x0) Rs B)
    (round : ∀ x, I x → At cx (E x) (RR x) (c.wpIn (FR r) 0 P (Exit.then (fun a w => ∃ y, I y ∧ μ y < μ x ∧ Ok cx.n cx.ds (E y) a ∧ Sat cx.w0 cx.S0 (RR y) w) Q))) :
    At cx e Rs ((Code.loop c).wpIn (FR r) 0 P Q) := by
  intro a w ha hw
  have hstart : ∃ x, I x ∧ Ok cx.n cx.ds (E x) a ∧ Sat cx.w0 cx.S0 (RR x) w :=
    ⟨x0, h0, ha.sub he0, ((hw.split hR0).perm List.perm_append_comm).dropA B⟩
  intro b k cs hro hb hr
  have key : ∀ j x a w, μ x = j → I x → Ok cx.n cx.ds (E x) a → Sat cx.w0 cx.S0 (RR x) w →
      ∃ e a' w', Q e a' w' ∧ ArrivesIn (Machine.fenced P (FR r)) P (lone (b.atR a (.code c :: .inLoop c :: k)) cs w) b k cs e a' w' := by
    intro j
    induction j using Nat.strongRecOn with
    | _ j ih =>
      intro x a w hj hI ha hw
      obtain ⟨e, a₁, w₁, hq, harr⟩ := round x hI a w ha hw b (.inLoop c :: k) cs hro hb hr
      cases e with
      | normal =>
        obtain ⟨y, hIy, hlt, hay, hwy⟩ := hq
        obtain ⟨e₂, a₂, w₂, hq₂, harr₂⟩ := ih (μ y) (hj ▸ hlt) y a₁ w₁ rfl hIy hay hwy
        exact ⟨e₂, a₂, w₂, hq₂, .of_steps (StepsIn.trans harr (.one (fenced_calm hb hr rfl) stepR_inLoop)) harr₂⟩
      | exit id => exact ⟨_, a₁, w₁, hq, .pass (x := .inLoop c) rfl (fun _ _ => .inl (by simp)) harr⟩
      | goto l => exact ⟨_, a₁, w₁, hq, .pass (x := .inLoop c) rfl (fun _ _ => .inl (by simp)) harr⟩
      | ret => exact ⟨_, a₁, w₁, hq, .pass (x := .inLoop c) rfl (fun _ _ => .inl (by simp)) harr⟩
      | panic ch => exact ⟨_, a₁, w₁, hq, .pass (x := .inLoop c) rfl (fun _ _ => .inl (by simp)) harr⟩
      | outgrown => exact ⟨_, a₁, w₁, hq, .pass (x := .inLoop c) rfl (fun _ _ => .inl (by simp)) harr⟩
  obtain ⟨x, hI, hax, hwx⟩ := hstart
  obtain ⟨e', a', w', hq, harr⟩ := key _ x a w rfl hI hax hwx
  exact ⟨e', a', w', hq, .of_steps (.one (fenced_calm hb hr rfl) stepR_loop) harr⟩

/-- The end of a round. -/
theorem again {α : Type} {I : α → Prop} {E : α → Env} {RR : α → List Res} {μ : α → Nat} {m : Nat} (y : α) (hI : I y) (hμ : μ y < m) (he : Env.Sub (E y) e) {B : List Res} (hR : Split (RR y) Rs B) :
    At cx e Rs (fun a w => ∃ y, I y ∧ μ y < m ∧ Ok cx.n cx.ds (E y) a ∧ Sat cx.w0 cx.S0 (RR y) w) :=
  fun _ _ ha hw => ⟨y, hI, hμ, ha.sub he, ((hw.split hR).perm List.perm_append_comm).dropA B⟩

/-- A piece of code that is met in several ways: what holds behind it, over a parameter. -/
theorem cut {α : Type} {c : Code} {K : Act → World → Prop} (I : α → Prop) (E : α → Env) (RR : α → List Res)
    (h : At cx e Rs (c.wpIn (FR r) 0 P (Exit.then (fun a w => ∃ y, I y ∧ Ok cx.n cx.ds (E y) a ∧ Sat cx.w0 cx.S0 (RR y) w) Q)))
    (hk : ∀ y, I y → At cx (E y) (RR y) K) : At cx e Rs (c.wpIn (FR r) 0 P (Exit.then K Q)) := by
  intro a w ha hw
  refine wpIn_mono (h a w ha hw) fun x a' w' hx => ?_
  cases x with
  | normal => obtain ⟨y, hI, ha', hw'⟩ := hx; exact hk y hI a' w' ha' hw'
  | _ => exact hx

theorem met {α : Type} {I : α → Prop} {E : α → Env} {RR : α → List Res} (y : α) (hI : I y) (he : Env.Sub (E y) e) {B : List Res} (hR : Split (RR y) Rs B) :
    At cx e Rs (fun a w => ∃ y, I y ∧ Ok cx.n cx.ds (E y) a ∧ Sat cx.w0 cx.S0 (RR y) w) :=
  fun _ _ ha hw => ⟨y, hI, ha.sub he, ((hw.split hR).perm List.perm_append_comm).dropA B⟩

theorem region {id : Nat} {l : List Oper} (h : At cx e Rs (wpListIn (FR r) 0 P l.toArray Q l)) : At cx e Rs ((Code.region id l.toArray false).wpIn (FR r) 0 P Q) :=
  fun a w ha hw => wpIn_region_lit (h a w ha hw)

theorem done {ops : Array Oper} (h : At cx e Rs (Q .normal)) : At cx e Rs (wpListIn (FR r) 0 P ops Q []) := h

/-- The end of a region that code follows. -/
theorem nx {ops : Array Oper} {K : Act → World → Prop} (h : At cx e Rs K) : At cx e Rs (wpListIn (FR r) 0 P ops (Exit.then K Q) []) := h

/-- What is known of an operation's guard. -/
def guardOk (ops : Array Oper) (e : Env) (o : Oper) : Option Bool :=
  match o.guard with
  | none => some true
  | some (j, want) =>
    match (ops[j]?).bind (·.dst) with
    | some d => match e.get d with
      | some (.bool b) => some (b == want)
      | _ => none
    | none => none

theorem guardOk_spec {ops : Array Oper} {o : Oper} {b : Bool} {a : Act} {n ds} (ha : Ok n ds e a) (h : guardOk ops e o = some b) : Region.wanted o (yielded ops a.tmps) = b := by
  unfold guardOk at h
  unfold Region.wanted
  split at h
  · rename_i hg; simp [hg] at h ⊢; exact h
  · rename_i j want hg
    simp only [hg]
    split at h
    · rename_i d hd
      split at h
      · rename_i c hc
        have := ha.get d _ hc
        simp only [Option.some.injEq] at h
        subst h
        simp [yielded, hd, this]
      · cases h
    · cases h

/-- A guarded operation whose guard says yes. -/
theorem gt {ops : Array Oper} {rest : List Oper} {d : Option Tmp} {op : Op} {t : TypeId} {ps : String} {af : Array Edge} {g : Nat × Bool} (hg : guardOk ops e { dst := d, op, type := t, pos := ps, after := af, guard := some g } = some true)
    (h : At cx e Rs (wpListIn (FR r) 0 P ops Q ({ dst := d, op, type := t, pos := ps, after := af, guard := none } :: rest))) :
    At cx e Rs (wpListIn (FR r) 0 P ops Q ({ dst := d, op, type := t, pos := ps, after := af, guard := some g } :: rest)) := by
  intro a w ha hw
  have h1 := h a w ha hw
  have hwant := guardOk_spec ha hg
  unfold wpListIn at h1 ⊢
  rw [if_pos hwant]
  simp only [Region.wanted, if_true] at h1
  exact h1

/-- A guarded operation whose guard says no. -/
theorem gf {ops : Array Oper} {rest : List Oper} {d : Nat} {op : Op} {t : TypeId} {ps : String} {af : Array Edge} {g : Nat × Bool} (hg : guardOk ops e { dst := some d, op, type := t, pos := ps, after := af, guard := some g } = some false)
    (hd : Nat.blt d cx.n = true) (h : At cx ((d, undef) :: e) Rs (wpListIn (FR r) 0 P ops Q rest)) :
    At cx e Rs (wpListIn (FR r) 0 P ops Q ({ dst := some d, op, type := t, pos := ps, after := af, guard := some g } :: rest)) := by
  intro a w ha hw
  have hwant := guardOk_spec ha hg
  unfold wpListIn
  rw [if_neg (by rw [hwant]; simp)]
  exact ⟨fun _ _ => trivial, h _ w (ha.put hd undef) hw⟩

end code

/-! ### Entering and leaving a function -/

def Env.ofArgs : List Value → Nat → Env
  | [], _ => []
  | v :: vs, i => (i, v) :: Env.ofArgs vs (i + 1)

theorem Env.ofArgs_get (l : List Value) : ∀ (k i : Nat) (v : Value), (Env.ofArgs l k).get i = some v → k ≤ i ∧ l[i - k]? = some v := by
  induction l with
  | nil => intro k i v h; simp [Env.ofArgs, Env.get] at h
  | cons u l ih =>
    intro k i v h
    simp only [Env.ofArgs, Env.get] at h
    cases hb : Nat.beq k i with
    | true =>
      rw [hb] at h
      have := Nat.eq_of_beq_eq_true hb
      subst this
      simp at h
      simp [h]
    | false =>
      rw [hb] at h
      have hne : k ≠ i := fun he => by subst he; simp at hb
      obtain ⟨h1, h2⟩ := ih (k + 1) i v (by simpa using h)
      refine ⟨by omega, ?_⟩
      rw [show i - k = (i - (k + 1)) + 1 by omega]
      simpa using h2

theorem enter {P : Program} {f : FuncId} {fn : Func} {c : Code} {l : List Value} {w : World} {R : Ending → World → Prop} {S0 : List Nat} {Rs : List Res} {n : Nat}
    (hf : P.funcs[f]? = some fn) (hb : fn.body = some c) (hn : fn.ntmps = n) (hl : Nat.ble l.length n = true) (hs : Sat w S0 Rs w)
    (h : At ⟨n, [], w, S0⟩ (Env.ofArgs l 0) Rs (c.wpIn (FR none) 0 P (bodyPost P fn R))) : Calls P f l.toArray w R := by
  refine callsIn_FR.1 (callsIn_of_wp (F := FR none) (n := 0) hf hb trivial (h _ w ⟨?_, rfl, fun i v hv => ?_⟩ hs))
  · have : l.length ≤ n := Nat.le_of_ble_eq_true hl
    simp [hn]; omega
  · obtain ⟨_, h2⟩ := Env.ofArgs_get l 0 i v hv
    have hi : i < l.length := by
      rcases Nat.lt_or_ge i l.length with h' | h'
      · exact h'
      · simp at h2; rw [List.getElem?_eq_none h'] at h2; cases h2
    rw [Array.getElem?_append_left (by simpa using hi)]
    simpa using h2

/-- The same for a function that holds a range over a function. -/
theorem enterM {P : Program} {f : FuncId} {fn : Func} {c : Code} {l : List Value} {w : World} {R : Ending → World → Prop} {S0 : List Nat} {Rs : List Res} {n : Nat}
    (hf : P.funcs[f]? = some fn) (hb : fn.body = some c) (hn : fn.ntmps = n) (hl : Nat.ble l.length n = true) (hs : Sat w S0 Rs w)
    (h : At ⟨n, [], w, S0⟩ (Env.ofArgs l 0) Rs (c.wpIn (FR none) 0 P (bodyPostM (FR none) 0 P fn R))) : Calls P f l.toArray w R := by
  refine callsIn_FR.1 (callsIn_of_wp_marks (F := FR none) (n := 0) hf hb trivial (h _ w ⟨?_, rfl, fun i v hv => ?_⟩ hs))
  · have : l.length ≤ n := Nat.le_of_ble_eq_true hl
    simp [hn]; omega
  · obtain ⟨_, h2⟩ := Env.ofArgs_get l 0 i v hv
    have hi : i < l.length := by
      rcases Nat.lt_or_ge i l.length with h' | h'
      · exact h'
      · simp at h2; rw [List.getElem?_eq_none h'] at h2; cases h2
    rw [Array.getElem?_append_left (by simpa using hi)]
    simpa using h2

section leave
variable {cx : Cx} {e : Env} {Rs : List Res} {P : Program} {fn : Func} {R : Ending → World → Prop}

/-- No result. -/
theorem ret0 (hds : cx.ds = []) (hr : fn.results = #[]) (hR : ∀ w, Sat cx.w0 cx.S0 Rs w → R (.returned (.tuple #[])) w) : At cx e Rs (bodyPost P fn R .ret) :=
  fun _ w ha hw => ⟨ha.defs.trans hds, _, results_none hr _ _ _, hR w hw⟩
/-- One result, in a slot. -/
theorem ret1 {t : Tmp} {v : Value} (hds : cx.ds = []) (hr : fn.results = #[.tmp t]) (hv : e.get t = some v) (hR : ∀ w, Sat cx.w0 cx.S0 Rs w → R (.returned v) w) : At cx e Rs (bodyPost P fn R .ret) :=
  fun a w ha hw => ⟨ha.defs.trans hds, v, by have h1 := ha.get t v hv; simpa [h1] using results_tmp hr a.tmps P w, hR w hw⟩
theorem ret2 {t u : Tmp} {v x : Value} (hds : cx.ds = []) (hr : fn.results = #[.tmp t, .tmp u]) (hv : e.get t = some v) (hx : e.get u = some x) (hR : ∀ w, Sat cx.w0 cx.S0 Rs w → R (.returned (.tuple #[v, x])) w) : At cx e Rs (bodyPost P fn R .ret) :=
  fun a w ha hw => ⟨ha.defs.trans hds, _, by have h1 := ha.get t v hv; have h2 := ha.get u x hx; simpa [h1, h2] using results_tmp2 hr a.tmps P w, hR w hw⟩
theorem ret3 {t u s : Tmp} {v x y : Value} (hds : cx.ds = []) (hr : fn.results = #[.tmp t, .tmp u, .tmp s]) (hv : e.get t = some v) (hx : e.get u = some x) (hy : e.get s = some y)
    (hR : ∀ w, Sat cx.w0 cx.S0 Rs w → R (.returned (.tuple #[v, x, y])) w) : At cx e Rs (bodyPost P fn R .ret) :=
  fun a w ha hw => ⟨ha.defs.trans hds, _, by have h1 := ha.get t v hv; have h2 := ha.get u x hx; have h3 := ha.get s y hy; simpa [h1, h2, h3] using results_tmp3 hr a.tmps P w, hR w hw⟩

end leave
end Go.Pm
