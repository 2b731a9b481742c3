/- The engine, part 6: regions that draw their order. (A) all operations are quiet: one walk of the text's order. (B) some write: quiet ones are taken first, the others in whatever order they may come. -/
import Derived.Test.YtokhediaibdkjaaDoorE5
import Derived.Sort.QuietThIn
namespace Go.Pm
open Go.RowKit

/-! ### From any order of an activation of a function to any order in a round -/

def noDefer (ops : Array Oper) : Bool := ops.all fun o => match o.op with | .defer _ => false | _ => true
theorem noDefer_spec {ops : Array Oper} (h : noDefer ops = true) {j : Nat} {o : Oper} (ho : ops[j]? = some o) : ∀ c, o.op ≠ .defer c := by
  intro c heq
  have := Array.all_eq_true_iff_forall_mem.1 h o (Array.mem_of_getElem? ho)
  simp [heq] at this

section
variable {P : Program} {ops : Array Oper} {Q : Exit → Act → World → Prop} {a : Act} {w : World}

theorem wpIn_FR {o : Oper} {r : Option Nat} {K : Act → World → Prop} (hd : ∀ c, o.op ≠ .defer c) (h : o.wpIn (FR none) 0 P a w K Q) : o.wpIn (FR r) 0 P a w K Q := by
  refine ⟨fun _ _ => trivial, ?_⟩
  have h2 := h.2
  rw [semAt_eq _ _ _ hd] at h2 ⊢
  generalize (execOp a.eval o).run P w = res at *
  cases res with
  | halt x w' => cases x <;> simp only [Oper.uponIn] at h2 ⊢ <;> exact h2
  | ok n w' =>
    cases n <;> simp only [Oper.uponIn] at h2 ⊢ <;> first | exact h2 | skip

theorem wpOpsIn_FR {r : Option Nat} (hn : noDefer ops = true) : ∀ (l : List Nat) (a : Act) (w : World), wpOpsIn (FR none) 0 P ops Q l a w → wpOpsIn (FR r) 0 P ops Q l a w := by
  intro l
  induction l with
  | nil => intro a w h; exact h
  | cons i rest ih =>
    intro a w h
    simp only [wpOpsIn] at h ⊢
    cases ho : ops[i]? with
    | none => simp only [ho] at h ⊢; exact ih a w h
    | some o =>
      simp only [ho] at h ⊢
      by_cases hw : Region.wanted o (yielded ops a.tmps) = true
      · simp only [hw, if_true] at h ⊢
        exact wpIn_FR (noDefer_spec hn ho) (Oper.wpIn_mono ih h)
      · simp only [hw] at h ⊢
        exact ⟨fun _ _ => trivial, ih _ w h.2⟩

theorem region_any {r : Option Nat} {id : Nat} (hm : P.follows .mixedOrders = true) (hn : noDefer ops = true)
    (h : wpAnyIn (FR none) 0 P .any ops Q ops.size (Array.replicate ops.size false) a { w with drawn := w.drawn + 1 }) : (Code.region id ops true).wpIn (FR r) 0 P Q a w :=
  wpIn_region_draw fun t => wpOpsIn_FR hn _ _ _ (by
    simp only [Region.schedule, hm, Bool.true_or, if_true]
    exact wpAnyIn_sound ops.size t _ a _ h)
end

/-! ### (A) All quiet -/
section quiet
variable {cx : Cx} {e : Env} {Rs : List Res} {r : Option Nat} {P : Program} {Q : Exit → Act → World → Prop}

/-- From here on all operations are quiet: the text's order serves every order. -/
def Dr (cx : Cx) (e : Env) (Rs : List Res) (P : Program) (ops : Array Oper) (Q : Act → World → Prop) (l : List Oper) : Prop :=
  ∀ a, Ok cx.n cx.ds e a → wpQuietIn (FR none) 0 P ops (Sat cx.w0 cx.S0 Rs) (fun a' => ∀ w', Sat cx.w0 cx.S0 Rs w' → Q a' w') l a

theorem regionQ {id : Nat} {l : List Oper} (hm : P.follows .mixedOrders = true) (hn : noDefer l.toArray = true) (hB : Region.lexB .any l.toArray = true) (h : Dr cx e Rs P l.toArray (Q .normal) l) :
    At cx e Rs ((Code.region id l.toArray true).wpIn (FR r) 0 P Q) := by
  intro a w ha hw
  simp only [Region.lexB, Bool.and_eq_true] at hB
  refine region_any hm hn (wpAnyIn_of_quiet (C := Sat cx.w0 cx.S0 Rs) (Q := fun a' => ∀ w', Sat cx.w0 cx.S0 Rs w' → Q .normal a' w') rfl (fun _ w' hw' h => h w' hw') _ _ _ _ (hw.drew _) ?_)
  have := wpAnyQIn_lex (F := FR none) (n := 0) (C := Sat cx.w0 cx.S0 Rs) (md := .any) hB.1 l 0 (Array.replicate l.length false) a (by simp) (by simpa using hB.2) (h a ha)
  simpa using this

theorem Dr.nil {ops : Array Oper} {K : Act → World → Prop} (h : At cx e Rs K) : Dr cx e Rs P ops K [] := fun a ha w' hw' => h a w' ha hw'

theorem Dr.st {ops : Array Oper} {K : Act → World → Prop} {rest : List Oper} {op : Op} {t : TypeId} {ps : String} {af : Array Edge} {d : Nat} {v : Value} (hg : Gives P cx e Rs { dst := some d, op, type := t, pos := ps, after := af, guard := none } v)
    (hd : Nat.blt d cx.n = true) (h : Dr cx ((d, v) :: e) Rs P ops K rest) : Dr cx e Rs P ops K ({ dst := some d, op, type := t, pos := ps, after := af, guard := none } :: rest) := by
  intro a ha
  refine ⟨fun _ _ _ _ => trivial, ?_⟩
  rw [if_pos (by simp [Region.wanted])]
  refine ⟨v, fun w hw => ?_, h _ (ha.put hd v)⟩
  unfold Oper.quietAtIn
  rw [hg.2 a.eval w (fun x u _ hx => ha.eval hx) hw]
  exact ⟨rfl, rfl⟩

theorem Dr.gt {ops : Array Oper} {K : Act → World → Prop} {rest : List Oper} {d : Option Tmp} {op : Op} {t : TypeId} {ps : String} {af : Array Edge} {g : Nat × Bool} (hg : guardOk ops e { dst := d, op, type := t, pos := ps, after := af, guard := some g } = some true)
    (h : Dr cx e Rs P ops K ({ dst := d, op, type := t, pos := ps, after := af, guard := none } :: rest)) : Dr cx e Rs P ops K ({ dst := d, op, type := t, pos := ps, after := af, guard := some g } :: rest) := by
  intro a ha
  have h1 := h a ha
  have hwant := guardOk_spec ha hg
  refine ⟨fun _ _ _ _ => trivial, ?_⟩
  have h2 := h1.2
  rw [if_pos hwant]
  simp only [Region.wanted, if_true] at h2
  exact h2

theorem Dr.gf {ops : Array Oper} {K : Act → World → Prop} {rest : List Oper} {d : Nat} {op : Op} {t : TypeId} {ps : String} {af : Array Edge} {g : Nat × Bool} (hg : guardOk ops e { dst := some d, op, type := t, pos := ps, after := af, guard := some g } = some false)
    (hd : Nat.blt d cx.n = true) (h : Dr cx ((d, undef) :: e) Rs P ops K rest) : Dr cx e Rs P ops K ({ dst := some d, op, type := t, pos := ps, after := af, guard := some g } :: rest) := by
  intro a ha
  have hwant := guardOk_spec ha hg
  refine ⟨fun _ _ _ _ => trivial, ?_⟩
  rw [if_neg (by rw [hwant]; simp)]
  exact h _ (ha.put hd undef)

/-- Two ways of a Bool. -/
theorem Dr.sp {ops : Array Oper} {K : Act → World → Prop} {rest : List Oper} {op : Op} {t : TypeId} {ps : String} {af : Array Edge} {d : Nat} {p : Prop} {hp : Decidable p} (hg : Gives P cx e Rs { dst := some d, op, type := t, pos := ps, after := af, guard := none } (.bool (decide p)))
    (hd : Nat.blt d cx.n = true) (hT : p → Dr cx ((d, .bool true) :: e) Rs P ops K rest) (hF : ¬p → Dr cx ((d, .bool false) :: e) Rs P ops K rest) :
    Dr cx e Rs P ops K ({ dst := some d, op, type := t, pos := ps, after := af, guard := none } :: rest) := by
  by_cases h : p
  · exact Dr.st hg hd (by rw [decide_eq_true h]; exact hT h)
  · exact Dr.st hg hd (by rw [decide_eq_false h]; exact hF h)

theorem run_callOp {f : FuncId} {fn : Func} {l : List Operand} {vs : List Value} {ats : Array TypeId} {d : Option Tmp} {t : TypeId} {ps : String} {af : Array Edge} {gd : Option (Nat × Bool)} {n : Nat} {ds : List Deferred} (hf : P.funcs[f]? = some fn) (hb : fn.body.isSome = true)
    (hnm : (fn.name == "runtime.NumGoroutine") = false) (ha : evs e l = some vs) {a : Act} (haa : Ok n ds e a) (w : World) :
    (execOp a.eval ⟨d, .call { callee := .value (.func f), args := l.toArray, argTypes := ats }, t, ps, af, gd⟩).run P w = .ok (.enter f vs.toArray) w := by
  have e1 := evs_map ha a.eval (fun x u _ hx => haa.eval hx)
  have hbn : fn.body.isNone = false := by cases hbb : fn.body <;> simp_all
  simp only [execOp, resolve, Act.eval, Deferred.ofValue, Sem.run_bind, Sem.run_pure, Result.andThen_ok, invoke, callFunc, run_program, hf, hnm]
  simp [hbn, ← e1]

/-- A quiet call: it gives v whatever the world, and leaves all that is owned. -/
theorem Dr.call {ops : Array Oper} {K : Act → World → Prop} {rest : List Oper} {f : FuncId} {fn : Func} {l : List Operand} {vs : List Value} {ats : Array TypeId} {v : Value} {d : Nat} {t : TypeId} {ps : String} {af : Array Edge}
    (hf : P.funcs[f]? = some fn) (hb : fn.body.isSome = true) (hnm : (fn.name == "runtime.NumGoroutine") = false) (ha : evs e l = some vs)
    (hC : ∀ w, Sat cx.w0 cx.S0 Rs w → Calls P f vs.toArray w (fun en w' => en = .returned v ∧ Sat w [] [] w')) (hd : Nat.blt d cx.n = true) (h : Dr cx ((d, v) :: e) Rs P ops K rest) :
    Dr cx e Rs P ops K ({ dst := some d, op := .call { callee := .value (.func f), args := l.toArray, argTypes := ats }, type := t, pos := ps, after := af, guard := none } :: rest) := by
  intro a haa
  refine ⟨fun _ _ _ _ => trivial, ?_⟩
  rw [if_pos (by simp [Region.wanted])]
  refine ⟨v, fun w hw => ?_, h _ (haa.put hd v)⟩
  unfold Oper.quietAtIn
  rw [run_callOp hf hb hnm ha haa w]
  refine ⟨rfl, by simp, callsIn_FR.2 ((hC w hw).mono ?_)⟩
  rintro en w' ⟨he, hs⟩
  exact ⟨he, Sat.join (A := []) (A' := []) hw hs⟩

end quiet

/-! ### (B) Some write -/

/-- Nothing but going on. -/
def QF : Exit → Act → World → Prop := fun _ _ _ => False

theorem wpIn_QF {P : Program} {o : Oper} {a : Act} {w : World} {K : Act → World → Prop} {Q : Exit → Act → World → Prop} (h : o.wpIn (FR none) 0 P a w K QF) : o.wpIn (FR none) 0 P a w K Q := by
  refine ⟨fun _ _ => trivial, ?_⟩
  have h2 := h.2
  generalize (o.semAt (FR none).round a.eval).run P w = res at *
  cases res with
  | halt x w' => cases x <;> simp only [Oper.uponIn] at h2 ⊢ <;> exact h2.elim
  | ok n w' =>
    cases n <;> simp only [Oper.uponIn] at h2 ⊢ <;> first
      | exact h2
      | exact ⟨h2.1, h2.2.mono fun e w'' he => by
          cases e with
          | returned v => exact he
          | panicked c => exact (he : False).elim
          | outgrown => obtain ⟨_, _, hq⟩ := he; exact (hq : False).elim⟩

section loud
variable {P : Program} {ops : Array Oper}

def Closed (ops : Array Oper) (L : Array Bool) : Prop := ∀ j oj, ops[j]? = some oj → L.getD j false = true → ∀ e ∈ oj.after, Region.binds .any e = true → L.getD e.on false = true

theorem Closed.start (ops : Array Oper) (n : Nat) : Closed ops (Array.replicate n false) := by
  intro j oj _ hl
  rcases Nat.lt_or_ge j n with h | h <;> simp [h] at hl

theorem Closed.set {L : Array Bool} {i : Nat} (hc : Closed ops L) (hi : i ∈ Region.ready .any ops L) : Closed ops (L.setIfInBounds i true) := by
  obtain ⟨_, oi, hoi, hall⟩ := mem_ready.1 hi
  intro j oj hj hl e he hb
  by_cases hij : i = j
  · subst hij
    have : oj = oi := Option.some.inj (hj.symm.trans hoi)
    subst this
    exact getD_set_true (hall e he hb)
  · rw [getD_set_ne false hij] at hl
    exact getD_set_true (hc j oj hj hl e he hb)

/-- In whatever order, S being shown anew behind every operation. -/
def AnyS (P : Program) (ops : Array Oper) (S : Array Bool → World → Prop) (K : Act → World → Prop) : Nat → Array Bool → Act → World → Prop
  | 0, L, a, w => Region.ready .any ops L = [] ∧ K a w
  | f + 1, L, a, w => (Region.ready .any ops L = [] → K a w) ∧
    ∀ i ∈ Region.ready .any ops L, wpOpIn (FR none) 0 P ops QF i (fun a' w' => S (L.setIfInBounds i true) w' ∧ AnyS P ops S K f (L.setIfInBounds i true) a' w') a w

theorem wpOpIn_QF {i : Nat} {K : Act → World → Prop} {a : Act} {w : World} {Q : Exit → Act → World → Prop} (h : wpOpIn (FR none) 0 P ops QF i K a w) : wpOpIn (FR none) 0 P ops Q i K a w := by
  unfold wpOpIn at *
  split
  · rename_i ho; simpa [ho] using h
  · rename_i o ho
    simp only [ho] at h
    split
    · rename_i hw; simp only [hw, if_true] at h; exact wpIn_QF h
    · rename_i hw; simp only [hw] at h; exact h

theorem anyS_sound {S : Array Bool → World → Prop} {Q : Exit → Act → World → Prop} : ∀ (f : Nat) (L : Array Bool) (a : Act) (w : World), AnyS P ops S (Q .normal) f L a w → wpAnyIn (FR none) 0 P .any ops Q f L a w
  | 0, _, _, _, h => h
  | f + 1, _, _, _, h => ⟨h.1, fun i hi => wpOpIn_mono (fun a' w' h' => anyS_sound f _ a' w' h'.2) (wpOpIn_QF (h.2 i hi))⟩

/-- Operation i yields v wherever it may come. -/
def YS (P : Program) (ops : Array Oper) (S : Array Bool → World → Prop) (i : Nat) (oi : Oper) (v : Value) (a : Act) : Prop :=
  (Region.wanted oi (yielded ops a.tmps) = true ∧ ∀ L w, Closed ops L → L.getD i false = false → S L w → (execOp a.eval oi).run P w = .ok (.value v) w) ∨
  (Region.wanted oi (yielded ops a.tmps) = false ∧ v = undef)

theorem YS.of_same {S : Array Bool → World → Prop} {i : Nat} {o : Oper} {v : Value} {a a' : Act} (hy : YS P ops S i o v a) (he : execOp a'.eval o = execOp a.eval o)
    (hw : Region.wanted o (yielded ops a'.tmps) = Region.wanted o (yielded ops a.tmps)) : YS P ops S i o v a' := by
  unfold YS at *
  rw [he, hw]; exact hy

theorem YS.op {S : Array Bool → World → Prop} {i : Nat} {o : Oper} {v : Value} {a : Act} {L : Array Bool} {K : Act → World → Prop} {w : World} (hi : ops[i]? = some o) (hd : ∀ c, o.op ≠ .defer c) (hy : YS P ops S i o v a) (hc : Closed ops L) (hl : L.getD i false = false) (hS : S L w)
    (h : K (a.put o.dst v) w) : wpOpIn (FR none) 0 P ops QF i K a w := by
  unfold wpOpIn
  simp only [hi]
  rcases hy with ⟨hw, hv⟩ | ⟨hw, rfl⟩
  · simp only [hw, if_true]
    exact ⟨fun _ _ => trivial, by rw [semAt_eq _ _ _ hd, hv L w hc hl hS]; exact h⟩
  · simp only [hw, Bool.false_eq_true, if_false]
    exact ⟨fun _ _ => trivial, h⟩

theorem op_put {S : Array Bool → World → Prop} {i j : Nat} {oi oj : Oper} {v : Value} (hj : ops[j]? = some oj) (hap : oi.apart ops oj = true) (hs : Region.noSelect ops = true) (hi : ops[i]? = some oi)
    (hd : ∀ c, oj.op ≠ .defer c) {K : Act → World → Prop} {a : Act} {w : World} (hy : YS P ops S i oi v a) (h : wpOpIn (FR none) 0 P ops QF j K (a.put oi.dst v) w) :
    wpOpIn (FR none) 0 P ops QF j (fun a' w' => YS P ops S i oi v a' ∧ K (a'.put oi.dst v) w') a w := by
  have hsi := fun cs b => Region.noSelect_spec hs i oi cs b hi
  have hsj := fun cs b => Region.noSelect_spec hs j oj cs b hj
  obtain ⟨h1, h2, h3⟩ := Oper.apart_spec hap
  have keep : ∀ (b : Act), YS P ops S i oi v b → ∀ u, YS P ops S i oi v (b.put oj.dst u) := fun b hb u => hb.of_same (execOp_put oi hsi b oj.dst u h3) (wanted_put oi b oj.dst u h3)
  unfold wpOpIn at *
  simp only [hj] at *
  rw [wanted_put oj a oi.dst v h1] at h
  split
  · rename_i hw
    simp only [hw, if_true] at h
    refine ⟨fun _ _ => trivial, ?_⟩
    have h := h.2
    rw [semAt_eq _ _ _ hd, execOp_put oj hsj a oi.dst v h1] at h
    rw [semAt_eq _ _ _ hd]
    generalize (execOp a.eval oj).run P w = res at *
    cases res with
    | ok x w' =>
      cases x <;> simp only [Oper.uponIn] at h ⊢
      case value u => exact ⟨keep a hy u, by rw [← Act.put_comm a v u h2]; exact h⟩
      case skip => exact ⟨keep a hy _, by rw [← Act.put_comm a v undef h2]; exact h⟩
      case defer d =>
        refine ⟨keep { a with defers := d :: a.defers } (hy.of_same (a := a) rfl rfl) _, ?_⟩
        rw [← Act.put_comm _ v undef h2, ← Act.put_defers]
        exact h
      case enter f args =>
        refine ⟨h.1, CallsIn.mono h.2 fun e w'' he => ?_⟩
        cases e with
        | returned u => exact ⟨keep a hy u, by rw [← Act.put_comm a v u h2]; exact he⟩
        | panicked c => exact he
        | outgrown => exact he
      case row row args => exact ⟨h.1, RowsIn.mono h.2 fun u w'' he => ⟨keep a hy u, by rw [← Act.put_comm a v u h2]; exact he⟩⟩
      case round l f tmps assign body =>
        refine ⟨h.1, RoundIn.mono h.2 fun e w'' he => ?_⟩
        cases e with
        | returned u => exact ⟨keep a hy u, by rw [← Act.put_comm a v u h2]; exact he⟩
        | panicked c => exact he
        | outgrown => exact he
    | halt x w' => cases x <;> simp only [Oper.uponIn] at h ⊢ <;> exact h
  · rename_i hw
    simp only [hw] at h
    exact ⟨fun _ _ => trivial, keep a hy _, by rw [← Act.put_comm a v undef h2]; exact h.2⟩

/-- A quiet operation that may come up is taken first. -/
theorem anyS_first {S : Array Bool → World → Prop} {K : Act → World → Prop} {i : Nat} {oi : Oper} {v : Value} (hi : ops[i]? = some oi) (hs : Region.noSelect ops = true) (hn : noDefer ops = true) (hSi : ∀ L w, S (L.setIfInBounds i true) w ↔ S L w) :
    ∀ (f : Nat) (L : Array Bool) (a : Act) (w : World), Closed ops L →
      (∀ j oj, ops[j]? = some oj → j ≠ i → L.getD j true = false → (∀ e ∈ oj.after, Region.binds .any e = true → e.on ≠ i) → oi.apart ops oj = true) →
      i ∈ Region.ready .any ops L → YS P ops S i oi v a → S L w → AnyS P ops S K f (L.setIfInBounds i true) (a.put oi.dst v) w → AnyS P ops S K (f + 1) L a w := by
  have both : ∀ {L : Array Bool} {k : Nat}, L.getD k true = false → L.getD k false = false := fun {L k} h => by
    rcases Nat.lt_or_ge k L.size with h' | h'
    · simp [h'] at h ⊢; exact h
    · simp [Array.getElem?_eq_none h'] at h
  intro f
  induction f with
  | zero =>
    intro L a w hcl _ hr hy hS H
    refine ⟨fun h => (by rw [h] at hr; cases hr), fun j hj => ?_⟩
    by_cases hji : j = i
    · subst hji; exact hy.op hi (noDefer_spec hn hi) hcl (both (mem_ready.1 hr).1) hS ⟨(hSi _ _).2 hS, H⟩
    · have := ready_mono hj hji
      rw [H.1] at this
      cases this
  | succ f ih =>
    intro L a w hcl hfree hr hy hS H
    refine ⟨fun h => (by rw [h] at hr; cases hr), fun j hj => ?_⟩
    by_cases hji : j = i
    · subst hji; exact hy.op hi (noDefer_spec hn hi) hcl (both (mem_ready.1 hr).1) hS ⟨(hSi _ _).2 hS, H⟩
    · have h1 := H.2 j (ready_mono hj hji)
      obtain ⟨hjun, oj, hoj, hall⟩ := mem_ready.1 hj
      have hnot : ∀ e ∈ oj.after, Region.binds .any e = true → e.on ≠ i := fun e he hb heq => by
        have h2 := hall e he hb
        rw [heq, both (mem_ready.1 hr).1] at h2
        cases h2
      have h2 := op_put hoj (hfree j oj hoj hji hjun hnot) hs hi (noDefer_spec hn hoj) hy h1
      have hfree' : ∀ k ok, ops[k]? = some ok → k ≠ i → (L.setIfInBounds j true).getD k true = false → (∀ e ∈ ok.after, Region.binds .any e = true → e.on ≠ i) → oi.apart ops ok = true := fun k ok hk hki hun hno => by
        refine hfree k ok hk hki ?_ hno
        by_cases hjk : j = k
        · subst hjk; exact hjun
        · rw [getD_set_ne true hjk] at hun; exact hun
      refine wpOpIn_mono (fun a' w' h3 => ?_) h2
      have hcomm : (L.setIfInBounds i true).setIfInBounds j true = (L.setIfInBounds j true).setIfInBounds i true := Array.setIfInBounds_comm _ _ (Ne.symm hji)
      have hS' : S (L.setIfInBounds j true) w' := by have := h3.2.1; rw [hcomm] at this; exact (hSi _ _).1 this
      refine ⟨hS', ih (L.setIfInBounds j true) a' w' (hcl.set hj) hfree' (ready_mono hr (Ne.symm hji)) h3.1 hS' ?_⟩
      rw [← hcomm]
      exact h3.2.2

/-- Does j wait for i, at some steps? -/
def precedes (ops : Array Oper) (i : Nat) : Nat → Nat → Bool
  | 0, _ => false
  | f + 1, j => match ops[j]? with
    | some oj => oj.after.any fun e => Region.binds .any e && (e.on == i || precedes ops i f e.on)
    | none => false

theorem precedes_spec {i : Nat} : ∀ (f j : Nat) (L : Array Bool), precedes ops i f j = true → Closed ops L → L.getD j false = true → L.getD i false = true := by
  intro f
  induction f with
  | zero => intro j L h; simp [precedes] at h
  | succ f ih =>
    intro j L h hc hl
    unfold precedes at h
    split at h
    · rename_i oj hj
      obtain ⟨e, he, hb⟩ := Array.any_eq_true'.1 h
      simp only [Bool.and_eq_true, Bool.or_eq_true, beq_iff_eq] at hb
      have h1 := hc j oj hj hl e he hb.1
      rcases hb.2 with h2 | h2
      · rw [h2] at h1; exact h1
      · exact ih e.on L h2 hc h1
    · cases h

end loud

/-- What stays true in a region that writes: RsQ always; Rs0, as long as none of X has come up. -/
structure Rg where
  RsQ : List Res
  Rs0 : List Res
  X : List Nat

def Rg.S (g : Rg) (cx : Cx) (L : Array Bool) (w : World) : Prop := Sat cx.w0 cx.S0 g.RsQ w ∧ ((g.X.all fun k => !L.getD k false) = true → Sat cx.w0 cx.S0 g.Rs0 w)

section user
variable {cx : Cx} {e : Env} {Rs : List Res} {r : Option Nat} {P : Program} {Q : Exit → Act → World → Prop} {K : Act → World → Prop} {ops : Array Oper} {g : Rg}

/-- The state of a walk through such a region: L has come up. -/
def An (cx : Cx) (e : Env) (Rs : List Res) (P : Program) (ops : Array Oper) (g : Rg) (K : Act → World → Prop) (f : Nat) (L : List Bool) : Prop :=
  Closed ops L.toArray ∧ noDefer ops = true ∧ Region.noSelect ops = true ∧ At cx e Rs (fun a w => g.S cx L.toArray w ∧ AnyS P ops (g.S cx) K f L.toArray a w)

/-- What is to be shown, once the closing facts are known. -/
def An' (cx : Cx) (e : Env) (Rs : List Res) (P : Program) (ops : Array Oper) (g : Rg) (K : Act → World → Prop) (f : Nat) (L : List Bool) : Prop :=
  Closed ops L.toArray → At cx e Rs (fun a w => g.S cx L.toArray w → AnyS P ops (g.S cx) K f L.toArray a w)

theorem regionL {id : Nat} {l : List Oper} (g : Rg) {B : List Res} (hm : P.follows .mixedOrders = true) (hn : noDefer l.toArray = true) (hQ : Split g.RsQ Rs B) {B' : List Res} (h0 : Split g.Rs0 Rs B')
    (h : An' cx e Rs P l.toArray g (Q .normal) l.length (List.replicate l.length false)) : At cx e Rs ((Code.region id l.toArray true).wpIn (FR r) 0 P Q) := by
  intro a w ha hw
  refine region_any hm hn (anyS_sound (S := g.S cx) _ _ _ _ ?_)
  have hst : g.S cx (List.replicate l.length false).toArray { w with drawn := w.drawn + 1 } :=
    ⟨(((hw.drew _).split hQ).perm List.perm_append_comm).dropA B, fun _ => (((hw.drew _).split h0).perm List.perm_append_comm).dropA B'⟩
  have := h (by simpa using Closed.start l.toArray l.length) a _ ha (hw.drew (w.drawn + 1)) hst
  simpa using this

def setAt (L : List Bool) (i : Nat) : List Bool := L.set i true

/-- A quiet operation, reading what stays true throughout (or only itself). -/
theorem An'.tk {f : Nat} {L L' : List Bool} (i : Nat) {d : Nat} {op : Op} {t : TypeId} {ps : String} {af : Array Edge} {gd : Option (Nat × Bool)} {v : Value} (hi : ops[i]? = some { dst := some d, op, type := t, pos := ps, after := af, guard := gd })
    (hn : noDefer ops = true) (hs : Region.noSelect ops = true) (hf : Region.free .any ops L.toArray i = true) (hr : (Region.ready .any ops L.toArray).contains i = true) (hX : g.X.contains i = false)
    (hw : guardOk ops e { dst := some d, op, type := t, pos := ps, after := af, guard := gd } = some true)
    (hg : Gives P cx e g.RsQ { dst := some d, op, type := t, pos := ps, after := af, guard := gd } v) (hd : Nat.blt d cx.n = true) (hL : L.set i true = L') (h : An' cx ((d, v) :: e) Rs P ops g K f L') : An' cx e Rs P ops g K (f + 1) L := by
  subst hL
  intro hcl a w ha hw' hS
  have hr' : i ∈ Region.ready .any ops L.toArray := by simpa using hr
  have hset : (L.set i true).toArray = L.toArray.setIfInBounds i true := by simp
  have hSi : ∀ (M : Array Bool) (w : World), g.S cx (M.setIfInBounds i true) w ↔ g.S cx M w := fun M w => by
    have : (g.X.all fun k => !(M.setIfInBounds i true).getD k false) = g.X.all fun k => !M.getD k false := by
      rw [Bool.eq_iff_iff]
      simp only [List.all_eq_true]
      constructor <;> intro hh k hk <;> have := hh k hk <;> have hne : i ≠ k := (fun he => by subst he; simp at hX; exact hX hk)
      · rwa [getD_set_ne false hne] at this
      · rwa [getD_set_ne false hne]
    unfold Rg.S
    rw [this]
  refine anyS_first hi hs hn hSi f L.toArray a w hcl (Region.free_spec hi hf) hr' (.inl ⟨guardOk_spec ha hw, fun M w2 _ _ hS2 => hg.2 a.eval w2 (fun x u _ hx => ha.eval hx) hS2.1⟩) hS ?_
  have := h (by rw [hset]; exact hcl.set hr') _ w (ha.put hd v) hw' (by rw [hset]; exact (hSi _ _).2 hS)
  rw [hset] at this
  exact this

/-- A quiet operation that reads what is written later on: it comes ahead of all of X. -/
theorem An'.tk0 {f : Nat} {L L' : List Bool} (i : Nat) {d : Nat} {op : Op} {t : TypeId} {ps : String} {af : Array Edge} {gd : Option (Nat × Bool)} {v : Value} (hi : ops[i]? = some { dst := some d, op, type := t, pos := ps, after := af, guard := gd })
    (hn : noDefer ops = true) (hs : Region.noSelect ops = true) (hf : Region.free .any ops L.toArray i = true) (hr : (Region.ready .any ops L.toArray).contains i = true) (hX : g.X.contains i = false) (hp : (g.X.all fun k => precedes ops i ops.size k) = true)
    (hw : guardOk ops e { dst := some d, op, type := t, pos := ps, after := af, guard := gd } = some true)
    (hg : Gives P cx e g.Rs0 { dst := some d, op, type := t, pos := ps, after := af, guard := gd } v) (hd : Nat.blt d cx.n = true) (hL : L.set i true = L') (h : An' cx ((d, v) :: e) Rs P ops g K f L') : An' cx e Rs P ops g K (f + 1) L := by
  subst hL
  intro hcl a w ha hw' hS
  have hr' : i ∈ Region.ready .any ops L.toArray := by simpa using hr
  have hset : (L.set i true).toArray = L.toArray.setIfInBounds i true := by simp
  have hSi : ∀ (M : Array Bool) (w : World), g.S cx (M.setIfInBounds i true) w ↔ g.S cx M w := fun M w => by
    have : (g.X.all fun k => !(M.setIfInBounds i true).getD k false) = g.X.all fun k => !M.getD k false := by
      rw [Bool.eq_iff_iff]
      simp only [List.all_eq_true]
      constructor <;> intro hh k hk <;> have := hh k hk <;> have hne : i ≠ k := (fun he => by subst he; simp at hX; exact hX hk)
      · rwa [getD_set_ne false hne] at this
      · rwa [getD_set_ne false hne]
    unfold Rg.S
    rw [this]
  refine anyS_first hi hs hn hSi f L.toArray a w hcl (Region.free_spec hi hf) hr' (.inl ⟨guardOk_spec ha hw, fun M w2 hcM hun hS2 => hg.2 a.eval w2 (fun x u _ hx => ha.eval hx) (hS2.2 ?_)⟩) hS ?_
  · rw [List.all_eq_true] at hp ⊢
    intro k hk
    cases hl : M.getD k false with
    | false => rfl
    | true => have := precedes_spec _ _ _ (hp k hk) hcM hl; rw [this] at hun; cases hun
  have := h (by rw [hset]; exact hcl.set hr') _ w (ha.put hd v) hw' (by rw [hset]; exact (hSi _ _).2 hS)
  rw [hset] at this
  exact this

/-- A guarded operation whose guard says no. -/
theorem An'.no {f : Nat} {L L' : List Bool} (i : Nat) {d : Nat} {op : Op} {t : TypeId} {ps : String} {af : Array Edge} {gd : Option (Nat × Bool)} (hi : ops[i]? = some { dst := some d, op, type := t, pos := ps, after := af, guard := gd })
    (hn : noDefer ops = true) (hs : Region.noSelect ops = true) (hf : Region.free .any ops L.toArray i = true) (hr : (Region.ready .any ops L.toArray).contains i = true) (hX : g.X.contains i = false)
    (hw : guardOk ops e { dst := some d, op, type := t, pos := ps, after := af, guard := gd } = some false)
    (hd : Nat.blt d cx.n = true) (hL : L.set i true = L') (h : An' cx ((d, undef) :: e) Rs P ops g K f L') : An' cx e Rs P ops g K (f + 1) L := by
  subst hL
  intro hcl a w ha hw' hS
  have hr' : i ∈ Region.ready .any ops L.toArray := by simpa using hr
  have hset : (L.set i true).toArray = L.toArray.setIfInBounds i true := by simp
  have hSi : ∀ (M : Array Bool) (w : World), g.S cx (M.setIfInBounds i true) w ↔ g.S cx M w := fun M w => by
    have : (g.X.all fun k => !(M.setIfInBounds i true).getD k false) = g.X.all fun k => !M.getD k false := by
      rw [Bool.eq_iff_iff]
      simp only [List.all_eq_true]
      constructor <;> intro hh k hk <;> have := hh k hk <;> have hne : i ≠ k := (fun he => by subst he; simp at hX; exact hX hk)
      · rwa [getD_set_ne false hne] at this
      · rwa [getD_set_ne false hne]
    unfold Rg.S
    rw [this]
  refine anyS_first hi hs hn hSi f L.toArray a w hcl (Region.free_spec hi hf) hr' (.inr ⟨guardOk_spec ha hw, rfl⟩) hS ?_
  have := h (by rw [hset]; exact hcl.set hr') _ w (ha.put hd undef) hw' (by rw [hset]; exact (hSi _ _).2 hS)
  rw [hset] at this
  exact this

/-- Whichever of those that may come up comes up. -/
theorem An'.all {f : Nat} {L : List Bool} (rs : List Nat) (hr : Region.ready .any ops L.toArray = rs) (hne : rs ≠ [])
    (h : ∀ i ∈ rs, ∃ o, ops[i]? = some o ∧ o.guard = none ∧ OpAt cx e Rs none P QF o (fun a' w' => g.S cx (L.set i true).toArray w' ∧ (Closed ops (L.set i true).toArray → AnyS P ops (g.S cx) K f (L.set i true).toArray a' w'))) :
    An' cx e Rs P ops g K (f + 1) L := by
  intro hcl a w ha hw hS
  refine ⟨fun h0 => absurd (hr ▸ h0) hne, fun i hi => ?_⟩
  obtain ⟨o, ho, hgd, hop⟩ := h i (hr ▸ hi)
  have hset : (L.set i true).toArray = L.toArray.setIfInBounds i true := by simp
  unfold wpOpIn
  simp only [ho, Region.wanted, hgd, if_true]
  refine Oper.wpIn_mono (fun a' w' h3 => ?_) (hop a w ha hw)
  rw [hset] at h3
  exact ⟨h3.1, h3.2 (hcl.set hi)⟩

/-- One alone may come up. -/
theorem An'.one {f : Nat} {L : List Bool} (i : Nat) {o : Oper} (hr : Region.ready .any ops L.toArray = [i]) (ho : ops[i]? = some o) (hgd : o.guard = none)
    (h : OpAt cx e Rs none P QF o (fun a' w' => g.S cx (L.set i true).toArray w' ∧ (Closed ops (L.set i true).toArray → AnyS P ops (g.S cx) K f (L.set i true).toArray a' w'))) : An' cx e Rs P ops g K (f + 1) L :=
  An'.all [i] hr (by simp) fun j hj => by
    have : j = i := by simpa using hj
    subst this
    exact ⟨o, ho, hgd, h⟩

/-- Behind an operation that was carried out: nothing of X has come up yet. -/
theorem An'.on0 {f : Nat} {L L' : List Bool} {i : Nat} {B B' : List Res} (hQ : Split g.RsQ Rs B) (h0 : Split g.Rs0 Rs B') (hL : L.set i true = L') (h : An' cx e Rs P ops g K f L') :
    At cx e Rs (fun a' w' => g.S cx (L.set i true).toArray w' ∧ (Closed ops (L.set i true).toArray → AnyS P ops (g.S cx) K f (L.set i true).toArray a' w')) := by
  subst hL
  intro a w ha hw
  have hS : g.S cx (L.set i true).toArray w := ⟨((hw.split hQ).perm List.perm_append_comm).dropA B, fun _ => ((hw.split h0).perm List.perm_append_comm).dropA B'⟩
  exact ⟨hS, fun hc => h hc a w ha hw hS⟩

/-- Behind an operation of X. -/
theorem An'.onX {f : Nat} {L L' : List Bool} {i : Nat} {B : List Res} (hQ : Split g.RsQ Rs B) (hX : (g.X.all fun k => !L'.toArray.getD k false) = false) (hL : L.set i true = L') (h : An' cx e Rs P ops g K f L') :
    At cx e Rs (fun a' w' => g.S cx (L.set i true).toArray w' ∧ (Closed ops (L.set i true).toArray → AnyS P ops (g.S cx) K f (L.set i true).toArray a' w')) := by
  subst hL
  intro a w ha hw
  have hS : g.S cx (L.set i true).toArray w := ⟨((hw.split hQ).perm List.perm_append_comm).dropA B, fun hh => by rw [hX] at hh; cases hh⟩
  exact ⟨hS, fun hc => h hc a w ha hw hS⟩

/-- All have come up. -/
theorem An'.fin {f : Nat} {L : List Bool} (hr : Region.ready .any ops L.toArray = []) (h : At cx e Rs K) : An' cx e Rs P ops g K f L := by
  intro _ a w ha hw _
  cases f with
  | zero => exact ⟨hr, h a w ha hw⟩
  | succ f => exact ⟨fun _ => h a w ha hw, by rw [hr]; simp⟩

end user
end Go.Pm
