/- The engine, part 2: operations that only compute or read. -/
import Derived.Test.YtokhediaibdkjaaDoorE1
namespace Go.Pm
open Go.RowKit

/-! ### What the program's types say, as small functions -/
def scT (P : Program) (t : TypeId) : Bool := match P.underlying t with
  | some (.struct _) | some (.array _ _) => false
  | some _ => true
  | none => false
def agT (P : Program) (t : TypeId) : Option Nat := match P.underlying t with
  | some (.struct _) | some (.array _ _) => (P.info? t).map (·.size)
  | _ => none
def fieldOff (P : Program) (s f : Nat) : Option Nat := match P.underlying s with
  | some (.struct fs) => match fs[f]? with
    | some fl => match P.info? fl.type with
      | some i => if i.size = 0 then none else some fl.offset
      | none => none
    | none => none
  | _ => none
/-- Of a field of one cell: its place. -/
def fieldCell (P : Program) (s f : Nat) : Option Nat := match P.underlying s with
  | some (.struct fs) => match fs[f]? with
    | some fl => if scT P fl.type then some fl.offset else none
    | none => none
  | _ => none
/-- Of a field of many cells: its place, its size. -/
def fieldAgg (P : Program) (s f : Nat) : Option (Nat × Nat) := match P.underlying s with
  | some (.struct fs) => match fs[f]? with
    | some fl => (agT P fl.type).map fun n => (fl.offset, n)
    | none => none
  | _ => none
def elemSz (P : Program) (t : TypeId) : Option Nat := match P.underlying t with
  | some (.slice e) => (P.info? e).map (·.size)
  | _ => none
def arrOf (P : Program) (t : TypeId) : Option (Nat × Nat) := match P.underlying t with
  | some (.array n e) => (P.info? e).map fun i => (n, i.size)
  | _ => none
def intT (P : Program) (t : TypeId) : Option IntKind := match P.underlying t with
  | some (.int k) => some k
  | _ => none

/-! ### Owned blocks -/
def objR (b : Nat) (o : Obj) : Res := ⟨[b], fun w => w.heap[b]? = some o, fun {w w'} h hp => by rw [h b (by simp)]; exact hp⟩
def blk (b : Nat) (T : TypeId) (cs : List Value) : Res := objR b (.cells cs.toArray T (0, 0))

/-- In every world that the assertion lets, the cell holds v. -/
def Cell (cx : Cx) (Rs : List Res) (p : Addr) (v : Value) : Prop := ∀ w, Sat cx.w0 cx.S0 Rs w → w.cell? p = some v
/-- The cells vs, from an address on. -/
def Cells (cx : Cx) (Rs : List Res) (b o : Nat) (vs : List Value) : Prop := ∀ w, Sat cx.w0 cx.S0 Rs w → ∀ j v, vs[j]? = some v → w.cell? ⟨b, o + j, none⟩ = some v

theorem Cell.own {cx : Cx} {Rs B : List Res} {b o : Nat} {T : TypeId} {cs : List Value} {v : Value} (hk : Pick (blk b T cs) Rs B) (hv : cs[o]? = some v) : Cell cx Rs ⟨b, o, none⟩ v := by
  intro w hw
  have h : w.heap[b]? = some (.cells cs.toArray T (0, 0)) := hw.get hk
  simp [World.cell?, h, hv]

theorem Cell.old {cx : Cx} {Rs : List Res} {p : Addr} {v : Value} (hv : cx.w0.cell? p = some v) (hS : p.block ∉ cx.S0) : Cell cx Rs p v := fun _ hw => hw.oldCell hv hS

theorem Cells.own {cx : Cx} {Rs B : List Res} {b o : Nat} {T : TypeId} {cs vs : List Value} (hk : Pick (blk b T cs) Rs B) (hv : ∀ j v, vs[j]? = some v → cs[o + j]? = some v) : Cells cx Rs b o vs :=
  fun w hw j v hj => Cell.own (cx := cx) hk (hv j v hj) w hw

/-! ### An operation gives a value -/

/-- Whatever frame holds what is known of its operands, in every world that the assertion lets: it yields v and leaves the world as it is. -/
def Gives (P : Program) (cx : Cx) (e : Env) (Rs : List Res) (o : Oper) (v : Value) : Prop :=
  (∀ c, o.op ≠ .defer c) ∧ ∀ (ρ : Operand → Value) (w : World), (∀ x u, x ∈ o.op.operands → ev e x = some u → ρ x = u) → Sat cx.w0 cx.S0 Rs w → (execOp ρ o).run P w = .ok (.value v) w

theorem semAt_eq (r : Option Nat) (ρ : Operand → Value) (o : Oper) (h : ∀ c, o.op ≠ .defer c) : o.semAt r ρ = execOp ρ o := by
  cases r with
  | none => exact Oper.semAt_none ρ o
  | some l => exact Oper.semAt_some l ρ o h

section steps
variable {cx : Cx} {e : Env} {Rs : List Res} {r : Option Nat} {P : Program} {Q : Exit → Act → World → Prop} {K : Act → World → Prop}

/-- An operation, in every frame and world that the assertion lets; K holds behind it. -/
abbrev OpAt (cx : Cx) (e : Env) (Rs : List Res) (r : Option Nat) (P : Program) (Q : Exit → Act → World → Prop) (o : Oper) (K : Act → World → Prop) : Prop :=
  At cx e Rs (fun a w => o.wpIn (FR r) 0 P a w K Q)

theorem OpAt.of_run {o : Oper} (hnd : ∀ c, o.op ≠ .defer c) (h : At cx e Rs (fun a w => o.uponIn (FR r) 0 P a K Q ((execOp a.eval o).run P w))) : OpAt cx e Rs r P Q o K :=
  fun a w ha hw => ⟨fun _ _ => trivial, by rw [semAt_eq _ _ _ hnd]; exact h a w ha hw⟩

theorem gv {o : Oper} {v : Value} {d : Nat} (hg : Gives P cx e Rs o v) (hdst : o.dst = some d) (hd : Nat.blt d cx.n = true) (h : At cx ((d, v) :: e) Rs K) : OpAt cx e Rs r P Q o K :=
  OpAt.of_run hg.1 fun a w ha hw => by
    show Oper.uponIn (FR r) 0 P o a K Q ((execOp a.eval o).run P w)
    rw [hg.2 a.eval w (fun x u _ hx => ha.eval hx) hw, Oper.uponIn_value, hdst]
    exact h _ w (ha.put hd v) hw

/-- The next operation of a list. -/
theorem sq {ops : Array Oper} {rest : List Oper} {o : Oper} (hg : o.guard = none) (h : OpAt cx e Rs r P Q o (wpListIn (FR r) 0 P ops Q rest)) : At cx e Rs (wpListIn (FR r) 0 P ops Q (o :: rest)) := by
  intro a w ha hw
  unfold wpListIn
  rw [if_pos (by simp [Region.wanted, hg])]
  exact h a w ha hw

/-- The next operation gives a value. -/
theorem st {ops : Array Oper} {rest : List Oper} {op : Op} {t : TypeId} {ps : String} {af : Array Edge} {d : Nat} {v : Value} (hg : Gives P cx e Rs { dst := some d, op, type := t, pos := ps, after := af, guard := none } v)
    (hd : Nat.blt d cx.n = true) (h : At cx ((d, v) :: e) Rs (wpListIn (FR r) 0 P ops Q rest)) :
    At cx e Rs (wpListIn (FR r) 0 P ops Q ({ dst := some d, op, type := t, pos := ps, after := af, guard := none } :: rest)) := sq rfl (gv hg rfl hd h)

/-- The next operation gives a Bool: both ways. -/
theorem sp {ops : Array Oper} {rest : List Oper} {op : Op} {t : TypeId} {ps : String} {af : Array Edge} {d : Nat} {p : Prop} {hp : Decidable p} (hg : Gives P cx e Rs { dst := some d, op, type := t, pos := ps, after := af, guard := none } (.bool (decide p)))
    (hd : Nat.blt d cx.n = true) (hT : p → At cx ((d, .bool true) :: e) Rs (wpListIn (FR r) 0 P ops Q rest)) (hF : ¬p → At cx ((d, .bool false) :: e) Rs (wpListIn (FR r) 0 P ops Q rest)) :
    At cx e Rs (wpListIn (FR r) 0 P ops Q ({ dst := some d, op, type := t, pos := ps, after := af, guard := none } :: rest)) := by
  by_cases h : p
  · exact st hg hd (by rw [decide_eq_true h]; exact hT h)
  · exact st hg hd (by rw [decide_eq_false h]; exact hF h)

end steps

section gives
variable {P : Program} {cx : Cx} {e : Env} {Rs : List Res} {d : Option Tmp} {t : TypeId} {ps : String} {af : Array Edge} {gd : Option (Nat × Bool)}

theorem g_move {x : Operand} {v : Value} (hx : ev e x = some v) : Gives P cx e Rs ⟨d, .move x, t, ps, af, gd⟩ v :=
  ⟨nofun, fun ρ w hρ _ => by rw [← hρ x v (by simp [Op.operands]) hx]; rfl⟩
theorem g_assign {x : Operand} {v : Value} (hx : ev e x = some v) : Gives P cx e Rs ⟨d, .assign x, t, ps, af, gd⟩ v :=
  ⟨nofun, fun ρ w hρ _ => by rw [← hρ x v (by simp [Op.operands]) hx]; rfl⟩
theorem g_pickT {c x y : Operand} {v : Value} (hc : ev e c = some (.bool true)) (hx : ev e x = some v) : Gives P cx e Rs ⟨d, .pick c x y, t, ps, af, gd⟩ v :=
  ⟨nofun, fun ρ w hρ _ => by
    have h1 := hρ c _ (by simp [Op.operands]) hc
    have h2 := hρ x _ (by simp [Op.operands]) hx
    simp [execOp, h1, h2, asBool]⟩
theorem g_pickF {c x y : Operand} {v : Value} (hc : ev e c = some (.bool false)) (hy : ev e y = some v) : Gives P cx e Rs ⟨d, .pick c x y, t, ps, af, gd⟩ v :=
  ⟨nofun, fun ρ w hρ _ => by
    have h1 := hρ c _ (by simp [Op.operands]) hc
    have h2 := hρ y _ (by simp [Op.operands]) hy
    simp [execOp, h1, h2, asBool]⟩

theorem isAgg_no {t : TypeId} (h : scT P t = true) (w : World) : (isAgg t).run P w = .ok false w := by
  unfold scT at h
  cases hu : P.underlying t with
  | none => simp [hu] at h
  | some dsc =>
    unfold isAgg
    rw [Sem.run_bind, run_underlying hu w]
    cases dsc <;> simp_all

theorem g_load {x : Operand} {T : TypeId} {p : Addr} {v : Value} (hT : scT P T = true) (hx : ev e x = some (.pointer (some p))) (hc : Cell cx Rs p v) : Gives P cx e Rs ⟨d, .load T x, t, ps, af, gd⟩ v :=
  ⟨nofun, fun ρ w hρ hw => by
    have h1 := hρ x _ (by simp [Op.operands]) hx
    simp [execOp, h1, Instr.loadAt, Instr.sureAddr, loadVar, isAgg_no hT, hc w hw]⟩

theorem run_isAgg_yes {t : TypeId} {n : Nat} (h : agT P t = some n) (w : World) : (isAgg t).run P w = .ok true w ∧ (sizeOf t).run P w = .ok n w := by
  unfold agT at h
  cases hu : P.underlying t with
  | none => simp [hu] at h
  | some dsc =>
    have h2 : (P.info? t).map (·.size) = some n := by cases dsc <;> simp_all
    refine ⟨?_, ?_⟩
    · unfold isAgg
      rw [Sem.run_bind, run_underlying hu w]
      cases dsc <;> simp_all
    · cases hi : P.info? t with
      | none => simp [hi] at h2
      | some i => simp [hi] at h2; simp [sizeOf, typeInfo, hi, h2]

theorem run_loadAgg {t : TypeId} {n b o : Nat} {vs : List Value} {w : World} (h : agT P t = some n) (hn : vs.length = n) (hc : ∀ j v, vs[j]? = some v → w.cell? ⟨b, o + j, none⟩ = some v) :
    (loadVar t ⟨b, o, none⟩).run P w = .ok (.agg vs.toArray) w := by
  obtain ⟨h1, h2⟩ := run_isAgg_yes h w
  have hl : (loadCells ⟨b, o, none⟩ vs.length).run P w = .ok vs.toArray w := run_loadCells_list (P := P) w ⟨b, o, none⟩ vs (fun j v hv => by
    have : (⟨b, o, none⟩ : Addr).add j = ⟨b, o + j, none⟩ := by unfold Addr.add; split <;> simp_all
    rw [this]; exact hc j v hv)
  rw [hn] at hl
  simp [loadVar, h1, h2, hl]

theorem g_loadA {x : Operand} {T : TypeId} {n b o : Nat} {vs : List Value} (hT : agT P T = some n) (hx : ev e x = some (.pointer (some ⟨b, o, none⟩))) (hn : vs.length = n) (hc : Cells cx Rs b o vs) :
    Gives P cx e Rs ⟨d, .load T x, t, ps, af, gd⟩ (.agg vs.toArray) :=
  ⟨nofun, fun ρ w hρ hw => by
    have h1 := hρ x _ (by simp [Op.operands]) hx
    simp [execOp, h1, Instr.loadAt, Instr.sureAddr, run_loadAgg hT hn (hc w hw)]⟩

theorem g_nilCheck {x : Operand} {p : Addr} (hx : ev e x = some (.pointer (some p))) : Gives P cx e Rs ⟨d, .nilCheck x, t, ps, af, gd⟩ (.pointer (some p)) :=
  ⟨nofun, fun ρ w hρ _ => by
    have h1 := hρ x _ (by simp [Op.operands]) hx
    simp [execOp, h1]⟩

theorem add_at (b o k : Nat) : (⟨b, o, none⟩ : Addr).add k = ⟨b, o + k, none⟩ := by unfold Addr.add; split <;> simp_all

theorem g_fieldAddr {s f : Nat} {x : Operand} {b o k m : Nat} (hf : fieldOff P s f = some k) (hx : ev e x = some (.pointer (some ⟨b, o, none⟩))) (hm : o + k = m) :
    Gives P cx e Rs ⟨d, .fieldAddr s x f, t, ps, af, gd⟩ (.pointer (some ⟨b, m, none⟩)) :=
  ⟨nofun, fun ρ w hρ _ => by
    have h1 := hρ x _ (by simp [Op.operands]) hx
    unfold fieldOff at hf
    split at hf
    · rename_i fs hu
      split at hf
      · rename_i fl hfl
        split at hf
        · rename_i i hi
          split at hf
          · cases hf
          · rename_i hz
            simp only [Option.some.injEq] at hf
            subst hf; subst hm
            simp [execOp, h1, Instr.fieldAt, run_underlying hu, hfl, Instr.sureAddr, fieldPlace, sizeOf, typeInfo, hi, hz, add_at]
        · cases hf
      · cases hf
    · cases hf⟩

theorem elemSz_spec {t s : Nat} (h : elemSz P t = some s) : ∃ el i, P.underlying t = some (.slice el) ∧ P.info? el = some i ∧ i.size = s := by
  unfold elemSz at h
  split at h
  · rename_i el hu
    cases hi : P.info? el with
    | none => simp [hi] at h
    | some i => exact ⟨el, i, hu, hi, by simpa [hi] using h⟩
  · cases h
theorem arrOf_spec {t n s : Nat} (h : arrOf P t = some (n, s)) : ∃ el i, P.underlying t = some (.array n el) ∧ P.info? el = some i ∧ i.size = s := by
  unfold arrOf at h
  split at h
  · rename_i n' el hu
    cases hi : P.info? el with
    | none => simp [hi] at h
    | some i => simp [hi] at h; obtain ⟨rfl, h2⟩ := h; exact ⟨el, i, hu, hi, h2⟩
  · cases h

/-- x[i], x a slice. -/
theorem g_indexS {T : TypeId} {x ix : Operand} {b o len cap s m : Nat} {k : IntKind} {i : Int} (hT : elemSz P T = some s) (hx : ev e x = some (.slice (some ⟨b, o, none⟩) len cap)) (hi : ev e ix = some (.int k i))
    (h0 : 0 ≤ i) (h1 : i < len) (hm : o + i.toNat * s = m) : Gives P cx e Rs ⟨d, .indexAddr T x ix, t, ps, af, gd⟩ (.pointer (some ⟨b, m, none⟩)) :=
  ⟨nofun, fun ρ w hρ _ => by
    have e1 := hρ x _ (by simp [Op.operands]) hx
    have e2 := hρ ix _ (by simp [Op.operands]) hi
    obtain ⟨el, inf, hu, hinf, rfl⟩ := elemSz_spec hT
    subst hm
    simp [execOp, e1, e2, Instr.indexAt, asIntOf, run_underlying hu, h0, h1, sizeOf, typeInfo, hinf, add_at]⟩

/-- x[i], x an array's address. -/
theorem g_indexA {T : TypeId} {x ix : Operand} {b o n s m : Nat} {k : IntKind} {i : Int} (hT : arrOf P T = some (n, s)) (hx : ev e x = some (.pointer (some ⟨b, o, none⟩))) (hi : ev e ix = some (.int k i))
    (h0 : 0 ≤ i) (h1 : i < n) (hm : o + i.toNat * s = m) : Gives P cx e Rs ⟨d, .indexAddr T x ix, t, ps, af, gd⟩ (.pointer (some ⟨b, m, none⟩)) :=
  ⟨nofun, fun ρ w hρ _ => by
    have e1 := hρ x _ (by simp [Op.operands]) hx
    have e2 := hρ ix _ (by simp [Op.operands]) hi
    obtain ⟨el, inf, hu, hinf, rfl⟩ := arrOf_spec hT
    subst hm
    simp [execOp, e1, e2, Instr.indexAt, asIntOf, run_underlying hu, Instr.sureAddr, h0, h1, sizeOf, typeInfo, hinf, add_at]⟩

/-- What two ints make. -/
def binI (op : BinOp) (k : IntKind) (x y : Int) : Option Value :=
  match op with
  | .add => some (.int k (k.wrap (x + y)))
  | .sub => some (.int k (k.wrap (x - y)))
  | .mul => some (.int k (k.wrap (x * y)))
  | .quo => if y = 0 then none else some (.int k (k.wrap (x.tdiv y)))
  | .rem => if y = 0 then none else some (.int k (x.tmod y))
  | .and => some (.int k (k.wrap (BitVec.ofInt k.bits x &&& BitVec.ofInt k.bits y).toNat))
  | .or => some (.int k (k.wrap (BitVec.ofInt k.bits x ||| BitVec.ofInt k.bits y).toNat))
  | .xor => some (.int k (k.wrap (BitVec.ofInt k.bits x ^^^ BitVec.ofInt k.bits y).toNat))
  | .eql => some (.bool (decide (x = y)))
  | .neq => some (.bool (decide (x ≠ y)))
  | .lss => some (.bool (decide (x < y)))
  | .leq => some (.bool (decide (x ≤ y)))
  | .gtr => some (.bool (decide (x > y)))
  | .geq => some (.bool (decide (x ≥ y)))
  | _ => none

theorem run_eqGuard_int (op : BinOp) (T : TypeId) (x y : Operand) (k k2 : IntKind) (a b : Int) (w : World) : (eqGuard op T x y (.int k a) (.int k2 b)).run P w = .ok () w := by
  unfold eqGuard
  cases op <;> simp

theorem g_bin {op : BinOp} {T T2 : TypeId} {x y : Operand} {k : IntKind} {a b : Int} {v : Value} (hx : ev e x = some (.int k a)) (hy : ev e y = some (.int k b)) (hv : binI op k a b = some v) :
    Gives P cx e Rs ⟨d, .binOp op T x y T2, t, ps, af, gd⟩ v :=
  ⟨nofun, fun ρ w hρ _ => by
    have e1 := hρ x _ (by simp [Op.operands]) hx
    have e2 := hρ y _ (by simp [Op.operands]) hy
    simp only [execOp, e1, e2, Sem.run_bind, run_eqGuard_int, Result.andThen_ok]
    cases op <;> simp only [binI] at hv <;>
      first
        | (cases hv; unfold binOp; simp [Op.intArith, Op.intBits, Op.intCmp]; done)
        | (cases hv; unfold binOp; simp [Op.intCmp]; rfl)
        | (cases hv; unfold binOp; simp [Op.intCmp, bne]; done)
        | (split at hv
           · cases hv
           · rename_i hz; cases hv; unfold binOp; simp [Op.intDiv, hz]; done)
        | cases hv⟩

/-- Shifts. -/
def shfI (op : BinOp) (k : IntKind) (x : Int) (n : Nat) : Option Value :=
  match op with
  | .shl => some (.int k (k.wrap (x * 2 ^ (min n k.bits))))
  | .shr => some (.int k (x.fdiv (2 ^ (min n k.bits))))
  | _ => none
theorem g_shf {op : BinOp} {T T2 : TypeId} {x y : Operand} {k k2 : IntKind} {a b : Int} {v : Value} (hx : ev e x = some (.int k a)) (hy : ev e y = some (.int k2 b)) (h0 : 0 ≤ b) (hv : shfI op k a b.toNat = some v) :
    Gives P cx e Rs ⟨d, .binOp op T x y T2, t, ps, af, gd⟩ v :=
  ⟨nofun, fun ρ w hρ _ => by
    have e1 := hρ x _ (by simp [Op.operands]) hx
    have e2 := hρ y _ (by simp [Op.operands]) hy
    have hn : ¬ b < 0 := by omega
    cases op <;> simp only [shfI] at hv <;> first
      | (cases hv; simp only [execOp, e1, e2, Sem.run_bind, run_eqGuard_int, Result.andThen_ok]; unfold binOp; simp [Op.shift, hn]; done)
      | cases hv⟩

theorem g_not {T : TypeId} {x : Operand} {b : Bool} (hx : ev e x = some (.bool b)) : Gives P cx e Rs ⟨d, .unOp .not T x, t, ps, af, gd⟩ (.bool (!b)) :=
  ⟨nofun, fun ρ w hρ _ => by
    have e1 := hρ x _ (by simp [Op.operands]) hx
    simp [execOp, e1, Op.unary]⟩
theorem g_neg {T : TypeId} {x : Operand} {k : IntKind} {a : Int} {v : Value} (hx : ev e x = some (.int k a)) (hv : binI .sub k 0 a = some v) : Gives P cx e Rs ⟨d, .unOp .neg T x, t, ps, af, gd⟩ v :=
  ⟨nofun, fun ρ w hρ _ => by
    have e1 := hρ x _ (by simp [Op.operands]) hx
    simp only [binI, Option.some.injEq] at hv
    subst hv
    simp [execOp, e1, Op.unary, Op.intArith]⟩

theorem intT_spec {t : TypeId} {k : IntKind} (h : intT P t = some k) : P.underlying t = some (.int k) := by
  unfold intT at h
  split at h
  · simp_all
  · cases h

/-- A conversion among integers. -/
theorem g_conv {S T : TypeId} {x : Operand} {k0 k k2 : IntKind} {a c : Int} (hS : intT P S = some k0) (hT : intT P T = some k2) (hx : ev e x = some (.int k a)) (hv : k2.wrap a = c) :
    Gives P cx e Rs ⟨d, .convert S T x, t, ps, af, gd⟩ (.int k2 c) :=
  ⟨nofun, fun ρ w hρ _ => by
    have e1 := hρ x _ (by simp [Op.operands]) hx
    subst hv
    simp [execOp, e1, convert, run_underlying (intT_spec hS), run_underlying (intT_spec hT), Conv.intToInt]⟩

theorem g_extract {x : Operand} {n : Nat} {vs : Array Value} {v : Value} (hx : ev e x = some (.tuple vs)) (hv : vs[n]? = some v) : Gives P cx e Rs ⟨d, .extract x n, t, ps, af, gd⟩ v :=
  ⟨nofun, fun ρ w hρ _ => by
    have e1 := hρ x _ (by simp [Op.operands]) hx
    simp [execOp, e1, Instr.extract, hv]⟩

def strT (P : Program) (t : TypeId) : Bool := match P.underlying t with
  | some .string => true
  | _ => false
theorem strT_spec {t : TypeId} (h : strT P t = true) : P.underlying t = some .string := by
  unfold strT at h
  split at h
  · assumption
  · cases h

theorem g_len {x : Operand} {T s : Nat} {p : Option Addr} {n c : Nat} (hT : elemSz P T = some s) (hx : ev e x = some (.slice p n c)) : Gives P cx e Rs ⟨d, .call { callee := .builtin .len, args := #[x], argTypes := #[T] }, t, ps, af, gd⟩ (.int .i64 n) :=
  ⟨nofun, fun ρ w hρ _ => by
    have e1 := hρ x _ (by simp [Op.operands, Call.operands]) hx
    obtain ⟨el, inf, hu, hinf, rfl⟩ := elemSz_spec hT
    rw [BigFrame.execOp_builtin, BigFrame.builtin_len]; unfold Builtin.len_; simp [e1, goInt, run_underlying hu]⟩
theorem g_lenS {x : Operand} {T : Nat} {s : ByteArray} (hT : strT P T = true) (hx : ev e x = some (.string s)) : Gives P cx e Rs ⟨d, .call { callee := .builtin .len, args := #[x], argTypes := #[T] }, t, ps, af, gd⟩ (.int .i64 s.size) :=
  ⟨nofun, fun ρ w hρ _ => by
    have e1 := hρ x _ (by simp [Op.operands, Call.operands]) hx
    rw [BigFrame.execOp_builtin, BigFrame.builtin_len]; unfold Builtin.len_; simp [e1, goInt, run_underlying (strT_spec hT)]⟩
theorem g_cap {x : Operand} {T s : Nat} {p : Option Addr} {n c : Nat} (hT : elemSz P T = some s) (hx : ev e x = some (.slice p n c)) : Gives P cx e Rs ⟨d, .call { callee := .builtin .cap, args := #[x], argTypes := #[T] }, t, ps, af, gd⟩ (.int .i64 c) :=
  ⟨nofun, fun ρ w hρ _ => by
    have e1 := hρ x _ (by simp [Op.operands, Call.operands]) hx
    obtain ⟨el, inf, hu, hinf, rfl⟩ := elemSz_spec hT
    rw [BigFrame.execOp_builtin, BigFrame.builtin_cap]; unfold Builtin.cap_; simp [e1, goInt, run_underlying hu]⟩

def evs (e : Env) (l : List Operand) : Option (List Value) := l.mapM (ev e)

theorem evs_map {l : List Operand} {vs : List Value} (h : evs e l = some vs) (ρ : Operand → Value) (hρ : ∀ x u, x ∈ l → ev e x = some u → ρ x = u) : l.map ρ = vs := by
  induction l generalizing vs with
  | nil => simp [evs] at h; simp [h]
  | cons x l ih =>
    simp only [evs, List.mapM_cons, Option.bind_eq_bind] at h
    cases hx : ev e x with
    | none => simp [hx] at h
    | some u =>
      cases hl : List.mapM (ev e) l with
      | none => simp [hx, hl] at h
      | some us =>
        simp [hx, hl] at h
        subst h
        rw [List.map_cons, hρ x u (by simp) hx, ih (by simpa [evs] using hl) (fun y u hy => hρ y u (by simp [hy]))]

theorem g_makeFunc {fn : Fn} {first cap : List Operand} {fs vs : List Value} (h1 : evs e first = some fs) (h2 : evs e cap = some vs) :
    Gives P cx e Rs ⟨d, .makeFunc fn first.toArray cap.toArray, t, ps, af, gd⟩ (.func fn fs.toArray vs.toArray) :=
  ⟨nofun, fun ρ w hρ _ => by
    have e1 := evs_map h1 ρ (fun x u hx => hρ x u (by simp [Op.operands, hx]))
    have e2 := evs_map h2 ρ (fun x u hx => hρ x u (by simp [Op.operands, hx]))
    simp [execOp, Instr.makeFunc, ← e1, ← e2]⟩

/-- A field of a struct by value: one cell. -/
theorem g_field {T f : Nat} {x : Operand} {cs : Array Value} {o : Nat} {v : Value} (hf : fieldCell P T f = some o) (hx : ev e x = some (.agg cs)) (hv : cs[o]? = some v) : Gives P cx e Rs ⟨d, .field T x f, t, ps, af, gd⟩ v :=
  ⟨nofun, fun ρ w hρ _ => by
    have e1 := hρ x _ (by simp [Op.operands]) hx
    unfold fieldCell at hf
    split at hf
    · rename_i fs hu
      split at hf
      · rename_i fl hfl
        split at hf
        · rename_i hs
          simp only [Option.some.injEq] at hf
          subst hf
          simp [execOp, e1, Instr.field, run_underlying hu, hfl, asAgg, part, isAgg_no hs, hv]
        · cases hf
      · cases hf
    · cases hf⟩

/-- A field of a struct by value: many cells. -/
theorem g_fieldA {T f : Nat} {x : Operand} {cs : Array Value} {o n : Nat} (hf : fieldAgg P T f = some (o, n)) (hx : ev e x = some (.agg cs)) : Gives P cx e Rs ⟨d, .field T x f, t, ps, af, gd⟩ (.agg (cs.extract o (o + n))) :=
  ⟨nofun, fun ρ w hρ _ => by
    have e1 := hρ x _ (by simp [Op.operands]) hx
    unfold fieldAgg at hf
    split at hf
    · rename_i fs hu
      split at hf
      · rename_i fl hfl
        cases ha : agT P fl.type with
        | none => simp [ha] at hf
        | some m =>
          simp [ha] at hf
          obtain ⟨rfl, rfl⟩ := hf
          obtain ⟨h1, h2⟩ := run_isAgg_yes ha w
          simp [execOp, e1, Instr.field, run_underlying hu, hfl, asAgg, part, h1, h2]
      · cases hf
    · cases hf⟩

end gives
end Go.Pm
