/- The engine, part 3: operations that make or write memory, and calls. -/
import Derived.Test.YtokhediaibdkjaaDoorE2
namespace Go.Pm
open Go.RowKit

def zeroCs (P : Program) (t : TypeId) : Option (List Value) := match P.info? t with
  | some i => i.zero.map (·.cells.toList)
  | none => none
def szT (P : Program) (t : TypeId) : Option Nat := (P.info? t).map (·.size)

theorem zeroCs_spec {P : Program} {t : TypeId} {zs : List Value} (h : zeroCs P t = some zs) : ∃ i z, P.info? t = some i ∧ i.zero = some z ∧ z.cells.toList = zs := by
  unfold zeroCs at h
  cases hi : P.info? t with
  | none => simp [hi] at h
  | some i =>
    cases hz : i.zero with
    | none => simp [hi, hz] at h
    | some z => exact ⟨i, z, rfl, hz, by simpa [hi, hz] using h⟩

theorem cellsObj (z : Value) (T : TypeId) : (Obj.cells z.cells T (0, 0)) = .cells z.cells.toList.toArray T (0, 0) := by simp

theorem Sat.hd {w0 w : World} {S0 : List Nat} {b : Nat} {E : TypeId} {cs : List Value} {R : List Res} (h : Sat w0 S0 (blk b E cs :: R) w) : w.heap[b]? = some (.cells cs.toArray E (0, 0)) := h.holds (blk b E cs) (by simp)

section
variable {cx : Cx} {e : Env} {Rs : List Res} {r : Option Nat} {P : Program} {Q : Exit → Act → World → Prop} {K : Act → World → Prop}
  {d : Nat} {t : TypeId} {ps : String} {af : Array Edge} {gd : Option (Nat × Bool)}

theorem At.newBlk {a : Act} {w : World} {T : TypeId} {cs : List Value} (ha : Ok cx.n cx.ds e a) (hw : Sat cx.w0 cx.S0 Rs w) (hd : Nat.blt d cx.n = true)
    (h : ∀ b, At cx ((d, .pointer (some ⟨b, 0, none⟩)) :: e) (blk b T cs :: Rs) K) : K (a.put (some d) (.pointer (some ⟨w.heap.size, 0, none⟩))) (w.alloc (.cells cs.toArray T (0, 0))) :=
  h _ _ _ (ha.put hd _) (hw.new' (R := blk w.heap.size T cs) rfl rfl rfl rfl (by simp) (fun k (hk : k < w.heap.size) => Below.heap_alloc w (.cells cs.toArray T (0, 0)) k hk) (heap_alloc_new w (.cells cs.toArray T (0, 0))))

/-- A new variable. -/
theorem o_alloc {T : TypeId} {zs : List Value} (hz : zeroCs P T = some zs) (hd : Nat.blt d cx.n = true) (h : ∀ b, At cx ((d, .pointer (some ⟨b, 0, none⟩)) :: e) (blk b T zs :: Rs) K) :
    OpAt cx e Rs r P Q ⟨some d, .alloc T, t, ps, af, gd⟩ K :=
  OpAt.of_run nofun fun a w ha hw => by
    obtain ⟨i, z, hi, hz0, rfl⟩ := zeroCs_spec hz
    have hrun : (execOp a.eval ⟨some d, .alloc T, t, ps, af, gd⟩).run P w = .ok (.value (.pointer (some ⟨w.heap.size, 0, none⟩))) (w.alloc (.cells z.cells.toList.toArray T (0, 0))) := by
      simp [execOp, Instr.alloc, zeroValue, typeInfo, hi, hz0, newVar, newRow]
    show Oper.uponIn (FR r) 0 P _ a K Q _
    rw [hrun, Oper.uponIn_value]
    exact At.newBlk ha hw hd h

/-- A new variable that holds a value. -/
theorem o_box {T : TypeId} {x : Operand} {v : Value} {cs : List Value} (hx : ev e x = some v) (hc : v.cells.toList = cs) (hd : Nat.blt d cx.n = true)
    (h : ∀ b, At cx ((d, .pointer (some ⟨b, 0, none⟩)) :: e) (blk b T cs :: Rs) K) : OpAt cx e Rs r P Q ⟨some d, .box T x, t, ps, af, gd⟩ K :=
  OpAt.of_run nofun fun a w ha hw => by
    subst hc
    have hrun : (execOp a.eval ⟨some d, .box T x, t, ps, af, gd⟩).run P w = .ok (.value (.pointer (some ⟨w.heap.size, 0, none⟩))) (w.alloc (.cells v.cells.toList.toArray T (0, 0))) := by
      simp [execOp, ha.eval hx, Instr.box, newVar, newRow]
    show Oper.uponIn (FR r) 0 P _ a K Q _
    rw [hrun, Oper.uponIn_value]
    exact At.newBlk ha hw hd h

/-- The cells 'vs' in the place of those that lie from o on. -/
def setR (cs : List Value) (o : Nat) (vs : List Value) : List Value := cs.take o ++ vs ++ cs.drop (o + vs.length)

theorem upd_setRow {R : List Res} {w : World} {b : Nat} {E : TypeId} {cs cs' : List Value} (hw : Sat cx.w0 cx.S0 (blk b E cs :: R) w) : Sat cx.w0 cx.S0 (blk b E cs' :: R) (w.setRow b cs'.toArray) := by
  have hb : w.heap[b]? = some (.cells cs.toArray E (0, 0)) := hw.hd
  exact hw.upd (R' := blk b E cs') rfl rfl rfl rfl (by simp) (fun k hk => setRow_other w b k _ (by simpa [blk, objR] using hk)) (setRow_heap w b _ _ E _ hb)

/-- A store of one cell. -/
theorem o_store {T : TypeId} {x y : Operand} {b o : Nat} {v : Value} {E : TypeId} {cs cs' : List Value} {B : List Res} (hT : szT P T = some 1) (hx : ev e x = some (.pointer (some ⟨b, o, none⟩))) (hy : ev e y = some v)
    (h1 : v.oneCell' = true) (hk : Pick (blk b E cs) Rs B) (ho : o < cs.length) (hc : cs.set o v = cs') (h : At cx e (blk b E cs' :: B) K) : OpAt cx e Rs r P Q ⟨none, .store T x y, t, ps, af, gd⟩ K :=
  OpAt.of_run nofun fun a w ha hw => by
    subst hc
    have hw' := hw.pick hk
    have hb : w.heap[b]? = some (.cells cs.toArray E (0, 0)) := hw'.hd
    have hvc : v.cells.toList = [v] := by cases v <;> first | rfl | cases h1
    have hsz : (sizeOf T).run P w = .ok 1 w := by
      cases hi : P.info? T with
      | none => simp [szT, hi] at hT
      | some i => simp [szT, hi] at hT; simp [sizeOf, typeInfo, hi, hT]
    have hst := run_storeCells_at P b o E [v] 0 cs.toArray w hb (by simp; omega) (by simp [h1])
    have hvs : v.cells.size = 1 := by have := congrArg List.length hvc; simpa using this
    have hrun : (execOp a.eval ⟨none, .store T x y, t, ps, af, gd⟩).run P w = .ok .skip (w.setRow b (cs.set o v).toArray) := by
      simp only [execOp, ha.eval hx, ha.eval hy, Instr.storeAt, Instr.sureAddr, storeVar, Sem.run_bind, Sem.run_pure, Result.andThen_ok, hsz, hvs]
      simp only [ne_eq, not_true_eq_false, if_false, Sem.run_pure, Result.andThen_ok, Sem.run_bind, hvc]
      rw [hst]
      simp [List.set_eq_take_append_cons_drop, ho]
    show Oper.uponIn (FR r) 0 P _ a K Q _
    rw [hrun, Oper.uponIn_skip]
    exact h _ _ (ha.put_none _) (upd_setRow hw')

/-- A store of a struct or an array. -/
theorem o_storeA {T : TypeId} {x y : Operand} {b o n : Nat} {vs : List Value} {E : TypeId} {cs cs' : List Value} {B : List Res} (hT : szT P T = some n) (hx : ev e x = some (.pointer (some ⟨b, o, none⟩))) (hy : ev e y = some (.agg vs.toArray))
    (hn : vs.length = n) (h1 : ∀ v ∈ vs, v.oneCell' = true) (hk : Pick (blk b E cs) Rs B) (ho : o + n ≤ cs.length) (hc : setR cs o vs = cs') (h : At cx e (blk b E cs' :: B) K) :
    OpAt cx e Rs r P Q ⟨none, .store T x y, t, ps, af, gd⟩ K :=
  OpAt.of_run nofun fun a w ha hw => by
    subst hc
    have hw' := hw.pick hk
    have hb : w.heap[b]? = some (.cells cs.toArray E (0, 0)) := hw'.hd
    have hsz : (sizeOf T).run P w = .ok n w := by
      cases hi : P.info? T with
      | none => simp [szT, hi] at hT
      | some i => simp [szT, hi] at hT; simp [sizeOf, typeInfo, hi, hT]
    have hst := run_storeCells_at P b o E vs 0 cs.toArray w hb (by simp; omega) h1
    have hrun : (execOp a.eval ⟨none, .store T x y, t, ps, af, gd⟩).run P w = .ok .skip (w.setRow b (setR cs o vs).toArray) := by
      simp only [execOp, ha.eval hx, ha.eval hy, Instr.storeAt, Instr.sureAddr, storeVar, Sem.run_bind, Sem.run_pure, Result.andThen_ok, hsz, Value.cells, List.size_toArray, hn]
      simp only [ne_eq, not_true_eq_false, if_false, Sem.run_pure, Result.andThen_ok, Sem.run_bind]
      rw [hst]
      simp [setR]
    show Oper.uponIn (FR r) 0 P _ a K Q _
    rw [hrun, Oper.uponIn_skip]
    exact h _ _ (ha.put_none _) (upd_setRow hw')

/-- A call of a function by its contract: it is handed A (of what is owned) and leaves A' x. -/
theorem o_call {f : FuncId} {fn : Func} {l : List Operand} {vs : List Value} {ats : Array TypeId} {A B : List Res} {β : Type} {I : β → Prop} {val : β → Value} {A' : β → List Res} (hf : P.funcs[f]? = some fn) (hb : fn.body.isSome = true)
    (hnm : (fn.name == "runtime.NumGoroutine") = false) (ha : evs e l = some vs) (hs : Split A Rs B)
    (hC : ∀ w, Sat cx.w0 cx.S0 Rs w → Sat w (fps A) A w → Calls P f vs.toArray w (fun en w' => ∃ x, I x ∧ en = .returned (val x) ∧ Sat w (fps A) (A' x) w'))
    (hd : Nat.blt d cx.n = true) (h : ∀ x, I x → At cx ((d, val x) :: e) (A' x ++ B) K) :
    OpAt cx e Rs r P Q ⟨some d, .call { callee := .value (.func f), args := l.toArray, argTypes := ats }, t, ps, af, gd⟩ K :=
  OpAt.of_run nofun fun a w haa hw => by
    have e1 := evs_map ha a.eval (fun x u _ hx => haa.eval hx)
    have hbn : fn.body.isNone = false := by cases hbb : fn.body <;> simp_all
    have hrun : (execOp a.eval ⟨some d, .call { callee := .value (.func f), args := l.toArray, argTypes := ats }, t, ps, af, gd⟩).run P w = .ok (.enter f vs.toArray) w := by
      have e2 : l.toArray.map a.eval = vs.toArray := by rw [← e1]; simp
      simp only [execOp, resolve, Act.eval, Deferred.ofValue, Sem.run_bind, Sem.run_pure, Result.andThen_ok, invoke, callFunc, run_program, hf, hnm]
      simp [hbn, ← e1]
    show Oper.uponIn (FR r) 0 P _ a K Q _
    rw [hrun, Oper.uponIn_enter]
    refine ⟨by simp, callsIn_FR.2 ((hC w hw (hw.split hs).hand).mono ?_)⟩
    rintro en w' ⟨x, hI, rfl, hsat⟩
    exact h x hI _ w' (haa.put hd _) ((hw.split hs).join hsat)

end
end Go.Pm
