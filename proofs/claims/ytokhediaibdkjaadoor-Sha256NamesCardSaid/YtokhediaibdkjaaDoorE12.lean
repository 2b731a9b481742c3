/- The engine, part 12: what package strings' Builder needs. -/
import Derived.Test.YtokhediaibdkjaaDoorE11
import Derived.Lib.UnsafeStr
import Derived.Lib.Builder
import Derived.Laws.Externs
import Derived.Lib.ConvBytes
namespace Go.Pm
open Go.RowKit
section
variable {P : Program} {cx : Cx} {e : Env} {Rs : List Res} {d : Option Tmp} {t : TypeId} {ps : String} {af : Array Edge} {gd : Option (Nat × Bool)}

theorem shape_blk {w0 w : World} {S0 : List Nat} {b E : Nat} {cs : List Value} {B : List Res} (hw : Sat w0 S0 Rs w) (hk : Pick (blk b E cs) Rs B) : w.shape? b = some (E, cs.length) := by
  have h : w.heap[b]? = some (.cells cs.toArray E (0, 0)) := hw.get hk
  simp [World.shape?, h]

theorem g_toUnsafe {S T el E b : Nat} {x : Operand} {cs : List Value} {B : List Res} (hs : P.underlying S = some (.pointer el)) (hd : P.underlying T = some .unsafePointer) (hz : szT P el = some 2) (hx : ev e x = some (.pointer (some ⟨b, 0, none⟩))) (hk : Pick (blk b E cs) Rs B) (hl : 0 < cs.length) :
    Gives P cx e Rs ⟨d, .convert S T x, t, ps, af, gd⟩ (.pointer (some ⟨b, 0, none⟩)) :=
  ⟨nofun, fun ρ w hρ hw => by
    have e1 := hρ x _ (by simp [Op.operands]) hx
    cases hi : P.info? el with
    | none => simp [szT, hi] at hz
    | some j =>
      have hj : j.size ≠ 0 := by simp [szT, hi] at hz; omega
      have := Go.Lib.run_to_unsafe (P := P) w (e := E) (cells := cs.length) ⟨b, 0, none⟩ hs hd hi hj (shape_blk hw hk) hl
      simp [execOp, e1, this]⟩
theorem g_fromUnsafe {S T el E b n : Nat} {x : Operand} {cs : List Value} {B : List Res} (hs : P.underlying S = some .unsafePointer) (hd : P.underlying T = some (.pointer el)) (hz : szT P el = some n) (hx : ev e x = some (.pointer (some ⟨b, 0, none⟩))) (hk : Pick (blk b E cs) Rs B)
    (hlies : liesAt P P.depth E (cs.length / P.cellsOf E) 0 el 1 = true) : Gives P cx e Rs ⟨d, .convert S T x, t, ps, af, gd⟩ (.pointer (some ⟨b, 0, none⟩)) :=
  ⟨nofun, fun ρ w hρ hw => by
    have e1 := hρ x _ (by simp [Op.operands]) hx
    cases hi : P.info? el with
    | none => simp [szT, hi] at hz
    | some j =>
      have := Go.Lib.run_from_unsafe (P := P) w (e := E) (cells := cs.length) ⟨b, 0, none⟩ hs hd hi (shape_blk hw hk) hlies
      simp [execOp, e1, this]⟩
theorem g_nePtrSame {T T2 el n : Nat} {x y : Operand} {a : Addr} (hT : P.underlying T = some (.pointer el)) (hz : szT P el = some n) (hx : ev e x = some (.pointer (some a))) (hy : ev e y = some (.pointer (some a))) :
    Gives P cx e Rs ⟨d, .binOp .neq T x y T2, t, ps, af, gd⟩ (.bool false) :=
  ⟨nofun, fun ρ w hρ _ => by
    have e1 := hρ x _ (by simp [Op.operands]) hx
    have e2 := hρ y _ (by simp [Op.operands]) hy
    cases hi : P.info? el with
    | none => simp [szT, hi] at hz
    | some j =>
      simp only [execOp, e1, e2, Sem.run_bind, run_eqGuard_ptr, Result.andThen_ok, Go.Lib.run_neq_ptr_same w a hT hi]
      rfl⟩
theorem g_unsafeData {x : Operand} {ats : Array TypeId} {a : Addr} {n c : Nat} (hx : ev e x = some (.slice (some a) n c)) (hc : c ≠ 0) : Gives P cx e Rs ⟨d, .call { callee := .builtin .unsafeSliceData, args := #[x], argTypes := ats }, t, ps, af, gd⟩ (.pointer (some a)) :=
  ⟨nofun, fun ρ w hρ _ => by
    have e1 := hρ x _ (by simp [Op.operands, Call.operands]) hx
    have := Go.Lib.run_unsafeSliceData_row (P := P) (w := w) ats t a n c hc
    rw [BigFrame.execOp_builtin, BigFrame.builtin_unsafeSliceData]
    simp [e1, this]⟩

/-- The halves of a byte. -/
theorem g_hi4 {T T2 : TypeId} {x y : Operand} {a : UInt8} {k : IntKind} (hx : ev e x = some (B8 a)) (hy : ev e y = some (.int k 4)) : Gives P cx e Rs ⟨d, .binOp .shr T x y T2, t, ps, af, gd⟩ (.int .u8 ((a.toNat / 16 : Nat) : Int)) :=
  g_shf hx hy (by decide) (by
    simp only [shfI, IntKind.bits]
    rw [show (2 : Int) ^ (min (4 : Int).toNat 8) = 16 by decide, Int.fdiv_eq_ediv_of_nonneg _ (by decide)]
    rfl)
theorem g_lo4 {T T2 : TypeId} {x y : Operand} {a : UInt8} (hx : ev e x = some (B8 a)) (hy : ev e y = some (.int .u8 15)) : Gives P cx e Rs ⟨d, .binOp .and T x y T2, t, ps, af, gd⟩ (.int .u8 ((a.toNat % 16 : Nat) : Int)) :=
  g_bin hx hy (by
    simp only [binI]
    rw [wrap_u8]
    have h3 : ((BitVec.ofInt 8 (a.toNat : Int) &&& BitVec.ofInt 8 (15 : Int)).toNat : Int) = ((a.toNat % 16 : Nat) : Int) := by
      have h2 : BitVec.ofInt 8 (15 : Int) = BitVec.ofNat 8 15 := rfl
      rw [h2, BitVec.ofInt_natCast, BitVec.toNat_and, BitVec.toNat_ofNat, BitVec.toNat_ofNat]
      have : a.toNat < 256 := a.toNat_lt
      rw [Nat.mod_eq_of_lt (by omega)]
      congr 1
      exact Nat.and_two_pow_sub_one_eq_mod a.toNat 4
    have h4 : ((BitVec.ofInt IntKind.u8.bits (a.toNat : Int) &&& BitVec.ofInt IntKind.u8.bits (15 : Int)).toNat : Int) = ((a.toNat % 16 : Nat) : Int) := h3
    refine congrArg (fun z : Int => some (Value.int .u8 z)) ?_
    rw [h4]
    exact Int.emod_eq_of_lt (by omega) (by omega))
end

section
variable {cx : Cx} {e : Env} {Rs : List Res} {r : Option Nat} {P : Program} {Q : Exit → Act → World → Prop} {K : Act → World → Prop}
  {d : Nat} {t : TypeId} {ps : String} {af : Array Edge} {gd : Option (Nat × Bool)}
/-- A call of a function of the runtime that has no body, and hands back what it is handed. -/
theorem o_extern {f : FuncId} {fn : Func} {x : Operand} {v : Value} {ats : Array TypeId} {ex : Array Value → Sem Value} (hf : P.funcs[f]? = some fn) (hnm : (fn.name == "runtime.NumGoroutine") = false) (hb : fn.body.isNone = true) (hn : Extern.findNext fn = none) (he : Extern.find fn = some ex)
    (hx : ev e x = some v) (hr : ∀ w, (ex #[v]).run P w = .ok v w) (hd : Nat.blt d cx.n = true) (h : At cx ((d, v) :: e) Rs K) :
    OpAt cx e Rs r P Q ⟨some d, .call { callee := .value (.func f), args := #[x], argTypes := ats }, t, ps, af, gd⟩ K :=
  OpAt.of_run nofun fun a w ha hw => by
    have hrun : (execOp a.eval ⟨some d, .call { callee := .value (.func f), args := #[x], argTypes := ats }, t, ps, af, gd⟩).run P w = .ok (.value v) w := by
      have h1 := run_callFunc_extern (P := P) hf hnm hb hn he #[v] w
      rw [hr w] at h1
      simp only [execOp, resolve, Act.eval, Deferred.ofValue, Sem.run_bind, Sem.run_pure, Result.andThen_ok, invoke]
      simp only [List.map_toArray, List.map_cons, List.map_nil, ha.eval hx]
      rw [show (#[] ++ #[v] ++ #[] : Array Value) = #[v] by simp, h1]
      rfl
    show Oper.uponIn (FR r) 0 P _ a K Q _
    rw [hrun, Oper.uponIn_value]
    exact h _ w (ha.put hd _) hw

theorem freeze_other {w : World} {g n k : Nat} (hk : k ≠ g) : (w.freeze ⟨g, 0, none⟩ n).heap[k]? = w.heap[k]? := by
  unfold World.freeze
  split
  · rfl
  · simp only
    rw [Array.getElem?_modify, if_neg (by simpa using (Ne.symm hk))]
theorem freeze_size {w : World} {g n : Nat} : (w.freeze ⟨g, 0, none⟩ n).heap.size = w.heap.size := by
  unfold World.freeze
  split
  · rfl
  · simp
theorem freeze_os {w : World} {g n : Nat} : (w.freeze ⟨g, 0, none⟩ n).os = w.os ∧ (w.freeze ⟨g, 0, none⟩ n).tape = w.tape ∧ (w.freeze ⟨g, 0, none⟩ n).output = w.output := by
  unfold World.freeze
  split <;> exact ⟨rfl, rfl, rfl⟩

/-- unsafe.String over a row that is let go. -/
theorem o_unsafeString {T TI E n cap : Nat} {x y : Operand} {a : Addr} {l : List UInt8} {B : List Res} (hT : P.underlying T = some (.pointer E)) (hc : P.cellsOf E = 1) (hx : ev e x = some (.pointer (some a))) (hy : ev e y = some (.int .i64 (n : Int))) (hk : Pick (vec (.slice (some a) n cap) E 1 n (l.map B8)) Rs B)
    (hl : l ≠ []) (hd : Nat.blt d cx.n = true) (h : At cx ((d, .string ⟨l.toArray⟩) :: e) B K) :
    OpAt cx e Rs r P Q ⟨some d, .call { callee := .builtin .unsafeString, args := #[x, y], argTypes := #[T, TI] }, t, ps, af, gd⟩ K :=
  OpAt.of_run nofun fun act w ha hw => by
    have hw' := hw.pick hk
    have hv : w.ownsRow 0 E 1 (.slice (some a) n cap) n (l.map B8) := hw'.holds (vec (.slice (some a) n cap) E 1 n (l.map B8)) (by simp)
    have hln : l.length = n := by simpa using hv.1
    rcases hv.2 with ⟨he, _⟩ | ⟨g, cap', cur, he, h1, h2, h3, h4, h5, h6⟩
    · simp at he
    · have hcell := hv.cells (g := a.block) rfl
      simp only [Value.slice.injEq, true_and, Option.some.injEq] at he
      obtain ⟨rfl, rfl⟩ := he
      have hgz : g < w.heap.size := (Array.getElem?_eq_some_iff.1 h2).1
      have hus := Go.Lib.run_unsafeString_row (P := P) w T TI t E hT hc g cur.size (by simp [World.shape?, h2]) l hl (by omega) (by unfold maxLen at h4; omega) (fun j x hj => hcell j (B8 x) (by simp [hj]))
      have hrun : (execOp act.eval ⟨some d, .call { callee := .builtin .unsafeString, args := #[x, y], argTypes := #[T, TI] }, t, ps, af, gd⟩).run P w = .ok (.value (.string ⟨l.toArray⟩)) (w.freeze ⟨g, 0, none⟩ l.length) := by
        rw [BigFrame.execOp_builtin, BigFrame.builtin_unsafeString]
        have e1 := ha.eval hx
        have e2 := ha.eval hy
        rw [← hln] at e2
        simp [e1, e2, hus]
      show Oper.uponIn (FR r) 0 P _ act K Q _
      rw [hrun, Oper.uponIn_value]
      obtain ⟨o1, o2, o3⟩ := freeze_os (w := w) (g := g) (n := l.length)
      have hgz' : g < (w.freeze ⟨g, 0, none⟩ l.length).heap.size := by rw [freeze_size]; exact hgz
      exact h _ _ (ha.put hd _) (hw'.upd (R' := objR g ((w.freeze ⟨g, 0, none⟩ l.length).heap[g])) rfl o1 o2 o3 freeze_size (fun k hk => freeze_other (by simpa [vec, vecFp] using hk)) (by show _ = _; exact Array.getElem?_eq_getElem hgz')).drop

/-- []byte(s). -/
theorem o_bytes {S T E : Nat} {x : Operand} {s : ByteArray} (hs : P.underlying S = some .string) (hT : P.underlying T = some (.slice E)) (hE : P.underlying E = some (.int .u8)) (hx : ev e x = some (.string s)) (hd : Nat.blt d cx.n = true)
    (h : ∀ b cap rest fr, s.size ≤ cap → At cx ((d, .slice (some ⟨b, 0, none⟩) s.size cap) :: e) (blkF b E (s.data.toList.map B8 ++ rest) fr :: Rs) K) : OpAt cx e Rs r P Q ⟨some d, .convert S T x, t, ps, af, gd⟩ K :=
  OpAt.of_run nofun fun act w ha hw => by
    have h1 := Go.Lib.run_convert_string_bytes (P := P) w S T E s hs hT hE
    have hrun : (execOp act.eval ⟨some d, .convert S T x, t, ps, af, gd⟩).run P w = .ok (.value (.slice (some ⟨w.heap.size, 0, none⟩) s.size (grownCap w s.size 0 E))) (Go.Lib.bytesWorld w E s) := by
      simp only [execOp, ha.eval hx, Sem.run_bind, h1, Result.andThen_ok, Sem.run_pure]
    show Oper.uponIn (FR r) 0 P _ act K Q _
    rw [hrun, Oper.uponIn_value]
    have hcs : Go.Lib.bytesCells w E s = (s.data.toList.map B8 ++ List.replicate (grownCap w s.size 0 E - s.size) (Value.int .u8 0)).toArray := by
      apply Array.ext'
      simp [Go.Lib.bytesCells]
    have hos : (Go.Lib.bytesWorld w E s).os = w.os ∧ (Go.Lib.bytesWorld w E s).tape = w.tape ∧ (Go.Lib.bytesWorld w E s).output = w.output := by
      unfold Go.Lib.bytesWorld World.freeze
      split <;> exact ⟨rfl, rfl, rfl⟩
    refine h w.heap.size (grownCap w s.size 0 E) (List.replicate (grownCap w s.size 0 E - s.size) (Value.int .u8 0)) ((Go.Lib.bytesCells w E s).size, (Go.Lib.bytesCells w E s).size + 1) (grownCap_ge _ _ _ _) _ _ (ha.put hd _) ?_
    exact hw.new' (R := blkF w.heap.size E _ _) rfl hos.1 hos.2.1 hos.2.2 (Go.Lib.bytesWorld_size _ _ _) (fun k hk => Go.Lib.bytesWorld_at_old w E s k hk) (by show _ = _; rw [Go.Lib.bytesWorld_at_new, hcs])
end
end Go.Pm
