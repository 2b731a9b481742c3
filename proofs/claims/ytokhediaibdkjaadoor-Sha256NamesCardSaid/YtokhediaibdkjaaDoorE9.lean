/- The engine, part 9: calls of functions that own nothing; more facts on types. -/
import Derived.Test.YtokhediaibdkjaaDoorE8
import Derived.Test.YtokhediaibdkjaaDoorTy
namespace Go.Pm
open Go.RowKit
section
variable {cx : Cx} {e : Env} {Rs : List Res} {r : Option Nat} {P : Program} {Q : Exit → Act → World → Prop} {K : Act → World → Prop}
  {d : Nat} {t : TypeId} {ps : String} {af : Array Edge} {gd : Option (Nat × Bool)}
/-- A call that gives v, whatever is owned. -/
theorem o_callP {f : FuncId} {fn : Func} {l : List Operand} {vs : List Value} {ats : Array TypeId} {v : Value} (hf : P.funcs[f]? = some fn) (hb : fn.body.isSome = true)
    (hnm : (fn.name == "runtime.NumGoroutine") = false) (ha : evs e l = some vs)
    (hC : ∀ w, Sat cx.w0 cx.S0 Rs w → Calls P f vs.toArray w (fun en w' => en = .returned v ∧ Sat w [] [] w'))
    (hd : Nat.blt d cx.n = true) (h : At cx ((d, v) :: e) Rs K) :
    OpAt cx e Rs r P Q ⟨some d, .call { callee := .value (.func f), args := l.toArray, argTypes := ats }, t, ps, af, gd⟩ K :=
  o_call (A := []) (B := Rs) (β := Unit) (I := fun _ => True) (val := fun _ => v) (A' := fun _ => []) hf hb hnm ha .nil
    (fun w hw _ => (hC w hw).mono (fun en w' ⟨h1, h2⟩ => ⟨(), trivial, h1, h2⟩)) hd (fun _ _ => h)
end
section
variable {P : Program} {cx : Cx} {e : Env} {Rs : List Res} {d : Option Tmp} {t : TypeId} {ps : String} {af : Array Edge} {gd : Option (Nat × Bool)}
theorem g_to64i {S T : TypeId} {x : Operand} {k0 k : IntKind} {a : Int} (hS : intT P S = some k0) (hT : intT P T = some .u64) (hx : ev e x = some (.int k a)) : Gives P cx e Rs ⟨d, .convert S T x, t, ps, af, gd⟩ (U64 (BitVec.ofInt 64 a)) :=
  g_conv hS hT hx (by rw [wrap_u64, BitVec.toNat_ofInt]; exact (Int.toNat_of_nonneg (Int.emod_nonneg _ (by decide))).symm)
end

/-- A loop's state, round by round. -/
def iter {α : Type} (f : Nat → α → α) : Nat → α → α
  | 0, s => s
  | n + 1, s => f n (iter f n s)
theorem iter_inv {α : Type} {f : Nat → α → α} {I : α → Prop} (hf : ∀ n s, I s → I (f n s)) : ∀ n s, I s → I (iter f n s)
  | 0, _, h => h
  | n + 1, s, h => hf n _ (iter_inv hf n s h)
end Go.Pm
namespace Go.Proofs.YtokhediaibdkjaaDoor
open Go.Pm
set_option maxRecDepth 100000
theorem mixed : Tryd.prog.follows .mixedOrders = true := by kernel_rfl
theorem bo_4 : boolT Tryd.prog 4 = true := by kernel_rfl
theorem by_23 : bytesT Tryd.prog 23 = true := by kernel_rfl
theorem un_23 : Tryd.prog.underlying 23 = some (.slice 5) := by kernel_rfl
theorem bt_5 : (Tryd.prog.info? 5).map (·.bytes) = some 1 := by kernel_rfl
theorem un_22 : Tryd.prog.underlying 22 = some (.slice 23) := by kernel_rfl
theorem bt_23 : (Tryd.prog.info? 23).map (·.bytes) = some 24 := by kernel_rfl
theorem un_5 : Tryd.prog.underlying 5 = some (.int .u8) := by kernel_rfl
theorem un_165 : Tryd.prog.underlying 165 = some (.slice 38) := by kernel_rfl
theorem bt_38 : (Tryd.prog.info? 38).map (·.bytes) = some 4 := by kernel_rfl
theorem un_187 : Tryd.prog.underlying 187 = some (.slice 34) := by kernel_rfl
theorem bt_34 : (Tryd.prog.info? 34).map (·.bytes) = some 8 := by kernel_rfl
theorem pt_29 : ptrT Tryd.prog 29 = true := by kernel_rfl
theorem pt_48 : ptrT Tryd.prog 48 = true := by kernel_rfl
theorem pt_51 : ptrT Tryd.prog 51 = true := by kernel_rfl
theorem pt_54 : ptrT Tryd.prog 54 = true := by kernel_rfl
theorem pt_55 : ptrT Tryd.prog 55 = true := by kernel_rfl
theorem pt_166 : ptrT Tryd.prog 166 = true := by kernel_rfl
theorem un_39 : Tryd.prog.underlying 39 = some (.array 8 38) := by kernel_rfl
end Go.Proofs.YtokhediaibdkjaaDoor
