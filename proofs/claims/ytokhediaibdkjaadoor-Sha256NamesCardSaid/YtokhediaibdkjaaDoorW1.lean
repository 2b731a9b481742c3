/- The walks of RotateLeft32 and turned. (printed by gen1.py) -/
import Derived.Test.YtokhediaibdkjaaDoorE9
namespace Go.Proofs.YtokhediaibdkjaaDoor
open Go.Pm Go.RowKit
set_option maxRecDepth 100000
/-- RotateLeft32. -/
def rot (x : BitVec 32) (k : Int) : BitVec 32 := (x <<< (BitVec.ofInt 64 k &&& 31#64).toNat) ||| (x >>> (32#64 - (BitVec.ofInt 64 k &&& 31#64)).toNat)
def turned (x : BitVec 32) (a b : Int) (e : BitVec 32) : BitVec 32 := (rot x (-a) ^^^ rot x (-b)) ^^^ e

theorem f99_spec (x : BitVec 32) (k : Int) (w : World) : Calls Tryd.prog 99 [U32 x, I64 k].toArray w (fun en w2 => en = .returned (U32 (rot x k)) ∧ Sat w [] [] w2) := by
  refine enter (n := 17) Tryd.func99 rfl rfl rfl (Sat.refl w) ?_
  refine seq ?_
  refine region ?_
  refine st (g_assign (v := U32 0#32) rfl) rfl ?_
  refine done ?_
  refine th_n ?_
  refine seq ?_
  refine region ?_
  refine st (g_move rfl) rfl ?_
  refine st (g_to64i it_3 it_99 rfl) rfl ?_
  refine st (g_and64 (b := 31#64) rfl rfl) rfl ?_
  refine st (g_assign rfl) rfl ?_
  refine done ?_
  refine th_n ?_
  refine seq ?_
  refine region ?_
  refine st (g_move rfl) rfl ?_
  refine st (g_move rfl) rfl ?_
  refine st (g_shl32 rfl rfl rfl) rfl ?_
  refine st (g_move rfl) rfl ?_
  refine st (g_move rfl) rfl ?_
  refine st (g_sub64 (a := 32#64) rfl rfl) rfl ?_
  refine st (g_shr32 rfl rfl rfl) rfl ?_
  refine st (g_or32 rfl rfl) rfl ?_
  refine st (g_assign rfl) rfl ?_
  refine done ?_
  refine th_n ?_
  refine ret ?_
  exact ret1 rfl rfl rfl (fun w2 hw2 => ⟨rfl, hw2⟩)

theorem f98_spec (x e : BitVec 32) (a b : Int) (ha : -1000 < a) (ha2 : a < 1000) (hb : -1000 < b) (hb2 : b < 1000) (w : World) : Calls Tryd.prog 98 [U32 x, I64 a, I64 b, U32 e].toArray w (fun en w2 => en = .returned (U32 (turned x a b e)) ∧ Sat w [] [] w2) := by
  refine enter (n := 20) Tryd.func98 rfl rfl rfl (Sat.refl w) ?_
  refine seq ?_
  refine region ?_
  refine st (g_assign (v := U32 0#32) rfl) rfl ?_
  refine done ?_
  refine th_n ?_
  refine seq ?_
  refine region ?_
  refine st (g_move rfl) rfl ?_
  refine st (g_move rfl) rfl ?_
  refine st (g_ineg rfl rfl (by omega) (by omega)) rfl ?_
  refine sq rfl (o_callP Tryd.func99 rfl rfl rfl (fun w hw => f99_spec x (-a) w) rfl ?_)
  refine st (g_move rfl) rfl ?_
  refine st (g_move rfl) rfl ?_
  refine st (g_ineg rfl rfl (by omega) (by omega)) rfl ?_
  refine sq rfl (o_callP Tryd.func99 rfl rfl rfl (fun w hw => f99_spec x (-b) w) rfl ?_)
  refine st (g_xor32 rfl rfl) rfl ?_
  refine st (g_move rfl) rfl ?_
  refine st (g_xor32 rfl rfl) rfl ?_
  refine st (g_assign rfl) rfl ?_
  refine done ?_
  refine th_n ?_
  refine ret ?_
  exact ret1 rfl rfl rfl (fun w2 hw2 => ⟨rfl, hw2⟩)
end Go.Proofs.YtokhediaibdkjaaDoor
