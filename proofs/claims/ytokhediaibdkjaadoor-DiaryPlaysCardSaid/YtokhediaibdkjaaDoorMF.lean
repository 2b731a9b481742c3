/- The proof's texts, merged: T2. -/
import Derived.Test.YtokhediaibdkjaaDoorME
/-! From T2 -/
/- The reference's table of cube roots, second part. (printed by gen1.py) -/
namespace Go.Proofs.YtokhediaibdkjaaDoor
open Go.Pm Go.RowKit
set_option maxRecDepth 100000
theorem kt_8 : ∀ i, i < 4 → BitVec.ofNat 32 (fracW (([137, 139, 149, 151] : List Nat).getD i 0) true 96 32).toNat = cubesL.getD (32 + i) 0#32 := by decide +kernel

theorem kt_9 : ∀ i, i < 4 → BitVec.ofNat 32 (fracW (([157, 163, 167, 173] : List Nat).getD i 0) true 96 32).toNat = cubesL.getD (36 + i) 0#32 := by decide +kernel

theorem kt_10 : ∀ i, i < 4 → BitVec.ofNat 32 (fracW (([179, 181, 191, 193] : List Nat).getD i 0) true 96 32).toNat = cubesL.getD (40 + i) 0#32 := by decide +kernel

theorem kt_11 : ∀ i, i < 4 → BitVec.ofNat 32 (fracW (([197, 199, 211, 223] : List Nat).getD i 0) true 96 32).toNat = cubesL.getD (44 + i) 0#32 := by decide +kernel

theorem kt_12 : ∀ i, i < 4 → BitVec.ofNat 32 (fracW (([227, 229, 233, 239] : List Nat).getD i 0) true 96 32).toNat = cubesL.getD (48 + i) 0#32 := by decide +kernel

theorem kt_13 : ∀ i, i < 4 → BitVec.ofNat 32 (fracW (([241, 251, 257, 263] : List Nat).getD i 0) true 96 32).toNat = cubesL.getD (52 + i) 0#32 := by decide +kernel

theorem kt_14 : ∀ i, i < 4 → BitVec.ofNat 32 (fracW (([269, 271, 277, 281] : List Nat).getD i 0) true 96 32).toNat = cubesL.getD (56 + i) 0#32 := by decide +kernel

theorem kt_15 : ∀ i, i < 4 → BitVec.ofNat 32 (fracW (([283, 293, 307, 311] : List Nat).getD i 0) true 96 32).toNat = cubesL.getD (60 + i) 0#32 := by decide +kernel
end Go.Proofs.YtokhediaibdkjaaDoor
