/- The proof's texts, merged: T3 H6 N1 N2 N3. -/
import Derived.Test.YtokhediaibdkjaaDoorME
import Derived.Test.YtokhediaibdkjaaDoorMF
import Derived.Test.YtokhediaibdkjaaDoorMD
/-! From T3 -/
/- The reference's tables are the program's. (printed by gen1.py) -/
namespace Go.Proofs.YtokhediaibdkjaaDoor
open Go.Pm Go.RowKit
set_option maxRecDepth 100000
theorem st_0 : ∀ i, i < 4 → BitVec.ofNat 32 (fracW (([2, 3, 5, 7] : List Nat).getD i 0) false 64 32).toNat = first256.getD (0 + i) 0#32 := by decide +kernel

theorem st_1 : ∀ i, i < 4 → BitVec.ofNat 32 (fracW (([11, 13, 17, 19] : List Nat).getD i 0) false 64 32).toNat = first256.getD (4 + i) 0#32 := by decide +kernel

theorem p64_lit : p64 = [2, 3, 5, 7, 11, 13, 17, 19, 23, 29, 31, 37, 41, 43, 47, 53, 59, 61, 67, 71, 73, 79, 83, 89, 97, 101, 103, 107, 109, 113, 127, 131, 137, 139, 149, 151, 157, 163, 167, 173, 179, 181, 191, 193, 197, 199, 211, 223, 227, 229, 233, 239, 241, 251, 257, 263, 269, 271, 277, 281, 283, 293, 307, 311] := by decide +kernel
theorem iter_set {α : Type} (f : Nat → α) (l0 : List α) : ∀ n, n ≤ l0.length → iter (fun i l => l.set i (f i)) n l0 = (List.range n).map f ++ l0.drop n
  | 0, _ => by simp [iter]
  | n + 1, h => by
    show (iter (fun i l => l.set i (f i)) n l0).set n (f n) = _
    rw [iter_set f l0 n (by omega), List.set_append_right _ _ (by simp), List.length_map, List.length_range, Nat.sub_self, List.range_succ, List.map_append, List.append_assoc]
    congr 1
    rw [List.drop_eq_getElem_cons (by omega)]
    rfl
theorem eq_range {α : Type} {f : Nat → α} {l : List α} {n : Nat} {d : α} (hl : l.length = n) (h : ∀ i, i < n → f i = l.getD i d) : (List.range n).map f = l := by
  apply List.ext_getElem
  · simp [hl]
  · intro i h1 h2
    rw [List.getElem_map, List.getElem_range, h i (by omega), List.getD_eq_getElem?_getD, List.getElem?_eq_getElem h2]
    rfl
theorem kp_0 : ∀ r, r < 4 → p64.getD (4 * 0 + r) 0 = ([2, 3, 5, 7] : List Nat).getD r 0 := by decide +kernel
theorem ku_0 (r : Nat) (hr : r < 4) : BitVec.ofNat 32 (fracW (p64.getD (4 * 0 + r) 0) true 96 32).toNat = cubesL.getD (4 * 0 + r) 0#32 := by rw [kp_0 r hr]; exact kt_0 r hr
theorem kp_1 : ∀ r, r < 4 → p64.getD (4 * 1 + r) 0 = ([11, 13, 17, 19] : List Nat).getD r 0 := by decide +kernel
theorem ku_1 (r : Nat) (hr : r < 4) : BitVec.ofNat 32 (fracW (p64.getD (4 * 1 + r) 0) true 96 32).toNat = cubesL.getD (4 * 1 + r) 0#32 := by rw [kp_1 r hr]; exact kt_1 r hr
theorem kp_2 : ∀ r, r < 4 → p64.getD (4 * 2 + r) 0 = ([23, 29, 31, 37] : List Nat).getD r 0 := by decide +kernel
theorem ku_2 (r : Nat) (hr : r < 4) : BitVec.ofNat 32 (fracW (p64.getD (4 * 2 + r) 0) true 96 32).toNat = cubesL.getD (4 * 2 + r) 0#32 := by rw [kp_2 r hr]; exact kt_2 r hr
theorem kp_3 : ∀ r, r < 4 → p64.getD (4 * 3 + r) 0 = ([41, 43, 47, 53] : List Nat).getD r 0 := by decide +kernel
theorem ku_3 (r : Nat) (hr : r < 4) : BitVec.ofNat 32 (fracW (p64.getD (4 * 3 + r) 0) true 96 32).toNat = cubesL.getD (4 * 3 + r) 0#32 := by rw [kp_3 r hr]; exact kt_3 r hr
theorem kp_4 : ∀ r, r < 4 → p64.getD (4 * 4 + r) 0 = ([59, 61, 67, 71] : List Nat).getD r 0 := by decide +kernel
theorem ku_4 (r : Nat) (hr : r < 4) : BitVec.ofNat 32 (fracW (p64.getD (4 * 4 + r) 0) true 96 32).toNat = cubesL.getD (4 * 4 + r) 0#32 := by rw [kp_4 r hr]; exact kt_4 r hr
theorem kp_5 : ∀ r, r < 4 → p64.getD (4 * 5 + r) 0 = ([73, 79, 83, 89] : List Nat).getD r 0 := by decide +kernel
theorem ku_5 (r : Nat) (hr : r < 4) : BitVec.ofNat 32 (fracW (p64.getD (4 * 5 + r) 0) true 96 32).toNat = cubesL.getD (4 * 5 + r) 0#32 := by rw [kp_5 r hr]; exact kt_5 r hr
theorem kp_6 : ∀ r, r < 4 → p64.getD (4 * 6 + r) 0 = ([97, 101, 103, 107] : List Nat).getD r 0 := by decide +kernel
theorem ku_6 (r : Nat) (hr : r < 4) : BitVec.ofNat 32 (fracW (p64.getD (4 * 6 + r) 0) true 96 32).toNat = cubesL.getD (4 * 6 + r) 0#32 := by rw [kp_6 r hr]; exact kt_6 r hr
theorem kp_7 : ∀ r, r < 4 → p64.getD (4 * 7 + r) 0 = ([109, 113, 127, 131] : List Nat).getD r 0 := by decide +kernel
theorem ku_7 (r : Nat) (hr : r < 4) : BitVec.ofNat 32 (fracW (p64.getD (4 * 7 + r) 0) true 96 32).toNat = cubesL.getD (4 * 7 + r) 0#32 := by rw [kp_7 r hr]; exact kt_7 r hr
theorem kp_8 : ∀ r, r < 4 → p64.getD (4 * 8 + r) 0 = ([137, 139, 149, 151] : List Nat).getD r 0 := by decide +kernel
theorem ku_8 (r : Nat) (hr : r < 4) : BitVec.ofNat 32 (fracW (p64.getD (4 * 8 + r) 0) true 96 32).toNat = cubesL.getD (4 * 8 + r) 0#32 := by rw [kp_8 r hr]; exact kt_8 r hr
theorem kp_9 : ∀ r, r < 4 → p64.getD (4 * 9 + r) 0 = ([157, 163, 167, 173] : List Nat).getD r 0 := by decide +kernel
theorem ku_9 (r : Nat) (hr : r < 4) : BitVec.ofNat 32 (fracW (p64.getD (4 * 9 + r) 0) true 96 32).toNat = cubesL.getD (4 * 9 + r) 0#32 := by rw [kp_9 r hr]; exact kt_9 r hr
theorem kp_10 : ∀ r, r < 4 → p64.getD (4 * 10 + r) 0 = ([179, 181, 191, 193] : List Nat).getD r 0 := by decide +kernel
theorem ku_10 (r : Nat) (hr : r < 4) : BitVec.ofNat 32 (fracW (p64.getD (4 * 10 + r) 0) true 96 32).toNat = cubesL.getD (4 * 10 + r) 0#32 := by rw [kp_10 r hr]; exact kt_10 r hr
theorem kp_11 : ∀ r, r < 4 → p64.getD (4 * 11 + r) 0 = ([197, 199, 211, 223] : List Nat).getD r 0 := by decide +kernel
theorem ku_11 (r : Nat) (hr : r < 4) : BitVec.ofNat 32 (fracW (p64.getD (4 * 11 + r) 0) true 96 32).toNat = cubesL.getD (4 * 11 + r) 0#32 := by rw [kp_11 r hr]; exact kt_11 r hr
theorem kp_12 : ∀ r, r < 4 → p64.getD (4 * 12 + r) 0 = ([227, 229, 233, 239] : List Nat).getD r 0 := by decide +kernel
theorem ku_12 (r : Nat) (hr : r < 4) : BitVec.ofNat 32 (fracW (p64.getD (4 * 12 + r) 0) true 96 32).toNat = cubesL.getD (4 * 12 + r) 0#32 := by rw [kp_12 r hr]; exact kt_12 r hr
theorem kp_13 : ∀ r, r < 4 → p64.getD (4 * 13 + r) 0 = ([241, 251, 257, 263] : List Nat).getD r 0 := by decide +kernel
theorem ku_13 (r : Nat) (hr : r < 4) : BitVec.ofNat 32 (fracW (p64.getD (4 * 13 + r) 0) true 96 32).toNat = cubesL.getD (4 * 13 + r) 0#32 := by rw [kp_13 r hr]; exact kt_13 r hr
theorem kp_14 : ∀ r, r < 4 → p64.getD (4 * 14 + r) 0 = ([269, 271, 277, 281] : List Nat).getD r 0 := by decide +kernel
theorem ku_14 (r : Nat) (hr : r < 4) : BitVec.ofNat 32 (fracW (p64.getD (4 * 14 + r) 0) true 96 32).toNat = cubesL.getD (4 * 14 + r) 0#32 := by rw [kp_14 r hr]; exact kt_14 r hr
theorem kp_15 : ∀ r, r < 4 → p64.getD (4 * 15 + r) 0 = ([283, 293, 307, 311] : List Nat).getD r 0 := by decide +kernel
theorem ku_15 (r : Nat) (hr : r < 4) : BitVec.ofNat 32 (fracW (p64.getD (4 * 15 + r) 0) true 96 32).toNat = cubesL.getD (4 * 15 + r) 0#32 := by rw [kp_15 r hr]; exact kt_15 r hr
theorem kt_all (i : Nat) (hi : i < 64) : BitVec.ofNat 32 (fracW (p64.getD i 0) true 96 32).toNat = cubesL.getD i 0#32 := by
  have key : ∀ j r, j < 16 → r < 4 → BitVec.ofNat 32 (fracW (p64.getD (4 * j + r) 0) true 96 32).toNat = cubesL.getD (4 * j + r) 0#32 := by
    intro j r hj hr
    match j, hj with
    | 0, _ => exact ku_0 r hr
    | 1, _ => exact ku_1 r hr
    | 2, _ => exact ku_2 r hr
    | 3, _ => exact ku_3 r hr
    | 4, _ => exact ku_4 r hr
    | 5, _ => exact ku_5 r hr
    | 6, _ => exact ku_6 r hr
    | 7, _ => exact ku_7 r hr
    | 8, _ => exact ku_8 r hr
    | 9, _ => exact ku_9 r hr
    | 10, _ => exact ku_10 r hr
    | 11, _ => exact ku_11 r hr
    | 12, _ => exact ku_12 r hr
    | 13, _ => exact ku_13 r hr
    | 14, _ => exact ku_14 r hr
    | 15, _ => exact ku_15 r hr
    | k + 16, h => exact absurd h (by omega)
  have e : 4 * (i / 4) + i % 4 = i := by omega
  have h := key (i / 4) (i % 4) (by omega) (by omega)
  rw [e] at h
  exact h
theorem st_all (i : Nat) (hi : i < 8) : BitVec.ofNat 32 (fracW (p64.getD i 0) false 64 32).toNat = first256.getD i 0#32 := by
  have e0 := st_0 (i - 0)
  have e1 := st_1 (i - 4)
  match i, hi with
  | 0, _ => rw [p64_lit]; exact e0 (by decide)
  | 1, _ => rw [p64_lit]; exact e0 (by decide)
  | 2, _ => rw [p64_lit]; exact e0 (by decide)
  | 3, _ => rw [p64_lit]; exact e0 (by decide)
  | 4, _ => rw [p64_lit]; exact e1 (by decide)
  | 5, _ => rw [p64_lit]; exact e1 (by decide)
  | 6, _ => rw [p64_lit]; exact e1 (by decide)
  | 7, _ => rw [p64_lit]; exact e1 (by decide)
theorem kT_all : kT 64 = cubesL := by
  unfold kT
  rw [iter_set _ _ 64 (by decide), eq_range (l := cubesL) (n := 64) (d := 0#32) rfl (fun i hi => kt_all i hi)]
  rfl
theorem hT_256 : hT 256 8 = first256 := by
  unfold hT
  rw [iter_set _ _ 8 (by decide), eq_range (l := first256) (n := 8) (d := 0#32) rfl (fun i hi => by rw [if_pos rfl]; exact st_all i hi)]
  rfl
end Go.Proofs.YtokhediaibdkjaaDoor

/-! From H6 -/
/- The walk of ref04's Of, of 256 bits. (printed by gen1.py) -/
namespace Go.Proofs.YtokhediaibdkjaaDoor
open Go.Pm Go.RowKit
set_option maxRecDepth 100000
theorem f18_256 (p : Option Addr) (n c : Nat) (bs : List UInt8) (hb : bs.length = n) (hp : p = none → c = 0) (hn : n ≤ 1000000000) (w : World) (hr : RdC w p (bs.map B8)) : Calls Tryd.prog 18 [I64 256, .slice p n c].toArray w (fun en w2 => ∃ y : Option Addr × Nat, ((y.1 = none → y.2 = 0) ∧ 32 ≤ y.2) ∧ en = .returned (.tuple #[slv 32 y, I64 0]) ∧ Sat w (fps []) [vec (slv 32 y) 5 1 32 ((hashOf 256 bs).map B8)] w2) := by
  refine enter (n := 275) Tryd.func18 rfl rfl rfl (Sat.refl w) ?_
  refine seq ?_
  refine region ?_
  refine st (g_assign rfl) rfl ?_
  refine st (g_assign rfl) rfl ?_
  refine done ?_
  refine th_n ?_
  refine seq ?_
  refine seq ?_
  refine region ?_
  refine st (g_move rfl) rfl ?_
  refine st (g_T rfl rfl rfl (by decide)) rfl ?_
  refine st (g_move rfl) rfl ?_
  refine gt rfl ?_
  refine st (g_move rfl) rfl ?_
  refine gt rfl ?_
  refine st (g_F rfl rfl rfl (by decide)) rfl ?_
  refine st (g_pickT rfl rfl) rfl ?_
  refine done ?_
  refine th_n ?_
  refine condF rfl ?_
  refine skip ?_
  refine th_n ?_
  refine seq ?_
  refine region ?_
  refine sq rfl (o_call Tryd.func60 rfl rfl rfl .nil (fun w hw hA => f60_spec w) rfl (fun y hy => ?_))
  refine At.up2 (fun w hw => vec_isSome (hw.get .here) (by decide)) (fun hys => ?_)
  refine st (g_move rfl) rfl ?_
  refine st (g_extract rfl rfl) rfl ?_
  refine st (g_extract rfl rfl) rfl ?_
  refine st (g_assign rfl) rfl ?_
  refine st (g_assign rfl) rfl ?_
  refine done ?_
  refine th_n ?_
  refine seq ?_
  refine region ?_
  refine sq rfl (o_alloc (zs := (z64.map U32)) zr_118 rfl (fun b8 => ?_))
  refine done ?_
  refine th_n ?_
  refine seq ?_
  refine region ?_
  refine sq rfl (o_alloc (zs := (z8w.map U32)) zr_39 rfl (fun b9 => ?_))
  refine done ?_
  refine th_n ?_
  refine seq ?_
  refine seq ?_
  refine region ?_
  refine st (g_assign rfl) rfl ?_
  refine done ?_
  refine th_n ?_
  refine block ?_
  refine loop (α := Nat) (fun i => i ≤ 64) (fun i => [(0, I64 256), (1, .slice p n c), (6, slv 64 y), (8, .pointer (some ⟨b8, 0, none⟩)), (9, .pointer (some ⟨b9, 0, none⟩)), (10, I64 (i : Nat))]) (fun i => [vec (slv 64 y) 3 1 64 (p64.map fun p : Nat => I64 (p : Int)), blk b8 118 ((kT i).map U32), blk b9 39 ((z8w).map U32)]) (fun i => 64 - i) 0 (Nat.zero_le _) ⟨rfl, rfl, rfl, rfl, rfl, rfl, trivial⟩ (.cons (.there (.there (.here))) (.cons (.there (.here)) (.cons .here .nil))) (fun i hI => ?_)
  have hkl := kT_length i
  refine seq ?_
  refine seq ?_
  refine region ?_
  refine st (g_move rfl) rfl ?_
  refine st (g_bin rfl rfl rfl) rfl ?_
  refine done ?_
  refine th_n ?_
  refine condS rfl (fun h40 => ?_) (fun h40 => ?_)
  · try simp only [decide_eq_true_eq] at h40
    have hi : i < 64 := by omega
    refine skip ?_
    refine th_n ?_
    refine seq ?_
    refine block ?_
    refine region ?_
    refine st (g_move rfl) rfl ?_
    refine st (g_move rfl) rfl ?_
    refine st (g_move rfl) rfl ?_
    refine st (g_indexP (m := i) el_115 rfl rfl (hys) (by omega) (by omega) (by omega)) rfl ?_
    refine st (g_load (v := I64 (p64.getD i 0 : Nat)) sc_3 rfl (Cell.rd (RdA.vec .here) (p64_get hi))) rfl ?_
    refine sq rfl (o_callP Tryd.func61 rfl rfl rfl (fun w hw => f61_c32 (p64.getD i 0) (p64_small i) w) rfl ?_)
    refine st (g_to32 it_34 it_38 rfl rfl) rfl ?_
    refine st (g_indexA (m := i) ar_118 rfl rfl (by omega) (by omega) (by omega)) rfl ?_
    refine sq rfl (o_store (cs' := (kT (i + 1)).map U32) sz_38 rfl rfl rfl (.there (.here)) (by rw [List.length_map]; omega) (by rw [← List.map_set]; rfl) ?_)
    refine done ?_
    refine ib_n ?_
    refine th_n ?_
    refine region ?_
    refine st (g_move rfl) rfl ?_
    refine st (g_iadd (c := ((i + 1 : Nat) : Int)) rfl rfl (by omega) (by omega) (by omega)) rfl ?_
    refine st (g_assign rfl) rfl ?_
    refine done ?_
    refine th_n ?_
    exact again (i + 1) (by omega) (by omega) ⟨rfl, rfl, rfl, rfl, rfl, rfl, trivial⟩ (.cons (.there (.here)) (.cons .here (.cons .here .nil)))
  · try simp only [decide_eq_false_iff_not] at h40
    have hie : i = 64 := by omega
    subst hie
    show At _ _ [vec (slv 64 y) 3 1 64 (p64.map fun p : Nat => I64 (p : Int)), blk b8 118 ((kT 64).map U32), blk b9 39 ((z8w).map U32)] _
    rw [kT_all]
    refine exitc ?_
    refine th_x ?_
    refine th_x ?_
    refine ib_x ?_
    refine th_n ?_
    refine seq ?_
    refine seq ?_
    refine region ?_
    refine st (g_assign rfl) rfl ?_
    refine done ?_
    refine th_n ?_
    refine block ?_
    refine loop (α := Nat) (fun i => i ≤ 8) (fun i => [(0, I64 256), (1, .slice p n c), (6, slv 64 y), (8, .pointer (some ⟨b8, 0, none⟩)), (9, .pointer (some ⟨b9, 0, none⟩)), (11, I64 (i : Nat))]) (fun i => [vec (slv 64 y) 3 1 64 (p64.map fun p : Nat => I64 (p : Int)), blk b8 118 ((cubesL).map U32), blk b9 39 ((hT 256 i).map U32)]) (fun i => 8 - i) 0 (Nat.zero_le _) ⟨rfl, rfl, rfl, rfl, rfl, rfl, trivial⟩ (.cons .here (.cons .here (.cons .here .nil))) (fun i hI => ?_)
    have hhl := hT_length 256 i
    refine seq ?_
    refine seq ?_
    refine region ?_
    refine st (g_move rfl) rfl ?_
    refine st (g_bin rfl rfl rfl) rfl ?_
    refine done ?_
    refine th_n ?_
    refine condS rfl (fun h52 => ?_) (fun h52 => ?_)
    · try simp only [decide_eq_true_eq] at h52
      have hi : i < 8 := by omega
      refine skip ?_
      refine th_n ?_
      refine seq ?_
      refine block ?_
      refine seq ?_
      refine region ?_
      refine st (g_move rfl) rfl ?_
      refine st (g_T rfl rfl rfl (by decide)) rfl ?_
      refine done ?_
      refine th_n ?_
      refine condT rfl ?_
      refine region ?_
      refine st (g_move rfl) rfl ?_
      refine st (g_move rfl) rfl ?_
      refine st (g_move rfl) rfl ?_
      refine st (g_indexP (m := i) el_115 rfl rfl (hys) (by omega) (by omega) (by omega)) rfl ?_
      refine st (g_load (v := I64 (p64.getD i 0 : Nat)) sc_3 rfl (Cell.rd (RdA.vec .here) (p64_get (by omega)))) rfl ?_
      refine sq rfl (o_callP Tryd.func61 rfl rfl rfl (fun w hw => f61_s32 (p64.getD i 0) (p64_small i) w) rfl ?_)
      refine st (g_to32 it_34 it_38 rfl rfl) rfl ?_
      refine st (g_indexA (m := i) ar_39 rfl rfl (by omega) (by omega) (by omega)) rfl ?_
      refine sq rfl (o_store (cs' := (hT 256 (i + 1)).map U32) sz_38 rfl rfl rfl (.there (.there (.here))) (by rw [List.length_map]; omega) (by rw [← List.map_set]; rfl) ?_)
      refine done ?_
      refine ib_n ?_
      refine th_n ?_
      refine region ?_
      refine st (g_move rfl) rfl ?_
      refine st (g_iadd (c := ((i + 1 : Nat) : Int)) rfl rfl (by omega) (by omega) (by omega)) rfl ?_
      refine st (g_assign rfl) rfl ?_
      refine done ?_
      refine th_n ?_
      exact again (i + 1) (by omega) (by omega) ⟨rfl, rfl, rfl, rfl, rfl, rfl, trivial⟩ (.cons (.there (.here)) (.cons (.there (.here)) (.cons .here .nil)))
    · try simp only [decide_eq_false_iff_not] at h52
      have hie : i = 8 := by omega
      subst hie
      show At _ _ [vec (slv 64 y) 3 1 64 (p64.map fun p : Nat => I64 (p : Int)), blk b8 118 ((cubesL).map U32), blk b9 39 ((hT 256 8).map U32)] _
      rw [hT_256]
      refine exitc ?_
      refine th_x ?_
      refine th_x ?_
      refine ib_x ?_
      refine th_n ?_
      refine seq ?_
      refine region ?_
      refine st (g_move rfl) rfl ?_
      refine sq rfl (o_call Tryd.func62 rfl rfl rfl .nil (fun w hw hA => f62_spec p n c bs hb hp hn w (RdS.c (S := []) (RdS.ofOld (A := []) hr.s hw .nil))) rfl (fun ym hym => ?_))
      have hfl : (fillW bs).length = fillN n := by rw [fillW_length, hb]
      have hf64 : fillN n = 64 * (fillN n / 64) := by unfold fillN zerosN; omega
      have hfn : fillN n ≤ 2000000000 := by unfold fillN zerosN; omega
      refine At.up2 (fun w hw => vec_isSome (hw.get .here) (by unfold fillN; omega)) (fun hms => ?_)
      obtain ⟨nb, hnb⟩ : ∃ nb, nb = fillN n / 64 := ⟨_, rfl⟩
      refine st (g_assign rfl) rfl ?_
      refine done ?_
      refine th_n ?_
      refine seq ?_
      refine seq ?_
      refine region ?_
      refine st (g_assign rfl) rfl ?_
      refine done ?_
      refine th_n ?_
      refine block ?_
      refine loop (α := Nat) (fun ib => ib ≤ nb) (fun ib => [(0, I64 256), (8, .pointer (some ⟨b8, 0, none⟩)), (9, .pointer (some ⟨b9, 0, none⟩)), (12, slv (fillN n) ym), (13, I64 ((64 * ib : Nat) : Int))]) (fun ib => [vec (slv (fillN n) ym) 5 1 (fillN n) ((fillW bs).map B8), blk b8 118 ((cubesL).map U32), blk b9 39 (((absorb (fillW bs) ib first256)).map U32)]) (fun ib => nb - ib) 0 (Nat.zero_le _) ⟨rfl, rfl, rfl, rfl, rfl, trivial⟩ (.cons .here (.cons (.there (.here)) (.cons (.there (.here)) .nil))) (fun ib hib => ?_)
      have hsl : (absorb (fillW bs) ib first256).length = 8 := absorb_length (by rfl)
      refine seq ?_
      refine seq ?_
      refine region ?_
      refine st (g_move rfl) rfl ?_
      refine st (g_move rfl) rfl ?_
      refine st (g_len el_23 rfl) rfl ?_
      refine st (g_bin rfl rfl rfl) rfl ?_
      refine done ?_
      refine th_n ?_
      refine condS rfl (fun h80 => ?_) (fun h80 => ?_)
      · try simp only [decide_eq_true_eq] at h80
        have hib2 : ib < nb := by omega
        refine skip ?_
        refine th_n ?_
        refine seq ?_
        refine block ?_
        refine seq ?_
        refine region ?_
        refine sq rfl (o_alloc (zs := (z64.map U32)) zr_118 rfl (fun b14 => ?_))
        refine done ?_
        refine th_n ?_
        refine seq ?_
        refine seq ?_
        refine region ?_
        refine st (g_assign rfl) rfl ?_
        refine done ?_
        refine th_n ?_
        refine block ?_
        refine loop (α := Nat) (fun i => i ≤ 16) (fun i => [(0, I64 256), (8, .pointer (some ⟨b8, 0, none⟩)), (9, .pointer (some ⟨b9, 0, none⟩)), (12, slv (fillN n) ym), (13, I64 ((64 * ib : Nat) : Int)), (14, .pointer (some ⟨b14, 0, none⟩)), (15, I64 (i : Nat))]) (fun i => [vec (slv (fillN n) ym) 5 1 (fillN n) ((fillW bs).map B8), blk b8 118 ((cubesL).map U32), blk b9 39 (((absorb (fillW bs) ib first256)).map U32), blk b14 118 (((iter (spStep (blkOf (fillW bs) ib)) (i) z64)).map U32)]) (fun i => 16 - i) 0 (Nat.zero_le _) ⟨rfl, rfl, rfl, rfl, rfl, rfl, rfl, trivial⟩ (.cons (.there (.here)) (.cons (.there (.here)) (.cons (.there (.here)) (.cons .here .nil)))) (fun i hI => ?_)
        have hspl := spIter_length (blkOf (fillW bs) ib) i
        refine seq ?_
        refine seq ?_
        refine region ?_
        refine st (g_move rfl) rfl ?_
        refine st (g_bin rfl rfl rfl) rfl ?_
        refine done ?_
        refine th_n ?_
        refine condS rfl (fun h84 => ?_) (fun h84 => ?_)
        · try simp only [decide_eq_true_eq] at h84
          have hi : i < 16 := by omega
          show At _ _ [vec (slv (fillN n) ym) 5 1 (fillN n) ((fillW bs).map B8), blk b8 118 ((cubesL).map U32), blk b9 39 (((absorb (fillW bs) ib first256)).map U32), blk b14 118 (((iter (spStep (blkOf (fillW bs) ib)) (i) z64)).map U32)] _
          rw [← sp_set0 (blkOf (fillW bs) ib) hi]
          refine skip ?_
          refine th_n ?_
          refine seq ?_
          refine block ?_
          refine seq ?_
          refine region ?_
          refine st (g_assign rfl) rfl ?_
          refine done ?_
          refine th_n ?_
          refine block ?_
          refine loop (α := Nat) (fun k => k ≤ 4) (fun k => [(0, I64 256), (8, .pointer (some ⟨b8, 0, none⟩)), (9, .pointer (some ⟨b9, 0, none⟩)), (12, slv (fillN n) ym), (13, I64 ((64 * ib : Nat) : Int)), (14, .pointer (some ⟨b14, 0, none⟩)), (15, I64 (i : Nat)), (16, I64 (k : Nat))]) (fun k => [vec (slv (fillN n) ym) 5 1 (fillN n) ((fillW bs).map B8), blk b8 118 ((cubesL).map U32), blk b9 39 (((absorb (fillW bs) ib first256)).map U32), blk b14 118 (((iter (spStep (blkOf (fillW bs) ib)) (i) z64).set i (be4p (blkOf (fillW bs) ib) i k)).map U32)]) (fun k => 4 - k) 0 (Nat.zero_le _) ⟨rfl, rfl, rfl, rfl, rfl, rfl, rfl, rfl, trivial⟩ (.cons .here (.cons .here (.cons .here (.cons .here .nil)))) (fun k hk => ?_)
          refine seq ?_
          refine seq ?_
          refine region ?_
          refine st (g_move rfl) rfl ?_
          refine st (g_bin rfl rfl rfl) rfl ?_
          refine done ?_
          refine th_n ?_
          refine condS rfl (fun h88 => ?_) (fun h88 => ?_)
          · try simp only [decide_eq_true_eq] at h88
            have hk4 : k < 4 := by omega
            refine skip ?_
            refine th_n ?_
            refine seq ?_
            refine block ?_
            refine regionX mixed (by decide +kernel) ?_
            refine Dr.st (g_move rfl) rfl ?_
            refine Dr.st (g_move rfl) rfl ?_
            refine Dr.st (g_indexA (m := i) ar_118 rfl rfl (by omega) (by omega) (by omega)) rfl ?_
            refine Dr.st (g_load (v := U32 (be4p (blkOf (fillW bs) ib) i k)) sc_38 rfl (Cell.own (.there (.there (.there (.here)))) (by rw [List.getElem?_map, List.getElem?_set_self (by omega)]; rfl))) rfl ?_
            refine Dr.st (g_mul32 (a := 256#32) rfl rfl) rfl ?_
            refine Dr.st (g_move rfl) rfl ?_
            refine Dr.st (g_move rfl) rfl ?_
            refine Dr.st (g_move rfl) rfl ?_
            refine Dr.st (g_imul (c := ((4 * i : Nat) : Int)) rfl rfl (by omega) (by omega) (by omega)) rfl ?_
            refine Dr.st (g_iadd (c := ((64 * ib + 4 * i : Nat) : Int)) rfl rfl (by omega) (by omega) (by omega)) rfl ?_
            refine Dr.st (g_move rfl) rfl ?_
            refine Dr.st (g_iadd (c := ((64 * ib + (4 * i + k) : Nat) : Int)) rfl rfl (by omega) (by omega) (by omega)) rfl ?_
            refine Dr.st (g_indexP (m := 64 * ib + (4 * i + k)) el_23 rfl rfl (hms) (by omega) (by omega) (by omega)) rfl ?_
            refine Dr.st (g_load (v := B8 ((blkOf (fillW bs) ib).getD (4 * i + k) 0)) sc_5 rfl (Cell.rd (RdA.vec .here) (blk_get (by omega) (by omega)))) rfl ?_
            refine Dr.st (g_to32 it_5 it_38 rfl rfl) rfl ?_
            refine Dr.st (g_add32 rfl rfl) rfl ?_
            refine Dr.st (g_indexA (m := i) ar_118 rfl rfl (by omega) (by omega) (by omega)) rfl ?_
            refine Dr.last ?_
            refine o_store (cs' := ((iter (spStep (blkOf (fillW bs) ib)) (i) z64).set i (be4p (blkOf (fillW bs) ib) i (k + 1))).map U32) sz_38 rfl rfl rfl (.there (.there (.there (.here)))) (by rw [List.length_map, List.length_set]; omega) (by rw [← List.map_set, List.set_set]; rfl) ?_
            refine ib_n ?_
            refine th_n ?_
            refine region ?_
            refine st (g_move rfl) rfl ?_
            refine st (g_iadd (c := ((k + 1 : Nat) : Int)) rfl rfl (by omega) (by omega) (by omega)) rfl ?_
            refine st (g_assign rfl) rfl ?_
            refine done ?_
            refine th_n ?_
            exact again (k + 1) (by omega) (by omega) ⟨rfl, rfl, rfl, rfl, rfl, rfl, rfl, rfl, trivial⟩ (.cons (.there (.here)) (.cons (.there (.here)) (.cons (.there (.here)) (.cons .here .nil))))
          · try simp only [decide_eq_false_iff_not] at h88
            have hke : k = 4 := by omega
            subst hke
            show At _ _ [vec (slv (fillN n) ym) 5 1 (fillN n) ((fillW bs).map B8), blk b8 118 ((cubesL).map U32), blk b9 39 (((absorb (fillW bs) ib first256)).map U32), blk b14 118 (((iter (spStep (blkOf (fillW bs) ib)) (i) z64).set i (be4p (blkOf (fillW bs) ib) i 4)).map U32)] _
            rw [sp_set4 (blkOf (fillW bs) ib) hi]
            refine exitc ?_
            refine th_x ?_
            refine th_x ?_
            refine ib_x ?_
            refine ib_n ?_
            refine th_n ?_
            refine region ?_
            refine st (g_move rfl) rfl ?_
            refine st (g_iadd (c := ((i + 1 : Nat) : Int)) rfl rfl (by omega) (by omega) (by omega)) rfl ?_
            refine st (g_assign rfl) rfl ?_
            refine done ?_
            refine th_n ?_
            exact again (i + 1) (by omega) (by omega) ⟨rfl, rfl, rfl, rfl, rfl, rfl, rfl, trivial⟩ (.cons .here (.cons .here (.cons .here (.cons .here .nil))))
        · try simp only [decide_eq_false_iff_not] at h84
          have hie : i = 16 := by omega
          subst hie
          refine exitc ?_
          refine th_x ?_
          refine th_x ?_
          refine ib_x ?_
          refine th_n ?_
          refine seq ?_
          refine seq ?_
          refine region ?_
          refine st (g_assign rfl) rfl ?_
          refine done ?_
          refine th_n ?_
          refine block ?_
          refine loop (α := Nat) (fun i => 16 ≤ i ∧ i ≤ 64) (fun i => [(0, I64 256), (8, .pointer (some ⟨b8, 0, none⟩)), (9, .pointer (some ⟨b9, 0, none⟩)), (12, slv (fillN n) ym), (13, I64 ((64 * ib : Nat) : Int)), (14, .pointer (some ⟨b14, 0, none⟩)), (17, I64 (i : Nat))]) (fun i => [vec (slv (fillN n) ym) 5 1 (fillN n) ((fillW bs).map B8), blk b8 118 ((cubesL).map U32), blk b9 39 (((absorb (fillW bs) ib first256)).map U32), blk b14 118 (((iter (spStep (blkOf (fillW bs) ib)) (i) z64)).map U32)]) (fun i => 64 - i) 16 ⟨Nat.le_refl _, by decide⟩ ⟨rfl, rfl, rfl, rfl, rfl, rfl, rfl, trivial⟩ (.cons .here (.cons .here (.cons .here (.cons .here .nil)))) (fun i ⟨hi16, hi64⟩ => ?_)
          have hspl := spIter_length (blkOf (fillW bs) ib) i
          refine seq ?_
          refine seq ?_
          refine region ?_
          refine st (g_move rfl) rfl ?_
          refine st (g_bin rfl rfl rfl) rfl ?_
          refine done ?_
          refine th_n ?_
          refine condS rfl (fun h109 => ?_) (fun h109 => ?_)
          · try simp only [decide_eq_true_eq] at h109
            have hi : i < 64 := by omega
            refine skip ?_
            refine th_n ?_
            refine seq ?_
            refine block ?_
            refine seq ?_
            refine region ?_
            refine st (g_move rfl) rfl ?_
            refine st (g_isub (c := ((i - 15 : Nat) : Int)) rfl rfl (by omega) (by omega) (by omega)) rfl ?_
            refine st (g_indexA (m := i - 15) ar_118 rfl rfl (by omega) (by omega) (by omega)) rfl ?_
            refine st (g_load (v := U32 (((iter (spStep (blkOf (fillW bs) ib)) (i) z64)).getD (i - 15) 0#32)) sc_38 rfl (Cell.own (.there (.there (.there (.here)))) (get_U32 (ws := (iter (spStep (blkOf (fillW bs) ib)) (i) z64)) (j := i - 15) (by omega) (by omega)))) rfl ?_
            refine st (g_assign rfl) rfl ?_
            refine done ?_
            refine th_n ?_
            refine seq ?_
            refine region ?_
            refine st (g_move rfl) rfl ?_
            refine st (g_isub (c := ((i - 2 : Nat) : Int)) rfl rfl (by omega) (by omega) (by omega)) rfl ?_
            refine st (g_indexA (m := i - 2) ar_118 rfl rfl (by omega) (by omega) (by omega)) rfl ?_
            refine st (g_load (v := U32 (((iter (spStep (blkOf (fillW bs) ib)) (i) z64)).getD (i - 2) 0#32)) sc_38 rfl (Cell.own (.there (.there (.there (.here)))) (get_U32 (ws := (iter (spStep (blkOf (fillW bs) ib)) (i) z64)) (j := i - 2) (by omega) (by omega)))) rfl ?_
            refine st (g_assign rfl) rfl ?_
            refine done ?_
            refine th_n ?_
            refine regionX mixed (by decide +kernel) ?_
            refine Dr.st (g_move rfl) rfl ?_
            refine Dr.st (g_move rfl) rfl ?_
            refine Dr.st (g_isub (c := ((i - 16 : Nat) : Int)) rfl rfl (by omega) (by omega) (by omega)) rfl ?_
            refine Dr.st (g_indexA (m := i - 16) ar_118 rfl rfl (by omega) (by omega) (by omega)) rfl ?_
            refine Dr.st (g_load (v := U32 (((iter (spStep (blkOf (fillW bs) ib)) (i) z64)).getD (i - 16) 0#32)) sc_38 rfl (Cell.own (.there (.there (.there (.here)))) (get_U32 (ws := (iter (spStep (blkOf (fillW bs) ib)) (i) z64)) (j := i - 16) (by omega) (by omega)))) rfl ?_
            refine Dr.st (g_move rfl) rfl ?_
            refine Dr.st (g_isub (c := ((i - 7 : Nat) : Int)) rfl rfl (by omega) (by omega) (by omega)) rfl ?_
            refine Dr.st (g_indexA (m := i - 7) ar_118 rfl rfl (by omega) (by omega) (by omega)) rfl ?_
            refine Dr.st (g_load (v := U32 (((iter (spStep (blkOf (fillW bs) ib)) (i) z64)).getD (i - 7) 0#32)) sc_38 rfl (Cell.own (.there (.there (.there (.here)))) (get_U32 (ws := (iter (spStep (blkOf (fillW bs) ib)) (i) z64)) (j := i - 7) (by omega) (by omega)))) rfl ?_
            refine Dr.st (g_add32 rfl rfl) rfl ?_
            refine Dr.st (g_move rfl) rfl ?_
            refine Dr.call (v := _) Tryd.func63 rfl rfl rfl (fun w hw => f63_spec _ 7 (by decide) w) rfl ?_
            refine Dr.st (g_move rfl) rfl ?_
            refine Dr.call (v := _) Tryd.func63 rfl rfl rfl (fun w hw => f63_spec _ 18 (by decide) w) rfl ?_
            refine Dr.st (g_xor32 rfl rfl) rfl ?_
            refine Dr.st (g_move rfl) rfl ?_
            refine Dr.call (v := _) Tryd.func64 rfl rfl rfl (fun w hw => f64_spec _ 3 (by decide) w) rfl ?_
            refine Dr.st (g_xor32 rfl rfl) rfl ?_
            refine Dr.st (g_add32 rfl rfl) rfl ?_
            refine Dr.st (g_move rfl) rfl ?_
            refine Dr.call (v := _) Tryd.func63 rfl rfl rfl (fun w hw => f63_spec _ 17 (by decide) w) rfl ?_
            refine Dr.st (g_move rfl) rfl ?_
            refine Dr.call (v := _) Tryd.func63 rfl rfl rfl (fun w hw => f63_spec _ 19 (by decide) w) rfl ?_
            refine Dr.st (g_xor32 rfl rfl) rfl ?_
            refine Dr.st (g_move rfl) rfl ?_
            refine Dr.call (v := _) Tryd.func64 rfl rfl rfl (fun w hw => f64_spec _ 10 (by decide) w) rfl ?_
            refine Dr.st (g_xor32 rfl rfl) rfl ?_
            refine Dr.st (g_add32 rfl rfl) rfl ?_
            refine Dr.st (g_indexA (m := i) ar_118 rfl rfl (by omega) (by omega) (by omega)) rfl ?_
            refine Dr.last ?_
            refine o_store (cs' := ((iter (spStep (blkOf (fillW bs) ib)) (i + 1) z64)).map U32) sz_38 rfl rfl rfl (.there (.there (.there (.here)))) (by rw [List.length_map]; omega) (by rw [mix_eq, ← List.map_set, spStep_ge (by omega)]; rfl) ?_
            refine ib_n ?_
            refine th_n ?_
            refine region ?_
            refine st (g_move rfl) rfl ?_
            refine st (g_iadd (c := ((i + 1 : Nat) : Int)) rfl rfl (by omega) (by omega) (by omega)) rfl ?_
            refine st (g_assign rfl) rfl ?_
            refine done ?_
            refine th_n ?_
            exact again (i + 1) ⟨by omega, by omega⟩ (by omega) ⟨rfl, rfl, rfl, rfl, rfl, rfl, rfl, trivial⟩ (.cons (.there (.here)) (.cons (.there (.here)) (.cons (.there (.here)) (.cons .here .nil))))
          · try simp only [decide_eq_false_iff_not] at h109
            have hie : i = 64 := by omega
            subst hie
            refine exitc ?_
            refine th_x ?_
            refine th_x ?_
            refine ib_x ?_
            refine th_n ?_
            refine seq ?_
            refine region ?_
            refine st (g_loadA (vs := ((absorb (fillW bs) ib first256)).map U32) ag_39 rfl (by rw [List.length_map, hsl]) (Cells.part (.there (.there (.here))) List.take_length)) rfl ?_
            refine sq rfl (o_alloc (zs := (z8w.map U32)) zr_39 rfl (fun b20 => ?_))
            refine sq rfl (o_storeA (cs' := ((absorb (fillW bs) ib first256)).map U32) sz_39 rfl rfl (by rw [List.length_map, hsl]) oneU32 .here (Nat.le_of_ble_eq_true rfl) (setR_whole (by rw [List.length_map, List.length_map, hsl]; rfl)) ?_)
            refine done ?_
            refine th_n ?_
            refine seq ?_
            refine seq ?_
            refine region ?_
            refine st (g_assign rfl) rfl ?_
            refine done ?_
            refine th_n ?_
            refine block ?_
            refine loop (α := Nat) (fun i => i ≤ 64) (fun i => [(0, I64 256), (8, .pointer (some ⟨b8, 0, none⟩)), (9, .pointer (some ⟨b9, 0, none⟩)), (12, slv (fillN n) ym), (13, I64 ((64 * ib : Nat) : Int)), (14, .pointer (some ⟨b14, 0, none⟩)), (20, .pointer (some ⟨b20, 0, none⟩)), (21, I64 (i : Nat))]) (fun i => [vec (slv (fillN n) ym) 5 1 (fillN n) ((fillW bs).map B8), blk b8 118 ((cubesL).map U32), blk b9 39 (((absorb (fillW bs) ib first256)).map U32), blk b14 118 (((spreadW (blkOf (fillW bs) ib))).map U32), blk b20 39 (((iter (tStep (spreadW (blkOf (fillW bs) ib))) (i) (absorb (fillW bs) ib first256))).map U32)]) (fun i => 64 - i) 0 (Nat.zero_le _) ⟨rfl, rfl, rfl, rfl, rfl, rfl, rfl, rfl, trivial⟩ (.cons (.there (.here)) (.cons (.there (.here)) (.cons (.there (.here)) (.cons (.there (.here)) (.cons .here .nil))))) (fun i hI => ?_)
            have hstl := (tIter_length (spreadW (blkOf (fillW bs) ib)) (absorb (fillW bs) ib first256) (absorb_length (by rfl)) (i))
            have hwl : (spreadW (blkOf (fillW bs) ib)).length = 64 := spIter_length _ 64
            refine seq ?_
            refine seq ?_
            refine region ?_
            refine st (g_move rfl) rfl ?_
            refine st (g_bin rfl rfl rfl) rfl ?_
            refine done ?_
            refine th_n ?_
            refine condS rfl (fun h151 => ?_) (fun h151 => ?_)
            · try simp only [decide_eq_true_eq] at h151
              have hi : i < 64 := by omega
              refine skip ?_
              refine th_n ?_
              refine seq ?_
              refine block ?_
              refine seq ?_
              refine region ?_
              refine st (g_indexA (m := 4) ar_39 rfl rfl (by decide) (by decide) (by omega)) rfl ?_
              refine st (g_load (v := U32 (((iter (tStep (spreadW (blkOf (fillW bs) ib))) (i) (absorb (fillW bs) ib first256))).getD (4) 0#32)) sc_38 rfl (Cell.own (.there (.there (.there (.there (.here))))) (get_U32 (ws := (iter (tStep (spreadW (blkOf (fillW bs) ib))) (i) (absorb (fillW bs) ib first256))) (j := 4) (by omega) (by omega)))) rfl ?_
              refine st (g_assign rfl) rfl ?_
              refine done ?_
              refine th_n ?_
              refine seq ?_
              refine region ?_
              refine st (g_indexA (m := 0) ar_39 rfl rfl (by decide) (by decide) (by omega)) rfl ?_
              refine st (g_load (v := U32 (((iter (tStep (spreadW (blkOf (fillW bs) ib))) (i) (absorb (fillW bs) ib first256))).getD (0) 0#32)) sc_38 rfl (Cell.own (.there (.there (.there (.there (.here))))) (get_U32 (ws := (iter (tStep (spreadW (blkOf (fillW bs) ib))) (i) (absorb (fillW bs) ib first256))) (j := 0) (by omega) (by omega)))) rfl ?_
              refine st (g_assign rfl) rfl ?_
              refine done ?_
              refine th_n ?_
              refine seq ?_
              refine regionQ mixed (by decide +kernel) (by decide +kernel) ?_
              refine Dr.st (g_indexA (m := 7) ar_39 rfl rfl (by decide) (by decide) (by omega)) rfl ?_
              refine Dr.st (g_load (v := U32 (((iter (tStep (spreadW (blkOf (fillW bs) ib))) (i) (absorb (fillW bs) ib first256))).getD (7) 0#32)) sc_38 rfl (Cell.own (.there (.there (.there (.there (.here))))) (get_U32 (ws := (iter (tStep (spreadW (blkOf (fillW bs) ib))) (i) (absorb (fillW bs) ib first256))) (j := 7) (by omega) (by omega)))) rfl ?_
              refine Dr.st (g_move rfl) rfl ?_
              refine Dr.st (g_indexA (m := i) ar_118 rfl rfl (by omega) (by omega) (by omega)) rfl ?_
              refine Dr.st (g_load (v := U32 ((cubesL).getD (i) 0#32)) sc_38 rfl (Cell.own (.there (.here)) (get_U32 (ws := cubesL) (j := i) (by omega) (by show i < 64; omega)))) rfl ?_
              refine Dr.st (g_add32 rfl rfl) rfl ?_
              refine Dr.st (g_move rfl) rfl ?_
              refine Dr.st (g_indexA (m := i) ar_118 rfl rfl (by omega) (by omega) (by omega)) rfl ?_
              refine Dr.st (g_load (v := U32 (((spreadW (blkOf (fillW bs) ib))).getD (i) 0#32)) sc_38 rfl (Cell.own (.there (.there (.there (.here)))) (get_U32 (ws := (spreadW (blkOf (fillW bs) ib))) (j := i) (by omega) (by omega)))) rfl ?_
              refine Dr.st (g_add32 rfl rfl) rfl ?_
              refine Dr.st (g_move rfl) rfl ?_
              refine Dr.call (v := _) Tryd.func63 rfl rfl rfl (fun w hw => f63_spec _ 6 (by decide) w) rfl ?_
              refine Dr.st (g_move rfl) rfl ?_
              refine Dr.call (v := _) Tryd.func63 rfl rfl rfl (fun w hw => f63_spec _ 11 (by decide) w) rfl ?_
              refine Dr.st (g_xor32 rfl rfl) rfl ?_
              refine Dr.st (g_move rfl) rfl ?_
              refine Dr.call (v := _) Tryd.func63 rfl rfl rfl (fun w hw => f63_spec _ 25 (by decide) w) rfl ?_
              refine Dr.st (g_xor32 rfl rfl) rfl ?_
              refine Dr.st (g_add32 rfl rfl) rfl ?_
              refine Dr.st (g_move rfl) rfl ?_
              refine Dr.st (g_indexA (m := 5) ar_39 rfl rfl (by decide) (by decide) (by omega)) rfl ?_
              refine Dr.st (g_load (v := U32 (((iter (tStep (spreadW (blkOf (fillW bs) ib))) (i) (absorb (fillW bs) ib first256))).getD (5) 0#32)) sc_38 rfl (Cell.own (.there (.there (.there (.there (.here))))) (get_U32 (ws := (iter (tStep (spreadW (blkOf (fillW bs) ib))) (i) (absorb (fillW bs) ib first256))) (j := 5) (by omega) (by omega)))) rfl ?_
              refine Dr.st (g_and32 rfl rfl) rfl ?_
              refine Dr.st (g_move rfl) rfl ?_
              refine Dr.st (g_sub32 (a := 4294967295#32) rfl rfl) rfl ?_
              refine Dr.st (g_indexA (m := 6) ar_39 rfl rfl (by decide) (by decide) (by omega)) rfl ?_
              refine Dr.st (g_load (v := U32 (((iter (tStep (spreadW (blkOf (fillW bs) ib))) (i) (absorb (fillW bs) ib first256))).getD (6) 0#32)) sc_38 rfl (Cell.own (.there (.there (.there (.there (.here))))) (get_U32 (ws := (iter (tStep (spreadW (blkOf (fillW bs) ib))) (i) (absorb (fillW bs) ib first256))) (j := 6) (by omega) (by omega)))) rfl ?_
              refine Dr.st (g_and32 rfl rfl) rfl ?_
              refine Dr.st (g_or32 rfl rfl) rfl ?_
              refine Dr.st (g_add32 rfl rfl) rfl ?_
              refine Dr.st (g_assign rfl) rfl ?_
              refine Dr.nil ?_
              refine th_n ?_
              refine seq ?_
              refine regionQ mixed (by decide +kernel) (by decide +kernel) ?_
              refine Dr.st (g_move rfl) rfl ?_
              refine Dr.call (v := _) Tryd.func63 rfl rfl rfl (fun w hw => f63_spec _ 2 (by decide) w) rfl ?_
              refine Dr.st (g_move rfl) rfl ?_
              refine Dr.call (v := _) Tryd.func63 rfl rfl rfl (fun w hw => f63_spec _ 13 (by decide) w) rfl ?_
              refine Dr.st (g_xor32 rfl rfl) rfl ?_
              refine Dr.st (g_move rfl) rfl ?_
              refine Dr.call (v := _) Tryd.func63 rfl rfl rfl (fun w hw => f63_spec _ 22 (by decide) w) rfl ?_
              refine Dr.st (g_xor32 rfl rfl) rfl ?_
              refine Dr.st (g_move rfl) rfl ?_
              refine Dr.st (g_indexA (m := 1) ar_39 rfl rfl (by decide) (by decide) (by omega)) rfl ?_
              refine Dr.st (g_load (v := U32 (((iter (tStep (spreadW (blkOf (fillW bs) ib))) (i) (absorb (fillW bs) ib first256))).getD (1) 0#32)) sc_38 rfl (Cell.own (.there (.there (.there (.there (.here))))) (get_U32 (ws := (iter (tStep (spreadW (blkOf (fillW bs) ib))) (i) (absorb (fillW bs) ib first256))) (j := 1) (by omega) (by omega)))) rfl ?_
              refine Dr.st (g_and32 rfl rfl) rfl ?_
              refine Dr.st (g_move rfl) rfl ?_
              refine Dr.st (g_indexA (m := 2) ar_39 rfl rfl (by decide) (by decide) (by omega)) rfl ?_
              refine Dr.st (g_load (v := U32 (((iter (tStep (spreadW (blkOf (fillW bs) ib))) (i) (absorb (fillW bs) ib first256))).getD (2) 0#32)) sc_38 rfl (Cell.own (.there (.there (.there (.there (.here))))) (get_U32 (ws := (iter (tStep (spreadW (blkOf (fillW bs) ib))) (i) (absorb (fillW bs) ib first256))) (j := 2) (by omega) (by omega)))) rfl ?_
              refine Dr.st (g_and32 rfl rfl) rfl ?_
              refine Dr.st (g_or32 rfl rfl) rfl ?_
              refine Dr.st (g_indexA (m := 1) ar_39 rfl rfl (by decide) (by decide) (by omega)) rfl ?_
              refine Dr.st (g_load (v := U32 (((iter (tStep (spreadW (blkOf (fillW bs) ib))) (i) (absorb (fillW bs) ib first256))).getD (1) 0#32)) sc_38 rfl (Cell.own (.there (.there (.there (.there (.here))))) (get_U32 (ws := (iter (tStep (spreadW (blkOf (fillW bs) ib))) (i) (absorb (fillW bs) ib first256))) (j := 1) (by omega) (by omega)))) rfl ?_
              refine Dr.st (g_indexA (m := 2) ar_39 rfl rfl (by decide) (by decide) (by omega)) rfl ?_
              refine Dr.st (g_load (v := U32 (((iter (tStep (spreadW (blkOf (fillW bs) ib))) (i) (absorb (fillW bs) ib first256))).getD (2) 0#32)) sc_38 rfl (Cell.own (.there (.there (.there (.there (.here))))) (get_U32 (ws := (iter (tStep (spreadW (blkOf (fillW bs) ib))) (i) (absorb (fillW bs) ib first256))) (j := 2) (by omega) (by omega)))) rfl ?_
              refine Dr.st (g_and32 rfl rfl) rfl ?_
              refine Dr.st (g_or32 rfl rfl) rfl ?_
              refine Dr.st (g_add32 rfl rfl) rfl ?_
              refine Dr.st (g_assign rfl) rfl ?_
              refine Dr.nil ?_
              refine th_n ?_
              refine region ?_
              refine st (g_move rfl) rfl ?_
              refine st (g_move rfl) rfl ?_
              refine st (g_add32 rfl rfl) rfl ?_
              refine st (g_move rfl) rfl ?_
              refine st (g_indexA (m := 1) ar_39 rfl rfl (by decide) (by decide) (by omega)) rfl ?_
              refine st (g_load (v := U32 (((iter (tStep (spreadW (blkOf (fillW bs) ib))) (i) (absorb (fillW bs) ib first256))).getD (1) 0#32)) sc_38 rfl (Cell.own (.there (.there (.there (.there (.here))))) (get_U32 (ws := (iter (tStep (spreadW (blkOf (fillW bs) ib))) (i) (absorb (fillW bs) ib first256))) (j := 1) (by omega) (by omega)))) rfl ?_
              refine st (g_indexA (m := 2) ar_39 rfl rfl (by decide) (by decide) (by omega)) rfl ?_
              refine st (g_load (v := U32 (((iter (tStep (spreadW (blkOf (fillW bs) ib))) (i) (absorb (fillW bs) ib first256))).getD (2) 0#32)) sc_38 rfl (Cell.own (.there (.there (.there (.there (.here))))) (get_U32 (ws := (iter (tStep (spreadW (blkOf (fillW bs) ib))) (i) (absorb (fillW bs) ib first256))) (j := 2) (by omega) (by omega)))) rfl ?_
              refine st (g_indexA (m := 3) ar_39 rfl rfl (by decide) (by decide) (by omega)) rfl ?_
              refine st (g_load (v := U32 (((iter (tStep (spreadW (blkOf (fillW bs) ib))) (i) (absorb (fillW bs) ib first256))).getD (3) 0#32)) sc_38 rfl (Cell.own (.there (.there (.there (.there (.here))))) (get_U32 (ws := (iter (tStep (spreadW (blkOf (fillW bs) ib))) (i) (absorb (fillW bs) ib first256))) (j := 3) (by omega) (by omega)))) rfl ?_
              refine st (g_move rfl) rfl ?_
              refine st (g_add32 rfl rfl) rfl ?_
              refine st (g_move rfl) rfl ?_
              refine st (g_indexA (m := 5) ar_39 rfl rfl (by decide) (by decide) (by omega)) rfl ?_
              refine st (g_load (v := U32 (((iter (tStep (spreadW (blkOf (fillW bs) ib))) (i) (absorb (fillW bs) ib first256))).getD (5) 0#32)) sc_38 rfl (Cell.own (.there (.there (.there (.there (.here))))) (get_U32 (ws := (iter (tStep (spreadW (blkOf (fillW bs) ib))) (i) (absorb (fillW bs) ib first256))) (j := 5) (by omega) (by omega)))) rfl ?_
              refine st (g_indexA (m := 6) ar_39 rfl rfl (by decide) (by decide) (by omega)) rfl ?_
              refine st (g_load (v := U32 (((iter (tStep (spreadW (blkOf (fillW bs) ib))) (i) (absorb (fillW bs) ib first256))).getD (6) 0#32)) sc_38 rfl (Cell.own (.there (.there (.there (.there (.here))))) (get_U32 (ws := (iter (tStep (spreadW (blkOf (fillW bs) ib))) (i) (absorb (fillW bs) ib first256))) (j := 6) (by omega) (by omega)))) rfl ?_
              refine st (g_build rfl (bu_39 _ _ _ _ _ _ _ _)) rfl ?_
              refine sq rfl (o_storeA (cs' := ((iter (tStep (spreadW (blkOf (fillW bs) ib))) (i + 1) (absorb (fillW bs) ib first256))).map U32) sz_39 rfl rfl rfl (by intro v hv; simp only [List.mem_cons, List.not_mem_nil, or_false] at hv; rcases hv with rfl | rfl | rfl | rfl | rfl | rfl | rfl | rfl <;> rfl) (.there (.there (.there (.there (.here))))) (by rw [List.length_map, hstl]; decide) (by rw [setR_whole (by rw [List.length_map, hstl]; rfl)]; show [U32 _, U32 _, U32 _, U32 _, U32 _, U32 _, U32 _, U32 _] = (tStep _ _ _).map U32; rw [t1_eq, t2_eq]; rfl) ?_)
              refine done ?_
              refine ib_n ?_
              refine th_n ?_
              refine region ?_
              refine st (g_move rfl) rfl ?_
              refine st (g_iadd (c := ((i + 1 : Nat) : Int)) rfl rfl (by omega) (by omega) (by omega)) rfl ?_
              refine st (g_assign rfl) rfl ?_
              refine done ?_
              refine th_n ?_
              exact again (i + 1) (by omega) (by omega) ⟨rfl, rfl, rfl, rfl, rfl, rfl, rfl, rfl, trivial⟩ (.cons (.there (.here)) (.cons (.there (.here)) (.cons (.there (.here)) (.cons (.there (.here)) (.cons .here .nil)))))
            · try simp only [decide_eq_false_iff_not] at h151
              have hie : i = 64 := by omega
              subst hie
              refine exitc ?_
              refine th_x ?_
              refine th_x ?_
              refine ib_x ?_
              refine th_n ?_
              refine seq ?_
              refine region ?_
              refine st (g_assign rfl) rfl ?_
              refine done ?_
              refine th_n ?_
              refine block ?_
              refine loop (α := Nat) (fun i => i ≤ 8) (fun i => [(0, I64 256), (8, .pointer (some ⟨b8, 0, none⟩)), (9, .pointer (some ⟨b9, 0, none⟩)), (12, slv (fillN n) ym), (13, I64 ((64 * ib : Nat) : Int)), (20, .pointer (some ⟨b20, 0, none⟩)), (26, I64 (i : Nat))]) (fun i => [vec (slv (fillN n) ym) 5 1 (fillN n) ((fillW bs).map B8), blk b8 118 ((cubesL).map U32), blk b9 39 (((iter (addStep (iter (tStep (spreadW (blkOf (fillW bs) ib))) 64 (absorb (fillW bs) ib first256))) (i) (absorb (fillW bs) ib first256))).map U32), blk b20 39 (((iter (tStep (spreadW (blkOf (fillW bs) ib))) 64 (absorb (fillW bs) ib first256))).map U32)]) (fun i => 8 - i) 0 (Nat.zero_le _) ⟨rfl, rfl, rfl, rfl, rfl, rfl, rfl, trivial⟩ (.cons .here (.cons .here (.cons .here (.cons (.there (.here)) .nil)))) (fun i hI => ?_)
              have hadl := (addIter_length (iter (tStep (spreadW (blkOf (fillW bs) ib))) 64 (absorb (fillW bs) ib first256)) (i) (absorb (fillW bs) ib first256) (absorb_length (by rfl)))
              have hfinl := (tIter_length (spreadW (blkOf (fillW bs) ib)) (absorb (fillW bs) ib first256) (absorb_length (by rfl)) (64))
              refine seq ?_
              refine seq ?_
              refine region ?_
              refine st (g_move rfl) rfl ?_
              refine st (g_bin rfl rfl rfl) rfl ?_
              refine done ?_
              refine th_n ?_
              refine condS rfl (fun h231 => ?_) (fun h231 => ?_)
              · try simp only [decide_eq_true_eq] at h231
                have hi : i < 8 := by omega
                refine skip ?_
                refine th_n ?_
                refine seq ?_
                refine block ?_
                refine regionX mixed (by decide +kernel) ?_
                refine Dr.st (g_move rfl) rfl ?_
                refine Dr.st (g_move rfl) rfl ?_
                refine Dr.st (g_indexA (m := i) ar_39 rfl rfl (by omega) (by omega) (by omega)) rfl ?_
                refine Dr.st (g_load (v := U32 (((iter (addStep (iter (tStep (spreadW (blkOf (fillW bs) ib))) 64 (absorb (fillW bs) ib first256))) (i) (absorb (fillW bs) ib first256))).getD (i) 0#32)) sc_38 rfl (Cell.own (.there (.there (.here))) (get_U32 (ws := (iter (addStep (iter (tStep (spreadW (blkOf (fillW bs) ib))) 64 (absorb (fillW bs) ib first256))) (i) (absorb (fillW bs) ib first256))) (j := i) (by omega) (by omega)))) rfl ?_
                refine Dr.st (g_move rfl) rfl ?_
                refine Dr.st (g_indexA (m := i) ar_39 rfl rfl (by omega) (by omega) (by omega)) rfl ?_
                refine Dr.st (g_load (v := U32 (((iter (tStep (spreadW (blkOf (fillW bs) ib))) 64 (absorb (fillW bs) ib first256))).getD (i) 0#32)) sc_38 rfl (Cell.own (.there (.there (.there (.here)))) (get_U32 (ws := (iter (tStep (spreadW (blkOf (fillW bs) ib))) 64 (absorb (fillW bs) ib first256))) (j := i) (by omega) (by omega)))) rfl ?_
                refine Dr.st (g_add32 rfl rfl) rfl ?_
                refine Dr.st (g_indexA (m := i) ar_39 rfl rfl (by omega) (by omega) (by omega)) rfl ?_
                refine Dr.last ?_
                refine o_store (cs' := ((iter (addStep (iter (tStep (spreadW (blkOf (fillW bs) ib))) 64 (absorb (fillW bs) ib first256))) (i + 1) (absorb (fillW bs) ib first256))).map U32) sz_38 rfl rfl rfl (.there (.there (.here))) (by rw [List.length_map]; omega) (by rw [← List.map_set]; rfl) ?_
                refine ib_n ?_
                refine th_n ?_
                refine region ?_
                refine st (g_move rfl) rfl ?_
                refine st (g_iadd (c := ((i + 1 : Nat) : Int)) rfl rfl (by omega) (by omega) (by omega)) rfl ?_
                refine st (g_assign rfl) rfl ?_
                refine done ?_
                refine th_n ?_
                exact again (i + 1) (by omega) (by omega) ⟨rfl, rfl, rfl, rfl, rfl, rfl, rfl, trivial⟩ (.cons (.there (.here)) (.cons (.there (.here)) (.cons .here (.cons .here .nil))))
              · try simp only [decide_eq_false_iff_not] at h231
                have hie : i = 8 := by omega
                subst hie
                refine exitc ?_
                refine th_x ?_
                refine th_x ?_
                refine ib_x ?_
                refine ib_n ?_
                refine th_n ?_
                refine region ?_
                refine st (g_move rfl) rfl ?_
                refine st (g_iadd (c := ((64 * (ib + 1) : Nat) : Int)) rfl rfl (by omega) (by omega) (by omega)) rfl ?_
                refine st (g_assign rfl) rfl ?_
                refine done ?_
                refine th_n ?_
                exact again (ib + 1) (by omega) (by omega) ⟨rfl, rfl, rfl, rfl, rfl, trivial⟩ (.cons .here (.cons .here (.cons .here .nil)))
      · try simp only [decide_eq_false_iff_not] at h80
        have hie : ib = nb := by omega
        subst hie
        refine exitc ?_
        refine th_x ?_
        refine th_x ?_
        refine ib_x ?_
        refine th_n ?_
        refine seq ?_
        refine At.up (fun w hw => new0_vec (T := 5) (s := 1) hw ⟨rfl, .inl ⟨rfl, rfl⟩⟩) ?_
        refine region ?_
        refine st (g_assign rfl) rfl ?_
        refine done ?_
        refine th_n ?_
        refine seq ?_
        refine seq ?_
        refine region ?_
        refine st (g_assign rfl) rfl ?_
        refine done ?_
        refine th_n ?_
        refine block ?_
        refine loop (α := Nat × (Option Addr × Nat)) (fun ⟨i, yo⟩ => i ≤ 8 ∧ (yo.1 = none → yo.2 = 0) ∧ 4 * i ≤ yo.2) (fun ⟨i, yo⟩ => [(0, I64 256), (9, .pointer (some ⟨b9, 0, none⟩)), (27, slv (4 * i) yo), (28, I64 (i : Nat))]) (fun ⟨i, yo⟩ => [vec (slv (4 * i) yo) 5 1 (4 * i) ((outB (absorb (fillW bs) ib first256) i).map B8), blk b9 39 (((absorb (fillW bs) ib first256)).map U32)]) (fun ⟨i, yo⟩ => 8 - i) (0, (none, 0)) ⟨Nat.zero_le _, fun _ => rfl, Nat.le_refl _⟩ ⟨rfl, rfl, rfl, rfl, trivial⟩ (.cons .here (.cons (.there (.there (.here))) .nil)) (fun ⟨i, yo⟩ ⟨hi, hyo, hyo2⟩ => ?_)
        show At _ [(0, I64 256), (9, .pointer (some ⟨b9, 0, none⟩)), (27, slv (4 * i) yo), (28, I64 (i : Nat))] [vec (slv (4 * i) yo) 5 1 (4 * i) ((outB (absorb (fillW bs) ib first256) i).map B8), blk b9 39 (((absorb (fillW bs) ib first256)).map U32)] _
        refine seq ?_
        refine seq ?_
        refine region ?_
        refine st (g_move rfl) rfl ?_
        refine st (g_move rfl) rfl ?_
        refine st (g_iquo (c := 8) rfl rfl (by omega) (by omega) (by omega) (by decide)) rfl ?_
        refine st (g_bin rfl rfl rfl) rfl ?_
        refine done ?_
        refine th_n ?_
        refine condS rfl (fun h246 => ?_) (fun h246 => ?_)
        · try simp only [decide_eq_true_eq] at h246
          have hi2 : i < 8 := by omega
          have hsl2 : (absorb (fillW bs) ib first256).length = 8 := hsl
          refine skip ?_
          refine th_n ?_
          refine seq ?_
          refine block ?_
          refine regionL ⟨[_], [], []⟩ mixed (by decide +kernel) (.cons (.there (.here)) .nil) .nil ?_
          refine An'.q 0 [] rfl (by decide +kernel) rfl rfl (g_move rfl) rfl ?_
          refine An'.q 1 [] rfl (by decide +kernel) rfl rfl (g_move rfl) rfl ?_
          refine An'.q 2 [] rfl (by decide +kernel) rfl rfl (g_indexA (m := i) ar_39 rfl rfl (by omega) (by omega) (by omega)) rfl ?_
          refine An'.q 3 [] rfl (by decide +kernel) rfl rfl (g_load (v := U32 (((absorb (fillW bs) ib first256)).getD (i) 0#32)) sc_38 rfl (Cell.own .here (get_U32 (ws := (absorb (fillW bs) ib first256)) (j := i) (by omega) (by omega)))) rfl ?_
          refine An'.q 4 [] rfl (by decide +kernel) rfl rfl (g_quo32 (b := 16777216#32) rfl rfl (by decide)) rfl ?_
          refine An'.q 5 [] rfl (by decide +kernel) rfl rfl (g_to8 it_38 it_5 rfl rfl) rfl ?_
          refine An'.q 6 [] rfl (by decide +kernel) rfl rfl (g_move rfl) rfl ?_
          refine An'.q 7 [] rfl (by decide +kernel) rfl rfl (g_indexA (m := i) ar_39 rfl rfl (by omega) (by omega) (by omega)) rfl ?_
          refine An'.q 8 [] rfl (by decide +kernel) rfl rfl (g_load (v := U32 (((absorb (fillW bs) ib first256)).getD (i) 0#32)) sc_38 rfl (Cell.own .here (get_U32 (ws := (absorb (fillW bs) ib first256)) (j := i) (by omega) (by omega)))) rfl ?_
          refine An'.q 9 [] rfl (by decide +kernel) rfl rfl (g_quo32 (b := 65536#32) rfl rfl (by decide)) rfl ?_
          refine An'.q 10 [] rfl (by decide +kernel) rfl rfl (g_rem32 (b := 256#32) rfl rfl (by decide)) rfl ?_
          refine An'.q 11 [] rfl (by decide +kernel) rfl rfl (g_to8 it_38 it_5 rfl rfl) rfl ?_
          refine An'.q 12 [] rfl (by decide +kernel) rfl rfl (g_move rfl) rfl ?_
          refine An'.q 13 [] rfl (by decide +kernel) rfl rfl (g_indexA (m := i) ar_39 rfl rfl (by omega) (by omega) (by omega)) rfl ?_
          refine An'.q 14 [] rfl (by decide +kernel) rfl rfl (g_load (v := U32 (((absorb (fillW bs) ib first256)).getD (i) 0#32)) sc_38 rfl (Cell.own .here (get_U32 (ws := (absorb (fillW bs) ib first256)) (j := i) (by omega) (by omega)))) rfl ?_
          refine An'.q 15 [] rfl (by decide +kernel) rfl rfl (g_quo32 (b := 256#32) rfl rfl (by decide)) rfl ?_
          refine An'.q 16 [] rfl (by decide +kernel) rfl rfl (g_rem32 (b := 256#32) rfl rfl (by decide)) rfl ?_
          refine An'.q 17 [] rfl (by decide +kernel) rfl rfl (g_to8 it_38 it_5 rfl rfl) rfl ?_
          refine An'.q 18 [] rfl (by decide +kernel) rfl rfl (g_move rfl) rfl ?_
          refine An'.q 19 [] rfl (by decide +kernel) rfl rfl (g_indexA (m := i) ar_39 rfl rfl (by omega) (by omega) (by omega)) rfl ?_
          refine An'.q 20 [] rfl (by decide +kernel) rfl rfl (g_load (v := U32 (((absorb (fillW bs) ib first256)).getD (i) 0#32)) sc_38 rfl (Cell.own .here (get_U32 (ws := (absorb (fillW bs) ib first256)) (j := i) (by omega) (by omega)))) rfl ?_
          refine An'.q 21 [] rfl (by decide +kernel) rfl rfl (g_rem32 (b := 256#32) rfl rfl (by decide)) rfl ?_
          refine An'.q 22 [] rfl (by decide +kernel) rfl rfl (g_to8 it_38 it_5 rfl rfl) rfl ?_
          refine An'.oneG 23 (by decide +kernel) rfl rfl ?_
          refine o_buildSlice1 (vs := ([UInt8.ofNat ((absorb (fillW bs) ib first256).getD i 0#32 / 16777216#32).toNat, UInt8.ofNat ((absorb (fillW bs) ib first256).getD i 0#32 / 65536#32 % 256#32).toNat, UInt8.ofNat ((absorb (fillW bs) ib first256).getD i 0#32 / 256#32 % 256#32).toNat, UInt8.ofNat ((absorb (fillW bs) ib first256).getD i 0#32 % 256#32).toNat] : List UInt8).map B8) un_23 zr_5 sz_5 (by decide) (by decide) rfl rfl rfl oneB8 rfl (fun b272 => ?_)
          rw [word_bytes]
          refine An'.on0 (.cons (.there (.there (.here))) .nil) .nil rfl ?_
          refine An'.oneG 24 (by decide +kernel) rfl rfl ?_
          refine o_append (n := 4 * i) (m := 4) (news := (w4 ((absorb (fillW bs) ib first256).getD i 0#32)).map B8) un_23 zr_5 sz_5 rfl bt_5 (by decide) rfl rfl (.there (.here)) rfl (RdA.own .here (fun j v hj => by rw [Nat.zero_add]; exact hj)) oneB8 nofun (by simp only [maxLen]; omega) (by omega) rfl (fun q9 cap9 hq9 hc9 hq09 => ?_)
          rw [← List.map_append, ← outB_succ, show 4 * i + 4 = 4 * (i + 1) by omega]
          refine An'.on0 (.cons (.there (.there (.here))) .nil) .nil rfl ?_
          refine An'.q 25 [] rfl (by decide +kernel) rfl rfl (g_assign rfl) rfl ?_
          refine An'.fin (by decide +kernel) ?_
          refine ib_n ?_
          refine th_n ?_
          refine region ?_
          refine st (g_move rfl) rfl ?_
          refine st (g_iadd (c := ((i + 1 : Nat) : Int)) rfl rfl (by omega) (by omega) (by omega)) rfl ?_
          refine st (g_assign rfl) rfl ?_
          refine done ?_
          refine th_n ?_
          exact again (i + 1, (q9, cap9)) ⟨by omega, hq09, by show 4 * (i + 1) ≤ cap9; omega⟩ (by show 8 - (i + 1) < 8 - i; omega) ⟨rfl, rfl, rfl, rfl, trivial⟩ (.cons .here (.cons (.there (.here)) .nil))
        · try simp only [decide_eq_false_iff_not] at h246
          have hie : i = 8 := by omega
          subst hie
          refine exitc ?_
          refine th_x ?_
          refine th_x ?_
          refine ib_x ?_
          refine th_n ?_
          refine seq ?_
          refine region ?_
          refine st (g_move rfl) rfl ?_
          refine st (g_assign rfl) rfl ?_
          refine st (g_assign rfl) rfl ?_
          refine done ?_
          refine th_n ?_
          refine ret ?_
          exact ret2 rfl rfl rfl rfl (fun w2 hw2 => ⟨yo, ⟨hyo, hyo2⟩, rfl, by
            have h := Sat.left (hw2.split (.cons .here .nil))
            have e : hashOf 256 bs = outB (absorb (fillW bs) ib first256) 8 := by
              rw [hnb, ← hfl, ref_hash first256 bs (by decide)]
              rfl
            rw [e]; exact h⟩)

end Go.Proofs.YtokhediaibdkjaaDoor

/-! From N1 -/
/- Ref17's Twin; ref01's Trim, Pad, Big, Whole. (printed by gen1.py) -/
namespace Go.Proofs.YtokhediaibdkjaaDoor
open Go.Pm Go.RowKit
set_option maxRecDepth 100000
theorem f44_spec (p : Option Addr) (n c : Nat) (l : List UInt8) (hl : l.length = n) (hp : p = none → c = 0) (hn : n ≤ 1000000000) (w : World) (hr : RdC w p (l.map B8)) : Calls Tryd.prog 44 [.slice p n c].toArray w (fun en w2 => ∃ x : Option Addr × Nat, ((x.1 = none → x.2 = 0) ∧ n ≤ x.2) ∧ en = .returned (slv n x) ∧ Sat w (fps []) [vec (slv n x) 5 1 n (l.map B8)] w2) := by
  refine used hl (used hp (used hn (used hr (?_))))
  refine enter (n := 7) Tryd.func44 rfl rfl rfl (Sat.refl w) ?_
  refine seq ?_
  refine region ?_
  refine st (g_assign rfl) rfl ?_
  refine done ?_
  refine th_n ?_
  refine seq ?_
  refine region ?_
  refine st (g_assign rfl) rfl ?_
  refine done ?_
  refine th_n ?_
  refine seq ?_
  refine At.up (fun w hw => new0_vec (T := 5) (s := 1) hw ⟨rfl, .inl ⟨rfl, rfl⟩⟩) ?_
  refine region ?_
  refine st (g_move rfl) rfl ?_
  refine st (g_move rfl) rfl ?_
  refine sq rfl (o_append (n := 0) (m := n) (news := l.map B8) un_23 zr_5 sz_5 rfl bt_5 (by decide) rfl rfl .here (by simp [hl]) (RdA.of hr.s) oneB8 hp (by simp only [maxLen]; omega) (by omega) rfl (fun q1 cap1 hq1 hc1 hq01 => ?_))
  rw [List.nil_append, Nat.zero_add]
  refine st (g_assign rfl) rfl ?_
  refine done ?_
  refine th_n ?_
  refine ret ?_
  exact ret1 rfl rfl rfl (fun w2 hw2 => ⟨(q1, cap1), ⟨hq01, by show n ≤ cap1; omega⟩, rfl, Sat.left (hw2.split (.cons .here .nil))⟩)

theorem lead_pad : ∀ l : List UInt8, List.replicate (lead l) 0 ++ l.drop (lead l) = l
  | [] => rfl
  | x :: l => by
    simp only [lead]
    split
    · rename_i h
      rw [List.replicate_succ, List.cons_append, List.drop_succ_cons, lead_pad l, h]
    · rfl


theorem f111_spec (p : Option Addr) (n c : Nat) (l : List UInt8) (hl : l.length = n) (hp : p = none → c = 0) (hnc : n ≤ c) (hn : n ≤ 1000000000) (w : World) (hr : RdC w p (l.map B8)) : Calls Tryd.prog 111 [.slice p n c].toArray w (fun en w2 => ∃ x : Option Addr × Nat, ((x.1 = none → x.2 = 0) ∧ n - lead l ≤ x.2) ∧ en = .returned (slv (n - lead l) x) ∧ Sat w (fps []) [vec (slv (n - lead l) x) 5 1 (n - lead l) ((l.drop (lead l)).map B8)] w2) := by
  have hll := lead_le l
  rw [hl] at hll
  refine enter (n := 23) Tryd.func111 rfl rfl rfl (Sat.refl w) ?_
  refine seq ?_
  refine region ?_
  refine st (g_assign rfl) rfl ?_
  refine done ?_
  refine th_n ?_
  refine seq ?_
  refine region ?_
  refine st (g_assign rfl) rfl ?_
  refine done ?_
  refine th_n ?_
  refine seq ?_
  refine block ?_
  refine loop (α := Nat) (fun i => i ≤ lead l) (fun i => [(0, .slice p n c), (3, I64 (i : Nat))]) (fun i => []) (fun i => n - i) 0 (Nat.zero_le _) ⟨rfl, rfl, trivial⟩ .nil (fun i hI => ?_)
  refine seq ?_
  refine seq ?_
  refine region ?_
  refine st (g_move rfl) rfl ?_
  refine st (g_move rfl) rfl ?_
  refine st (g_len el_23 rfl) rfl ?_
  refine sp (g_bin rfl rfl rfl) rfl (fun h8 => ?_) (fun h8 => ?_)
  · have hi : i < n := by omega
    have hps : p.isSome = true := hr.some (by intro h; rw [List.map_eq_nil_iff] at h; rw [h, List.length_nil] at hl; omega)
    refine st (g_move rfl) rfl ?_
    refine gt rfl ?_
    refine st (g_move rfl) rfl ?_
    refine gt rfl ?_
    refine st (g_move rfl) rfl ?_
    refine gt rfl ?_
    refine st (g_indexP (m := i) el_23 rfl rfl (hps) (by omega) (by omega) (by omega)) rfl ?_
    refine gt rfl ?_
    refine st (g_load (v := B8 (l.getD i 0)) sc_5 rfl (Cell.rd (RdA.of hr.s) (get_B8 rfl (by omega)))) rfl ?_
    refine gt rfl ?_
    refine sp (g_bin rfl rfl rfl) rfl (fun h14 => ?_) (fun h14 => ?_)
    · have hz0 : l.getD i 0 = 0 := b8_zero.1 h14
      have hlead : i + 1 ≤ lead l := by
        rcases Nat.lt_or_ge i (lead l) with h | h
        · exact h
        · have hie : i = lead l := by omega
          subst hie
          exact absurd hz0 (lead_next (by omega))
      refine st (g_pickT rfl rfl) rfl ?_
      refine done ?_
      refine th_n ?_
      refine condT rfl ?_
      refine skip ?_
      refine th_n ?_
      refine block ?_
      refine region ?_
      refine st (g_move rfl) rfl ?_
      refine st (g_iadd (c := ((i + 1 : Nat) : Int)) rfl rfl (by omega) (by omega) (by omega)) rfl ?_
      refine st (g_assign rfl) rfl ?_
      refine done ?_
      refine ib_n ?_
      refine th_n ?_
      exact again (i + 1) hlead (by omega) ⟨rfl, rfl, trivial⟩ .nil
    · have hz0 : ¬ l.getD i 0 = 0 := fun h => h14 (b8_zero.2 h)
      have hie : i = lead l := by
        rcases Nat.lt_or_ge i (lead l) with h | h
        · exact absurd (lead_get h) hz0
        · omega
      subst hie
      refine st (g_pickT rfl rfl) rfl ?_
      refine done ?_
      refine th_n ?_
      refine condF rfl ?_
      refine exitc ?_
      refine th_x ?_
      refine th_x ?_
      refine ib_x ?_
      refine th_n ?_
      refine seq ?_
      refine region ?_
      refine st (g_assign rfl) rfl ?_
      refine done ?_
      refine th_n ?_
      refine seq ?_
      refine At.up (fun w hw => new0_vec (T := 5) (s := 1) hw ⟨rfl, .inl ⟨rfl, rfl⟩⟩) ?_
      refine region ?_
      refine st (g_move rfl) rfl ?_
      refine st (g_move rfl) rfl ?_
      refine st (g_move rfl) rfl ?_
      refine st (g_slice (l := (lead l : Nat)) (h := (n : Nat)) (m := (c : Nat)) (p' := adv p c (lead l) 1) (n' := n - lead l) (c' := c - lead l) el_23 rfl rfl rfl rfl (by simp) (by omega) (by omega) (by omega) (by omega) rfl (by omega) (by omega)) rfl ?_
      have hrd := hr.s.adv (c := c) (k := lead l) (s := 1) (fun he => by rw [List.length_map]; omega)
      rw [Nat.mul_one, ← List.map_drop] at hrd
      refine sq rfl (o_append (n := 0) (m := n - lead l) (news := (l.drop (lead l)).map B8) un_23 zr_5 sz_5 rfl bt_5 (by decide) rfl rfl .here (by rw [List.length_map, List.length_drop]; omega) (RdA.of hrd) oneB8 (fun h => by have := hp (adv_none h); omega) (by simp only [maxLen]; omega) (by omega) rfl (fun q1 cap1 hq1 hc1 hq01 => ?_))
      rw [List.nil_append, Nat.zero_add]
      refine st (g_assign rfl) rfl ?_
      refine done ?_
      refine th_n ?_
      refine ret ?_
      exact ret1 rfl rfl rfl (fun w2 hw2 => ⟨(q1, cap1), ⟨hq01, by show n - lead l ≤ cap1; omega⟩, rfl, Sat.left (hw2.split (.cons .here .nil))⟩)
  · have hie : i = lead l := by omega
    subst hie
    refine st (g_move rfl) rfl ?_
    refine gf rfl rfl ?_
    refine gf rfl rfl ?_
    refine gf rfl rfl ?_
    refine gf rfl rfl ?_
    refine gf rfl rfl ?_
    refine st (g_pickF rfl rfl) rfl ?_
    refine done ?_
    refine th_n ?_
    refine condF rfl ?_
    refine exitc ?_
    refine th_x ?_
    refine th_x ?_
    refine ib_x ?_
    refine th_n ?_
    refine seq ?_
    refine region ?_
    refine st (g_assign rfl) rfl ?_
    refine done ?_
    refine th_n ?_
    refine seq ?_
    refine At.up (fun w hw => new0_vec (T := 5) (s := 1) hw ⟨rfl, .inl ⟨rfl, rfl⟩⟩) ?_
    refine region ?_
    refine st (g_move rfl) rfl ?_
    refine st (g_move rfl) rfl ?_
    refine st (g_move rfl) rfl ?_
    refine st (g_slice (l := (lead l : Nat)) (h := (n : Nat)) (m := (c : Nat)) (p' := adv p c (lead l) 1) (n' := n - lead l) (c' := c - lead l) el_23 rfl rfl rfl rfl (by simp) (by omega) (by omega) (by omega) (by omega) rfl (by omega) (by omega)) rfl ?_
    have hrd := hr.s.adv (c := c) (k := lead l) (s := 1) (fun he => by rw [List.length_map]; omega)
    rw [Nat.mul_one, ← List.map_drop] at hrd
    refine sq rfl (o_append (n := 0) (m := n - lead l) (news := (l.drop (lead l)).map B8) un_23 zr_5 sz_5 rfl bt_5 (by decide) rfl rfl .here (by rw [List.length_map, List.length_drop]; omega) (RdA.of hrd) oneB8 (fun h => by have := hp (adv_none h); omega) (by simp only [maxLen]; omega) (by omega) rfl (fun q1 cap1 hq1 hc1 hq01 => ?_))
    rw [List.nil_append, Nat.zero_add]
    refine st (g_assign rfl) rfl ?_
    refine done ?_
    refine th_n ?_
    refine ret ?_
    exact ret1 rfl rfl rfl (fun w2 hw2 => ⟨(q1, cap1), ⟨hq01, by show n - lead l ≤ cap1; omega⟩, rfl, Sat.left (hw2.split (.cons .here .nil))⟩)

theorem f103_spec (p : Option Addr) (c : Nat) (l : List UInt8) (hl : l.length = 8) (hp : p = none → c = 0) (hnc : 8 ≤ c) (w : World) (hr : RdC w p (l.map B8)) : Calls Tryd.prog 103 [.slice p 8 c, I64 8].toArray w (fun en w2 => ∃ x : Option Addr × Nat, ((x.1 = none → x.2 = 0) ∧ 8 ≤ x.2) ∧ en = .returned (.tuple #[slv 8 x, I64 0]) ∧ Sat w (fps []) [vec (slv 8 x) 5 1 8 (l.map B8)] w2) := by
  have hll := lead_le l
  rw [hl] at hll
  refine enter (n := 34) Tryd.func103 rfl rfl rfl (Sat.refl w) ?_
  refine seq ?_
  refine region ?_
  refine st (g_assign rfl) rfl ?_
  refine st (g_assign rfl) rfl ?_
  refine done ?_
  refine th_n ?_
  refine seq ?_
  refine seq ?_
  refine region ?_
  refine st (g_move rfl) rfl ?_
  refine st (g_F rfl rfl rfl (by decide)) rfl ?_
  refine st (g_move rfl) rfl ?_
  refine gt rfl ?_
  refine st (g_move rfl) rfl ?_
  refine gt rfl ?_
  refine st (g_F rfl rfl rfl (by decide)) rfl ?_
  refine st (g_pickF rfl rfl) rfl ?_
  refine done ?_
  refine th_n ?_
  refine condF rfl ?_
  refine skip ?_
  refine th_n ?_
  refine seq ?_
  refine region ?_
  refine st (g_move rfl) rfl ?_
  refine sq rfl (o_call Tryd.func111 rfl rfl rfl .nil (fun w hw hA => f111_spec p 8 c l hl hp hnc (by decide) w (RdS.ofOld (A := []) hr.s hw .nil).c) rfl (fun y hy => ?_))
  refine st (g_assign rfl) rfl ?_
  refine done ?_
  refine th_n ?_
  refine seq ?_
  refine seq ?_
  refine region ?_
  refine st (g_move rfl) rfl ?_
  refine st (g_len el_23 rfl) rfl ?_
  refine st (g_move rfl) rfl ?_
  refine st (g_F rfl rfl rfl (by omega)) rfl ?_
  refine done ?_
  refine th_n ?_
  refine condF rfl ?_
  refine skip ?_
  refine th_n ?_
  refine seq ?_
  refine At.up (fun w hw => new0_vec (T := 5) (s := 1) hw ⟨rfl, .inl ⟨rfl, rfl⟩⟩) ?_
  refine region ?_
  refine st (g_assign rfl) rfl ?_
  refine done ?_
  refine th_n ?_
  refine seq ?_
  refine seq ?_
  refine region ?_
  refine st (g_move rfl) rfl ?_
  refine st (g_len el_23 rfl) rfl ?_
  refine st (g_assign rfl) rfl ?_
  refine done ?_
  refine th_n ?_
  refine block ?_
  refine loop (α := Nat × (Option Addr × Nat)) (fun ⟨j, z⟩ => j ≤ lead l ∧ (z.1 = none → z.2 = 0)) (fun ⟨j, z⟩ => [(1, I64 8), (6, slv (8 - lead l) y), (7, slv j z), (8, I64 ((8 - lead l + j : Nat) : Int))]) (fun ⟨j, z⟩ => [vec (slv j z) 5 1 j ((List.replicate j (0 : UInt8)).map B8), vec (slv (8 - lead l) y) 5 1 (8 - lead l) ((l.drop (lead l)).map B8)]) (fun ⟨j, z⟩ => lead l - j) (0, (none, 0)) ⟨Nat.zero_le _, fun _ => rfl⟩ ⟨rfl, rfl, rfl, rfl, trivial⟩ (.cons .here (.cons .here .nil)) (fun ⟨j, z⟩ ⟨hj, hz⟩ => ?_)
  show At _ [(1, I64 8), (6, slv (8 - lead l) y), (7, slv j z), (8, I64 ((8 - lead l + j : Nat) : Int))] [vec (slv j z) 5 1 j ((List.replicate j (0 : UInt8)).map B8), vec (slv (8 - lead l) y) 5 1 (8 - lead l) ((l.drop (lead l)).map B8)] _
  refine seq ?_
  refine seq ?_
  refine region ?_
  refine st (g_move rfl) rfl ?_
  refine st (g_move rfl) rfl ?_
  refine st (g_bin rfl rfl rfl) rfl ?_
  refine done ?_
  refine th_n ?_
  refine condS rfl (fun h25 => ?_) (fun h25 => ?_)
  · try simp only [decide_eq_true_eq] at h25
    have hj2 : j < lead l := by omega
    refine skip ?_
    refine th_n ?_
    refine seq ?_
    refine block ?_
    refine region ?_
    refine st (g_move rfl) rfl ?_
    refine sq rfl (o_buildSlice1 (vs := [B8 0]) un_23 zr_5 sz_5 (by decide) (by decide) rfl rfl rfl (by simp [Value.oneCell']) rfl (fun b29 => ?_))
    refine sq rfl (o_append (n := j) (m := 1) (news := ([0] : List UInt8).map B8) un_23 zr_5 sz_5 rfl bt_5 (by decide) rfl rfl (.there (.here)) rfl (RdA.own .here (by simp)) oneB8 nofun (by simp only [maxLen]; omega) (by omega) rfl (fun q2 cap2 hq2 hc2 hq02 => ?_))
    rw [← List.map_append, ← List.replicate_succ']
    refine st (g_assign rfl) rfl ?_
    refine done ?_
    refine ib_n ?_
    refine th_n ?_
    refine region ?_
    refine st (g_move rfl) rfl ?_
    refine st (g_iadd (c := ((8 - lead l + (j + 1) : Nat) : Int)) rfl rfl (by omega) (by omega) (by omega)) rfl ?_
    refine st (g_assign rfl) rfl ?_
    refine done ?_
    refine th_n ?_
    exact again (j + 1, (q2, cap2)) ⟨by omega, hq02⟩ (by show lead l - (j + 1) < lead l - j; omega) ⟨rfl, rfl, rfl, rfl, trivial⟩ (.cons .here (.cons (.there (.here)) .nil))
  · try simp only [decide_eq_false_iff_not] at h25
    have hje : j = lead l := by omega
    subst hje
    refine exitc ?_
    refine th_x ?_
    refine th_x ?_
    refine ib_x ?_
    refine th_n ?_
    refine seq ?_
    refine region ?_
    refine st (g_move rfl) rfl ?_
    refine st (g_move rfl) rfl ?_
    refine sq rfl (o_append (n := lead l) (m := 8 - lead l) (news := (l.drop (lead l)).map B8) un_23 zr_5 sz_5 rfl bt_5 (by decide) rfl rfl .here (by rw [List.length_map, List.length_drop]; omega) (RdA.vec (.there (.here))) oneB8 hy.1 (by simp only [maxLen]; omega) (by omega) rfl (fun q3 cap3 hq3 hc3 hq03 => ?_))
    rw [← List.map_append, lead_pad, show lead l + (8 - lead l) = 8 by omega]
    refine st (g_assign rfl) rfl ?_
    refine st (g_assign rfl) rfl ?_
    refine done ?_
    refine th_n ?_
    refine ret ?_
    exact ret2 rfl rfl rfl rfl (fun w2 hw2 => ⟨(q3, cap3), ⟨hq03, by show 8 ≤ cap3; omega⟩, rfl, Sat.left (hw2.split (.cons .here .nil))⟩)

theorem f74_spec (N : BitVec 64) (w : World) : Calls Tryd.prog 74 [U64 N, I64 8].toArray w (fun en w2 => ∃ x : Option Addr × Nat, ((x.1 = none → x.2 = 0) ∧ 8 ≤ x.2) ∧ en = .returned (.tuple #[slv 8 x, I64 0]) ∧ Sat w (fps []) [vec (slv 8 x) 5 1 8 ((be8 N).map B8)] w2) := by
  refine enter (n := 25) Tryd.func74 rfl rfl rfl (Sat.refl w) ?_
  refine seq ?_
  refine region ?_
  refine st (g_assign rfl) rfl ?_
  refine st (g_assign rfl) rfl ?_
  refine done ?_
  refine th_n ?_
  refine seq ?_
  refine region ?_
  refine st (g_assign rfl) rfl ?_
  refine done ?_
  refine th_n ?_
  refine seq ?_
  refine seq ?_
  refine At.up (fun w hw => new0_vec (T := 5) (s := 1) hw ⟨rfl, .inl ⟨rfl, rfl⟩⟩) ?_
  refine region ?_
  refine st (g_assign rfl) rfl ?_
  refine done ?_
  refine th_n ?_
  refine block ?_
  refine loop (α := Nat × (Option Addr × Nat)) (fun ⟨j, z⟩ => j ≤ 8 ∧ (z.1 = none → z.2 = 0) ∧ j ≤ z.2) (fun ⟨j, z⟩ => [(0, U64 (N >>> (8 * j))), (1, I64 8), (6, slv j z), (7, I64 (j : Nat))]) (fun ⟨j, z⟩ => [vec (slv j z) 5 1 j (((be8 N).drop (8 - j)).map B8)]) (fun ⟨j, z⟩ => 8 - j) (0, (none, 0)) ⟨Nat.zero_le _, fun _ => rfl, Nat.le_refl _⟩ ⟨by show some (U64 N) = some (U64 (N >>> (8 * 0))); rw [Nat.mul_zero, BitVec.ushiftRight_zero], rfl, rfl, rfl, trivial⟩ (.cons .here .nil) (fun ⟨j, z⟩ ⟨hj, hz2, hz3⟩ => ?_)
  show At _ [(0, U64 (N >>> (8 * j))), (1, I64 8), (6, slv j z), (7, I64 (j : Nat))] [vec (slv j z) 5 1 j (((be8 N).drop (8 - j)).map B8)] _
  refine seq ?_
  refine seq ?_
  refine region ?_
  refine st (g_move rfl) rfl ?_
  refine st (g_bin rfl rfl rfl) rfl ?_
  refine done ?_
  refine th_n ?_
  refine condS rfl (fun h9 => ?_) (fun h9 => ?_)
  · try simp only [decide_eq_true_eq] at h9
    have hj2 : j < 8 := by omega
    refine skip ?_
    refine th_n ?_
    refine seq ?_
    refine block ?_
    refine seq ?_
    refine region ?_
    refine st (g_move rfl) rfl ?_
    refine st (g_rem64 (b := 256#64) rfl rfl (by decide)) rfl ?_
    refine st (g_to8 it_34 it_5 rfl rfl) rfl ?_
    refine sq rfl (o_buildSlice1 (vs := ([UInt8.ofNat ((N >>> (8 * j)) % 256#64).toNat] : List UInt8).map B8) un_23 zr_5 sz_5 (by decide) (by decide) rfl rfl rfl oneB8 rfl (fun b15 => ?_))
    refine vec_of_blk (s := 1) (n := 1) .here rfl (by decide) ?_
    refine st (g_move rfl) rfl ?_
    refine sq rfl (o_append (n := 1) (m := j) (news := ((be8 N).drop (8 - j)).map B8) un_23 zr_5 sz_5 rfl bt_5 (by decide) rfl rfl .here (by rw [List.length_map, List.length_drop, be8_length]; omega) (RdA.vec (.there (.here))) oneB8 hz2 (by simp only [maxLen]; omega) (by omega) rfl (fun q4 cap4 hq4 hc4 hq04 => ?_))
    rw [tail_more _ hj2, Nat.add_comm 1 j]
    refine st (g_assign rfl) rfl ?_
    refine done ?_
    refine th_n ?_
    refine region ?_
    refine st (g_move rfl) rfl ?_
    refine st (g_quo64 (b := 256#64) rfl rfl (by decide)) rfl ?_
    refine st (g_assign rfl) rfl ?_
    refine done ?_
    refine ib_n ?_
    refine th_n ?_
    refine region ?_
    refine st (g_move rfl) rfl ?_
    refine st (g_iadd (c := ((j + 1 : Nat) : Int)) rfl rfl (by omega) (by omega) (by omega)) rfl ?_
    refine st (g_assign rfl) rfl ?_
    refine done ?_
    refine th_n ?_
    exact again (j + 1, (q4, cap4)) ⟨by omega, hq04, by show j + 1 ≤ cap4; omega⟩ (by show 8 - (j + 1) < 8 - j; omega) ⟨by rw [← quo_256]; rfl, rfl, rfl, rfl, trivial⟩ (.cons .here .nil)
  · try simp only [decide_eq_false_iff_not] at h9
    have hje : j = 8 := by omega
    subst hje
    refine exitc ?_
    refine th_x ?_
    refine th_x ?_
    refine ib_x ?_
    refine th_n ?_
    refine seq ?_
    refine region ?_
    refine st (g_move rfl) rfl ?_
    refine st (g_move rfl) rfl ?_
    refine sq rfl (o_call Tryd.func103 rfl rfl rfl .nil (fun w hw hA => f103_spec z.1 z.2 (be8 N) rfl hz2 hz3 w (RdC.ofVec (hw.get .here))) rfl (fun x hx => ?_))
    refine st (g_extract rfl rfl) rfl ?_
    refine st (g_extract rfl rfl) rfl ?_
    refine st (g_assign rfl) rfl ?_
    refine st (g_assign rfl) rfl ?_
    refine done ?_
    refine th_n ?_
    refine ret ?_
    exact ret2 rfl rfl rfl rfl (fun w2 hw2 => ⟨x, hx, rfl, Sat.left (hw2.split (A := [_]) (.cons .here .nil))⟩)

theorem fold_take {l : List UInt8} {i : Nat} (h : i < l.length) : foldW (l.take (i + 1)) 0#64 = (foldW (l.take i) 0#64 <<< 8) ||| BitVec.ofNat 64 (l.getD i 0).toNat := by
  rw [take_one (getD_get (d := (0 : UInt8)) h), foldW, foldW, List.foldl_append]; rfl
theorem fold_nat {l : List UInt8} : ∀ i, i ≤ l.length → i ≤ 8 → (foldW (l.take i) 0#64).toNat < 256 ^ i
  | 0, _, _ => by rw [List.take_zero]; decide
  | i + 1, h, h8 => by
    have ih := fold_nat (l := l) i (by omega) (by omega)
    have hp : 256 ^ i ≤ 256 ^ 7 := Nat.pow_le_pow_right (by decide) (by omega)
    have hb := (l.getD i 0).toNat_lt
    rw [fold_take h, step_nat hb (by omega), Nat.pow_succ]
    omega
theorem fold_mul {l : List UInt8} {i : Nat} (h : i < l.length) (h8 : i < 8) : 256#64 * foldW (l.take i) 0#64 + BitVec.ofNat 64 (l.getD i 0).toNat = foldW (l.take (i + 1)) 0#64 := by
  have ih := fold_nat (l := l) i (by omega) (by omega)
  have hp : 256 ^ i ≤ 256 ^ 7 := Nat.pow_le_pow_right (by decide) (by omega)
  have hb := (l.getD i 0).toNat_lt
  apply BitVec.eq_of_toNat_eq
  rw [fold_take h, step_nat hb (by omega), BitVec.toNat_add, BitVec.toNat_mul, BitVec.toNat_ofNat, BitVec.toNat_ofNat]
  omega


theorem f86_spec (p : Option Addr) (n c : Nat) (l : List UInt8) (hl : l.length = n) (hn : n ≤ 8) (w : World) (hr : RdC w p (l.map B8)) : Calls Tryd.prog 86 [.slice p n c].toArray w (fun en w2 => en = .returned (.tuple #[U64 (wholeW l), I64 0]) ∧ Sat w [] [] w2) := by
  refine enter (n := 23) Tryd.func86 rfl rfl rfl (Sat.refl w) ?_
  refine seq ?_
  refine region ?_
  refine st (g_assign (v := U64 0#64) rfl) rfl ?_
  refine st (g_assign rfl) rfl ?_
  refine done ?_
  refine th_n ?_
  refine seq ?_
  refine region ?_
  refine st (g_assign (v := U64 0#64) rfl) rfl ?_
  refine done ?_
  refine th_n ?_
  refine seq ?_
  refine seq ?_
  refine region ?_
  refine st (g_assign rfl) rfl ?_
  refine done ?_
  refine th_n ?_
  refine block ?_
  refine loop (α := Nat) (fun i => i ≤ n) (fun i => [(0, .slice p n c), (4, U64 (foldW (l.take i) 0#64)), (5, I64 (i : Nat))]) (fun i => []) (fun i => n - i) 0 (Nat.zero_le _) ⟨rfl, rfl, rfl, trivial⟩ .nil (fun i hI => ?_)
  refine seq ?_
  refine seq ?_
  refine region ?_
  refine st (g_move rfl) rfl ?_
  refine st (g_move rfl) rfl ?_
  refine st (g_len el_23 rfl) rfl ?_
  refine st (g_bin rfl rfl rfl) rfl ?_
  refine done ?_
  refine th_n ?_
  refine condS rfl (fun h9 => ?_) (fun h9 => ?_)
  · try simp only [decide_eq_true_eq] at h9
    have hi : i < n := by omega
    have hps : p.isSome = true := hr.some (by intro h; rw [List.map_eq_nil_iff] at h; rw [h, List.length_nil] at hl; omega)
    have hfn := fold_nat (l := l) i (by omega) (by omega)
    have hp7 : 256 ^ i ≤ 256 ^ 7 := Nat.pow_le_pow_right (by decide) (by omega)
    refine skip ?_
    refine th_n ?_
    refine seq ?_
    refine block ?_
    refine seq ?_
    refine seq ?_
    refine region ?_
    refine st (g_move rfl) rfl ?_
    refine st (g_F rfl rfl rfl (by simp only [ge_iff_le]; omega)) rfl ?_
    refine done ?_
    refine th_n ?_
    refine condF rfl ?_
    refine skip ?_
    refine th_n ?_
    refine region ?_
    refine st (g_move rfl) rfl ?_
    refine st (g_mul64 (a := 256#64) rfl rfl) rfl ?_
    refine st (g_move rfl) rfl ?_
    refine st (g_move rfl) rfl ?_
    refine st (g_indexP (m := i) el_23 rfl rfl (hps) (by omega) (by omega) (by omega)) rfl ?_
    refine st (g_load (v := B8 (l.getD i 0)) sc_5 rfl (Cell.rd (RdA.of hr.s) (get_B8 rfl (by omega)))) rfl ?_
    refine st (g_to64 it_5 it_34 rfl rfl) rfl ?_
    refine st (g_add64 rfl rfl) rfl ?_
    refine st (g_assign rfl) rfl ?_
    refine done ?_
    refine ib_n ?_
    refine th_n ?_
    refine region ?_
    refine st (g_move rfl) rfl ?_
    refine st (g_iadd (c := ((i + 1 : Nat) : Int)) rfl rfl (by omega) (by omega) (by omega)) rfl ?_
    refine st (g_assign rfl) rfl ?_
    refine done ?_
    refine th_n ?_
    exact again (i + 1) (by omega) (by omega) ⟨rfl, by rw [← fold_mul (by omega) (by omega)]; rfl, rfl, trivial⟩ .nil
  · try simp only [decide_eq_false_iff_not] at h9
    have hie : i = n := by omega
    subst hie
    refine exitc ?_
    refine th_x ?_
    refine th_x ?_
    refine ib_x ?_
    refine th_n ?_
    refine seq ?_
    refine region ?_
    refine st (g_move rfl) rfl ?_
    refine st (g_assign rfl) rfl ?_
    refine st (g_assign rfl) rfl ?_
    refine done ?_
    refine th_n ?_
    refine ret ?_
    exact ret2 rfl rfl rfl rfl (fun w2 hw2 => ⟨by rw [wholeW_fold, List.take_of_length_le (by omega)], hw2⟩)
end Go.Proofs.YtokhediaibdkjaaDoor

/-! From N2 -/
/- Ref18's Encode, Decode. (printed by gen1.py) -/
namespace Go.Proofs.YtokhediaibdkjaaDoor
open Go.Pm Go.RowKit
set_option maxRecDepth 100000
theorem RdA.take {cx : Cx} {Rs : List Res} {p : Option Addr} {vs : List Value} (h : RdA cx Rs p vs) (n : Nat) : RdA cx Rs p (vs.take n) := by
  intro w hw j u hj
  rw [List.getElem?_take] at hj
  split at hj
  · exact h w hw j u hj
  · cases hj
theorem bu_73n (n : BitVec 64) : Tryd.prog.built 73 [(0, U64 n)] = some [U64 n, .slice none 0 0].toArray := by
  have h1 : Tryd.prog.built 73 [(0, U64 n)] = Instr.fill (fun i => ([(0, 1), (1, 1)] : List (Nat × Nat)).toArray[i]?) #[.int .u64 0, .slice none 0 0] [(0, U64 n)] := by kernel_rfl
  rw [h1, fill_cons1 (off := 0) rfl rfl (by simp)]; rfl


theorem f46_good (n : BitVec 64) (p : Option Addr) (dn dc : Nat) (d : List UInt8) (hd : d.length = dn) (hp : p = none → dc = 0) (hdc : dn ≤ dc) (h0 : n ≠ 0#64) (h24 : dn = 24) (w : World) (hr : RdC w p (d.map B8)) : Calls Tryd.prog 46 [.agg [U64 n, .slice p dn dc].toArray].toArray w (fun en w2 => ∃ x : Option Addr × Nat, ((x.1 = none → x.2 = 0) ∧ 64 ≤ x.2) ∧ en = .returned (.tuple #[slv 64 x, I64 0]) ∧ Sat w (fps []) [vec (slv 64 x) 5 1 64 ((encW n d).map B8)] w2) := by
  subst h24
  refine enter (n := 47) Tryd.func46 rfl rfl rfl (Sat.refl w) ?_
  refine seq ?_
  refine region ?_
  refine sq rfl (o_box (cs := [U64 n, .slice p 24 dc]) rfl rfl rfl (fun b1 => ?_))
  refine st (g_assign rfl) rfl ?_
  refine st (g_assign rfl) rfl ?_
  refine done ?_
  refine th_n ?_
  refine seq ?_
  refine seq ?_
  refine region ?_
  refine st (g_fieldAddr fo_73_0 rfl rfl) rfl ?_
  refine st (g_load (v := U64 n) sc_34 rfl (Cell.own .here rfl)) rfl ?_
  refine st (g_F rfl rfl rfl (u64_ne h0)) rfl ?_
  refine st (g_move rfl) rfl ?_
  refine gt rfl ?_
  refine st (g_fieldAddr fo_73_1 rfl rfl) rfl ?_
  refine gt rfl ?_
  refine st (g_load (v := .slice p 24 dc) sc_23 rfl (Cell.own .here rfl)) rfl ?_
  refine gt rfl ?_
  refine st (g_len el_23 rfl) rfl ?_
  refine gt rfl ?_
  refine st (g_F rfl rfl rfl (by decide)) rfl ?_
  refine st (g_pickF rfl rfl) rfl ?_
  refine done ?_
  refine th_n ?_
  refine condF rfl ?_
  refine skip ?_
  refine th_n ?_
  refine seq ?_
  refine region ?_
  refine st (g_fieldAddr fo_73_0 rfl rfl) rfl ?_
  refine st (g_load (v := U64 n) sc_34 rfl (Cell.own .here rfl)) rfl ?_
  refine sq rfl (o_call Tryd.func74 rfl rfl rfl .nil (fun w hw hA => f74_spec n w) rfl (fun x hx => ?_))
  refine st (g_move rfl) rfl ?_
  refine st (g_extract rfl rfl) rfl ?_
  refine st (g_extract rfl rfl) rfl ?_
  refine st (g_assign rfl) rfl ?_
  refine st (g_assign rfl) rfl ?_
  refine done ?_
  refine th_n ?_
  refine seq ?_
  refine region ?_
  refine sq rfl (o_buildSlice1 (vs := headB.map B8) un_23 zr_5 sz_5 (by decide) (by decide) rfl rfl rfl oneB8 rfl (fun b24 => ?_))
  refine vec_of_blk (s := 1) (n := 4) .here rfl (by decide) ?_
  refine st (g_assign rfl) rfl ?_
  refine done ?_
  refine th_n ?_
  refine seq ?_
  refine region ?_
  refine st (g_move rfl) rfl ?_
  refine st (g_move rfl) rfl ?_
  refine sq rfl (o_append (n := 4) (m := 8) (news := (be8 n).map B8) un_23 zr_5 sz_5 rfl bt_5 (by decide) rfl rfl .here (by simp [be8_length]) (RdA.vec (.there (.here))) oneB8 hx.1 (by decide) (by decide) rfl (fun q1 cap1 hq1 hc1 hq01 => ?_))
  rw [← List.map_append]
  refine st (g_assign rfl) rfl ?_
  refine done ?_
  refine th_n ?_
  refine seq ?_
  refine region ?_
  refine st (g_move rfl) rfl ?_
  refine st (g_fieldAddr fo_73_1 rfl rfl) rfl ?_
  refine st (g_load (v := .slice p 24 dc) sc_23 rfl (Cell.own (.there (.there (.here))) rfl)) rfl ?_
  refine sq rfl (o_append (n := 12) (m := 24) (news := d.map B8) un_23 zr_5 sz_5 rfl bt_5 (by decide) rfl rfl .here (by simp [hd]) (RdA.of hr.s) oneB8 hp (by decide) (by decide) rfl (fun q2 cap2 hq2 hc2 hq02 => ?_))
  rw [← List.map_append, show headB ++ be8 n ++ d = frontW n d from rfl]
  refine st (g_assign rfl) rfl ?_
  refine done ?_
  refine th_n ?_
  refine seq ?_
  refine region ?_
  refine st (g_move rfl) rfl ?_
  refine sq rfl (o_call Tryd.func18 rfl rfl rfl .nil (fun w hw hA => f18_256 q2 36 cap2 (frontW n d) (frontW_length n hd) hq02 (by decide) w (RdC.ofVec (hw.get .here))) rfl (fun y hy => ?_))
  refine st (g_move rfl) rfl ?_
  refine st (g_extract rfl rfl) rfl ?_
  refine st (g_extract rfl rfl) rfl ?_
  refine st (g_assign rfl) rfl ?_
  refine st (g_assign rfl) rfl ?_
  refine done ?_
  refine th_n ?_
  refine seq ?_
  refine region ?_
  refine st (g_move rfl) rfl ?_
  refine st (g_move rfl) rfl ?_
  refine st (g_slice (l := 0) (h := 16) (m := (y.2 : Nat)) (p' := y.1) (n' := 16) (c' := y.2) el_23 rfl rfl rfl rfl (by simp) (by decide) (by decide) (by have := hy.2; omega) (Int.le_refl _) (adv_zero _ _ _) rfl (by omega)) rfl ?_
  refine sq rfl (o_append (n := 36) (m := 16) (news := ((hashOf 256 (frontW n d)).take 16).map B8) un_23 zr_5 sz_5 rfl bt_5 (by decide) rfl rfl (.there (.here)) (by simp [hash256_length]) (by rw [List.map_take]; exact RdA.take (RdA.vec .here) 16) oneB8 hy.1 (by decide) (by decide) rfl (fun q3 cap3 hq3 hc3 hq03 => ?_))
  rw [← List.map_append]
  refine st (g_assign rfl) rfl ?_
  refine done ?_
  refine th_n ?_
  refine seq ?_
  refine region ?_
  refine st (g_move rfl) rfl ?_
  refine st (g_move rfl) rfl ?_
  refine sq rfl (o_append (n := 52) (m := 8) (news := (be8 n).map B8) un_23 zr_5 sz_5 rfl bt_5 (by decide) rfl rfl .here (by simp [be8_length]) (RdA.vec (.there (.there (.here)))) oneB8 hx.1 (by decide) (by decide) rfl (fun q4 cap4 hq4 hc4 hq04 => ?_))
  rw [← List.map_append]
  refine st (g_assign rfl) rfl ?_
  refine done ?_
  refine th_n ?_
  refine seq ?_
  refine region ?_
  refine st (g_move rfl) rfl ?_
  refine sq rfl (o_buildSlice1 (vs := (List.replicate 4 (0 : UInt8)).map B8) un_23 zr_5 sz_5 (by decide) (by decide) rfl rfl rfl oneB8 rfl (fun b45 => ?_))
  refine sq rfl (o_append (n := 60) (m := 4) (news := (List.replicate 4 (0 : UInt8)).map B8) un_23 zr_5 sz_5 rfl bt_5 (by decide) rfl rfl (.there (.here)) (by simp []) (RdA.own .here (fun j v hj => by rw [Nat.zero_add]; exact hj)) oneB8 nofun (by decide) (by decide) rfl (fun q5 cap5 hq5 hc5 hq05 => ?_))
  rw [← List.map_append, show frontW n d ++ (hashOf 256 (frontW n d)).take 16 ++ be8 n ++ List.replicate 4 0 = encW n d from rfl]
  refine st (g_assign rfl) rfl ?_
  refine st (g_assign rfl) rfl ?_
  refine done ?_
  refine th_n ?_
  refine ret ?_
  exact ret2 rfl rfl rfl rfl (fun w2 hw2 => ⟨(q5, cap5), ⟨hq05, hc5⟩, rfl, Sat.left (hw2.split (A := [_]) (.cons .here .nil))⟩)

theorem f46_bad (n : BitVec 64) (p : Option Addr) (dn dc : Nat) (h : n = 0#64 ∨ dn ≠ 24) (w : World) : Calls Tryd.prog 46 [.agg [U64 n, .slice p dn dc].toArray].toArray w (fun en w2 => en = .returned (.tuple #[.slice none 0 0, I64 180]) ∧ Sat w [] [] w2) := by
  refine enter (n := 47) Tryd.func46 rfl rfl rfl (Sat.refl w) ?_
  refine seq ?_
  refine region ?_
  refine sq rfl (o_box (cs := [U64 n, .slice p dn dc]) rfl rfl rfl (fun b1 => ?_))
  refine st (g_assign rfl) rfl ?_
  refine st (g_assign rfl) rfl ?_
  refine done ?_
  refine th_n ?_
  refine seq ?_
  refine seq ?_
  refine region ?_
  refine st (g_fieldAddr fo_73_0 rfl rfl) rfl ?_
  refine st (g_load (v := U64 n) sc_34 rfl (Cell.own .here rfl)) rfl ?_
  refine sp (g_bin rfl rfl rfl) rfl (fun h11 => ?_) (fun h11 => ?_)
  · refine st (g_move rfl) rfl ?_
    refine gf rfl rfl ?_
    refine gf rfl rfl ?_
    refine gf rfl rfl ?_
    refine gf rfl rfl ?_
    refine st (g_pickT rfl rfl) rfl ?_
    refine done ?_
    refine th_n ?_
    refine condT rfl ?_
    refine seq ?_
    refine region ?_
    refine st (g_assign rfl) rfl ?_
    refine st (g_assign rfl) rfl ?_
    refine done ?_
    refine th_n ?_
    refine ret ?_
    refine th_r ?_
    exact ret2 rfl rfl rfl rfl (fun w2 hw2 => ⟨rfl, hw2.clear⟩)
  · have hn : ¬ n = 0#64 := fun hh => h11 (by rw [hh]; rfl)
    refine st (g_move rfl) rfl ?_
    refine gt rfl ?_
    refine st (g_fieldAddr fo_73_1 rfl rfl) rfl ?_
    refine gt rfl ?_
    refine st (g_load (v := .slice p dn dc) sc_23 rfl (Cell.own .here rfl)) rfl ?_
    refine gt rfl ?_
    refine st (g_len el_23 rfl) rfl ?_
    refine gt rfl ?_
    refine st (g_T rfl rfl rfl (by rcases h with h | h; exact absurd h hn; omega)) rfl ?_
    refine st (g_pickF rfl rfl) rfl ?_
    refine done ?_
    refine th_n ?_
    refine condT rfl ?_
    refine seq ?_
    refine region ?_
    refine st (g_assign rfl) rfl ?_
    refine st (g_assign rfl) rfl ?_
    refine done ?_
    refine th_n ?_
    refine ret ?_
    refine th_r ?_
    exact ret2 rfl rfl rfl rfl (fun w2 hw2 => ⟨rfl, hw2.clear⟩)

theorem f48_len (p : Option Addr) (n c : Nat) (l : List UInt8) (hl : l.length = n) (hp : p = none → c = 0) (hnc : n ≤ c) (hn : n ≤ 1000000000) (w : World) (hr : RdC w p (l.map B8)) (h64 : n ≠ 64) : Calls Tryd.prog 48 [.slice p n c].toArray w (fun en w2 => en = .returned (.tuple #[.agg [U64 0#64, .slice none 0 0].toArray, I64 180]) ∧ Sat w [] [] w2) := by
  refine used hl (used hp (used hnc (used hn (used hr (used h64 (?_))))))
  refine enter (n := 43) Tryd.func48 rfl rfl rfl (Sat.refl w) ?_
  refine seq ?_
  refine region ?_
  refine sq rfl (o_alloc (zs := [U64 0#64, .slice none 0 0]) zr_73 rfl (fun b2 => ?_))
  refine st (g_assign rfl) rfl ?_
  refine done ?_
  refine th_n ?_
  refine seq ?_
  refine seq ?_
  refine region ?_
  refine st (g_move rfl) rfl ?_
  refine st (g_len el_23 rfl) rfl ?_
  refine st (g_T rfl rfl rfl (by omega)) rfl ?_
  refine done ?_
  refine th_n ?_
  refine condT rfl ?_
  refine seq ?_
  refine region ?_
  refine st (g_build rfl bu_73z) rfl ?_
  refine sq rfl (o_storeA (cs' := [U64 0#64, .slice none 0 0]) sz_73 rfl rfl rfl (by simp [Value.oneCell']) .here (Nat.le_of_ble_eq_true rfl) rfl ?_)
  refine st (g_assign rfl) rfl ?_
  refine done ?_
  refine th_n ?_
  refine ret ?_
  refine th_r ?_
  exact retG rfl (fun a w2 ha hw2 => ⟨resc2 ha rfl rfl rfl ag_73 rfl (hw2.get .here), rfl, hw2.clear⟩)

theorem f48_zero (p : Option Addr) (c : Nat) (l : List UInt8) (hl : l.length = 64) (hp : p = none → c = 0) (hnc : 64 ≤ c) (w : World) (hr : RdC w p (l.map B8)) (h0 : wholeW (w8 l) = 0#64) : Calls Tryd.prog 48 [.slice p 64 c].toArray w (fun en w2 => en = .returned (.tuple #[.agg [U64 0#64, .slice none 0 0].toArray, I64 180]) ∧ Sat w [] [] w2) := by
  refine enter (n := 43) Tryd.func48 rfl rfl rfl (Sat.refl w) ?_
  refine seq ?_
  refine region ?_
  refine sq rfl (o_alloc (zs := [U64 0#64, .slice none 0 0]) zr_73 rfl (fun b2 => ?_))
  refine st (g_assign rfl) rfl ?_
  refine done ?_
  refine th_n ?_
  refine seq ?_
  refine seq ?_
  refine region ?_
  refine st (g_move rfl) rfl ?_
  refine st (g_len el_23 rfl) rfl ?_
  refine st (g_F rfl rfl rfl (by decide)) rfl ?_
  refine done ?_
  refine th_n ?_
  refine condF rfl ?_
  refine skip ?_
  refine th_n ?_
  refine seq ?_
  refine region ?_
  refine st (g_move rfl) rfl ?_
  refine st (g_slice (l := 4) (h := 12) (m := (c : Nat)) (p' := adv p c 4 1) (n' := 8) (c' := c - 4) el_23 rfl rfl rfl rfl (by simp) (by decide) (by decide) (by omega) (Int.le_refl _) rfl rfl (by omega)) rfl ?_
  refine sq rfl (o_callP Tryd.func86 rfl rfl rfl (fun w hw => f86_spec (adv p c 4 1) 8 (c - 4) (w8 l) (w8_length hl) (by decide) w (by have h0 := ((RdS.ofOld (A := []) hr.s hw .nil).adv (c := c) (k := 4) (s := 1) (fun he => by omega)).take 8; rw [← List.map_drop, ← List.map_take] at h0; exact h0.c)) rfl ?_)
  refine st (g_move rfl) rfl ?_
  refine st (g_extract rfl rfl) rfl ?_
  refine st (g_extract rfl rfl) rfl ?_
  refine st (g_assign rfl) rfl ?_
  refine st (g_assign rfl) rfl ?_
  refine done ?_
  refine th_n ?_
  refine seq ?_
  refine region ?_
  refine st (g_move rfl) rfl ?_
  refine st (g_build rfl (bu_73n _)) rfl ?_
  refine sq rfl (o_alloc (zs := [U64 0#64, .slice none 0 0]) zr_73 rfl (fun b6 => ?_))
  refine sq rfl (o_storeA (cs' := [U64 (wholeW (w8 l)), .slice none 0 0]) sz_73 rfl rfl rfl (by simp [Value.oneCell']) .here (Nat.le_of_ble_eq_true rfl) rfl ?_)
  refine done ?_
  refine th_n ?_
  refine seq ?_
  refine At.up (fun w hw => new0_vec (T := 5) (s := 1) hw ⟨rfl, .inl ⟨rfl, rfl⟩⟩) ?_
  refine regionL ⟨[], [_], [6]⟩ mixed (by decide +kernel) .nil (.cons (.there (.here)) .nil) ?_
  refine An'.q 0 [6] rfl (by decide +kernel) rfl rfl (g_fieldAddr fo_73_1 rfl rfl) rfl ?_
  refine An'.z 1 [6] rfl (by decide +kernel) rfl rfl (g_load (v := .slice none 0 0) sc_23 rfl (Cell.own .here rfl)) rfl ?_
  refine An'.q 2 [6] rfl (by decide +kernel) rfl rfl (g_move rfl) rfl ?_
  refine An'.q 3 [6] rfl (by decide +kernel) rfl rfl (g_slice (l := 12) (h := 36) (m := (c : Nat)) (p' := adv p c 12 1) (n' := 24) (c' := c - 12) el_23 rfl rfl rfl rfl (by simp) (by decide) (by decide) (by omega) (Int.le_refl _) rfl rfl (by omega)) rfl ?_
  refine An'.oneG 4 (by decide +kernel) rfl rfl ?_
  have hrd := (hr.s.adv (c := c) (k := 12) (s := 1) (fun he => by omega)).take 24
  rw [← List.map_drop, ← List.map_take] at hrd
  refine o_append (n := 0) (m := 24) (news := (d24 l).map B8) un_23 zr_5 sz_5 rfl bt_5 (by decide) rfl rfl .here (by rw [List.length_map, d24_length hl]) (RdA.of hrd) oneB8 (fun h => by have := hp (adv_none h); omega) (by decide) (by decide) rfl (fun q1 cap1 hq1 hc1 hq01 => ?_)
  rw [List.nil_append, Nat.zero_add]
  refine An'.on0 .nil (.cons (.there (.here)) .nil) rfl ?_
  refine An'.q 5 [6] rfl (by decide +kernel) rfl rfl (g_fieldAddr fo_73_1 rfl rfl) rfl ?_
  refine An'.oneG 6 (by decide +kernel) rfl rfl ?_
  refine o_store (cs' := [U64 (wholeW (w8 l)), .slice q1 24 cap1]) sz_23 rfl rfl rfl (.there (.here)) (Nat.le_of_ble_eq_true rfl) rfl ?_
  refine An'.onx [6] rfl (by decide +kernel) .nil ?_
  refine An'.fin (by decide +kernel) ?_
  refine th_n ?_
  refine seq ?_
  refine region ?_
  refine st (g_loadA (vs := [U64 (wholeW (w8 l)), .slice q1 24 cap1]) ag_73 rfl rfl (Cells.part .here rfl)) rfl ?_
  refine sq rfl (o_callP Tryd.func46 rfl rfl rfl (fun w hw => f46_bad _ _ _ _ (.inl h0) w) rfl ?_)
  refine st (g_move rfl) rfl ?_
  refine st (g_extract rfl rfl) rfl ?_
  refine st (g_extract rfl rfl) rfl ?_
  refine st (g_assign rfl) rfl ?_
  refine st (g_assign rfl) rfl ?_
  refine done ?_
  refine th_n ?_
  refine seq ?_
  refine seq ?_
  refine region ?_
  refine st (g_move rfl) rfl ?_
  refine st (g_T rfl rfl rfl (by decide)) rfl ?_
  refine st (g_move rfl) rfl ?_
  refine gf rfl rfl ?_
  refine gf rfl rfl ?_
  refine gf rfl rfl ?_
  refine gf rfl rfl ?_
  refine gf rfl rfl ?_
  refine st (g_pickT rfl rfl) rfl ?_
  refine done ?_
  refine th_n ?_
  refine condT rfl ?_
  refine seq ?_
  refine region ?_
  refine st (g_build rfl bu_73z) rfl ?_
  refine sq rfl (o_storeA (cs' := [U64 0#64, .slice none 0 0]) sz_73 rfl rfl rfl (by simp [Value.oneCell']) (.there (.there (.here))) (Nat.le_of_ble_eq_true rfl) rfl ?_)
  refine st (g_assign rfl) rfl ?_
  refine done ?_
  refine th_n ?_
  refine ret ?_
  refine th_r ?_
  exact retG rfl (fun a w2 ha hw2 => ⟨resc2 ha rfl rfl rfl ag_73 rfl (hw2.get .here), rfl, hw2.clear⟩)

theorem f48_other (p : Option Addr) (c : Nat) (l : List UInt8) (hl : l.length = 64) (hp : p = none → c = 0) (hnc : 64 ≤ c) (w : World) (hr : RdC w p (l.map B8)) (h0 : wholeW (w8 l) ≠ 0#64) (h1 : ¬ encW (wholeW (w8 l)) (d24 l) = l) : Calls Tryd.prog 48 [.slice p 64 c].toArray w (fun en w2 => en = .returned (.tuple #[.agg [U64 0#64, .slice none 0 0].toArray, I64 180]) ∧ Sat w [] [] w2) := by
  refine enter (n := 43) Tryd.func48 rfl rfl rfl (Sat.refl w) ?_
  refine seq ?_
  refine region ?_
  refine sq rfl (o_alloc (zs := [U64 0#64, .slice none 0 0]) zr_73 rfl (fun b2 => ?_))
  refine st (g_assign rfl) rfl ?_
  refine done ?_
  refine th_n ?_
  refine seq ?_
  refine seq ?_
  refine region ?_
  refine st (g_move rfl) rfl ?_
  refine st (g_len el_23 rfl) rfl ?_
  refine st (g_F rfl rfl rfl (by decide)) rfl ?_
  refine done ?_
  refine th_n ?_
  refine condF rfl ?_
  refine skip ?_
  refine th_n ?_
  refine seq ?_
  refine region ?_
  refine st (g_move rfl) rfl ?_
  refine st (g_slice (l := 4) (h := 12) (m := (c : Nat)) (p' := adv p c 4 1) (n' := 8) (c' := c - 4) el_23 rfl rfl rfl rfl (by simp) (by decide) (by decide) (by omega) (Int.le_refl _) rfl rfl (by omega)) rfl ?_
  refine sq rfl (o_callP Tryd.func86 rfl rfl rfl (fun w hw => f86_spec (adv p c 4 1) 8 (c - 4) (w8 l) (w8_length hl) (by decide) w (by have h0 := ((RdS.ofOld (A := []) hr.s hw .nil).adv (c := c) (k := 4) (s := 1) (fun he => by omega)).take 8; rw [← List.map_drop, ← List.map_take] at h0; exact h0.c)) rfl ?_)
  refine st (g_move rfl) rfl ?_
  refine st (g_extract rfl rfl) rfl ?_
  refine st (g_extract rfl rfl) rfl ?_
  refine st (g_assign rfl) rfl ?_
  refine st (g_assign rfl) rfl ?_
  refine done ?_
  refine th_n ?_
  refine seq ?_
  refine region ?_
  refine st (g_move rfl) rfl ?_
  refine st (g_build rfl (bu_73n _)) rfl ?_
  refine sq rfl (o_alloc (zs := [U64 0#64, .slice none 0 0]) zr_73 rfl (fun b6 => ?_))
  refine sq rfl (o_storeA (cs' := [U64 (wholeW (w8 l)), .slice none 0 0]) sz_73 rfl rfl rfl (by simp [Value.oneCell']) .here (Nat.le_of_ble_eq_true rfl) rfl ?_)
  refine done ?_
  refine th_n ?_
  refine seq ?_
  refine At.up (fun w hw => new0_vec (T := 5) (s := 1) hw ⟨rfl, .inl ⟨rfl, rfl⟩⟩) ?_
  refine regionL ⟨[], [_], [6]⟩ mixed (by decide +kernel) .nil (.cons (.there (.here)) .nil) ?_
  refine An'.q 0 [6] rfl (by decide +kernel) rfl rfl (g_fieldAddr fo_73_1 rfl rfl) rfl ?_
  refine An'.z 1 [6] rfl (by decide +kernel) rfl rfl (g_load (v := .slice none 0 0) sc_23 rfl (Cell.own .here rfl)) rfl ?_
  refine An'.q 2 [6] rfl (by decide +kernel) rfl rfl (g_move rfl) rfl ?_
  refine An'.q 3 [6] rfl (by decide +kernel) rfl rfl (g_slice (l := 12) (h := 36) (m := (c : Nat)) (p' := adv p c 12 1) (n' := 24) (c' := c - 12) el_23 rfl rfl rfl rfl (by simp) (by decide) (by decide) (by omega) (Int.le_refl _) rfl rfl (by omega)) rfl ?_
  refine An'.oneG 4 (by decide +kernel) rfl rfl ?_
  have hrd := (hr.s.adv (c := c) (k := 12) (s := 1) (fun he => by omega)).take 24
  rw [← List.map_drop, ← List.map_take] at hrd
  refine o_append (n := 0) (m := 24) (news := (d24 l).map B8) un_23 zr_5 sz_5 rfl bt_5 (by decide) rfl rfl .here (by rw [List.length_map, d24_length hl]) (RdA.of hrd) oneB8 (fun h => by have := hp (adv_none h); omega) (by decide) (by decide) rfl (fun q1 cap1 hq1 hc1 hq01 => ?_)
  rw [List.nil_append, Nat.zero_add]
  refine An'.on0 .nil (.cons (.there (.here)) .nil) rfl ?_
  refine An'.q 5 [6] rfl (by decide +kernel) rfl rfl (g_fieldAddr fo_73_1 rfl rfl) rfl ?_
  refine An'.oneG 6 (by decide +kernel) rfl rfl ?_
  refine o_store (cs' := [U64 (wholeW (w8 l)), .slice q1 24 cap1]) sz_23 rfl rfl rfl (.there (.here)) (Nat.le_of_ble_eq_true rfl) rfl ?_
  refine An'.onx [6] rfl (by decide +kernel) .nil ?_
  refine An'.fin (by decide +kernel) ?_
  refine th_n ?_
  refine seq ?_
  refine region ?_
  refine st (g_loadA (vs := [U64 (wholeW (w8 l)), .slice q1 24 cap1]) ag_73 rfl rfl (Cells.part .here rfl)) rfl ?_
  refine sq rfl (o_call Tryd.func46 rfl rfl rfl .nil (fun w hw hA => f46_good (wholeW (w8 l)) q1 24 cap1 (d24 l) (d24_length hl) hq01 (by omega) h0 rfl w (RdC.ofVec (hw.get (.there (.here))))) rfl (fun z hz => ?_))
  refine st (g_move rfl) rfl ?_
  refine st (g_extract rfl rfl) rfl ?_
  refine st (g_extract rfl rfl) rfl ?_
  refine st (g_assign rfl) rfl ?_
  refine st (g_assign rfl) rfl ?_
  refine done ?_
  refine th_n ?_
  refine seq ?_
  refine seq ?_
  refine region ?_
  refine st (g_move rfl) rfl ?_
  refine st (g_F rfl rfl rfl (by decide)) rfl ?_
  refine st (g_move rfl) rfl ?_
  refine gt rfl ?_
  refine st (g_move rfl) rfl ?_
  refine gt rfl ?_
  refine st (g_str (l := encW (wholeW (w8 l)) (d24 l)) by_23 str_9 rfl (encW_length _ (d24_length hl)) (RdA.vec .here)) rfl ?_
  refine gt rfl ?_
  refine st (g_move rfl) rfl ?_
  refine gt rfl ?_
  refine st (g_str (l := l) by_23 str_9 rfl hl (RdA.of hr.s)) rfl ?_
  refine gt rfl ?_
  refine st (g_neST rfl rfl (fun h => h1 h)) rfl ?_
  refine st (g_pickF rfl rfl) rfl ?_
  refine done ?_
  refine th_n ?_
  refine condT rfl ?_
  refine seq ?_
  refine region ?_
  refine st (g_build rfl bu_73z) rfl ?_
  refine sq rfl (o_storeA (cs' := [U64 0#64, .slice none 0 0]) sz_73 rfl rfl rfl (by simp [Value.oneCell']) (.there (.there (.there (.here)))) (Nat.le_of_ble_eq_true rfl) rfl ?_)
  refine st (g_assign rfl) rfl ?_
  refine done ?_
  refine th_n ?_
  refine ret ?_
  refine th_r ?_
  exact retG rfl (fun a w2 ha hw2 => ⟨resc2 ha rfl rfl rfl ag_73 rfl (hw2.get .here), rfl, hw2.clear⟩)

theorem f48_good (p : Option Addr) (c : Nat) (l : List UInt8) (hl : l.length = 64) (hp : p = none → c = 0) (hnc : 64 ≤ c) (w : World) (hr : RdC w p (l.map B8)) (h0 : wholeW (w8 l) ≠ 0#64) (h1 : encW (wholeW (w8 l)) (d24 l) = l) : Calls Tryd.prog 48 [.slice p 64 c].toArray w (fun en w2 => ∃ y : Option Addr × Nat, ((y.1 = none → y.2 = 0) ∧ 24 ≤ y.2) ∧ en = .returned (.tuple #[.agg [U64 (wholeW (w8 l)), slv 24 y].toArray, I64 0]) ∧ Sat w (fps []) [vec (slv 24 y) 5 1 24 ((d24 l).map B8)] w2) := by
  refine enter (n := 43) Tryd.func48 rfl rfl rfl (Sat.refl w) ?_
  refine seq ?_
  refine region ?_
  refine sq rfl (o_alloc (zs := [U64 0#64, .slice none 0 0]) zr_73 rfl (fun b2 => ?_))
  refine st (g_assign rfl) rfl ?_
  refine done ?_
  refine th_n ?_
  refine seq ?_
  refine seq ?_
  refine region ?_
  refine st (g_move rfl) rfl ?_
  refine st (g_len el_23 rfl) rfl ?_
  refine st (g_F rfl rfl rfl (by decide)) rfl ?_
  refine done ?_
  refine th_n ?_
  refine condF rfl ?_
  refine skip ?_
  refine th_n ?_
  refine seq ?_
  refine region ?_
  refine st (g_move rfl) rfl ?_
  refine st (g_slice (l := 4) (h := 12) (m := (c : Nat)) (p' := adv p c 4 1) (n' := 8) (c' := c - 4) el_23 rfl rfl rfl rfl (by simp) (by decide) (by decide) (by omega) (Int.le_refl _) rfl rfl (by omega)) rfl ?_
  refine sq rfl (o_callP Tryd.func86 rfl rfl rfl (fun w hw => f86_spec (adv p c 4 1) 8 (c - 4) (w8 l) (w8_length hl) (by decide) w (by have h0 := ((RdS.ofOld (A := []) hr.s hw .nil).adv (c := c) (k := 4) (s := 1) (fun he => by omega)).take 8; rw [← List.map_drop, ← List.map_take] at h0; exact h0.c)) rfl ?_)
  refine st (g_move rfl) rfl ?_
  refine st (g_extract rfl rfl) rfl ?_
  refine st (g_extract rfl rfl) rfl ?_
  refine st (g_assign rfl) rfl ?_
  refine st (g_assign rfl) rfl ?_
  refine done ?_
  refine th_n ?_
  refine seq ?_
  refine region ?_
  refine st (g_move rfl) rfl ?_
  refine st (g_build rfl (bu_73n _)) rfl ?_
  refine sq rfl (o_alloc (zs := [U64 0#64, .slice none 0 0]) zr_73 rfl (fun b6 => ?_))
  refine sq rfl (o_storeA (cs' := [U64 (wholeW (w8 l)), .slice none 0 0]) sz_73 rfl rfl rfl (by simp [Value.oneCell']) .here (Nat.le_of_ble_eq_true rfl) rfl ?_)
  refine done ?_
  refine th_n ?_
  refine seq ?_
  refine At.up (fun w hw => new0_vec (T := 5) (s := 1) hw ⟨rfl, .inl ⟨rfl, rfl⟩⟩) ?_
  refine regionL ⟨[], [_], [6]⟩ mixed (by decide +kernel) .nil (.cons (.there (.here)) .nil) ?_
  refine An'.q 0 [6] rfl (by decide +kernel) rfl rfl (g_fieldAddr fo_73_1 rfl rfl) rfl ?_
  refine An'.z 1 [6] rfl (by decide +kernel) rfl rfl (g_load (v := .slice none 0 0) sc_23 rfl (Cell.own .here rfl)) rfl ?_
  refine An'.q 2 [6] rfl (by decide +kernel) rfl rfl (g_move rfl) rfl ?_
  refine An'.q 3 [6] rfl (by decide +kernel) rfl rfl (g_slice (l := 12) (h := 36) (m := (c : Nat)) (p' := adv p c 12 1) (n' := 24) (c' := c - 12) el_23 rfl rfl rfl rfl (by simp) (by decide) (by decide) (by omega) (Int.le_refl _) rfl rfl (by omega)) rfl ?_
  refine An'.oneG 4 (by decide +kernel) rfl rfl ?_
  have hrd := (hr.s.adv (c := c) (k := 12) (s := 1) (fun he => by omega)).take 24
  rw [← List.map_drop, ← List.map_take] at hrd
  refine o_append (n := 0) (m := 24) (news := (d24 l).map B8) un_23 zr_5 sz_5 rfl bt_5 (by decide) rfl rfl .here (by rw [List.length_map, d24_length hl]) (RdA.of hrd) oneB8 (fun h => by have := hp (adv_none h); omega) (by decide) (by decide) rfl (fun q1 cap1 hq1 hc1 hq01 => ?_)
  rw [List.nil_append, Nat.zero_add]
  refine An'.on0 .nil (.cons (.there (.here)) .nil) rfl ?_
  refine An'.q 5 [6] rfl (by decide +kernel) rfl rfl (g_fieldAddr fo_73_1 rfl rfl) rfl ?_
  refine An'.oneG 6 (by decide +kernel) rfl rfl ?_
  refine o_store (cs' := [U64 (wholeW (w8 l)), .slice q1 24 cap1]) sz_23 rfl rfl rfl (.there (.here)) (Nat.le_of_ble_eq_true rfl) rfl ?_
  refine An'.onx [6] rfl (by decide +kernel) .nil ?_
  refine An'.fin (by decide +kernel) ?_
  refine th_n ?_
  refine seq ?_
  refine region ?_
  refine st (g_loadA (vs := [U64 (wholeW (w8 l)), .slice q1 24 cap1]) ag_73 rfl rfl (Cells.part .here rfl)) rfl ?_
  refine sq rfl (o_call Tryd.func46 rfl rfl rfl .nil (fun w hw hA => f46_good (wholeW (w8 l)) q1 24 cap1 (d24 l) (d24_length hl) hq01 (by omega) h0 rfl w (RdC.ofVec (hw.get (.there (.here))))) rfl (fun z hz => ?_))
  refine st (g_move rfl) rfl ?_
  refine st (g_extract rfl rfl) rfl ?_
  refine st (g_extract rfl rfl) rfl ?_
  refine st (g_assign rfl) rfl ?_
  refine st (g_assign rfl) rfl ?_
  refine done ?_
  refine th_n ?_
  refine seq ?_
  refine seq ?_
  refine region ?_
  refine st (g_move rfl) rfl ?_
  refine st (g_F rfl rfl rfl (by decide)) rfl ?_
  refine st (g_move rfl) rfl ?_
  refine gt rfl ?_
  refine st (g_move rfl) rfl ?_
  refine gt rfl ?_
  refine st (g_str (l := encW (wholeW (w8 l)) (d24 l)) by_23 str_9 rfl (encW_length _ (d24_length hl)) (RdA.vec .here)) rfl ?_
  refine gt rfl ?_
  refine st (g_move rfl) rfl ?_
  refine gt rfl ?_
  refine st (g_str (l := l) by_23 str_9 rfl hl (RdA.of hr.s)) rfl ?_
  refine gt rfl ?_
  refine st (g_neSF rfl rfl (h1)) rfl ?_
  refine st (g_pickF rfl rfl) rfl ?_
  refine done ?_
  refine th_n ?_
  refine condF rfl ?_
  refine skip ?_
  refine th_n ?_
  refine seq ?_
  refine region ?_
  refine st (g_loadA (vs := [U64 (wholeW (w8 l)), .slice q1 24 cap1]) ag_73 rfl rfl (Cells.part (.there (.here)) rfl)) rfl ?_
  refine sq rfl (o_storeA (cs' := [U64 (wholeW (w8 l)), .slice q1 24 cap1]) sz_73 rfl rfl rfl (by simp [Value.oneCell']) (.there (.there (.there (.here)))) (Nat.le_of_ble_eq_true rfl) rfl ?_)
  refine st (g_assign rfl) rfl ?_
  refine done ?_
  refine th_n ?_
  refine ret ?_
  exact retG rfl (fun a w2 ha hw2 => ⟨resc2 ha rfl rfl rfl ag_73 rfl (hw2.get .here), (q1, cap1), ⟨hq01, by show 24 ≤ cap1; omega⟩, rfl, Sat.left (hw2.split (A := [_]) (.cons (.there (.there (.there (.here)))) .nil))⟩)

theorem f48_none (p : Option Addr) (n c : Nat) (l : List UInt8) (hl : l.length = n) (hp : p = none → c = 0) (hnc : n ≤ c) (hn : n ≤ 1000000000) (w : World) (hr : RdC w p (l.map B8)) (h : decW l = none) : Calls Tryd.prog 48 [.slice p n c].toArray w (fun en w2 => en = .returned (.tuple #[.agg [U64 0#64, .slice none 0 0].toArray, I64 180]) ∧ Sat w [] [] w2) := by
  by_cases h64 : n = 64
  · subst h64
    by_cases h0 : wholeW (w8 l) = 0#64
    · exact f48_zero p c l hl hp hnc w hr h0
    · by_cases h1 : encW (wholeW (w8 l)) (d24 l) = l
      · rw [decW_some hl h0 h1] at h; cases h
      · exact f48_other p c l hl hp hnc w hr h0 h1
  · exact f48_len p n c l hl hp hnc hn w hr h64
theorem f48_some (p : Option Addr) (n c : Nat) (l : List UInt8) (hl : l.length = n) (hp : p = none → c = 0) (hnc : n ≤ c) (hn : n ≤ 1000000000) (w : World) (hr : RdC w p (l.map B8)) (m : BitVec 64) (d : List UInt8) (h : decW l = some (m, d)) : Calls Tryd.prog 48 [.slice p n c].toArray w (fun en w2 => ∃ y : Option Addr × Nat, ((y.1 = none → y.2 = 0) ∧ 24 ≤ y.2) ∧ en = .returned (.tuple #[.agg [U64 m, slv 24 y].toArray, I64 0]) ∧ Sat w (fps []) [vec (slv 24 y) 5 1 24 (d.map B8)] w2) := by
  by_cases hc : l.length = 64 ∧ wholeW (w8 l) ≠ 0#64 ∧ encW (wholeW (w8 l)) (d24 l) = l
  · obtain ⟨h1, h2, h3⟩ := hc
    rw [decW_some h1 h2 h3] at h
    cases h
    have : n = 64 := by omega
    subst this
    exact f48_good p c l hl hp hnc w hr h2 h3
  · rw [decW_none hc] at h; cases h
theorem f48_all (p : Option Addr) (n c : Nat) (l : List UInt8) (hl : l.length = n) (hp : p = none → c = 0) (hnc : n ≤ c) (hn : n ≤ 1000000000) (w : World) (hr : RdC w p (l.map B8)) :
    Calls Tryd.prog 48 [.slice p n c].toArray w (fun en w2 => ∃ y : Option Addr × Nat, ((y.1 = none → y.2 = 0) ∧ (decR l).2.1.length ≤ y.2) ∧ en = .returned (.tuple #[.agg [U64 (decR l).1, slv (decR l).2.1.length y].toArray, I64 (decR l).2.2]) ∧ Sat w (fps []) [vec (slv (decR l).2.1.length y) 5 1 (decR l).2.1.length ((decR l).2.1.map B8)] w2) := by
  cases h : decW l with
  | none =>
    have e : decR l = (0#64, [], 180) := by rw [decR, h]
    rw [e]
    refine (f48_none p n c l hl hp hnc hn w hr h).mono ?_
    rintro en w2 ⟨he, hs⟩
    exact ⟨(none, 0), ⟨fun _ => rfl, Nat.le_refl _⟩, he, new0_vec hs ⟨rfl, .inl ⟨rfl, rfl⟩⟩⟩
  | some x =>
    obtain ⟨m, d⟩ := x
    have e : decR l = (m, d, 0) := by rw [decR, h]
    have hd := decW_len h
    rw [e]
    refine (f48_some p n c l hl hp hnc hn w hr m d h).mono ?_
    rintro en w2 ⟨y, hy, he, hs⟩
    exact ⟨y, ⟨hy.1, by show d.length ≤ y.2; rw [hd]; exact hy.2⟩, by rw [he]; simp only [hd], by simpa only [hd] using hs⟩
end Go.Proofs.YtokhediaibdkjaaDoor

/-! From N3 -/
/- Encode, both; slices, written. (printed by gen1.py) -/
namespace Go.Proofs.YtokhediaibdkjaaDoor
open Go.Pm Go.RowKit
set_option maxRecDepth 100000
/-- A slice's block, to be written; and back. -/
theorem vecOpen {cx : Cx} {e : Env} {Rs B : List Res} {K : Act → World → Prop} {p : Option Addr} {E s n cap : Nat} {xs : List Value} (hk : Pick (vec (.slice p n cap) E s n xs) Rs B) (hn : 0 < n) (h : ∀ b rest, p = some ⟨b, 0, none⟩ → n ≤ cap → cap ≤ maxLen → (xs ++ rest).length = cap * s → xs.length = n * s → At cx e (blk b E (xs ++ rest) :: B) K) : At cx e Rs K := by
  intro a w ha hw
  have hw' := hw.pick hk
  have hv : w.ownsRow 0 E s (.slice p n cap) n xs := hw'.holds (vec (.slice p n cap) E s n xs) (by simp)
  rcases hv.2 with ⟨_, h0⟩ | ⟨g, cap', cur, he, h1, h2, h3, h4, h5, h6⟩
  · omega
  · simp only [Value.slice.injEq, true_and] at he
    obtain ⟨rfl, rfl⟩ := he
    refine h g (cur.toList.drop (n * s)) rfl h3 h4 (by rw [← h6, List.take_append_drop]; simpa using h5) hv.1 a w ha (hw'.upd (R' := blk g E (xs ++ cur.toList.drop (n * s))) rfl rfl rfl rfl rfl (fun _ _ => rfl) ?_)
    show w.heap[g]? = _
    rw [h2, ← h6, List.take_append_drop]
end Go.Proofs.YtokhediaibdkjaaDoor
