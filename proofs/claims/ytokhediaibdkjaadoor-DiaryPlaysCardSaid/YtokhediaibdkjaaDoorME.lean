/- The proof's texts, merged: H1 H2 H3 H4 H5 T1. -/
import Derived.Test.YtokhediaibdkjaaDoorMC
/-! From H1 -/
/- Ref04's right, down; ref03's Prime, First. (printed by gen1.py) -/
namespace Go.Proofs.YtokhediaibdkjaaDoor
open Go.Pm Go.RowKit
set_option maxRecDepth 100000
def rightW (n : Nat) (x : BitVec 32) : BitVec 32 := iter (fun _ x => x / 2#32 + x % 2#32 * 2147483648#32) n x
def downW (n : Nat) (x : BitVec 32) : BitVec 32 := iter (fun _ x => x / 2#32) n x


theorem f63_spec (x : BitVec 32) (n : Nat) (hn : n ≤ 1000) (w : World) : Calls Tryd.prog 63 [U32 x, I64 (n : Nat)].toArray w (fun en w2 => en = .returned (U32 (rightW n x)) ∧ Sat w [] [] w2) := by
  refine enter (n := 18) Tryd.func63 rfl rfl rfl (Sat.refl w) ?_
  refine seq ?_
  refine region ?_
  refine st (g_assign (v := U32 0#32) rfl) rfl ?_
  refine done ?_
  refine th_n ?_
  refine seq ?_
  refine seq ?_
  refine region ?_
  refine st (g_assign rfl) rfl ?_
  refine done ?_
  refine th_n ?_
  refine block ?_
  refine loop (α := Nat) (fun i => i ≤ n) (fun i => [(0, U32 (rightW i x)), (1, I64 (n : Nat)), (5, I64 (i : Nat))]) (fun i => []) (fun i => n - i) 0 (Nat.zero_le _) ⟨rfl, rfl, rfl, trivial⟩ .nil (fun i hI => ?_)
  refine seq ?_
  refine seq ?_
  refine region ?_
  refine st (g_move rfl) rfl ?_
  refine st (g_move rfl) rfl ?_
  refine st (g_bin rfl rfl rfl) rfl ?_
  refine done ?_
  refine th_n ?_
  refine condS rfl (fun h8 => ?_) (fun h8 => ?_)
  · try simp only [decide_eq_true_eq] at h8
    have hi : i < n := by omega
    refine skip ?_
    refine th_n ?_
    refine seq ?_
    refine block ?_
    refine region ?_
    refine st (g_move rfl) rfl ?_
    refine st (g_quo32 (b := 2#32) rfl rfl (by decide)) rfl ?_
    refine st (g_move rfl) rfl ?_
    refine st (g_rem32 (b := 2#32) rfl rfl (by decide)) rfl ?_
    refine st (g_mul32 (b := 2147483648#32) rfl rfl) rfl ?_
    refine st (g_add32 rfl rfl) rfl ?_
    refine st (g_assign rfl) rfl ?_
    refine done ?_
    refine ib_n ?_
    refine th_n ?_
    refine region ?_
    refine st (g_move rfl) rfl ?_
    refine st (g_iadd (c := ((i + 1 : Nat) : Int)) rfl rfl (by omega) (by omega) (by omega)) rfl ?_
    refine st (g_assign rfl) rfl ?_
    refine done ?_
    refine th_n ?_
    exact again (i + 1) (by omega) (by omega) ⟨rfl, rfl, rfl, trivial⟩ .nil
  · try simp only [decide_eq_false_iff_not] at h8
    have hie : i = n := by omega
    subst hie
    refine exitc ?_
    refine th_x ?_
    refine th_x ?_
    refine ib_x ?_
    refine th_n ?_
    refine seq ?_
    refine region ?_
    refine st (g_move rfl) rfl ?_
    refine st (g_assign rfl) rfl ?_
    refine done ?_
    refine th_n ?_
    refine ret ?_
    exact ret1 rfl rfl rfl (fun w2 hw2 => ⟨rfl, hw2⟩)

theorem f64_spec (x : BitVec 32) (n : Nat) (hn : n ≤ 1000) (w : World) : Calls Tryd.prog 64 [U32 x, I64 (n : Nat)].toArray w (fun en w2 => en = .returned (U32 (downW n x)) ∧ Sat w [] [] w2) := by
  refine enter (n := 14) Tryd.func64 rfl rfl rfl (Sat.refl w) ?_
  refine seq ?_
  refine region ?_
  refine st (g_assign (v := U32 0#32) rfl) rfl ?_
  refine done ?_
  refine th_n ?_
  refine seq ?_
  refine seq ?_
  refine region ?_
  refine st (g_assign rfl) rfl ?_
  refine done ?_
  refine th_n ?_
  refine block ?_
  refine loop (α := Nat) (fun i => i ≤ n) (fun i => [(0, U32 (downW i x)), (1, I64 (n : Nat)), (5, I64 (i : Nat))]) (fun i => []) (fun i => n - i) 0 (Nat.zero_le _) ⟨rfl, rfl, rfl, trivial⟩ .nil (fun i hI => ?_)
  refine seq ?_
  refine seq ?_
  refine region ?_
  refine st (g_move rfl) rfl ?_
  refine st (g_move rfl) rfl ?_
  refine st (g_bin rfl rfl rfl) rfl ?_
  refine done ?_
  refine th_n ?_
  refine condS rfl (fun h8 => ?_) (fun h8 => ?_)
  · try simp only [decide_eq_true_eq] at h8
    have hi : i < n := by omega
    refine skip ?_
    refine th_n ?_
    refine seq ?_
    refine block ?_
    refine region ?_
    refine st (g_move rfl) rfl ?_
    refine st (g_quo32 (b := 2#32) rfl rfl (by decide)) rfl ?_
    refine st (g_assign rfl) rfl ?_
    refine done ?_
    refine ib_n ?_
    refine th_n ?_
    refine region ?_
    refine st (g_move rfl) rfl ?_
    refine st (g_iadd (c := ((i + 1 : Nat) : Int)) rfl rfl (by omega) (by omega) (by omega)) rfl ?_
    refine st (g_assign rfl) rfl ?_
    refine done ?_
    refine th_n ?_
    exact again (i + 1) (by omega) (by omega) ⟨rfl, rfl, rfl, trivial⟩ .nil
  · try simp only [decide_eq_false_iff_not] at h8
    have hie : i = n := by omega
    subst hie
    refine exitc ?_
    refine th_x ?_
    refine th_x ?_
    refine ib_x ?_
    refine th_n ?_
    refine seq ?_
    refine region ?_
    refine st (g_move rfl) rfl ?_
    refine st (g_assign rfl) rfl ?_
    refine done ?_
    refine th_n ?_
    refine ret ?_
    exact ret1 rfl rfl rfl (fun w2 hw2 => ⟨rfl, hw2⟩)

/-- Does nothing divide it? -/
def isP (n : Nat) : Bool := decide (2 ≤ n) && (List.range n).all fun d => decide (d < 2) || decide (n < d * d) || decide (n % d ≠ 0)
theorem isP_no {n d : Nat} (h2 : 2 ≤ d) (hd : d * d ≤ n) (hm : n % d = 0) : isP n = false := by
  unfold isP
  rw [Bool.and_eq_false_iff]
  right
  rw [List.all_eq_false]
  have hdn : d < n := by
    rcases Nat.lt_or_ge d n with h | h
    · exact h
    · have h1 : d * 2 ≤ d * d := Nat.mul_le_mul_left d h2
      omega
  exact ⟨d, List.mem_range.2 hdn, by simp; omega⟩
theorem isP_yes {n d : Nat} (h2 : 2 ≤ n) (hd : n < d * d) (hall : ∀ j, 2 ≤ j → j < d → n % j ≠ 0) : isP n = true := by
  unfold isP
  rw [Bool.and_eq_true]
  refine ⟨decide_eq_true h2, List.all_eq_true.2 fun j _ => ?_⟩
  by_cases h : j < 2
  · simp [h]
  · by_cases h3 : n < j * j
    · simp [h3]
    · have hjd : j < d := by
        rcases Nat.lt_or_ge j d with h4 | h4
        · exact h4
        · have := Nat.mul_le_mul h4 h4; omega
      have := hall j (by omega) hjd
      simp [this]


theorem f91_spec (n : Nat) (h2 : 2 ≤ n) (hn : n ≤ 1000) (w : World) : Calls Tryd.prog 91 [I64 (n : Nat)].toArray w (fun en w2 => en = .returned (.bool (isP n)) ∧ Sat w [] [] w2) := by
  refine enter (n := 17) Tryd.func91 rfl rfl rfl (Sat.refl w) ?_
  refine seq ?_
  refine region ?_
  refine st (g_assign rfl) rfl ?_
  refine done ?_
  refine th_n ?_
  refine seq ?_
  refine seq ?_
  refine region ?_
  refine st (g_move rfl) rfl ?_
  refine st (g_F rfl rfl rfl (by omega)) rfl ?_
  refine done ?_
  refine th_n ?_
  refine condF rfl ?_
  refine skip ?_
  refine th_n ?_
  refine seq ?_
  refine seq ?_
  refine region ?_
  refine st (g_assign rfl) rfl ?_
  refine done ?_
  refine th_n ?_
  refine block ?_
  refine loop (α := Nat) (fun d => 2 ≤ d ∧ d ≤ n + 1 ∧ ∀ j, 2 ≤ j → j < d → n % j ≠ 0) (fun d => [(0, I64 (n : Nat)), (3, I64 (d : Nat))]) (fun d => []) (fun d => n + 1 - d) 2 ⟨Nat.le_refl _, by omega, fun j a b => by omega⟩ ⟨rfl, rfl, trivial⟩ .nil (fun d ⟨hd2, hdn, hall⟩ => ?_)
  have hdd : d * d ≤ 1001 * 1001 := Nat.mul_le_mul (by omega) (by omega)
  refine seq ?_
  refine seq ?_
  refine region ?_
  refine st (g_move rfl) rfl ?_
  refine st (g_move rfl) rfl ?_
  refine st (g_imul (c := ((d * d : Nat) : Int)) rfl rfl (by simp) (by omega) (by omega)) rfl ?_
  refine st (g_move rfl) rfl ?_
  refine st (g_bin rfl rfl rfl) rfl ?_
  refine done ?_
  refine th_n ?_
  refine condS rfl (fun h10 => ?_) (fun h10 => ?_)
  · try simp only [decide_eq_true_eq] at h10
    have hle : d * d ≤ n := by omega
    have hdn2 : d ≤ n := by
      have := Nat.mul_le_mul_left d hd2
      omega
    refine skip ?_
    refine th_n ?_
    refine seq ?_
    refine block ?_
    refine seq ?_
    refine region ?_
    refine st (g_move rfl) rfl ?_
    refine st (g_move rfl) rfl ?_
    refine st (g_irem (c := ((n % d : Nat) : Int)) rfl rfl (by omega) (by omega) (by simp)) rfl ?_
    refine st (g_bin rfl rfl rfl) rfl ?_
    refine done ?_
    refine th_n ?_
    refine condS rfl (fun h16 => ?_) (fun h16 => ?_)
    · try simp only [decide_eq_true_eq] at h16
      have hP := isP_no hd2 hle (by omega)
      refine seq ?_
      refine region ?_
      refine st (g_assign rfl) rfl ?_
      refine done ?_
      refine th_n ?_
      refine ret ?_
      refine ib_r ?_
      refine th_r ?_
      refine th_r ?_
      refine ib_r ?_
      refine th_r ?_
      exact ret1 rfl rfl rfl (fun w2 hw2 => ⟨by rw [hP], hw2⟩)
    · try simp only [decide_eq_false_iff_not] at h16
      have hnx : ∀ j, 2 ≤ j → j < d + 1 → n % j ≠ 0 := fun j a b => by
        rcases Nat.lt_or_ge j d with h | h
        · exact hall j a h
        · rw [show j = d by omega]; omega
      refine skip ?_
      refine ib_n ?_
      refine th_n ?_
      refine region ?_
      refine st (g_move rfl) rfl ?_
      refine st (g_iadd (c := ((d + 1 : Nat) : Int)) rfl rfl (by omega) (by omega) (by omega)) rfl ?_
      refine st (g_assign rfl) rfl ?_
      refine done ?_
      refine th_n ?_
      exact again (d + 1) ⟨by omega, by omega, hnx⟩ (by omega) ⟨rfl, rfl, trivial⟩ .nil
  · try simp only [decide_eq_false_iff_not] at h10
    have hP := isP_yes h2 (d := d) (by omega) hall
    refine exitc ?_
    refine th_x ?_
    refine th_x ?_
    refine ib_x ?_
    refine th_n ?_
    refine seq ?_
    refine region ?_
    refine st (g_assign rfl) rfl ?_
    refine done ?_
    refine th_n ?_
    refine ret ?_
    exact ret1 rfl rfl rfl (fun w2 hw2 => ⟨by rw [hP], hw2⟩)

theorem bt_3 : (Tryd.prog.info? 3).map (·.bytes) = some 8 := by kernel_rfl
/-- The primes below a number. -/
def pB (k : Nat) : List Nat := (List.range k).filter isP
theorem pB_succ (k : Nat) : pB (k + 1) = if isP k = true then pB k ++ [k] else pB k := by
  unfold pB
  rw [List.range_succ, List.filter_append]
  by_cases h : isP k = true
  · rw [if_pos h]; simp [h]
  · rw [if_neg h]; simp [h]
def p64 : List Nat := pB 312
theorem p64_length : p64.length = 64 := by decide +kernel
theorem pB_mono (k : Nat) : ∀ j, ∃ l, pB (k + j) = pB k ++ l
  | 0 => ⟨[], by simp⟩
  | j + 1 => by
    obtain ⟨l, hl⟩ := pB_mono k j
    rw [← Nat.add_assoc, pB_succ, hl]
    split
    · exact ⟨l ++ [k + j], by rw [List.append_assoc]⟩
    · exact ⟨l, rfl⟩
theorem pB_all {k : Nat} (hk : k ≤ 312) : (pB k).length ≤ 64 ∧ ((pB k).length = 64 → pB k = p64) := by
  obtain ⟨l, hl⟩ := pB_mono k (312 - k)
  rw [show k + (312 - k) = 312 by omega] at hl
  have h1 : p64 = pB k ++ l := hl
  have h2 := congrArg List.length h1
  rw [p64_length, List.length_append] at h2
  refine ⟨by omega, fun h => ?_⟩
  have : l = [] := List.eq_nil_of_length_eq_zero (by omega)
  rw [h1, this, List.append_nil]


theorem f60_spec (w : World) : Calls Tryd.prog 60 [I64 64].toArray w (fun en w2 => ∃ x : Option Addr × Nat, (x.1 = none → x.2 = 0) ∧ en = .returned (.tuple #[slv 64 x, I64 0]) ∧ Sat w (fps []) [vec (slv 64 x) 3 1 64 (p64.map fun p : Nat => I64 (p : Int))] w2) := by
  refine enter (n := 27) Tryd.func60 rfl rfl rfl (Sat.refl w) ?_
  refine seq ?_
  refine region ?_
  refine st (g_assign rfl) rfl ?_
  refine st (g_assign rfl) rfl ?_
  refine done ?_
  refine th_n ?_
  refine seq ?_
  refine seq ?_
  refine region ?_
  refine st (g_move rfl) rfl ?_
  refine st (g_F rfl rfl rfl (by decide)) rfl ?_
  refine st (g_move rfl) rfl ?_
  refine gt rfl ?_
  refine st (g_move rfl) rfl ?_
  refine gt rfl ?_
  refine st (g_F rfl rfl rfl (by decide)) rfl ?_
  refine st (g_pickF rfl rfl) rfl ?_
  refine done ?_
  refine th_n ?_
  refine condF rfl ?_
  refine skip ?_
  refine th_n ?_
  refine seq ?_
  refine region ?_
  refine st (g_assign rfl) rfl ?_
  refine done ?_
  refine th_n ?_
  refine seq ?_
  refine seq ?_
  refine At.up (fun w hw => new0_vec (T := 3) (s := 1) hw ⟨rfl, .inl ⟨rfl, rfl⟩⟩) ?_
  refine region ?_
  refine st (g_assign rfl) rfl ?_
  refine done ?_
  refine th_n ?_
  refine block ?_
  refine loop (α := Nat × (Option Addr × Nat)) (fun ⟨k, y⟩ => 2 ≤ k ∧ k ≤ 312 ∧ (y.1 = none → y.2 = 0)) (fun ⟨k, y⟩ => [(0, I64 64), (4, slv (pB k).length y), (5, I64 (k : Nat))]) (fun ⟨k, y⟩ => [vec (slv (pB k).length y) 3 1 (pB k).length ((pB k).map fun p : Nat => I64 (p : Int))]) (fun ⟨k, y⟩ => 312 - k) (2, (none, 0)) ⟨Nat.le_refl _, by decide, fun _ => rfl⟩ ⟨rfl, rfl, rfl, trivial⟩ (.cons .here .nil) (fun ⟨k, y⟩ ⟨hk2, hk, hy⟩ => ?_)
  show At _ [(0, I64 64), (4, slv (pB k).length y), (5, I64 (k : Nat))] [vec (slv (pB k).length y) 3 1 (pB k).length ((pB k).map fun p : Nat => I64 (p : Int))] _
  obtain ⟨hpl, hpe⟩ := pB_all hk
  refine seq ?_
  refine seq ?_
  refine region ?_
  refine st (g_move rfl) rfl ?_
  refine st (g_len el_115 rfl) rfl ?_
  refine st (g_move rfl) rfl ?_
  refine st (g_bin rfl rfl rfl) rfl ?_
  refine done ?_
  refine th_n ?_
  refine condS rfl (fun h16 => ?_) (fun h16 => ?_)
  · try simp only [decide_eq_true_eq] at h16
    have hk3 : k < 312 := by
      rcases Nat.lt_or_ge k 312 with h | h
      · exact h
      · have : k = 312 := by omega
        subst this
        have : (pB 312).length = 64 := p64_length
        omega
    refine skip ?_
    refine th_n ?_
    refine seq ?_
    refine block ?_
    refine seq ?_
    refine region ?_
    refine st (g_move rfl) rfl ?_
    refine sq rfl (o_callP Tryd.func91 rfl rfl rfl (fun w hw => f91_spec k hk2 (by omega) w) rfl ?_)
    refine st (g_assign rfl) rfl ?_
    refine done ?_
    refine th_n ?_
    refine seq ?_
    refine region ?_
    refine st (g_move rfl) rfl ?_
    refine done ?_
    refine th_n ?_
    refine condS rfl (fun h21 => ?_) (fun h21 => ?_)
    · try simp only [decide_eq_true_eq] at h21
      have hs : pB (k + 1) = pB k ++ [k] := by rw [pB_succ, if_pos h21]
      have hs1 : (pB k).length + 1 = (pB (k + 1)).length := by rw [hs]; simp
      have hs2 : (pB k).map (fun p : Nat => I64 (p : Int)) ++ [I64 (k : Nat)] = (pB (k + 1)).map (fun p : Nat => I64 (p : Int)) := by rw [hs]; simp
      refine region ?_
      refine st (g_move rfl) rfl ?_
      refine st (g_move rfl) rfl ?_
      refine sq rfl (o_buildSlice1 (vs := [I64 (k : Nat)]) un_115 zr_3 sz_3 (by decide) (by decide) rfl rfl rfl (by simp [Value.oneCell']) rfl (fun b24 => ?_))
      refine sq rfl (o_append (n := (pB k).length) (m := 1) (news := [I64 (k : Nat)]) un_115 zr_3 sz_3 rfl bt_3 (by decide) rfl rfl (.there (.here)) rfl (RdA.own .here (by simp)) (by simp [Value.oneCell']) (by simp) (by simp only [maxLen]; omega) (by omega) rfl (fun q cap hq hc hq0 => ?_))
      rw [hs1, hs2]
      refine st (g_assign rfl) rfl ?_
      refine done ?_
      refine ib_n ?_
      refine th_n ?_
      refine region ?_
      refine st (g_move rfl) rfl ?_
      refine st (g_iadd (c := ((k + 1 : Nat) : Int)) rfl rfl (by omega) (by omega) (by omega)) rfl ?_
      refine st (g_assign rfl) rfl ?_
      refine done ?_
      refine th_n ?_
      exact again (k + 1, (q, cap)) ⟨by omega, by omega, hq0⟩ (by show 312 - (k + 1) < 312 - k; omega) ⟨rfl, rfl, rfl, trivial⟩ (.cons .here .nil)
    · try simp only [decide_eq_false_iff_not] at h21
      have hs : pB (k + 1) = pB k := by rw [pB_succ, if_neg (by rw [h21]; decide)]
      rw [← hs]
      refine skip ?_
      refine ib_n ?_
      refine th_n ?_
      refine region ?_
      refine st (g_move rfl) rfl ?_
      refine st (g_iadd (c := ((k + 1 : Nat) : Int)) rfl rfl (by omega) (by omega) (by omega)) rfl ?_
      refine st (g_assign rfl) rfl ?_
      refine done ?_
      refine th_n ?_
      exact again (k + 1, y) ⟨by omega, by omega, hy⟩ (by show 312 - (k + 1) < 312 - k; omega) ⟨rfl, rfl, rfl, trivial⟩ (.cons .here .nil)
  · try simp only [decide_eq_false_iff_not] at h16
    have hfin := hpe (by omega)
    have hlen : (pB k).length = 64 := by omega
    refine exitc ?_
    refine th_x ?_
    refine th_x ?_
    refine ib_x ?_
    refine th_n ?_
    refine seq ?_
    refine region ?_
    refine st (g_move rfl) rfl ?_
    refine st (g_assign rfl) rfl ?_
    refine st (g_assign rfl) rfl ?_
    refine done ?_
    refine th_n ?_
    refine ret ?_
    exact ret2 rfl rfl rfl rfl (fun w2 hw2 => ⟨y, hy, by rw [hlen], by rw [hlen, hfin] at hw2; exact hw2⟩)
end Go.Proofs.YtokhediaibdkjaaDoor

/-! From H2 -/
/- Ref04's with, product, more. (printed by gen1.py) -/
namespace Go.Proofs.YtokhediaibdkjaaDoor
open Go.Pm Go.RowKit
set_option maxRecDepth 100000
abbrev Wd := List (BitVec 64)
def z8 : Wd := List.replicate 8 0#64
theorem get_U64 {ws : Wd} {j k : Nat} (hk : k = j) (h : j < ws.length) : (ws.map U64)[k]? = some (U64 (ws.getD j 0#64)) := by subst hk; simp [h]
theorem oneU64 {ws : Wd} : ∀ v ∈ ws.map U64, v.oneCell' = true := by intro v hv; obtain ⟨x, _, rfl⟩ := List.mem_map.1 hv; rfl
theorem setR_whole {cs vs : List Value} (h : cs.length = vs.length) : setR cs 0 vs = vs := by
  unfold setR; rw [List.take_zero, Nat.zero_add, List.drop_of_length_le (by omega)]; simp
def twos (i : Nat) : BitVec 64 := iter (fun _ x => 2#64 * x) i 1#64
def withW (a : Wd) (bit : Nat) : Wd := a.set (bit / 32) (a.getD (bit / 32) 0#64 + twos (bit % 32))
theorem withW_length {a : Wd} (h : a.length = 8) (bit : Nat) : (withW a bit).length = 8 := by rw [withW, List.length_set, h]
def pStep (a b : Wd) (i k : Nat) (s : Wd × BitVec 64) : Wd × BitVec 64 :=
  (s.1.set (i + k) ((s.1.getD (i + k) 0#64 + a.getD i 0#64 * b.getD k 0#64 + s.2) % 4294967296#64), (s.1.getD (i + k) 0#64 + a.getD i 0#64 * b.getD k 0#64 + s.2) / 4294967296#64)
def rowW (a b : Wd) (i : Nat) (out : Wd) (k : Nat) : Wd × BitVec 64 := iter (pStep a b i) k (out, 0#64)
def oW (a b : Wd) (i : Nat) : Wd := iter (fun i out => (rowW a b i out (8 - i)).1) i z8
def productW (a b : Wd) : Wd := oW a b 8
theorem rowW_length (a b : Wd) (i : Nat) {out : Wd} (h : out.length = 8) (k : Nat) : (rowW a b i out k).1.length = 8 :=
  iter_inv (I := fun s : Wd × BitVec 64 => s.1.length = 8) (fun n s hs => by show (s.1.set _ _).length = 8; rw [List.length_set, hs]) k _ h
theorem oW_length (a b : Wd) (i : Nat) : (oW a b i).length = 8 :=
  iter_inv (I := fun s : Wd => s.length = 8) (fun n _s hs => rowW_length a b n hs _) i _ rfl
def moreG (a b : Wd) : Nat → Bool
  | 0 => false
  | j + 1 => if a.getD j 0#64 = b.getD j 0#64 then moreG a b j else decide ((a.getD j 0#64).toNat > ((b.getD j 0#64).toNat : Int))
def moreW (a b : Wd) : Bool := moreG a b 8
theorem z8_length : z8.length = 8 := rfl


theorem f92_spec (a : Wd) (ha : a.length = 8) (bit : Nat) (hb : bit < 256) (w : World) : Calls Tryd.prog 92 [.agg ((a).map U64).toArray, I64 (bit : Nat)].toArray w (fun en w2 => en = .returned (.agg ((withW a bit).map U64).toArray) ∧ Sat w [] [] w2) := by
  refine enter (n := 25) Tryd.func92 rfl rfl rfl (Sat.refl w) ?_
  refine seq ?_
  refine region ?_
  refine sq rfl (o_box (cs := a.map U64) rfl rfl rfl (fun b2 => ?_))
  refine sq rfl (o_alloc (zs := (z8.map U64)) zr_158 rfl (fun b4 => ?_))
  refine done ?_
  refine th_n ?_
  refine seq ?_
  refine region ?_
  refine st (g_assign (v := U64 1#64) rfl) rfl ?_
  refine done ?_
  refine th_n ?_
  refine seq ?_
  refine seq ?_
  refine region ?_
  refine st (g_assign rfl) rfl ?_
  refine done ?_
  refine th_n ?_
  refine block ?_
  refine loop (α := Nat) (fun i => i ≤ bit % 32) (fun i => [(1, I64 (bit : Nat)), (2, .pointer (some ⟨b2, 0, none⟩)), (4, .pointer (some ⟨b4, 0, none⟩)), (5, U64 (twos i)), (6, I64 (i : Nat))]) (fun i => [blk b2 158 ((a).map U64), blk b4 158 ((z8).map U64)]) (fun i => bit % 32 - i) 0 (Nat.zero_le _) ⟨rfl, rfl, rfl, rfl, rfl, trivial⟩ (.cons (.there (.here)) (.cons .here .nil)) (fun i hI => ?_)
  refine seq ?_
  refine seq ?_
  refine region ?_
  refine st (g_move rfl) rfl ?_
  refine st (g_move rfl) rfl ?_
  refine st (g_irem (c := ((bit % 32 : Nat) : Int)) rfl rfl (by omega) (by omega) (by omega)) rfl ?_
  refine st (g_bin rfl rfl rfl) rfl ?_
  refine done ?_
  refine th_n ?_
  refine condS rfl (fun h10 => ?_) (fun h10 => ?_)
  · try simp only [decide_eq_true_eq] at h10
    refine skip ?_
    refine th_n ?_
    refine seq ?_
    refine block ?_
    refine region ?_
    refine st (g_move rfl) rfl ?_
    refine st (g_mul64 (a := 2#64) rfl rfl) rfl ?_
    refine st (g_assign rfl) rfl ?_
    refine done ?_
    refine ib_n ?_
    refine th_n ?_
    refine region ?_
    refine st (g_move rfl) rfl ?_
    refine st (g_iadd (c := ((i + 1 : Nat) : Int)) rfl rfl (by omega) (by omega) (by omega)) rfl ?_
    refine st (g_assign rfl) rfl ?_
    refine done ?_
    refine th_n ?_
    exact again (i + 1) (by omega) (by omega) ⟨rfl, rfl, rfl, rfl, rfl, trivial⟩ (.cons .here (.cons .here .nil))
  · try simp only [decide_eq_false_iff_not] at h10
    have hie : i = bit % 32 := by omega
    subst hie
    refine exitc ?_
    refine th_x ?_
    refine th_x ?_
    refine ib_x ?_
    refine th_n ?_
    refine seq ?_
    refine region ?_
    refine st (g_move rfl) rfl ?_
    refine st (g_iquo (c := ((bit / 32 : Nat) : Int)) rfl rfl (by omega) (by omega) (by omega) (by omega)) rfl ?_
    refine st (g_move rfl) rfl ?_
    refine st (g_iquo (c := ((bit / 32 : Nat) : Int)) rfl rfl (by omega) (by omega) (by omega) (by omega)) rfl ?_
    refine st (g_indexA (m := bit / 32) ar_158 rfl rfl (by omega) (by omega) (by omega)) rfl ?_
    refine st (g_load (v := U64 ((a).getD (bit / 32) 0#64)) sc_34 rfl (Cell.own .here (get_U64 (ws := a) (j := bit / 32) (by omega) (by omega)))) rfl ?_
    refine st (g_move rfl) rfl ?_
    refine st (g_add64 rfl rfl) rfl ?_
    refine st (g_indexA (m := bit / 32) ar_158 rfl rfl (by omega) (by omega) (by omega)) rfl ?_
    refine sq rfl (o_store (cs' := (withW a bit).map U64) sz_34 rfl rfl rfl .here (by rw [List.length_map]; omega) (by rw [withW, List.map_set]) ?_)
    refine done ?_
    refine th_n ?_
    refine seq ?_
    refine region ?_
    refine st (g_loadA (vs := (withW a bit).map U64) ag_158 rfl (by rw [List.length_map, withW_length ha]) (Cells.part .here List.take_length)) rfl ?_
    refine sq rfl (o_storeA (cs' := (withW a bit).map U64) sz_158 rfl rfl (by rw [List.length_map, withW_length ha]) oneU64 (.there (.here)) (by simp only [List.length_map]; first | (rw [z8_length]; exact Nat.le_refl _) | omega) (setR_whole (by simp only [List.length_map]; first | rw [z8_length, withW_length ha] | omega)) ?_)
    refine done ?_
    refine th_n ?_
    refine ret ?_
    exact retG (vf := fun _ _ => .agg ((withW a bit).map U64).toArray) rfl (fun a2 w2 ha2 hw2 => ⟨resc1 ha2 rfl rfl ag_158 (by rw [List.length_map, withW_length ha]) (hw2.get .here), rfl, hw2.clear⟩)

theorem f93_spec (a b : Wd) (ha : a.length = 8) (hb : b.length = 8) (w : World) : Calls Tryd.prog 93 [.agg ((a).map U64).toArray, .agg ((b).map U64).toArray].toArray w (fun en w2 => en = .returned (.agg ((productW a b).map U64).toArray) ∧ Sat w [] [] w2) := by
  refine enter (n := 44) Tryd.func93 rfl rfl rfl (Sat.refl w) ?_
  refine seq ?_
  refine region ?_
  refine sq rfl (o_box (cs := a.map U64) rfl rfl rfl (fun b2 => ?_))
  refine sq rfl (o_box (cs := b.map U64) rfl rfl rfl (fun b3 => ?_))
  refine sq rfl (o_alloc (zs := (z8.map U64)) zr_158 rfl (fun b4 => ?_))
  refine done ?_
  refine th_n ?_
  refine seq ?_
  refine region ?_
  refine sq rfl (o_alloc (zs := (z8.map U64)) zr_158 rfl (fun b5 => ?_))
  refine done ?_
  refine th_n ?_
  refine seq ?_
  refine seq ?_
  refine region ?_
  refine st (g_assign rfl) rfl ?_
  refine done ?_
  refine th_n ?_
  refine block ?_
  refine loop (α := Nat) (fun i => i ≤ 8) (fun i => [(2, .pointer (some ⟨b2, 0, none⟩)), (3, .pointer (some ⟨b3, 0, none⟩)), (4, .pointer (some ⟨b4, 0, none⟩)), (5, .pointer (some ⟨b5, 0, none⟩)), (6, I64 (i : Nat))]) (fun i => [blk b2 158 ((a).map U64), blk b3 158 ((b).map U64), blk b4 158 ((z8).map U64), blk b5 158 ((oW a b i).map U64)]) (fun i => 8 - i) 0 (Nat.zero_le _) ⟨rfl, rfl, rfl, rfl, rfl, trivial⟩ (.cons (.there (.there (.there (.here)))) (.cons (.there (.there (.here))) (.cons (.there (.here)) (.cons .here .nil)))) (fun i hI => ?_)
  refine seq ?_
  refine seq ?_
  refine region ?_
  refine st (g_move rfl) rfl ?_
  refine st (g_bin rfl rfl rfl) rfl ?_
  refine done ?_
  refine th_n ?_
  refine condS rfl (fun h11 => ?_) (fun h11 => ?_)
  · try simp only [decide_eq_true_eq] at h11
    have hi : i < 8 := by omega
    refine skip ?_
    refine th_n ?_
    refine seq ?_
    refine block ?_
    refine seq ?_
    refine region ?_
    refine st (g_assign (v := U64 0#64) rfl) rfl ?_
    refine done ?_
    refine th_n ?_
    refine seq ?_
    refine region ?_
    refine st (g_assign rfl) rfl ?_
    refine done ?_
    refine th_n ?_
    refine block ?_
    refine loop (α := Nat) (fun k => i + k ≤ 8) (fun k => [(2, .pointer (some ⟨b2, 0, none⟩)), (3, .pointer (some ⟨b3, 0, none⟩)), (4, .pointer (some ⟨b4, 0, none⟩)), (5, .pointer (some ⟨b5, 0, none⟩)), (6, I64 (i : Nat)), (7, U64 (rowW a b i (oW a b i) (k)).2), (8, I64 (k : Nat))]) (fun k => [blk b2 158 ((a).map U64), blk b3 158 ((b).map U64), blk b4 158 ((z8).map U64), blk b5 158 (((rowW a b i (oW a b i) (k)).1).map U64)]) (fun k => 8 - i - k) 0 (by omega) ⟨rfl, rfl, rfl, rfl, rfl, rfl, rfl, trivial⟩ (.cons .here (.cons .here (.cons .here (.cons .here .nil)))) (fun k hk => ?_)
    have hrl := rowW_length a b i (oW_length a b i) k
    refine seq ?_
    refine seq ?_
    refine region ?_
    refine st (g_move rfl) rfl ?_
    refine st (g_move rfl) rfl ?_
    refine st (g_iadd (c := ((i + k : Nat) : Int)) rfl rfl (by omega) (by omega) (by omega)) rfl ?_
    refine st (g_bin rfl rfl rfl) rfl ?_
    refine done ?_
    refine th_n ?_
    refine condS rfl (fun h17 => ?_) (fun h17 => ?_)
    · try simp only [decide_eq_true_eq] at h17
      have hik : i + k < 8 := by omega
      refine skip ?_
      refine th_n ?_
      refine seq ?_
      refine block ?_
      refine seq ?_
      refine regionQ mixed (by decide +kernel) (by decide +kernel) ?_
      refine Dr.st (g_move rfl) rfl ?_
      refine Dr.st (g_move rfl) rfl ?_
      refine Dr.st (g_iadd (c := ((i + k : Nat) : Int)) rfl rfl (by omega) (by omega) (by omega)) rfl ?_
      refine Dr.st (g_indexA (m := i + k) ar_158 rfl rfl (by omega) (by omega) (by omega)) rfl ?_
      refine Dr.st (g_load (v := U64 (((rowW a b i (oW a b i) (k)).1).getD (i + k) 0#64)) sc_34 rfl (Cell.own (.there (.there (.there (.here)))) (get_U64 (ws := (rowW a b i (oW a b i) (k)).1) (j := i + k) (by omega) (by omega)))) rfl ?_
      refine Dr.st (g_move rfl) rfl ?_
      refine Dr.st (g_indexA (m := i) ar_158 rfl rfl (by omega) (by omega) (by omega)) rfl ?_
      refine Dr.st (g_load (v := U64 ((a).getD (i) 0#64)) sc_34 rfl (Cell.own .here (get_U64 (ws := a) (j := i) (by omega) (by omega)))) rfl ?_
      refine Dr.st (g_move rfl) rfl ?_
      refine Dr.st (g_indexA (m := k) ar_158 rfl rfl (by omega) (by omega) (by omega)) rfl ?_
      refine Dr.st (g_load (v := U64 ((b).getD (k) 0#64)) sc_34 rfl (Cell.own (.there (.here)) (get_U64 (ws := b) (j := k) (by omega) (by omega)))) rfl ?_
      refine Dr.st (g_mul64 rfl rfl) rfl ?_
      refine Dr.st (g_add64 rfl rfl) rfl ?_
      refine Dr.st (g_move rfl) rfl ?_
      refine Dr.st (g_add64 rfl rfl) rfl ?_
      refine Dr.st (g_assign rfl) rfl ?_
      refine Dr.nil ?_
      refine th_n ?_
      refine seq ?_
      refine region ?_
      refine st (g_move rfl) rfl ?_
      refine st (g_move rfl) rfl ?_
      refine st (g_iadd (c := ((i + k : Nat) : Int)) rfl rfl (by omega) (by omega) (by omega)) rfl ?_
      refine st (g_move rfl) rfl ?_
      refine st (g_rem64 (b := 4294967296#64) rfl rfl (by decide)) rfl ?_
      refine st (g_indexA (m := i + k) ar_158 rfl rfl (by omega) (by omega) (by omega)) rfl ?_
      refine sq rfl (o_store (cs' := (rowW a b i (oW a b i) (k + 1)).1.map U64) sz_34 rfl rfl rfl (.there (.there (.there (.here)))) (by rw [List.length_map]; omega) (by show _ = ((pStep a b i k (rowW a b i (oW a b i) (k))).1).map U64; rw [pStep, List.map_set]) ?_)
      refine done ?_
      refine th_n ?_
      refine region ?_
      refine st (g_move rfl) rfl ?_
      refine st (g_quo64 (b := 4294967296#64) rfl rfl (by decide)) rfl ?_
      refine st (g_assign rfl) rfl ?_
      refine done ?_
      refine ib_n ?_
      refine th_n ?_
      refine region ?_
      refine st (g_move rfl) rfl ?_
      refine st (g_iadd (c := ((k + 1 : Nat) : Int)) rfl rfl (by omega) (by omega) (by omega)) rfl ?_
      refine st (g_assign rfl) rfl ?_
      refine done ?_
      refine th_n ?_
      exact again (k + 1) (by omega) (by omega) ⟨rfl, rfl, rfl, rfl, rfl, rfl, rfl, trivial⟩ (.cons (.there (.here)) (.cons (.there (.here)) (.cons (.there (.here)) (.cons .here .nil))))
    · try simp only [decide_eq_false_iff_not] at h17
      have hke : k = 8 - i := by omega
      subst hke
      refine exitc ?_
      refine th_x ?_
      refine th_x ?_
      refine ib_x ?_
      refine ib_n ?_
      refine th_n ?_
      refine region ?_
      refine st (g_move rfl) rfl ?_
      refine st (g_iadd (c := ((i + 1 : Nat) : Int)) rfl rfl (by omega) (by omega) (by omega)) rfl ?_
      refine st (g_assign rfl) rfl ?_
      refine done ?_
      refine th_n ?_
      exact again (i + 1) (by omega) (by omega) ⟨rfl, rfl, rfl, rfl, rfl, trivial⟩ (.cons .here (.cons .here (.cons .here (.cons .here .nil))))
  · try simp only [decide_eq_false_iff_not] at h11
    have hie : i = 8 := by omega
    subst hie
    refine exitc ?_
    refine th_x ?_
    refine th_x ?_
    refine ib_x ?_
    refine th_n ?_
    refine seq ?_
    refine region ?_
    refine st (g_loadA (vs := (oW a b 8).map U64) ag_158 rfl (by rw [List.length_map, oW_length a b 8]) (Cells.part (.there (.there (.there (.here)))) List.take_length)) rfl ?_
    refine sq rfl (o_storeA (cs' := (oW a b 8).map U64) sz_158 rfl rfl (by rw [List.length_map, oW_length a b 8]) oneU64 (.there (.there (.here))) (by simp only [List.length_map]; first | (rw [z8_length]; exact Nat.le_refl _) | omega) (setR_whole (by simp only [List.length_map]; first | rw [z8_length, oW_length a b 8] | omega)) ?_)
    refine done ?_
    refine th_n ?_
    refine ret ?_
    exact retG (vf := fun _ _ => .agg ((productW a b).map U64).toArray) rfl (fun a2 w2 ha2 hw2 => ⟨resc1 ha2 rfl rfl ag_158 (by rw [List.length_map, show (productW a b).length = 8 from oW_length a b 8]) (hw2.get .here), rfl, hw2.clear⟩)

theorem f94_spec (a b : Wd) (ha : a.length = 8) (hb : b.length = 8) (w : World) : Calls Tryd.prog 94 [.agg ((a).map U64).toArray, .agg ((b).map U64).toArray].toArray w (fun en w2 => en = .returned (.bool (moreW a b)) ∧ Sat w [] [] w2) := by
  refine enter (n := 24) Tryd.func94 rfl rfl rfl (Sat.refl w) ?_
  refine seq ?_
  refine region ?_
  refine sq rfl (o_box (cs := a.map U64) rfl rfl rfl (fun b2 => ?_))
  refine sq rfl (o_box (cs := b.map U64) rfl rfl rfl (fun b3 => ?_))
  refine st (g_assign rfl) rfl ?_
  refine done ?_
  refine th_n ?_
  refine seq ?_
  refine seq ?_
  refine region ?_
  refine st (g_assign rfl) rfl ?_
  refine done ?_
  refine th_n ?_
  refine block ?_
  refine loop (α := Nat) (fun j => j ≤ 8 ∧ moreG a b j = moreW a b) (fun j => [(2, .pointer (some ⟨b2, 0, none⟩)), (3, .pointer (some ⟨b3, 0, none⟩)), (5, I64 ((j : Int) - 1))]) (fun j => [blk b2 158 ((a).map U64), blk b3 158 ((b).map U64)]) (fun j => j) 8 ⟨Nat.le_refl _, rfl⟩ ⟨rfl, rfl, rfl, trivial⟩ (.cons (.there (.here)) (.cons .here .nil)) (fun j ⟨hj, hm⟩ => ?_)
  refine seq ?_
  refine seq ?_
  refine region ?_
  refine st (g_move rfl) rfl ?_
  refine st (g_bin rfl rfl rfl) rfl ?_
  refine done ?_
  refine th_n ?_
  refine condS rfl (fun h7 => ?_) (fun h7 => ?_)
  · try simp only [decide_eq_true_eq] at h7
    obtain ⟨j1, rfl⟩ : ∃ j1, j = j1 + 1 := ⟨j - 1, by omega⟩
    refine skip ?_
    refine th_n ?_
    refine seq ?_
    refine block ?_
    refine seq ?_
    refine regionQ mixed (by decide +kernel) (by decide +kernel) ?_
    refine Dr.st (g_move rfl) rfl ?_
    refine Dr.st (g_indexA (m := j1) ar_158 rfl rfl (by omega) (by omega) (by omega)) rfl ?_
    refine Dr.st (g_load (v := U64 ((a).getD (j1) 0#64)) sc_34 rfl (Cell.own .here (get_U64 (ws := a) (j := j1) (by omega) (by omega)))) rfl ?_
    refine Dr.st (g_move rfl) rfl ?_
    refine Dr.st (g_indexA (m := j1) ar_158 rfl rfl (by omega) (by omega) (by omega)) rfl ?_
    refine Dr.st (g_load (v := U64 ((b).getD (j1) 0#64)) sc_34 rfl (Cell.own (.there (.here)) (get_U64 (ws := b) (j := j1) (by omega) (by omega)))) rfl ?_
    refine Dr.st (g_bin rfl rfl rfl) rfl ?_
    refine Dr.nil ?_
    refine th_n ?_
    refine condS rfl (fun h16 => ?_) (fun h16 => ?_)
    · try simp only [decide_eq_true_eq] at h16
      have hne : ¬ a.getD j1 0#64 = b.getD j1 0#64 := fun h => h16 (by rw [h])
      have hres : decide (((a.getD j1 0#64).toNat : Int) > ((b.getD j1 0#64).toNat : Int)) = moreW a b := by rw [← hm, moreG, if_neg hne]
      refine seq ?_
      refine regionQ mixed (by decide +kernel) (by decide +kernel) ?_
      refine Dr.st (g_move rfl) rfl ?_
      refine Dr.st (g_indexA (m := j1) ar_158 rfl rfl (by omega) (by omega) (by omega)) rfl ?_
      refine Dr.st (g_load (v := U64 ((a).getD (j1) 0#64)) sc_34 rfl (Cell.own .here (get_U64 (ws := a) (j := j1) (by omega) (by omega)))) rfl ?_
      refine Dr.st (g_move rfl) rfl ?_
      refine Dr.st (g_indexA (m := j1) ar_158 rfl rfl (by omega) (by omega) (by omega)) rfl ?_
      refine Dr.st (g_load (v := U64 ((b).getD (j1) 0#64)) sc_34 rfl (Cell.own (.there (.here)) (get_U64 (ws := b) (j := j1) (by omega) (by omega)))) rfl ?_
      refine Dr.st (g_bin rfl rfl rfl) rfl ?_
      refine Dr.st (g_assign rfl) rfl ?_
      refine Dr.nil ?_
      refine th_n ?_
      refine ret ?_
      refine ib_r ?_
      refine th_r ?_
      refine th_r ?_
      refine ib_r ?_
      refine th_r ?_
      exact ret1 rfl rfl rfl (fun w2 hw2 => ⟨by rw [← hres], hw2.clear⟩)
    · try simp only [decide_eq_false_iff_not] at h16
      have heq : a.getD j1 0#64 = b.getD j1 0#64 := BitVec.eq_of_toNat_eq (by omega)
      have hnx : moreG a b j1 = moreW a b := by rw [← hm, moreG, if_pos heq]
      refine skip ?_
      refine ib_n ?_
      refine th_n ?_
      refine region ?_
      refine st (g_move rfl) rfl ?_
      refine st (g_isub (c := ((j1 : Int) - 1)) rfl rfl (by omega) (by omega) (by omega)) rfl ?_
      refine st (g_assign rfl) rfl ?_
      refine done ?_
      refine th_n ?_
      exact again j1 ⟨by omega, hnx⟩ (by show j1 < j1 + 1; omega) ⟨rfl, rfl, rfl, trivial⟩ (.cons .here (.cons .here .nil))
  · try simp only [decide_eq_false_iff_not] at h7
    have hj0 : j = 0 := by omega
    subst hj0
    refine exitc ?_
    refine th_x ?_
    refine th_x ?_
    refine ib_x ?_
    refine th_n ?_
    refine seq ?_
    refine region ?_
    refine st (g_assign rfl) rfl ?_
    refine done ?_
    refine th_n ?_
    refine ret ?_
    exact ret1 rfl rfl rfl (fun w2 hw2 => ⟨by rw [← hm]; rfl, hw2.clear⟩)
end Go.Proofs.YtokhediaibdkjaaDoor

/-! From H3 -/
/- Ref04's Fraction. (printed by gen1.py) -/
namespace Go.Proofs.YtokhediaibdkjaaDoor
open Go.Pm Go.RowKit
set_option maxRecDepth 100000
def hW (n i : Nat) : Nat := iter (fun _ q => q / 2) i n
def xW (n kb i : Nat) : Wd := iter (fun i x => if hW n i % 2 = 1 then withW x (kb + i) else x) i z8
theorem xW_length (n kb i : Nat) : (xW n kb i).length = 8 :=
  iter_inv (I := fun s : Wd => s.length = 8) (fun n s hs => by split; exact withW_length hs _; exact hs) i _ rfl
def rPow (cube : Bool) (t : Wd) : Wd := if cube = true then productW (productW t t) t else productW t t
theorem rPow_t (t : Wd) : rPow true t = productW (productW t t) t := rfl
theorem rPow_f (t : Wd) : rPow false t = productW t t := rfl
def rStep (x : Wd) (cube : Bool) (top : Nat) (j : Nat) (r : Wd) : Wd := if moreW (rPow cube (withW r (top - j))) x = true then r else withW r (top - j)
theorem rStep_length {x : Wd} {cube : Bool} {top j : Nat} {r : Wd} (h : r.length = 8) : (rStep x cube top j r).length = 8 := by
  unfold rStep
  split
  · exact h
  · exact withW_length h _
def rW (x : Wd) (cube : Bool) (top : Nat) (j : Nat) : Wd := iter (rStep x cube top) j z8
theorem rW_length (x : Wd) (cube : Bool) (top : Nat) : ∀ j, (rW x cube top j).length = 8
  | 0 => rfl
  | j + 1 => rStep_length (rW_length x cube top j)
theorem rW_succ (x : Wd) (cube : Bool) (top j : Nat) : rW x cube top (j + 1) = rStep x cube top j (rW x cube top j) := by
  delta rW
  rw [iter]
theorem hW_le (n : Nat) : ∀ i, hW n i ≤ n
  | 0 => Nat.le_refl _
  | i + 1 => by have := hW_le n i; show hW n i / 2 ≤ n; omega
theorem xW_if {n kb i : Nat} (h : hW n i % 2 = 1) : withW (xW n kb i) (kb + i) = xW n kb (i + 1) := (if_pos h).symm
theorem xW_else {n kb i : Nat} (h : ¬ hW n i % 2 = 1) : xW n kb i = xW n kb (i + 1) := (if_neg h).symm
def fracW (n : Nat) (cube : Bool) (kb bits : Nat) : BitVec 64 :=
  if bits = 32 then (rW (xW n kb 9) cube 37 38).getD 0 0#64 else (rW (xW n kb 9) cube 69 70).getD 0 0#64 + 4294967296#64 * (rW (xW n kb 9) cube 69 70).getD 1 0#64


theorem f92_as (a : Wd) (ha : a.length = 8) (bit : Nat) (hb : bit < 256) {r : Wd} (e : withW a bit = r) (w : World) : Calls Tryd.prog 92 [.agg ((a).map U64).toArray, I64 (bit : Nat)].toArray w (fun en w2 => en = .returned (.agg ((r).map U64).toArray) ∧ Sat w [] [] w2) := by
  subst e; exact f92_spec a ha bit hb w
theorem f93_as (a b : Wd) (ha : a.length = 8) (hb : b.length = 8) {r : Wd} (e : productW a b = r) (w : World) : Calls Tryd.prog 93 [.agg ((a).map U64).toArray, .agg ((b).map U64).toArray].toArray w (fun en w2 => en = .returned (.agg ((r).map U64).toArray) ∧ Sat w [] [] w2) := by
  subst e; exact f93_spec a b ha hb w
theorem f94_as (a b : Wd) (ha : a.length = 8) (hb : b.length = 8) {r : Bool} (e : moreW a b = r) (w : World) : Calls Tryd.prog 94 [.agg ((a).map U64).toArray, .agg ((b).map U64).toArray].toArray w (fun en w2 => en = .returned (.bool r) ∧ Sat w [] [] w2) := by
  subst e; exact f94_spec a b ha hb w
theorem productW_length (a b : Wd) : (productW a b).length = 8 := oW_length a b 8


theorem f61_c32 (n : Nat) (hn : n < 512) (w : World) : Calls Tryd.prog 61 [I64 (n : Nat), I64 3, I64 32].toArray w (fun en w2 => en = .returned (U64 (fracW n true 96 32)) ∧ Sat w [] [] w2) := by
  refine enter (n := 63) Tryd.func61 rfl rfl rfl (Sat.refl w) ?_
  refine seq ?_
  refine region ?_
  refine st (g_assign (v := U64 0#64) rfl) rfl ?_
  refine done ?_
  refine th_n ?_
  refine seq ?_
  refine region ?_
  refine sq rfl (o_alloc (zs := (z8.map U64)) zr_158 rfl (fun b7 => ?_))
  refine done ?_
  refine th_n ?_
  refine seq ?_
  refine seq ?_
  refine region ?_
  refine st (g_assign rfl) rfl ?_
  refine done ?_
  refine th_n ?_
  refine block ?_
  refine loop (α := Nat) (fun i => i ≤ 9) (fun i => [(0, I64 (hW n i : Nat)), (1, I64 3), (2, I64 32), (7, .pointer (some ⟨b7, 0, none⟩)), (8, I64 (i : Nat))]) (fun i => [blk b7 158 ((xW n 96 i).map U64)]) (fun i => 9 - i) 0 (Nat.zero_le _) ⟨rfl, rfl, rfl, rfl, rfl, trivial⟩ (.cons .here .nil) (fun i hI => ?_)
  show At _ [(0, I64 (hW n i : Nat)), (1, I64 3), (2, I64 32), (7, .pointer (some ⟨b7, 0, none⟩)), (8, I64 (i : Nat))] [blk b7 158 ((xW n 96 i).map U64)] _
  have hh := hW_le n i
  obtain ⟨A, hA⟩ : ∃ A, A = xW n 96 i := ⟨_, rfl⟩
  have hAl : A.length = 8 := by rw [hA]; exact xW_length n 96 i
  rw [← hA]
  refine seq ?_
  refine seq ?_
  refine region ?_
  refine st (g_move rfl) rfl ?_
  refine st (g_bin rfl rfl rfl) rfl ?_
  refine done ?_
  refine th_n ?_
  refine condS rfl (fun h15 => ?_) (fun h15 => ?_)
  · try simp only [decide_eq_true_eq] at h15
    have hi : i < 9 := by omega
    refine skip ?_
    refine th_n ?_
    refine seq ?_
    refine block ?_
    refine seq ?_
    refine seq ?_
    refine region ?_
    refine st (g_move rfl) rfl ?_
    refine st (g_irem (c := ((hW n i % 2 : Nat) : Int)) rfl rfl (by omega) (by omega) (by omega)) rfl ?_
    refine st (g_bin rfl rfl rfl) rfl ?_
    refine done ?_
    refine th_n ?_
    refine condS rfl (fun h20 => ?_) (fun h20 => ?_)
    · try simp only [decide_eq_true_eq] at h20
      have hodd : hW n i % 2 = 1 := by omega
      refine region ?_
      refine st (g_loadA (vs := (A).map U64) ag_158 rfl (by rw [List.length_map, hAl]) (Cells.part .here List.take_length)) rfl ?_
      refine st (g_move rfl) rfl ?_
      refine st (g_move rfl) rfl ?_
      refine st (g_imul (c := 96) rfl rfl (by decide) (by omega) (by omega)) rfl ?_
      refine st (g_move rfl) rfl ?_
      refine st (g_iadd (c := ((96 + i : Nat) : Int)) rfl rfl (by omega) (by omega) (by omega)) rfl ?_
      obtain ⟨B, hB⟩ : ∃ B, B = withW A (96 + i) := ⟨_, rfl⟩
      have hBl : B.length = 8 := by rw [hB]; exact withW_length hAl _
      have hst : B = xW n 96 (i + 1) := by rw [hB, hA]; exact xW_if hodd
      refine sq rfl (o_callP Tryd.func92 rfl rfl rfl (fun w hw => f92_as A hAl (96 + i) (by omega) hB.symm w) rfl ?_)
      refine sq rfl (o_storeA (cs' := (xW n 96 (i + 1)).map U64) sz_158 rfl rfl (by rw [List.length_map, hBl]) oneU64 .here (by rw [List.length_map, hAl]; exact Nat.le_refl _) (by rw [setR_whole (by rw [List.length_map, List.length_map, hAl, hBl]), hst]) ?_)
      refine done ?_
      refine th_n ?_
      refine region ?_
      refine st (g_move rfl) rfl ?_
      refine st (g_iquo (c := ((hW n (i + 1) : Nat) : Int)) rfl rfl (by omega) (by omega) (by omega) (by show _ = ((hW n i / 2 : Nat) : Int); omega)) rfl ?_
      refine st (g_assign rfl) rfl ?_
      refine done ?_
      refine ib_n ?_
      refine th_n ?_
      refine region ?_
      refine st (g_move rfl) rfl ?_
      refine st (g_iadd (c := ((i + 1 : Nat) : Int)) rfl rfl (by omega) (by omega) (by omega)) rfl ?_
      refine st (g_assign rfl) rfl ?_
      refine done ?_
      refine th_n ?_
      exact again (i + 1) (by omega) (by omega) ⟨rfl, rfl, rfl, rfl, rfl, trivial⟩ (.cons .here .nil)
    · try simp only [decide_eq_false_iff_not] at h20
      have hev : ¬ hW n i % 2 = 1 := by omega
      have hst : A = xW n 96 (i + 1) := by rw [hA]; exact xW_else hev
      rw [hst]
      refine skip ?_
      refine th_n ?_
      refine region ?_
      refine st (g_move rfl) rfl ?_
      refine st (g_iquo (c := ((hW n (i + 1) : Nat) : Int)) rfl rfl (by omega) (by omega) (by omega) (by show _ = ((hW n i / 2 : Nat) : Int); omega)) rfl ?_
      refine st (g_assign rfl) rfl ?_
      refine done ?_
      refine ib_n ?_
      refine th_n ?_
      refine region ?_
      refine st (g_move rfl) rfl ?_
      refine st (g_iadd (c := ((i + 1 : Nat) : Int)) rfl rfl (by omega) (by omega) (by omega)) rfl ?_
      refine st (g_assign rfl) rfl ?_
      refine done ?_
      refine th_n ?_
      exact again (i + 1) (by omega) (by omega) ⟨rfl, rfl, rfl, rfl, rfl, trivial⟩ (.cons .here .nil)
  · try simp only [decide_eq_false_iff_not] at h15
    have hie : i = 9 := by omega
    subst hie
    obtain ⟨X, hX⟩ : ∃ X, X = xW n 96 9 := ⟨_, rfl⟩
    have hXl : X.length = 8 := by rw [hX]; exact xW_length n 96 9
    rw [show A = X from hA.trans hX.symm]
    refine exitc ?_
    refine th_x ?_
    refine th_x ?_
    refine ib_x ?_
    refine th_n ?_
    refine seq ?_
    refine region ?_
    refine sq rfl (o_alloc (zs := (z8.map U64)) zr_158 rfl (fun b9 => ?_))
    refine done ?_
    refine th_n ?_
    refine seq ?_
    refine seq ?_
    refine region ?_
    refine st (g_move rfl) rfl ?_
    refine st (g_iadd (c := (37 - ((0 : Nat) : Int))) rfl rfl (by decide) (by omega) (by omega)) rfl ?_
    refine st (g_assign rfl) rfl ?_
    refine done ?_
    refine th_n ?_
    refine block ?_
    refine loop (α := Nat) (fun j => j ≤ 38) (fun j => [(1, I64 3), (2, I64 32), (7, .pointer (some ⟨b7, 0, none⟩)), (9, .pointer (some ⟨b9, 0, none⟩)), (10, I64 (37 - (j : Int)))]) (fun j => [blk b7 158 ((X).map U64), blk b9 158 ((rW X true 37 (j)).map U64)]) (fun j => 38 - j) 0 (Nat.zero_le _) ⟨rfl, rfl, rfl, rfl, rfl, trivial⟩ (.cons (.there (.here)) (.cons .here .nil)) (fun j hj => ?_)
    show At _ [(1, I64 3), (2, I64 32), (7, .pointer (some ⟨b7, 0, none⟩)), (9, .pointer (some ⟨b9, 0, none⟩)), (10, I64 (37 - (j : Int)))] [blk b7 158 ((X).map U64), blk b9 158 ((rW X true 37 (j)).map U64)] _
    obtain ⟨R, hR⟩ : ∃ R, R = rW X true 37 (j) := ⟨_, rfl⟩
    have hRl : R.length = 8 := by rw [hR]; exact rW_length _ _ _ _
    rw [← hR]
    refine seq ?_
    refine seq ?_
    refine region ?_
    refine st (g_move rfl) rfl ?_
    refine st (g_bin rfl rfl rfl) rfl ?_
    refine done ?_
    refine th_n ?_
    refine condS rfl (fun h33 => ?_) (fun h33 => ?_)
    · try simp only [decide_eq_true_eq] at h33
      have hj2 : j ≤ 37 := by omega
      rw [show (37 - (j : Int)) = ((37 - j : Nat) : Int) by omega]
      refine skip ?_
      refine th_n ?_
      refine seq ?_
      refine block ?_
      refine seq ?_
      refine region ?_
      refine st (g_loadA (vs := (R).map U64) ag_158 rfl (by rw [List.length_map, hRl]) (Cells.part (.there (.here)) List.take_length)) rfl ?_
      refine st (g_move rfl) rfl ?_
      obtain ⟨T, hT⟩ : ∃ T, T = withW R (37 - j) := ⟨_, rfl⟩
      have hTl : T.length = 8 := by rw [hT]; exact withW_length hRl _
      refine sq rfl (o_callP Tryd.func92 rfl rfl rfl (fun w hw => f92_as R hRl (37 - j) (by omega) hT.symm w) rfl ?_)
      refine sq rfl (o_alloc (zs := (z8.map U64)) zr_158 rfl (fun b11 => ?_))
      refine sq rfl (o_storeA (cs' := (T).map U64) sz_158 rfl rfl (by rw [List.length_map, hTl]) oneU64 .here (by simp only [List.length_map]; first | (rw [z8_length]; exact Nat.le_refl _) | omega) (setR_whole (by simp only [List.length_map]; first | rw [z8_length, hTl] | omega)) ?_)
      refine done ?_
      refine th_n ?_
      refine seq ?_
      refine region ?_
      refine st (g_loadA (vs := (T).map U64) ag_158 rfl (by rw [List.length_map, hTl]) (Cells.part .here List.take_length)) rfl ?_
      refine st (g_loadA (vs := (T).map U64) ag_158 rfl (by rw [List.length_map, hTl]) (Cells.part .here List.take_length)) rfl ?_
      obtain ⟨P, hP⟩ : ∃ P, P = productW T T := ⟨_, rfl⟩
      have hPl : P.length = 8 := by rw [hP]; exact productW_length _ _
      refine sq rfl (o_callP Tryd.func93 rfl rfl rfl (fun w hw => f93_as T T hTl hTl hP.symm w) rfl ?_)
      refine sq rfl (o_alloc (zs := (z8.map U64)) zr_158 rfl (fun b12 => ?_))
      refine sq rfl (o_storeA (cs' := (P).map U64) sz_158 rfl rfl (by rw [List.length_map, hPl]) oneU64 .here (by simp only [List.length_map]; first | (rw [z8_length]; exact Nat.le_refl _) | omega) (setR_whole (by simp only [List.length_map]; first | rw [z8_length, hPl] | omega)) ?_)
      refine done ?_
      refine th_n ?_
      refine seq ?_
      refine seq ?_
      refine region ?_
      refine st (g_move rfl) rfl ?_
      refine st (g_T rfl rfl rfl (by decide)) rfl ?_
      refine done ?_
      refine th_n ?_
      refine condT rfl ?_
      refine region ?_
      refine st (g_loadA (vs := (P).map U64) ag_158 rfl (by rw [List.length_map, hPl]) (Cells.part .here List.take_length)) rfl ?_
      refine st (g_loadA (vs := (T).map U64) ag_158 rfl (by rw [List.length_map, hTl]) (Cells.part (.there (.here)) List.take_length)) rfl ?_
      obtain ⟨Q, hQ⟩ : ∃ Q, Q = productW P T := ⟨_, rfl⟩
      have hQl : Q.length = 8 := by rw [hQ]; exact productW_length _ _
      refine sq rfl (o_callP Tryd.func93 rfl rfl rfl (fun w hw => f93_as P T hPl hTl hQ.symm w) rfl ?_)
      refine sq rfl (o_storeA (cs' := (Q).map U64) sz_158 rfl rfl (by rw [List.length_map, hQl]) oneU64 .here (by simp only [List.length_map]; first | (rw [z8_length]; exact Nat.le_refl _) | omega) (setR_whole (by simp only [List.length_map]; first | rw [z8_length, hQl] | omega)) ?_)
      refine done ?_
      refine th_n ?_
      refine seq ?_
      refine region ?_
      refine st (g_loadA (vs := (Q).map U64) ag_158 rfl (by rw [List.length_map, hQl]) (Cells.part .here List.take_length)) rfl ?_
      refine st (g_loadA (vs := (X).map U64) ag_158 rfl (by rw [List.length_map, hXl]) (Cells.part (.there (.there (.here))) List.take_length)) rfl ?_
      obtain ⟨mo, hmo⟩ : ∃ mo, mo = moreW Q X := ⟨_, rfl⟩
      refine sq rfl (o_callP Tryd.func94 rfl rfl rfl (fun w hw => f94_as Q X hQl hXl hmo.symm w) rfl ?_)
      refine st (g_assign rfl) rfl ?_
      refine done ?_
      refine th_n ?_
      refine seq ?_
      refine region ?_
      refine st (g_move rfl) rfl ?_
      refine st (g_not rfl) rfl ?_
      refine done ?_
      refine th_n ?_
      refine condS rfl (fun h51 => ?_) (fun h51 => ?_)
      · try simp only [decide_eq_true_eq] at h51
        have hm1 : mo = false := by simpa using h51
        have hst : T = rW X true 37 (j + 1) := by
          rw [rW_succ, ← hR, rStep, ← hT, rPow_t, ← hP, ← hQ, ← hmo, hm1, if_neg (by decide)]
        refine region ?_
        refine st (g_loadA (vs := (T).map U64) ag_158 rfl (by rw [List.length_map, hTl]) (Cells.part (.there (.here)) List.take_length)) rfl ?_
        refine sq rfl (o_storeA (cs' := (rW X true 37 (j + 1)).map U64) sz_158 rfl rfl (by rw [List.length_map, hTl]) oneU64 (.there (.there (.there (.here)))) (by rw [List.length_map, hRl]; exact Nat.le_refl _) (by rw [setR_whole (by rw [List.length_map, List.length_map, hRl, hTl]), hst]) ?_)
        refine done ?_
        refine ib_n ?_
        refine th_n ?_
        refine region ?_
        refine st (g_move rfl) rfl ?_
        refine st (g_isub (c := (37 - ((j + 1 : Nat) : Int))) rfl rfl (by omega) (by omega) (by omega)) rfl ?_
        refine st (g_assign rfl) rfl ?_
        refine done ?_
        refine th_n ?_
        exact again (j + 1) (by omega) (by omega) ⟨rfl, rfl, rfl, rfl, rfl, trivial⟩ (.cons (.there (.there (.there (.here)))) (.cons .here .nil))
      · try simp only [decide_eq_false_iff_not] at h51
        have hm1 : mo = true := by simpa using h51
        have hst : R = rW X true 37 (j + 1) := by
          rw [rW_succ, ← hR, rStep, ← hT, rPow_t, ← hP, ← hQ, ← hmo, hm1, if_pos rfl]
        rw [hst]
        refine skip ?_
        refine ib_n ?_
        refine th_n ?_
        refine region ?_
        refine st (g_move rfl) rfl ?_
        refine st (g_isub (c := (37 - ((j + 1 : Nat) : Int))) rfl rfl (by omega) (by omega) (by omega)) rfl ?_
        refine st (g_assign rfl) rfl ?_
        refine done ?_
        refine th_n ?_
        exact again (j + 1) (by omega) (by omega) ⟨rfl, rfl, rfl, rfl, rfl, trivial⟩ (.cons (.there (.there (.here))) (.cons (.there (.there (.here))) .nil))
    · try simp only [decide_eq_false_iff_not] at h33
      have hje : j = 38 := by omega
      subst hje
      refine exitc ?_
      refine th_x ?_
      refine th_x ?_
      refine ib_x ?_
      refine th_n ?_
      refine seq ?_
      refine seq ?_
      refine region ?_
      refine st (g_move rfl) rfl ?_
      refine st (g_T rfl rfl rfl (by decide)) rfl ?_
      refine done ?_
      refine th_n ?_
      refine condT rfl ?_
      refine seq ?_
      refine region ?_
      refine st (g_indexA (m := 0) ar_158 rfl rfl (by decide) (by decide) (by omega)) rfl ?_
      refine st (g_load (v := U64 ((R).getD (0) 0#64)) sc_34 rfl (Cell.own (.there (.here)) (get_U64 (ws := R) (j := 0) (by omega) (by omega)))) rfl ?_
      refine st (g_assign rfl) rfl ?_
      refine done ?_
      refine th_n ?_
      refine ret ?_
      refine th_r ?_
      exact ret1 rfl rfl rfl (fun w2 hw2 => ⟨by rw [fracW, if_pos rfl, ← hX, ← hR], hw2.clear⟩)

theorem f61_s32 (n : Nat) (hn : n < 512) (w : World) : Calls Tryd.prog 61 [I64 (n : Nat), I64 2, I64 32].toArray w (fun en w2 => en = .returned (U64 (fracW n false 64 32)) ∧ Sat w [] [] w2) := by
  refine enter (n := 63) Tryd.func61 rfl rfl rfl (Sat.refl w) ?_
  refine seq ?_
  refine region ?_
  refine st (g_assign (v := U64 0#64) rfl) rfl ?_
  refine done ?_
  refine th_n ?_
  refine seq ?_
  refine region ?_
  refine sq rfl (o_alloc (zs := (z8.map U64)) zr_158 rfl (fun b7 => ?_))
  refine done ?_
  refine th_n ?_
  refine seq ?_
  refine seq ?_
  refine region ?_
  refine st (g_assign rfl) rfl ?_
  refine done ?_
  refine th_n ?_
  refine block ?_
  refine loop (α := Nat) (fun i => i ≤ 9) (fun i => [(0, I64 (hW n i : Nat)), (1, I64 2), (2, I64 32), (7, .pointer (some ⟨b7, 0, none⟩)), (8, I64 (i : Nat))]) (fun i => [blk b7 158 ((xW n 64 i).map U64)]) (fun i => 9 - i) 0 (Nat.zero_le _) ⟨rfl, rfl, rfl, rfl, rfl, trivial⟩ (.cons .here .nil) (fun i hI => ?_)
  show At _ [(0, I64 (hW n i : Nat)), (1, I64 2), (2, I64 32), (7, .pointer (some ⟨b7, 0, none⟩)), (8, I64 (i : Nat))] [blk b7 158 ((xW n 64 i).map U64)] _
  have hh := hW_le n i
  obtain ⟨A, hA⟩ : ∃ A, A = xW n 64 i := ⟨_, rfl⟩
  have hAl : A.length = 8 := by rw [hA]; exact xW_length n 64 i
  rw [← hA]
  refine seq ?_
  refine seq ?_
  refine region ?_
  refine st (g_move rfl) rfl ?_
  refine st (g_bin rfl rfl rfl) rfl ?_
  refine done ?_
  refine th_n ?_
  refine condS rfl (fun h15 => ?_) (fun h15 => ?_)
  · try simp only [decide_eq_true_eq] at h15
    have hi : i < 9 := by omega
    refine skip ?_
    refine th_n ?_
    refine seq ?_
    refine block ?_
    refine seq ?_
    refine seq ?_
    refine region ?_
    refine st (g_move rfl) rfl ?_
    refine st (g_irem (c := ((hW n i % 2 : Nat) : Int)) rfl rfl (by omega) (by omega) (by omega)) rfl ?_
    refine st (g_bin rfl rfl rfl) rfl ?_
    refine done ?_
    refine th_n ?_
    refine condS rfl (fun h20 => ?_) (fun h20 => ?_)
    · try simp only [decide_eq_true_eq] at h20
      have hodd : hW n i % 2 = 1 := by omega
      refine region ?_
      refine st (g_loadA (vs := (A).map U64) ag_158 rfl (by rw [List.length_map, hAl]) (Cells.part .here List.take_length)) rfl ?_
      refine st (g_move rfl) rfl ?_
      refine st (g_move rfl) rfl ?_
      refine st (g_imul (c := 64) rfl rfl (by decide) (by omega) (by omega)) rfl ?_
      refine st (g_move rfl) rfl ?_
      refine st (g_iadd (c := ((64 + i : Nat) : Int)) rfl rfl (by omega) (by omega) (by omega)) rfl ?_
      obtain ⟨B, hB⟩ : ∃ B, B = withW A (64 + i) := ⟨_, rfl⟩
      have hBl : B.length = 8 := by rw [hB]; exact withW_length hAl _
      have hst : B = xW n 64 (i + 1) := by rw [hB, hA]; exact xW_if hodd
      refine sq rfl (o_callP Tryd.func92 rfl rfl rfl (fun w hw => f92_as A hAl (64 + i) (by omega) hB.symm w) rfl ?_)
      refine sq rfl (o_storeA (cs' := (xW n 64 (i + 1)).map U64) sz_158 rfl rfl (by rw [List.length_map, hBl]) oneU64 .here (by rw [List.length_map, hAl]; exact Nat.le_refl _) (by rw [setR_whole (by rw [List.length_map, List.length_map, hAl, hBl]), hst]) ?_)
      refine done ?_
      refine th_n ?_
      refine region ?_
      refine st (g_move rfl) rfl ?_
      refine st (g_iquo (c := ((hW n (i + 1) : Nat) : Int)) rfl rfl (by omega) (by omega) (by omega) (by show _ = ((hW n i / 2 : Nat) : Int); omega)) rfl ?_
      refine st (g_assign rfl) rfl ?_
      refine done ?_
      refine ib_n ?_
      refine th_n ?_
      refine region ?_
      refine st (g_move rfl) rfl ?_
      refine st (g_iadd (c := ((i + 1 : Nat) : Int)) rfl rfl (by omega) (by omega) (by omega)) rfl ?_
      refine st (g_assign rfl) rfl ?_
      refine done ?_
      refine th_n ?_
      exact again (i + 1) (by omega) (by omega) ⟨rfl, rfl, rfl, rfl, rfl, trivial⟩ (.cons .here .nil)
    · try simp only [decide_eq_false_iff_not] at h20
      have hev : ¬ hW n i % 2 = 1 := by omega
      have hst : A = xW n 64 (i + 1) := by rw [hA]; exact xW_else hev
      rw [hst]
      refine skip ?_
      refine th_n ?_
      refine region ?_
      refine st (g_move rfl) rfl ?_
      refine st (g_iquo (c := ((hW n (i + 1) : Nat) : Int)) rfl rfl (by omega) (by omega) (by omega) (by show _ = ((hW n i / 2 : Nat) : Int); omega)) rfl ?_
      refine st (g_assign rfl) rfl ?_
      refine done ?_
      refine ib_n ?_
      refine th_n ?_
      refine region ?_
      refine st (g_move rfl) rfl ?_
      refine st (g_iadd (c := ((i + 1 : Nat) : Int)) rfl rfl (by omega) (by omega) (by omega)) rfl ?_
      refine st (g_assign rfl) rfl ?_
      refine done ?_
      refine th_n ?_
      exact again (i + 1) (by omega) (by omega) ⟨rfl, rfl, rfl, rfl, rfl, trivial⟩ (.cons .here .nil)
  · try simp only [decide_eq_false_iff_not] at h15
    have hie : i = 9 := by omega
    subst hie
    obtain ⟨X, hX⟩ : ∃ X, X = xW n 64 9 := ⟨_, rfl⟩
    have hXl : X.length = 8 := by rw [hX]; exact xW_length n 64 9
    rw [show A = X from hA.trans hX.symm]
    refine exitc ?_
    refine th_x ?_
    refine th_x ?_
    refine ib_x ?_
    refine th_n ?_
    refine seq ?_
    refine region ?_
    refine sq rfl (o_alloc (zs := (z8.map U64)) zr_158 rfl (fun b9 => ?_))
    refine done ?_
    refine th_n ?_
    refine seq ?_
    refine seq ?_
    refine region ?_
    refine st (g_move rfl) rfl ?_
    refine st (g_iadd (c := (37 - ((0 : Nat) : Int))) rfl rfl (by decide) (by omega) (by omega)) rfl ?_
    refine st (g_assign rfl) rfl ?_
    refine done ?_
    refine th_n ?_
    refine block ?_
    refine loop (α := Nat) (fun j => j ≤ 38) (fun j => [(1, I64 2), (2, I64 32), (7, .pointer (some ⟨b7, 0, none⟩)), (9, .pointer (some ⟨b9, 0, none⟩)), (10, I64 (37 - (j : Int)))]) (fun j => [blk b7 158 ((X).map U64), blk b9 158 ((rW X false 37 (j)).map U64)]) (fun j => 38 - j) 0 (Nat.zero_le _) ⟨rfl, rfl, rfl, rfl, rfl, trivial⟩ (.cons (.there (.here)) (.cons .here .nil)) (fun j hj => ?_)
    show At _ [(1, I64 2), (2, I64 32), (7, .pointer (some ⟨b7, 0, none⟩)), (9, .pointer (some ⟨b9, 0, none⟩)), (10, I64 (37 - (j : Int)))] [blk b7 158 ((X).map U64), blk b9 158 ((rW X false 37 (j)).map U64)] _
    obtain ⟨R, hR⟩ : ∃ R, R = rW X false 37 (j) := ⟨_, rfl⟩
    have hRl : R.length = 8 := by rw [hR]; exact rW_length _ _ _ _
    rw [← hR]
    refine seq ?_
    refine seq ?_
    refine region ?_
    refine st (g_move rfl) rfl ?_
    refine st (g_bin rfl rfl rfl) rfl ?_
    refine done ?_
    refine th_n ?_
    refine condS rfl (fun h33 => ?_) (fun h33 => ?_)
    · try simp only [decide_eq_true_eq] at h33
      have hj2 : j ≤ 37 := by omega
      rw [show (37 - (j : Int)) = ((37 - j : Nat) : Int) by omega]
      refine skip ?_
      refine th_n ?_
      refine seq ?_
      refine block ?_
      refine seq ?_
      refine region ?_
      refine st (g_loadA (vs := (R).map U64) ag_158 rfl (by rw [List.length_map, hRl]) (Cells.part (.there (.here)) List.take_length)) rfl ?_
      refine st (g_move rfl) rfl ?_
      obtain ⟨T, hT⟩ : ∃ T, T = withW R (37 - j) := ⟨_, rfl⟩
      have hTl : T.length = 8 := by rw [hT]; exact withW_length hRl _
      refine sq rfl (o_callP Tryd.func92 rfl rfl rfl (fun w hw => f92_as R hRl (37 - j) (by omega) hT.symm w) rfl ?_)
      refine sq rfl (o_alloc (zs := (z8.map U64)) zr_158 rfl (fun b11 => ?_))
      refine sq rfl (o_storeA (cs' := (T).map U64) sz_158 rfl rfl (by rw [List.length_map, hTl]) oneU64 .here (by simp only [List.length_map]; first | (rw [z8_length]; exact Nat.le_refl _) | omega) (setR_whole (by simp only [List.length_map]; first | rw [z8_length, hTl] | omega)) ?_)
      refine done ?_
      refine th_n ?_
      refine seq ?_
      refine region ?_
      refine st (g_loadA (vs := (T).map U64) ag_158 rfl (by rw [List.length_map, hTl]) (Cells.part .here List.take_length)) rfl ?_
      refine st (g_loadA (vs := (T).map U64) ag_158 rfl (by rw [List.length_map, hTl]) (Cells.part .here List.take_length)) rfl ?_
      obtain ⟨P, hP⟩ : ∃ P, P = productW T T := ⟨_, rfl⟩
      have hPl : P.length = 8 := by rw [hP]; exact productW_length _ _
      refine sq rfl (o_callP Tryd.func93 rfl rfl rfl (fun w hw => f93_as T T hTl hTl hP.symm w) rfl ?_)
      refine sq rfl (o_alloc (zs := (z8.map U64)) zr_158 rfl (fun b12 => ?_))
      refine sq rfl (o_storeA (cs' := (P).map U64) sz_158 rfl rfl (by rw [List.length_map, hPl]) oneU64 .here (by simp only [List.length_map]; first | (rw [z8_length]; exact Nat.le_refl _) | omega) (setR_whole (by simp only [List.length_map]; first | rw [z8_length, hPl] | omega)) ?_)
      refine done ?_
      refine th_n ?_
      refine seq ?_
      refine seq ?_
      refine region ?_
      refine st (g_move rfl) rfl ?_
      refine st (g_F rfl rfl rfl (by decide)) rfl ?_
      refine done ?_
      refine th_n ?_
      refine condF rfl ?_
      refine skip ?_
      refine th_n ?_
      refine seq ?_
      refine region ?_
      refine st (g_loadA (vs := (P).map U64) ag_158 rfl (by rw [List.length_map, hPl]) (Cells.part .here List.take_length)) rfl ?_
      refine st (g_loadA (vs := (X).map U64) ag_158 rfl (by rw [List.length_map, hXl]) (Cells.part (.there (.there (.here))) List.take_length)) rfl ?_
      obtain ⟨mo, hmo⟩ : ∃ mo, mo = moreW P X := ⟨_, rfl⟩
      refine sq rfl (o_callP Tryd.func94 rfl rfl rfl (fun w hw => f94_as P X hPl hXl hmo.symm w) rfl ?_)
      refine st (g_assign rfl) rfl ?_
      refine done ?_
      refine th_n ?_
      refine seq ?_
      refine region ?_
      refine st (g_move rfl) rfl ?_
      refine st (g_not rfl) rfl ?_
      refine done ?_
      refine th_n ?_
      refine condS rfl (fun h51 => ?_) (fun h51 => ?_)
      · try simp only [decide_eq_true_eq] at h51
        have hm1 : mo = false := by simpa using h51
        have hst : T = rW X false 37 (j + 1) := by
          rw [rW_succ, ← hR, rStep, ← hT, rPow_f, ← hP, ← hmo, hm1, if_neg (by decide)]
        refine region ?_
        refine st (g_loadA (vs := (T).map U64) ag_158 rfl (by rw [List.length_map, hTl]) (Cells.part (.there (.here)) List.take_length)) rfl ?_
        refine sq rfl (o_storeA (cs' := (rW X false 37 (j + 1)).map U64) sz_158 rfl rfl (by rw [List.length_map, hTl]) oneU64 (.there (.there (.there (.here)))) (by rw [List.length_map, hRl]; exact Nat.le_refl _) (by rw [setR_whole (by rw [List.length_map, List.length_map, hRl, hTl]), hst]) ?_)
        refine done ?_
        refine ib_n ?_
        refine th_n ?_
        refine region ?_
        refine st (g_move rfl) rfl ?_
        refine st (g_isub (c := (37 - ((j + 1 : Nat) : Int))) rfl rfl (by omega) (by omega) (by omega)) rfl ?_
        refine st (g_assign rfl) rfl ?_
        refine done ?_
        refine th_n ?_
        exact again (j + 1) (by omega) (by omega) ⟨rfl, rfl, rfl, rfl, rfl, trivial⟩ (.cons (.there (.there (.there (.here)))) (.cons .here .nil))
      · try simp only [decide_eq_false_iff_not] at h51
        have hm1 : mo = true := by simpa using h51
        have hst : R = rW X false 37 (j + 1) := by
          rw [rW_succ, ← hR, rStep, ← hT, rPow_f, ← hP, ← hmo, hm1, if_pos rfl]
        rw [hst]
        refine skip ?_
        refine ib_n ?_
        refine th_n ?_
        refine region ?_
        refine st (g_move rfl) rfl ?_
        refine st (g_isub (c := (37 - ((j + 1 : Nat) : Int))) rfl rfl (by omega) (by omega) (by omega)) rfl ?_
        refine st (g_assign rfl) rfl ?_
        refine done ?_
        refine th_n ?_
        exact again (j + 1) (by omega) (by omega) ⟨rfl, rfl, rfl, rfl, rfl, trivial⟩ (.cons (.there (.there (.here))) (.cons (.there (.there (.here))) .nil))
    · try simp only [decide_eq_false_iff_not] at h33
      have hje : j = 38 := by omega
      subst hje
      refine exitc ?_
      refine th_x ?_
      refine th_x ?_
      refine ib_x ?_
      refine th_n ?_
      refine seq ?_
      refine seq ?_
      refine region ?_
      refine st (g_move rfl) rfl ?_
      refine st (g_T rfl rfl rfl (by decide)) rfl ?_
      refine done ?_
      refine th_n ?_
      refine condT rfl ?_
      refine seq ?_
      refine region ?_
      refine st (g_indexA (m := 0) ar_158 rfl rfl (by decide) (by decide) (by omega)) rfl ?_
      refine st (g_load (v := U64 ((R).getD (0) 0#64)) sc_34 rfl (Cell.own (.there (.here)) (get_U64 (ws := R) (j := 0) (by omega) (by omega)))) rfl ?_
      refine st (g_assign rfl) rfl ?_
      refine done ?_
      refine th_n ?_
      refine ret ?_
      refine th_r ?_
      exact ret1 rfl rfl rfl (fun w2 hw2 => ⟨by rw [fracW, if_pos rfl, ← hX, ← hR], hw2.clear⟩)

end Go.Proofs.YtokhediaibdkjaaDoor

/-! From H4 -/
/- Plain facts: the reference's words are the program's. -/
namespace Go.Proofs.YtokhediaibdkjaaDoor
open Go.Pm Go.RowKit
set_option maxRecDepth 100000

/-! ### Turned right -/
def rn (n N : Nat) : Nat := N / 2 ^ n + N % 2 ^ n * 2 ^ (32 - n)
theorem rn_step {n N : Nat} (hn : n < 32) : rn n N / 2 + rn n N % 2 * 2147483648 = rn (n + 1) N := by
  have e1 : 2 ^ (32 - n) = 2 * 2 ^ (31 - n) := by rw [show 32 - n = (31 - n) + 1 by omega, Nat.pow_succ, Nat.mul_comm]
  have e2 : N % 2 ^ (n + 1) = N / 2 ^ n % 2 * 2 ^ n + N % 2 ^ n := by
    rw [Nat.pow_succ, Nat.mod_mul, Nat.add_comm, Nat.mul_comm (2 ^ n)]
  have e3 : N / 2 ^ (n + 1) = N / 2 ^ n / 2 := by rw [Nat.pow_succ, Nat.div_div_eq_div_mul]
  have e4 : 2 ^ n * 2 ^ (31 - n) = 2147483648 := by rw [← Nat.pow_add, show n + (31 - n) = 31 by omega]
  unfold rn
  rw [e1, show 32 - (n + 1) = 31 - n by omega, e2, e3, Nat.add_mul, Nat.mul_assoc (N / 2 ^ n % 2), e4]
  generalize N / 2 ^ n = a
  generalize N % 2 ^ n = b
  generalize 2 ^ (31 - n) = c
  have e5 : b * (2 * c) = 2 * (b * c) := by rw [Nat.mul_left_comm]
  rw [e5]
  generalize b * c = d
  omega
theorem rn_lt {n N : Nat} (hn : n ≤ 32) (hN : N < 4294967296) : rn n N < 4294967296 := by
  have h1 : N / 2 ^ n < 2 ^ (32 - n) := by
    rw [Nat.div_lt_iff_lt_mul (Nat.pow_pos (by decide)), ← Nat.pow_add, show 32 - n + n = 32 by omega]; exact hN
  have h2 : N % 2 ^ n < 2 ^ n := Nat.mod_lt _ (Nat.pow_pos (by decide))
  have h3 : (N % 2 ^ n + 1) * 2 ^ (32 - n) ≤ 2 ^ n * 2 ^ (32 - n) := Nat.mul_le_mul_right _ h2
  have h4 : 2 ^ n * 2 ^ (32 - n) = 4294967296 := by rw [← Nat.pow_add, show n + (32 - n) = 32 by omega]
  rw [h4, Nat.add_mul, Nat.one_mul] at h3
  unfold rn
  omega
theorem rightW_nat (x : BitVec 32) : ∀ n, n ≤ 32 → (rightW n x).toNat = rn n x.toNat
  | 0, _ => by
    show x.toNat = _
    simp [rn, Nat.mod_one]
  | n + 1, h => by
    have ih := rightW_nat x n (by omega)
    have hlt := rn_lt (n := n) (by omega) x.isLt
    have hs := rn_step (n := n) (N := x.toNat) (by omega)
    have hlt2 := rn_lt (n := n + 1) h x.isLt
    show (rightW n x / 2#32 + rightW n x % 2#32 * 2147483648#32).toNat = _
    rw [BitVec.toNat_add, BitVec.toNat_udiv, BitVec.toNat_mul, BitVec.toNat_umod, ih]
    simp only [BitVec.toNat_ofNat, Nat.reducePow, Nat.reduceMod]
    omega
theorem rot_nat (x : BitVec 32) (k : Int) {s n : Nat} (hs : (BitVec.ofInt 64 k &&& 31#64).toNat = s) (hn : (32#64 - (BitVec.ofInt 64 k &&& 31#64)).toNat = n) (h : s + n = 32) : (rot x k).toNat = rn n x.toNat := by
  have hx := x.isLt
  have e0 : x.toNat = 2 ^ n * (x.toNat / 2 ^ n) + x.toNat % 2 ^ n := (Nat.div_add_mod _ _).symm
  have e1 : x.toNat <<< s % 2 ^ 32 = (x.toNat % 2 ^ n) <<< s := by
    rw [Nat.shiftLeft_eq, Nat.shiftLeft_eq]
    conv => lhs; rw [e0]
    rw [Nat.add_mul, Nat.mul_right_comm, ← Nat.pow_add, show n + s = 32 by omega, Nat.mul_add_mod]
    have h2 : x.toNat % 2 ^ n < 2 ^ n := Nat.mod_lt _ (Nat.pow_pos (by decide))
    have h3 : (x.toNat % 2 ^ n + 1) * 2 ^ s ≤ 2 ^ n * 2 ^ s := Nat.mul_le_mul_right _ h2
    rw [← Nat.pow_add, show n + s = 32 by omega, Nat.add_mul, Nat.one_mul] at h3
    have h4 : 0 < 2 ^ s := Nat.pow_pos (by decide)
    exact Nat.mod_eq_of_lt (by omega)
  have h1 : x.toNat / 2 ^ n < 2 ^ s := by
    rw [Nat.div_lt_iff_lt_mul (Nat.pow_pos (by decide)), ← Nat.pow_add, h]; exact hx
  unfold rot
  rw [hs, hn, BitVec.toNat_or, BitVec.toNat_shiftLeft, BitVec.toNat_ushiftRight, e1, Nat.shiftRight_eq_div_pow, ← Nat.shiftLeft_add_eq_or_of_lt h1, Nat.shiftLeft_eq, rn, show 32 - n = s by omega, Nat.add_comm]
theorem right_rot (x : BitVec 32) (n : Nat) {s : Nat} (hs : (BitVec.ofInt 64 (-(n : Int)) &&& 31#64).toNat = s) (hn : (32#64 - (BitVec.ofInt 64 (-(n : Int)) &&& 31#64)).toNat = n) (h : s + n = 32) : rightW n x = rot x (-(n : Int)) :=
  BitVec.eq_of_toNat_eq (by rw [rightW_nat x n (by omega), rot_nat x _ hs hn h])
theorem downW_nat (x : BitVec 32) : ∀ n, (downW n x).toNat = x.toNat / 2 ^ n
  | 0 => by show x.toNat = _; simp
  | n + 1 => by
    show (downW n x / 2#32).toNat = _
    rw [BitVec.toNat_udiv, downW_nat x n, Nat.pow_succ, ← Nat.div_div_eq_div_mul]
    rfl
theorem down_shr (x : BitVec 32) (n : Nat) : downW n x = x >>> n :=
  BitVec.eq_of_toNat_eq (by rw [downW_nat, BitVec.toNat_ushiftRight, Nat.shiftRight_eq_div_pow])
/-! ### The words -/
theorem ch_eq (e f g : BitVec 32) : (e &&& f) ||| ((4294967295#32 - e) &&& g) = g ^^^ (e &&& (f ^^^ g)) := by
  have h : 4294967295#32 - e = ~~~e := by
    have := BitVec.allOnes_sub_eq_not (w := 32) e
    exact this
  rw [h]
  ext i hi
  simp only [BitVec.getElem_or, BitVec.getElem_and, BitVec.getElem_not, BitVec.getElem_xor]
  cases e[i] <;> cases f[i] <;> cases g[i] <;> rfl
theorem maj_eq (a b c : BitVec 32) : ((a &&& b) ||| (a &&& c)) ||| (b &&& c) = (a &&& b) ||| (c &&& (a ||| b)) := by
  ext i hi
  simp only [BitVec.getElem_or, BitVec.getElem_and]
  cases a[i] <;> cases b[i] <;> cases c[i] <;> rfl
/-- A word out of bytes, byte by byte. -/
def be4p (bs : List UInt8) (i n : Nat) : BitVec 32 := iter (fun n x => 256#32 * x + BitVec.ofNat 32 (bs.getD (4 * i + n) 0).toNat) n 0#32
theorem be4p_all (bs : List UInt8) (i : Nat) : be4p bs i 4 = be4 bs i := by
  show 256#32 * (256#32 * (256#32 * (256#32 * 0#32 + BitVec.ofNat 32 (bs.getD (4 * i + 0) 0).toNat) + BitVec.ofNat 32 (bs.getD (4 * i + 1) 0).toNat) + BitVec.ofNat 32 (bs.getD (4 * i + 2) 0).toNat) + BitVec.ofNat 32 (bs.getD (4 * i + 3) 0).toNat = _
  unfold be4
  rw [Nat.add_zero]
  have h0 := (bs.getD (4 * i) 0).toNat_lt
  have h1 := (bs.getD (4 * i + 1) 0).toNat_lt
  have h2 := (bs.getD (4 * i + 2) 0).toNat_lt
  have h3 := (bs.getD (4 * i + 3) 0).toNat_lt
  generalize (bs.getD (4 * i) 0).toNat = a at *
  generalize (bs.getD (4 * i + 1) 0).toNat = b at *
  generalize (bs.getD (4 * i + 2) 0).toNat = c at *
  generalize (bs.getD (4 * i + 3) 0).toNat = d at *
  apply BitVec.eq_of_toNat_eq
  simp only [BitVec.toNat_or, BitVec.toNat_shiftLeft, BitVec.toNat_ofNat, BitVec.toNat_add, BitVec.toNat_mul, Nat.reducePow, Nat.reduceMod]
  have e1 : ((a % 4294967296) <<< 24) % 4294967296 = (a * 256) <<< 16 := by rw [Nat.shiftLeft_eq, Nat.shiftLeft_eq]; omega
  have e2 : ((b % 4294967296) <<< 16) % 4294967296 = b <<< 16 := by rw [Nat.shiftLeft_eq]; omega
  have e3 : ((c % 4294967296) <<< 8) % 4294967296 = c <<< 8 := by rw [Nat.shiftLeft_eq]; omega
  rw [e1, e2, e3, Nat.mod_eq_of_lt (show d < 4294967296 by omega)]
  have f1 : (a * 256) <<< 16 ||| b <<< 16 = (a * 256 + b) <<< 16 := by
    have : (a * 256 ||| b) = a * 256 + b := by
      rw [show a * 256 = a <<< 8 by rw [Nat.shiftLeft_eq], ← Nat.shiftLeft_add_eq_or_of_lt (show b < 2 ^ 8 by omega)]
    rw [← Nat.shiftLeft_or_distrib, this]
  have f2 : (a * 256 + b) <<< 16 ||| c <<< 8 = ((a * 256 + b) * 256 + c) <<< 8 := by
    have : ((a * 256 + b) * 256 ||| c) = (a * 256 + b) * 256 + c := by
      rw [show (a * 256 + b) * 256 = (a * 256 + b) <<< 8 by rw [Nat.shiftLeft_eq], ← Nat.shiftLeft_add_eq_or_of_lt (show c < 2 ^ 8 by omega)]
    have e : (a * 256 + b) <<< 16 = ((a * 256 + b) * 256) <<< 8 := by rw [Nat.shiftLeft_eq, Nat.shiftLeft_eq]; omega
    rw [e, ← Nat.shiftLeft_or_distrib, this]
  rw [f1, f2, ← Nat.shiftLeft_add_eq_or_of_lt (show d < 2 ^ 8 by omega), Nat.shiftLeft_eq]
  omega
end Go.Proofs.YtokhediaibdkjaaDoor

/-! From H5 -/
/- Ref04's Fill; plain facts of its tables and words. (printed by gen1.py) -/
namespace Go.Proofs.YtokhediaibdkjaaDoor
open Go.Pm Go.RowKit
set_option maxRecDepth 100000
/-- How many noughts fill up; a message, filled up. -/
def zerosN (n : Nat) : Nat := (119 - n % 64) % 64
def lenW (n : Nat) : BitVec 64 := 8#64 * BitVec.ofNat 64 n
def fillW (b : List UInt8) : List UInt8 := (b ++ (128 :: List.replicate (zerosN b.length) 0)) ++ be8 (lenW b.length)
def fillN (n : Nat) : Nat := n + 1 + zerosN n + 8
theorem fillW_length (b : List UInt8) : (fillW b).length = fillN b.length := by
  simp only [fillW, fillN, List.length_append, List.length_cons, List.length_replicate, be8_length]; omega
theorem fill_more (b : List UInt8) (i : Nat) : (b ++ (128 :: List.replicate i 0)).map B8 ++ ([0] : List UInt8).map B8 = (b ++ (128 :: List.replicate (i + 1) 0)).map B8 := by
  rw [← List.map_append, List.append_assoc, List.cons_append, ← List.replicate_succ']
theorem tail_more (N : BitVec 64) {i : Nat} (hi : i < 8) : ([UInt8.ofNat ((N >>> (8 * i)) % 256#64).toNat] : List UInt8).map B8 ++ ((be8 N).drop (8 - i)).map B8 = ((be8 N).drop (8 - (i + 1))).map B8 := by
  have e : UInt8.ofNat ((N >>> (8 * i)) % 256#64).toNat = byteK N i := by
    rw [byteK]
    apply UInt8.toNat_inj.1
    rw [UInt8.toNat_ofNat', UInt8.toNat_ofNat', BitVec.toNat_umod]
    exact Nat.mod_mod _ _
  rw [e]
  match i, hi with
  | 0, _ => rfl
  | 1, _ => rfl
  | 2, _ => rfl
  | 3, _ => rfl
  | 4, _ => rfl
  | 5, _ => rfl
  | 6, _ => rfl
  | 7, _ => rfl
theorem quo_256 (N : BitVec 64) (i : Nat) : (N >>> (8 * i)) / 256#64 = N >>> (8 * (i + 1)) := by
  rw [← shr_more]
  apply BitVec.eq_of_toNat_eq
  rw [BitVec.toNat_udiv, BitVec.toNat_ushiftRight (i := 8), Nat.shiftRight_eq_div_pow]
  rfl


theorem f62_spec (p : Option Addr) (n c : Nat) (bs : List UInt8) (hb : bs.length = n) (hp : p = none → c = 0) (hn : n ≤ 1000000000) (w : World) (hr : RdC w p (bs.map B8)) : Calls Tryd.prog 62 [.slice p n c, I64 64, I64 8].toArray w (fun en w2 => ∃ y : Option Addr × Nat, (y.1 = none → y.2 = 0) ∧ en = .returned (slv (fillN n) y) ∧ Sat w (fps []) [vec (slv (fillN n) y) 5 1 (fillN n) ((fillW bs).map B8)] w2) := by
  have hz : zerosN n < 64 := Nat.mod_lt _ (by decide)
  have hzd : zerosN n = (119 - n % 64) % 64 := rfl
  refine enter (n := 47) Tryd.func62 rfl rfl rfl (Sat.refl w) ?_
  refine seq ?_
  refine region ?_
  refine st (g_assign rfl) rfl ?_
  refine done ?_
  refine th_n ?_
  refine seq ?_
  refine region ?_
  refine st (g_assign rfl) rfl ?_
  refine done ?_
  refine th_n ?_
  refine seq ?_
  refine At.up (fun w hw => new0_vec (T := 5) (s := 1) hw ⟨rfl, .inl ⟨rfl, rfl⟩⟩) ?_
  refine region ?_
  refine st (g_move rfl) rfl ?_
  refine st (g_move rfl) rfl ?_
  refine sq rfl (o_append (n := 0) (m := n) (news := bs.map B8) un_23 zr_5 sz_5 rfl bt_5 (by decide) rfl rfl .here (by simp [hb]) (RdA.of hr.s) oneB8 hp (by simp only [maxLen]; omega) (by omega) rfl (fun q1 cap1 hq1 hc1 hq01 => ?_))
  refine st (g_assign rfl) rfl ?_
  refine done ?_
  refine th_n ?_
  refine seq ?_
  refine region ?_
  refine st (g_move rfl) rfl ?_
  refine sq rfl (o_buildSlice1 (vs := [B8 128]) un_23 zr_5 sz_5 (by decide) (by decide) rfl rfl rfl (by simp [Value.oneCell']) rfl (fun b15 => ?_))
  refine sq rfl (o_append (n := 0 + n) (m := 1) (news := ([128] : List UInt8).map B8) un_23 zr_5 sz_5 rfl bt_5 (by decide) rfl rfl (.there (.here)) rfl (RdA.own .here (by simp)) oneB8 nofun (by simp only [maxLen]; omega) (by omega) rfl (fun q2 cap2 hq2 hc2 hq02 => ?_))
  rw [List.nil_append, ← List.map_append, Nat.zero_add]
  refine st (g_assign rfl) rfl ?_
  refine done ?_
  refine th_n ?_
  refine seq ?_
  refine block ?_
  refine loop (α := Nat × (Option Addr × Nat)) (fun ⟨i, y⟩ => i ≤ zerosN n ∧ (y.1 = none → y.2 = 0)) (fun ⟨i, y⟩ => [(0, .slice p n c), (1, I64 64), (2, I64 8), (7, slv (n + 1 + i) y)]) (fun ⟨i, y⟩ => [vec (slv (n + 1 + i) y) 5 1 (n + 1 + i) ((bs ++ (128 :: List.replicate (i) 0)).map B8)]) (fun ⟨i, y⟩ => zerosN n - i) (0, (q2, cap2)) ⟨Nat.zero_le _, hq02⟩ ⟨rfl, rfl, rfl, rfl, trivial⟩ (.cons .here .nil) (fun ⟨i, y⟩ ⟨hi, hy⟩ => ?_)
  show At _ [(0, .slice p n c), (1, I64 64), (2, I64 8), (7, slv (n + 1 + i) y)] [vec (slv (n + 1 + i) y) 5 1 (n + 1 + i) ((bs ++ (128 :: List.replicate (i) 0)).map B8)] _
  refine seq ?_
  refine seq ?_
  refine region ?_
  refine st (g_move rfl) rfl ?_
  refine st (g_len el_23 rfl) rfl ?_
  refine st (g_move rfl) rfl ?_
  refine st (g_iadd (c := ((n + 1 + i + 8 : Nat) : Int)) rfl rfl (by omega) (by omega) (by omega)) rfl ?_
  refine st (g_move rfl) rfl ?_
  refine st (g_irem (c := (((n + 1 + i + 8) % 64 : Nat) : Int)) rfl rfl (by omega) (by omega) (by omega)) rfl ?_
  refine st (g_bin rfl rfl rfl) rfl ?_
  refine done ?_
  refine th_n ?_
  refine condS rfl (fun h23 => ?_) (fun h23 => ?_)
  · try simp only [decide_eq_true_eq] at h23
    have hi2 : i < zerosN n := by
      rcases Nat.lt_or_ge i (zerosN n) with h | h
      · exact h
      · exfalso
        have : i = zerosN n := by omega
        omega
    refine skip ?_
    refine th_n ?_
    refine block ?_
    refine region ?_
    refine st (g_move rfl) rfl ?_
    refine sq rfl (o_buildSlice1 (vs := [B8 0]) un_23 zr_5 sz_5 (by decide) (by decide) rfl rfl rfl (by simp [Value.oneCell']) rfl (fun b25 => ?_))
    refine sq rfl (o_append (n := n + 1 + i) (m := 1) (news := ([0] : List UInt8).map B8) un_23 zr_5 sz_5 rfl bt_5 (by decide) rfl rfl (.there (.here)) rfl (RdA.own .here (by simp)) oneB8 nofun (by simp only [maxLen]; omega) (by omega) rfl (fun q3 cap3 hq3 hc3 hq03 => ?_))
    rw [fill_more]
    refine st (g_assign rfl) rfl ?_
    refine done ?_
    refine ib_n ?_
    refine th_n ?_
    exact again (i + 1, (q3, cap3)) ⟨by omega, hq03⟩ (by show zerosN n - (i + 1) < zerosN n - i; omega) ⟨rfl, rfl, rfl, rfl, trivial⟩ (.cons .here .nil)
  · try simp only [decide_eq_false_iff_not] at h23
    have hie : i = zerosN n := by omega
    subst hie
    refine exitc ?_
    refine th_x ?_
    refine th_x ?_
    refine ib_x ?_
    refine th_n ?_
    refine seq ?_
    refine region ?_
    refine st (g_move rfl) rfl ?_
    refine st (g_len el_23 rfl) rfl ?_
    refine st (g_to64 (n := n) it_3 it_34 rfl (rfl)) rfl ?_
    refine st (g_mul64 (a := 8#64) rfl rfl) rfl ?_
    refine st (g_assign rfl) rfl ?_
    refine done ?_
    refine th_n ?_
    refine seq ?_
    refine region ?_
    refine st (g_assign rfl) rfl ?_
    refine done ?_
    refine th_n ?_
    refine seq ?_
    refine seq ?_
    refine At.up (fun w hw => new0_vec (T := 5) (s := 1) hw ⟨rfl, .inl ⟨rfl, rfl⟩⟩) ?_
    refine region ?_
    refine st (g_assign rfl) rfl ?_
    refine done ?_
    refine th_n ?_
    refine block ?_
    refine loop (α := Nat × (Option Addr × Nat)) (fun ⟨j, z⟩ => j ≤ 8 ∧ (z.1 = none → z.2 = 0)) (fun ⟨j, z⟩ => [(2, I64 8), (7, slv (n + 1 + zerosN n) y), (8, U64 (lenW n >>> (8 * j))), (9, slv j z), (10, I64 (j : Nat))]) (fun ⟨j, z⟩ => [vec (slv j z) 5 1 j (((be8 (lenW n)).drop (8 - j)).map B8), vec (slv (n + 1 + zerosN n) y) 5 1 (n + 1 + zerosN n) ((bs ++ (128 :: List.replicate (zerosN n) 0)).map B8)]) (fun ⟨j, z⟩ => 8 - j) (0, (none, 0)) ⟨Nat.zero_le _, fun _ => rfl⟩ ⟨rfl, rfl, by show some (U64 (8#64 * BitVec.ofNat 64 n)) = some (U64 (lenW n >>> (8 * 0))); rw [Nat.mul_zero, BitVec.ushiftRight_zero, lenW], rfl, rfl, trivial⟩ (.cons .here (.cons .here .nil)) (fun ⟨j, z⟩ ⟨hj, hz2⟩ => ?_)
    show At _ [(2, I64 8), (7, slv (n + 1 + zerosN n) y), (8, U64 (lenW n >>> (8 * j))), (9, slv j z), (10, I64 (j : Nat))] [vec (slv j z) 5 1 j (((be8 (lenW n)).drop (8 - j)).map B8), vec (slv (n + 1 + zerosN n) y) 5 1 (n + 1 + zerosN n) ((bs ++ (128 :: List.replicate (zerosN n) 0)).map B8)] _
    refine seq ?_
    refine seq ?_
    refine region ?_
    refine st (g_move rfl) rfl ?_
    refine st (g_move rfl) rfl ?_
    refine st (g_bin rfl rfl rfl) rfl ?_
    refine done ?_
    refine th_n ?_
    refine condS rfl (fun h33 => ?_) (fun h33 => ?_)
    · try simp only [decide_eq_true_eq] at h33
      have hj2 : j < 8 := by omega
      refine skip ?_
      refine th_n ?_
      refine seq ?_
      refine block ?_
      refine seq ?_
      refine region ?_
      refine st (g_move rfl) rfl ?_
      refine st (g_rem64 (b := 256#64) rfl rfl (by decide)) rfl ?_
      refine st (g_to8 it_34 it_5 rfl rfl) rfl ?_
      refine sq rfl (o_buildSlice1 (vs := ([UInt8.ofNat ((lenW n >>> (8 * j)) % 256#64).toNat] : List UInt8).map B8) un_23 zr_5 sz_5 (by decide) (by decide) rfl rfl rfl oneB8 rfl (fun b39 => ?_))
      refine vec_of_blk (s := 1) (n := 1) .here rfl (by decide) ?_
      refine st (g_move rfl) rfl ?_
      refine sq rfl (o_append (n := 1) (m := j) (news := ((be8 (lenW n)).drop (8 - j)).map B8) un_23 zr_5 sz_5 rfl bt_5 (by decide) rfl rfl .here (by rw [List.length_map, List.length_drop, be8_length]; omega) (RdA.vec (.there (.here))) oneB8 hz2 (by simp only [maxLen]; omega) (by omega) rfl (fun q4 cap4 hq4 hc4 hq04 => ?_))
      rw [tail_more _ hj2, Nat.add_comm 1 j]
      refine st (g_assign rfl) rfl ?_
      refine done ?_
      refine th_n ?_
      refine region ?_
      refine st (g_move rfl) rfl ?_
      refine st (g_quo64 (b := 256#64) rfl rfl (by decide)) rfl ?_
      refine st (g_assign rfl) rfl ?_
      refine done ?_
      refine ib_n ?_
      refine th_n ?_
      refine region ?_
      refine st (g_move rfl) rfl ?_
      refine st (g_iadd (c := ((j + 1 : Nat) : Int)) rfl rfl (by omega) (by omega) (by omega)) rfl ?_
      refine st (g_assign rfl) rfl ?_
      refine done ?_
      refine th_n ?_
      exact again (j + 1, (q4, cap4)) ⟨by omega, hq04⟩ (by show 8 - (j + 1) < 8 - j; omega) ⟨rfl, rfl, by rw [← quo_256]; rfl, rfl, rfl, trivial⟩ (.cons .here (.cons (.there (.here)) .nil))
    · try simp only [decide_eq_false_iff_not] at h33
      have hje : j = 8 := by omega
      subst hje
      refine exitc ?_
      refine th_x ?_
      refine th_x ?_
      refine ib_x ?_
      refine th_n ?_
      refine seq ?_
      refine region ?_
      refine st (g_move rfl) rfl ?_
      refine st (g_move rfl) rfl ?_
      refine sq rfl (o_append (n := n + 1 + zerosN n) (m := 8) (news := (be8 (lenW n)).map B8) un_23 zr_5 sz_5 rfl bt_5 (by decide) rfl rfl (.there (.here)) rfl (RdA.vec .here) oneB8 hz2 (by simp only [maxLen]; omega) (by omega) rfl (fun q5 cap5 hq5 hc5 hq05 => ?_))
      rw [← List.map_append]
      refine st (g_assign rfl) rfl ?_
      refine done ?_
      refine th_n ?_
      refine ret ?_
      exact ret1 rfl rfl rfl (fun w2 hw2 => ⟨(q5, cap5), hq05, rfl, by
        have h := Sat.left (hw2.split (.cons .here .nil))
        have e : fillW bs = (bs ++ (128 :: List.replicate (zerosN n) 0)) ++ be8 (lenW n) := by rw [fillW, hb]
        rw [e]; exact h⟩)

theorem bu_39 (x0 x1 x2 x3 x4 x5 x6 x7 : BitVec 32) : Tryd.prog.built 39 [(0, U32 x0), (1, U32 x1), (2, U32 x2), (3, U32 x3), (4, U32 x4), (5, U32 x5), (6, U32 x6), (7, U32 x7)] = some [U32 x0, U32 x1, U32 x2, U32 x3, U32 x4, U32 x5, U32 x6, U32 x7].toArray := by
  have h1 : Tryd.prog.built 39 [(0, U32 x0), (1, U32 x1), (2, U32 x2), (3, U32 x3), (4, U32 x4), (5, U32 x5), (6, U32 x6), (7, U32 x7)] = Instr.fill (fun i => some (i * 1, 1)) #[.int .u32 0, .int .u32 0, .int .u32 0, .int .u32 0, .int .u32 0, .int .u32 0, .int .u32 0, .int .u32 0] ((List.range' 0 8).zip [U32 x0, U32 x1, U32 x2, U32 x3, U32 x4, U32 x5, U32 x6, U32 x7]) := by kernel_rfl
  rw [h1]
  exact fill_all [U32 x0, U32 x1, U32 x2, U32 x3, U32 x4, U32 x5, U32 x6, U32 x7] 0 _ (by intro v hv; simp only [List.mem_cons, List.not_mem_nil, or_false] at hv; rcases hv with rfl | rfl | rfl | rfl | rfl | rfl | rfl | rfl <;> rfl) rfl
/-- The reference's tables, as they are made. -/
def z8w : List (BitVec 32) := List.replicate 8 0#32
def kT (i : Nat) : List (BitVec 32) := iter (fun i l => l.set i (BitVec.ofNat 32 (fracW (p64.getD i 0) true 96 32).toNat)) i z64
def hT (bits i : Nat) : List (BitVec 32) := iter (fun i l => l.set i (if bits = 256 then BitVec.ofNat 32 (fracW (p64.getD i 0) false 64 32).toNat else BitVec.ofNat 32 (fracW (p64.getD (i + 8) 0) false 128 64 % 4294967296#64).toNat)) i z8w
theorem kT_length (i : Nat) : (kT i).length = 64 := iter_inv (I := fun l : List (BitVec 32) => l.length = 64) (fun n l h => by rw [List.length_set, h]) i _ rfl
theorem hT_length (bits i : Nat) : (hT bits i).length = 8 := iter_inv (I := fun l : List (BitVec 32) => l.length = 8) (fun n l h => by rw [List.length_set, h]) i _ rfl
theorem p64_small : ∀ i, p64.getD i 0 < 512 := by
  intro i
  rcases Nat.lt_or_ge i p64.length with h | h
  · have h1 := List.mem_of_getElem? (getD_get (d := 0) h)
    have h2 := (List.mem_filter.1 h1).1
    have := List.mem_range.1 h2
    omega
  · rw [List.getD_eq_getElem?_getD, List.getElem?_eq_none h]; decide
theorem p64_get {i : Nat} (h : i < 64) : (p64.map fun p : Nat => I64 (p : Int))[i]? = some (I64 (p64.getD i 0 : Nat)) := by
  rw [List.getElem?_map, getD_get (d := 0) (by rw [p64_length]; exact h)]; rfl
/-- A word of the message in the making. -/
theorem sp_zero (bs : List UInt8) : ∀ (i j : Nat), i ≤ j → j < 64 → (iter (spStep bs) i z64).getD j 0#32 = 0#32
  | 0, j, _, hj => by
    show z64.getD j 0#32 = _
    rw [List.getD_eq_getElem?_getD, z64, List.getElem?_replicate, if_pos hj]; rfl
  | i + 1, j, h, hj => by
    have hne : i ≠ j := by omega
    have ih := sp_zero bs i j (by omega) hj
    show (spStep bs i (iter (spStep bs) i z64)).getD j 0#32 = _
    generalize iter (spStep bs) i z64 = L at ih ⊢
    unfold spStep
    split <;> rw [List.getD_eq_getElem?_getD, List.getElem?_set_ne hne, ← List.getD_eq_getElem?_getD, ih]
theorem set_same {l : List (BitVec 32)} {i : Nat} (h : i < l.length) (hz : l.getD i 0#32 = 0#32) : l.set i 0#32 = l := by
  apply List.ext_getElem? 
  intro j
  by_cases hj : i = j
  · subst hj
    rw [List.getElem?_set_self h, getD_get (d := 0#32) h, hz]
  · rw [List.getElem?_set_ne hj]
theorem sp_set0 (bs : List UInt8) {i : Nat} (hi : i < 16) : (iter (spStep bs) i z64).set i (be4p bs i 0) = iter (spStep bs) i z64 :=
  set_same (by rw [spIter_length]; omega) (sp_zero bs i i (Nat.le_refl _) (by omega))
theorem sp_set4 (bs : List UInt8) {i : Nat} (hi : i < 16) : (iter (spStep bs) i z64).set i (be4p bs i 4) = iter (spStep bs) (i + 1) z64 := by
  rw [be4p_all]; exact spStep_lt hi
theorem mix_eq (ws : List (BitVec 32)) (i : Nat) : ws.getD (i - 16) 0#32 + ws.getD (i - 7) 0#32 + (rightW 7 (ws.getD (i - 15) 0#32) ^^^ rightW 18 (ws.getD (i - 15) 0#32) ^^^ downW 3 (ws.getD (i - 15) 0#32)) + (rightW 17 (ws.getD (i - 2) 0#32) ^^^ rightW 19 (ws.getD (i - 2) 0#32) ^^^ downW 10 (ws.getD (i - 2) 0#32)) = mix ws i := by
  rw [right_rot _ 7 (s := 25) (by decide) (by decide) (by decide), right_rot _ 18 (s := 14) (by decide) (by decide) (by decide), right_rot _ 17 (s := 15) (by decide) (by decide) (by decide), right_rot _ 19 (s := 13) (by decide) (by decide) (by decide), down_shr, down_shr]
  rfl
theorem t1_eq (ws hs : List (BitVec 32)) (i : Nat) : hs.getD 7 0#32 + cubesL.getD i 0#32 + ws.getD i 0#32 + (rightW 6 (hs.getD 4 0#32) ^^^ rightW 11 (hs.getD 4 0#32) ^^^ rightW 25 (hs.getD 4 0#32)) + ((hs.getD 4 0#32 &&& hs.getD 5 0#32) ||| ((4294967295#32 - hs.getD 4 0#32) &&& hs.getD 6 0#32)) = t1W ws hs i := by
  rw [right_rot _ 6 (s := 26) (by decide) (by decide) (by decide), right_rot _ 11 (s := 21) (by decide) (by decide) (by decide), right_rot _ 25 (s := 7) (by decide) (by decide) (by decide), ch_eq]
  rfl
theorem t2_eq (hs : List (BitVec 32)) : (rightW 2 (hs.getD 0 0#32) ^^^ rightW 13 (hs.getD 0 0#32) ^^^ rightW 22 (hs.getD 0 0#32)) + (((hs.getD 0 0#32 &&& hs.getD 1 0#32) ||| (hs.getD 0 0#32 &&& hs.getD 2 0#32)) ||| (hs.getD 1 0#32 &&& hs.getD 2 0#32)) = t2W hs := by
  rw [right_rot _ 2 (s := 30) (by decide) (by decide) (by decide), right_rot _ 13 (s := 19) (by decide) (by decide) (by decide), right_rot _ 22 (s := 10) (by decide) (by decide) (by decide), maj_eq]
  rfl
theorem tIter_length (ws : List (BitVec 32)) (hs : List (BitVec 32)) (h : hs.length = 8) : ∀ n, (iter (tStep ws) n hs).length = 8
  | 0 => h
  | _ + 1 => rfl
theorem blk_get {m : List UInt8} {ib j : Nat} (h : 64 * ib + 64 ≤ m.length) (hj : j < 64) : (m.map B8)[64 * ib + j]? = some (B8 ((blkOf m ib).getD j 0)) := by
  rw [List.getElem?_map, blkOf, List.getD_eq_getElem?_getD, List.getElem?_take_of_lt hj, List.getElem?_drop, List.getElem?_eq_getElem (by omega)]
  rfl
theorem cons_eq {a b : UInt8} {l m : List UInt8} (h : a = b) (h2 : l = m) : a :: l = b :: m := by rw [h, h2]
theorem word_bytes (x : BitVec 32) : [UInt8.ofNat (x / 16777216#32).toNat, UInt8.ofNat (x / 65536#32 % 256#32).toNat, UInt8.ofNat (x / 256#32 % 256#32).toNat, UInt8.ofNat (x % 256#32).toNat] = w4 x := by
  have h : ∀ a b : Nat, a % 256 = b % 256 → UInt8.ofNat a = UInt8.ofNat b := fun a b e => UInt8.toNat_inj.1 (by rw [UInt8.toNat_ofNat', UInt8.toNat_ofNat']; exact e)
  have hx := x.isLt
  unfold w4
  refine cons_eq (h _ _ ?_) (cons_eq (h _ _ ?_) (cons_eq (h _ _ ?_) (cons_eq (h _ _ ?_) rfl)))
  · rw [BitVec.toNat_udiv, BitVec.toNat_ushiftRight, Nat.shiftRight_eq_div_pow]; rfl
  · rw [BitVec.toNat_umod, BitVec.toNat_udiv, BitVec.toNat_ushiftRight, Nat.shiftRight_eq_div_pow]; exact Nat.mod_mod _ _
  · rw [BitVec.toNat_umod, BitVec.toNat_udiv, BitVec.toNat_ushiftRight, Nat.shiftRight_eq_div_pow]; exact Nat.mod_mod _ _
  · rw [BitVec.toNat_umod]; exact Nat.mod_mod _ _
theorem out_take (hs : List (BitVec 32)) {k n : Nat} (h : k ≤ n) : (outB hs n).take (4 * k) = outB hs k := by
  obtain ⟨j, rfl⟩ : ∃ j, n = k + j := ⟨n - k, by omega⟩
  have e : outB hs (k + j) = outB hs k ++ (List.range j).flatMap fun i => w4 (hs.getD (k + i) 0#32) := by
    unfold outB
    rw [List.range_add, List.flatMap_append, List.flatMap_map]
  rw [e, List.take_append_of_le_length (by rw [outB_length]; exact Nat.le_refl _), List.take_of_length_le (by rw [outB_length]; exact Nat.le_refl _)]
/-- The reference's hash is the program's. -/
theorem ref_hash (fst : List (BitVec 32)) (bs : List UInt8) {k : Nat} (hk : k ≤ 8) : outB (absorb (fillW bs) ((fillW bs).length / 64) fst) k = digest (4 * k) fst bs := by
  have hpad : padL (shaR bs).length (BitVec.ofNat 64 bs.length) = (128 :: List.replicate (zerosN bs.length) 0) ++ be8 (lenW bs.length) := by
    have e1 : (119 - (shaR bs).length) % 64 = zerosN bs.length := by
      rw [shaR_length, zerosN]; omega
    unfold padL padPre
    rw [e1]
    rfl
  have hfill : fillW bs = bs ++ padL (shaR bs).length (BitVec.ofNat 64 bs.length) := by rw [hpad, fillW, List.append_assoc]
  unfold digest sumW sumH
  rw [shaH_append, out_take _ hk, hfill]
  rfl

end Go.Proofs.YtokhediaibdkjaaDoor

/-! From T1 -/
/- The reference's table of cube roots, first part. (printed by gen1.py) -/
namespace Go.Proofs.YtokhediaibdkjaaDoor
open Go.Pm Go.RowKit
set_option maxRecDepth 100000
theorem kt_0 : ∀ i, i < 4 → BitVec.ofNat 32 (fracW (([2, 3, 5, 7] : List Nat).getD i 0) true 96 32).toNat = cubesL.getD (0 + i) 0#32 := by decide +kernel

theorem kt_1 : ∀ i, i < 4 → BitVec.ofNat 32 (fracW (([11, 13, 17, 19] : List Nat).getD i 0) true 96 32).toNat = cubesL.getD (4 + i) 0#32 := by decide +kernel

theorem kt_2 : ∀ i, i < 4 → BitVec.ofNat 32 (fracW (([23, 29, 31, 37] : List Nat).getD i 0) true 96 32).toNat = cubesL.getD (8 + i) 0#32 := by decide +kernel

theorem kt_3 : ∀ i, i < 4 → BitVec.ofNat 32 (fracW (([41, 43, 47, 53] : List Nat).getD i 0) true 96 32).toNat = cubesL.getD (12 + i) 0#32 := by decide +kernel

theorem kt_4 : ∀ i, i < 4 → BitVec.ofNat 32 (fracW (([59, 61, 67, 71] : List Nat).getD i 0) true 96 32).toNat = cubesL.getD (16 + i) 0#32 := by decide +kernel

theorem kt_5 : ∀ i, i < 4 → BitVec.ofNat 32 (fracW (([73, 79, 83, 89] : List Nat).getD i 0) true 96 32).toNat = cubesL.getD (20 + i) 0#32 := by decide +kernel

theorem kt_6 : ∀ i, i < 4 → BitVec.ofNat 32 (fracW (([97, 101, 103, 107] : List Nat).getD i 0) true 96 32).toNat = cubesL.getD (24 + i) 0#32 := by decide +kernel

theorem kt_7 : ∀ i, i < 4 → BitVec.ofNat 32 (fracW (([109, 113, 127, 131] : List Nat).getD i 0) true 96 32).toNat = cubesL.getD (28 + i) 0#32 := by decide +kernel
end Go.Proofs.YtokhediaibdkjaaDoor
