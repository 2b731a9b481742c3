/- The walks of blocks. (printed by gen1.py) -/
import Derived.Test.YtokhediaibdkjaaDoorW6
namespace Go.Proofs.YtokhediaibdkjaaDoor
open Go.Pm Go.RowKit
set_option maxRecDepth 100000
/-- Where the slice lies after i blocks of 64. -/
def bp (p : Option Addr) (c i : Nat) : Option Addr := iter (fun i q => adv q (c - 64 * i) 64 1) i p
theorem bp_rd {w : World} {S : List Nat} {p : Option Addr} {c : Nat} {vs : List Value} (h : RdS w S p vs) (hc : vs.length ≤ c) : ∀ i, RdS w S (bp p c i) (vs.drop (64 * i))
  | 0 => by simpa [bp, iter] using h
  | i + 1 => by
    have h1 := (bp_rd h hc i).adv (c := c - 64 * i) (k := 64) (s := 1) (fun he => by rw [List.length_drop]; omega)
    rw [List.drop_drop] at h1
    have e1 : 64 * i + 64 * 1 = 64 * (i + 1) := by omega
    rw [e1] at h1
    exact h1
theorem Split.all : ∀ (Rs : List Res), Split Rs Rs []
  | [] => .nil
  | _ :: Rs => .cons .here (Split.all Rs)
theorem Sat.app0 {w0 w : World} {S0 : List Nat} {Rs : List Res} (h : Sat w0 S0 (Rs ++ []) w) : Sat w0 S0 Rs w := by rwa [List.append_nil] at h


theorem YieldCall.mono {P : Program} {lp : Nat} {vs : List Value} {w : World} {R R' : Bool → World → Prop} (h : ∀ b w', R b w' → R' b w') (hY : YieldCall P lp vs w R) : YieldCall P lp vs w R' := by
  obtain ⟨fn, tmps, assign, body, h1, h2⟩ := hY
  exact ⟨fn, tmps, assign, body, h1, h2.mono fun en w' ⟨b, e, hr⟩ => ⟨b, e, h _ _ hr⟩⟩


theorem f67_spec (v : Value) (h1 : v.oneCell' = true) (w : World) : Calls Tryd.prog 67 [v].toArray w (fun en w2 => ∃ bb : Nat, True ∧ en = .returned (.func (.func 96) #[] [.pointer (some ⟨bb, 0, none⟩)].toArray) ∧ Sat w (fps []) [blk bb 23 [v]] w2) := by
  refine enter (n := 4) Tryd.func67 rfl rfl rfl (Sat.refl w) ?_
  refine seq ?_
  refine region ?_
  refine sq rfl (o_box (cs := [v]) rfl (by cases v <;> first | rfl | cases h1) rfl (fun b1 => ?_))
  refine st (g_assign rfl) rfl ?_
  refine done ?_
  refine th_n ?_
  refine seq ?_
  refine region ?_
  refine st (g_makeFunc rfl rfl) rfl ?_
  refine st (g_assign rfl) rfl ?_
  refine done ?_
  refine th_n ?_
  refine ret ?_
  exact ret1 rfl rfl rfl (fun w2 hw2 => ⟨b1, trivial, rfl, hw2⟩)

theorem f96_spec (lp bb : Nat) (lpo : Obj) (p : Option Addr) (n c : Nat) (hnc : n ≤ c) (hc63 : c ≤ maxLen) (RR : Nat → List Res) (w : World) (hA : Sat w (fps (objR lp lpo :: blk bb 23 [.slice p n c] :: RR 0)) (objR lp lpo :: blk bb 23 [.slice p n c] :: RR 0) w)
    (hY : ∀ i, i < n / 64 → ∀ w', Sat w (fps (objR lp lpo :: blk bb 23 [.slice p n c] :: RR 0)) (objR lp lpo :: blk bb 23 [.slice (bp p c (i + 1)) (n - 64 * (i + 1)) (c - 64 * (i + 1))] :: RR (i)) w' → Sat w' (fps (objR lp lpo :: blk bb 23 [.slice (bp p c (i + 1)) (n - 64 * (i + 1)) (c - 64 * (i + 1))] :: RR (i))) (objR lp lpo :: blk bb 23 [.slice (bp p c (i + 1)) (n - 64 * (i + 1)) (c - 64 * (i + 1))] :: RR (i)) w' → YieldCall Tryd.prog lp [.slice (bp p c i) 64 (c - 64 * i), .slice (bp p c (i + 1)) (n - 64 * (i + 1)) (c - 64 * (i + 1))] w' (fun b w2 => b = true ∧ Sat w' (fps (objR lp lpo :: blk bb 23 [.slice (bp p c (i + 1)) (n - 64 * (i + 1)) (c - 64 * (i + 1))] :: RR (i))) (objR lp lpo :: blk bb 23 [.slice (bp p c (i + 1)) (n - 64 * (i + 1)) (c - 64 * (i + 1))] :: RR (i + 1)) w2)) :
    Calls Tryd.prog 96 [.func (.yield lp) #[] #[], .pointer (some ⟨bb, 0, none⟩)].toArray w (fun en w2 => en = .returned (.tuple #[]) ∧ Sat w (fps (objR lp lpo :: blk bb 23 [.slice p n c] :: RR 0)) (objR lp lpo :: blk bb 23 [.slice (bp p c (n / 64)) (n - 64 * (n / 64)) (c - 64 * (n / 64))] :: RR (n / 64)) w2) := by
  refine enter (n := 16) Tryd.func96 rfl rfl rfl hA ?_
  refine scope ?_
  refine seq ?_
  refine label ?_
  refine th_n ?_
  refine block ?_
  refine loop (α := Nat) (fun i => i ≤ n / 64) (fun i => [(0, .func (.yield lp) #[] #[]), (1, .pointer (some ⟨bb, 0, none⟩))]) (fun i => (objR lp lpo :: blk bb 23 [.slice (bp p c (i)) (n - 64 * (i)) (c - 64 * (i))] :: RR (i))) (fun i => n / 64 - i) 0 (Nat.zero_le _) ⟨rfl, rfl, trivial⟩ (Split.all _) (fun i hI => ?_)
  refine seq ?_
  refine seq ?_
  refine region ?_
  refine st (g_load sc_23 rfl (Cell.own (.there .here) rfl)) rfl ?_
  refine st (g_len el_23 rfl) rfl ?_
  refine st (g_bin rfl rfl rfl) rfl ?_
  refine done ?_
  refine th_n ?_
  refine condS rfl (fun h6 => ?_) (fun h6 => ?_)
  · try simp only [decide_eq_true_eq, decide_eq_false_iff_not] at h6
    have hi : i < n / 64 := by omega
    have hc64 : 64 ≤ c - 64 * i := by omega
    refine skip ?_
    refine th_n ?_
    refine block ?_
    refine seq ?_
    refine region ?_
    refine st (g_load sc_23 rfl (Cell.own (.there (.here)) rfl)) rfl ?_
    refine st (g_slice (l := 0) (h := 64) (m := ((c - 64 * i : Nat) : Int)) (p' := bp p c i) (n' := 64) (c' := c - 64 * i) el_23 rfl rfl rfl rfl (by simp) (by decide) (by decide) (by omega) (by omega) (adv_zero _ _ _) rfl (by simp)) rfl ?_
    refine st (g_assign rfl) rfl ?_
    refine done ?_
    refine th_n ?_
    refine seq ?_
    refine region ?_
    refine st (g_load sc_23 rfl (Cell.own (.there (.here)) rfl)) rfl ?_
    refine st (g_slice (l := 64) (h := ((n - 64 * i : Nat) : Int)) (m := ((c - 64 * i : Nat) : Int)) (p' := bp p c (i + 1)) (n' := n - 64 * (i + 1)) (c' := c - 64 * (i + 1)) el_23 rfl rfl rfl rfl (by simp) (by decide) (by omega) (by omega) (by omega) rfl (by omega) (by omega)) rfl ?_
    refine sq rfl (o_store sz_23 rfl rfl rfl (.there (.here)) (Nat.le_of_ble_eq_true rfl) rfl ?_)
    refine At.up (fun w hw => hw.pick (.there .here)) ?_
    refine done ?_
    refine th_n ?_
    refine seq ?_
    refine region ?_
    refine st (g_move rfl) rfl ?_
    refine st (g_move rfl) rfl ?_
    refine st (g_load sc_23 rfl (Cell.own (.there .here) rfl)) rfl ?_
    refine sq rfl (o_yield (A := objR lp lpo :: blk bb 23 [.slice (bp p c (i + 1)) (n - 64 * (i + 1)) (c - 64 * (i + 1))] :: RR i) (β := Unit) (I := fun _ b => b = true) (A' := fun _ => objR lp lpo :: blk bb 23 [.slice (bp p c (i + 1)) (n - 64 * (i + 1)) (c - 64 * (i + 1))] :: RR (i + 1)) rfl rfl (Split.all _) (fun w' hw' hA' => YieldCall.mono (fun b w2 ⟨h1, h2⟩ => ⟨(), h1, h2⟩) (hY i hi w' hw' hA')) rfl (fun _ b hbt => ?_))
    subst hbt
    refine At.up (fun w hw => Sat.app0 hw) ?_
    refine st (g_not rfl) rfl ?_
    refine done ?_
    refine th_n ?_
    refine condF rfl ?_
    refine skip ?_
    refine ib_n ?_
    refine th_n ?_
    exact again (i + 1) (by omega) (by omega) ⟨rfl, rfl, trivial⟩ (Split.all _)
  · try simp only [decide_eq_true_eq, decide_eq_false_iff_not] at h6
    have hie : i = n / 64 := by omega
    subst hie
    refine exitc ?_
    refine th_x ?_
    refine th_x ?_
    refine ib_x ?_
    refine ng_n ?_
    exact ret0n rfl rfl (fun w2 hw2 => ⟨rfl, hw2⟩)
end Go.Proofs.YtokhediaibdkjaaDoor
