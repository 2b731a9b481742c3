/- The walks of slices.Grow and slices.Concat. (printed by gen1.py) -/
import Derived.Test.YtokhediaibdkjaaDoorW3
namespace Go.Proofs.YtokhediaibdkjaaDoor
open Go.Pm Go.RowKit
set_option maxRecDepth 100000
theorem un_3 : Tryd.prog.underlying 3 = some (.int .i64) := by kernel_rfl

theorem f95_spec (n : Nat) (hn : n ≤ 70368744177664) (w : World) :
    Calls Tryd.prog 95 [.slice none 0 0, I64 n].toArray w (fun en w2 => ∃ x : Option Addr × Nat, (n ≤ x.2 ∧ (x.1 = none → x.2 = 0)) ∧ en = .returned (slv 0 x) ∧ Sat w (fps []) [vec (slv 0 x) 5 1 0 []] w2) := by
  refine enter (n := 27) Tryd.func95 rfl rfl rfl (Sat.refl w) ?_
  refine seq ?_
  refine region ?_
  refine st (g_assign rfl) rfl ?_
  refine done ?_
  refine th_n ?_
  refine seq ?_
  refine seq ?_
  refine region ?_
  refine st (g_move rfl) rfl ?_
  refine st (g_F rfl rfl rfl (by omega)) rfl ?_
  refine done ?_
  refine th_n ?_
  refine condF rfl ?_
  refine skip ?_
  refine th_n ?_
  refine seq ?_
  refine seq ?_
  refine region ?_
  refine st (g_move rfl) rfl ?_
  refine st (g_move rfl) rfl ?_
  refine st (g_cap el_23 rfl) rfl ?_
  refine st (g_move rfl) rfl ?_
  refine st (g_len el_23 rfl) rfl ?_
  refine st (g_isub (c := 0) rfl rfl (by omega) (by omega) (by omega)) rfl ?_
  refine st (g_isub (c := (n : Int)) rfl rfl (by omega) (by omega) (by omega)) rfl ?_
  refine st (g_assign rfl) rfl ?_
  refine done ?_
  refine th_n ?_
  refine seq ?_
  refine region ?_
  refine st (g_move rfl) rfl ?_
  refine st (g_bin rfl rfl rfl) rfl ?_
  refine done ?_
  refine th_n ?_
  refine condS rfl (fun h16 => ?_) (fun h16 => ?_)
  · try simp only [decide_eq_true_eq, decide_eq_false_iff_not] at h16
    have hn0 : 0 < n := by omega
    refine region ?_
    refine st (g_move rfl) rfl ?_
    refine st (g_move rfl) rfl ?_
    refine st (g_cap el_23 rfl) rfl ?_
    refine st (g_slice (l := 0) (h := 0) (m := 0) (p' := none) (n' := 0) (c' := 0) el_23 rfl rfl rfl rfl (by simp) (by decide) (by decide) (by decide) (by decide) rfl rfl rfl) rfl ?_
    refine st (g_move rfl) rfl ?_
    refine At.up (fun w hw => new0_vec (T := 5) (s := 1) hw ⟨rfl, .inl ⟨rfl, rfl⟩⟩) ?_
    refine sq rfl (o_appendZ (n := 0) (k := n) (xs := []) un_23 un_3 zr_5 sz_5 bt_5 rfl rfl .here (by simp only [maxLen]; omega) (by omega) rfl (fun q cap hq hc hq0 => ?_))
    have hqs : q.isSome = true := by
      cases q with
      | none => exact absurd (hq.1 rfl).2 (by omega)
      | some a => rfl
    refine st (g_move rfl) rfl ?_
    refine st (g_len el_23 rfl) rfl ?_
    refine vec_cut (m := 0) .here (Nat.zero_le _) hqs ?_
    refine st (g_slice (l := 0) (h := 0) (m := (cap : Int)) (p' := q) (n' := 0) (c' := cap) el_23 rfl rfl rfl rfl (by simp) (by decide) (by decide) (by omega) (by omega) (by simp) rfl rfl) rfl ?_
    refine st (g_assign rfl) rfl ?_
    refine done ?_
    refine th_n ?_
    refine seq ?_
    refine region ?_
    refine st (g_move rfl) rfl ?_
    refine st (g_assign rfl) rfl ?_
    refine done ?_
    refine th_n ?_
    refine ret ?_
    exact ret1 rfl rfl rfl (fun w2 hw2 => ⟨(q, cap), ⟨by omega, hq0⟩, rfl, by simpa using hw2⟩)
  · try simp only [decide_eq_true_eq, decide_eq_false_iff_not] at h16
    have hn0 : n = 0 := by omega
    subst hn0
    refine skip ?_
    refine th_n ?_
    refine seq ?_
    refine region ?_
    refine st (g_move rfl) rfl ?_
    refine st (g_assign rfl) rfl ?_
    refine done ?_
    refine th_n ?_
    refine ret ?_
    exact ret1 rfl rfl rfl (fun w2 hw2 => ⟨(none, 0), ⟨Nat.le_refl _, fun _ => rfl⟩, rfl, new0_vec hw2 ⟨rfl, .inl ⟨rfl, rfl⟩⟩⟩)

/-- A slice of bytes that is read: where it lies, how long it and its row are, what it holds. -/
structure Sl where
  p : Option Addr
  n : Nat
  c : Nat
  l : List UInt8
def Sl.v (s : Sl) : Value := .slice s.p s.n s.c
def Sl.ok (s : Sl) (w : World) : Prop := s.l.length = s.n ∧ (s.p = none → s.c = 0) ∧ s.n ≤ s.c ∧ RdC w s.p (s.l.map B8)
def tot (ss : List Sl) : Nat := (ss.map Sl.n).sum
def cat (ss : List Sl) : List UInt8 := ss.flatMap Sl.l
theorem take_one {α : Type} {l : List α} {i : Nat} {s : α} (h : l[i]? = some s) : l.take (i + 1) = l.take i ++ [s] := by
  rw [List.take_add_one, h]; rfl
theorem tot_take {ss : List Sl} {i : Nat} {s : Sl} (h : ss[i]? = some s) : tot (ss.take (i + 1)) = tot (ss.take i) + s.n := by simp [tot, take_one h]
theorem cat_take {ss : List Sl} {i : Nat} {s : Sl} (h : ss[i]? = some s) : cat (ss.take (i + 1)) = cat (ss.take i) ++ s.l := by simp [cat, take_one h]
theorem tot_le (ss : List Sl) (i : Nat) : tot (ss.take i) ≤ tot ss := by
  have h : tot ss = tot (ss.take i) + tot (ss.drop i) := by
    conv => lhs; rw [← List.take_append_drop i ss]
    simp only [tot, List.map_append, List.sum_append]
  omega


theorem f66_spec (p : Option Addr) (c : Nat) (ss : List Sl) (w : World) (hss : ∀ s ∈ ss, s.ok w) (hr : RdC w p (ss.map Sl.v)) (hm : tot ss ≤ 70368744177664) (hm2 : ss.length ≤ 1000000) :
    Calls Tryd.prog 66 [.slice p ss.length c].toArray w (fun en w2 => ∃ x : Option Addr × Nat, ((x.1 = none → x.2 = 0) ∧ tot ss ≤ x.2) ∧ en = .returned (slv (tot ss) x) ∧ Sat w (fps []) [vec (slv (tot ss) x) 5 1 (tot ss) ((cat ss).map B8)] w2) := by
  refine enter (n := 36) Tryd.func66 rfl rfl rfl (Sat.refl w) ?_
  refine seq ?_
  refine region ?_
  refine st (g_assign rfl) rfl ?_
  refine done ?_
  refine th_n ?_
  refine seq ?_
  refine region ?_
  refine st (g_assign rfl) rfl ?_
  refine done ?_
  refine th_n ?_
  refine seq ?_
  refine seq ?_
  refine region ?_
  refine st (g_move rfl) rfl ?_
  refine st (g_len el_22 rfl) rfl ?_
  refine st (g_move rfl) rfl ?_
  refine done ?_
  refine th_n ?_
  refine block ?_
  refine loop (α := Nat) (fun i => i ≤ ss.length) (fun i => [(0, .slice p ss.length c), (3, I64 (tot (ss.take i) : Nat)), (9, .slice p ss.length c), (10, I64 (ss.length : Nat)), (11, I64 (i : Nat))]) (fun i => []) (fun i => ss.length - i) 0 (Nat.zero_le _) ⟨rfl, rfl, rfl, rfl, rfl, trivial⟩ .nil (fun i hI => ?_)
  refine seq ?_
  refine region ?_
  refine st (g_bin rfl rfl rfl) rfl ?_
  refine done ?_
  refine th_n ?_
  refine seq ?_
  refine condS rfl (fun h12 => ?_) (fun h12 => ?_)
  · try simp only [decide_eq_true_eq, decide_eq_false_iff_not] at h12
    have hi : i < ss.length := by omega
    obtain ⟨s, hs⟩ : ∃ s, ss[i]? = some s := ⟨ss[i], by simp [hi]⟩
    have hmem : s ∈ ss := List.mem_of_getElem? hs
    obtain ⟨hl, hnil, hnc, hrs⟩ := hss s hmem
    have hi1 := tot_take hs
    have hle := tot_le ss (i + 1)
    have hps : p.isSome = true := hr.some (by intro h; simp at h; subst h; simp at hi)
    refine skip ?_
    refine th_n ?_
    refine seq ?_
    refine block ?_
    refine seq ?_
    refine region ?_
    refine st (g_indexP (m := i) el_22 rfl rfl (hps) (by omega) (by omega) (by omega)) rfl ?_
    refine st (g_load (v := s.v) sc_23 rfl (Cell.rd (RdA.of hr.s) (by simp [hs]))) rfl ?_
    refine st (g_assign rfl) rfl ?_
    refine done ?_
    refine th_n ?_
    refine seq ?_
    refine region ?_
    refine st (g_move rfl) rfl ?_
    refine st (g_move rfl) rfl ?_
    refine st (g_len (n := s.n) el_23 rfl) rfl ?_
    refine st (g_iadd rfl rfl rfl (by omega) (by omega)) rfl ?_
    refine st (g_assign rfl) rfl ?_
    refine done ?_
    refine th_n ?_
    refine seq ?_
    refine region ?_
    refine st (g_move rfl) rfl ?_
    refine st (g_F rfl rfl rfl (by omega)) rfl ?_
    refine done ?_
    refine th_n ?_
    refine condF rfl ?_
    refine skip ?_
    refine ib_n ?_
    refine th_n ?_
    refine region ?_
    refine st (g_iadd rfl rfl rfl (by omega) (by omega)) rfl ?_
    refine st (g_move rfl) rfl ?_
    refine done ?_
    refine th_n ?_
    exact again (i + 1) (by omega) (by omega) ⟨rfl, by rw [tot_take hs]; rfl, rfl, rfl, rfl, trivial⟩ .nil
  · try simp only [decide_eq_true_eq, decide_eq_false_iff_not] at h12
    have hie : i = ss.length := by omega
    subst hie
    have htt : tot (ss.take ss.length) = tot ss := by rw [List.take_length]
    refine exitc ?_
    refine th_x ?_
    refine th_x ?_
    refine ib_x ?_
    refine th_n ?_
    refine seq ?_
    refine region ?_
    refine st (g_move rfl) rfl ?_
    refine sq rfl (o_call Tryd.func95 rfl rfl rfl .nil (fun w hw hA => (by rw [htt]; exact f95_spec (tot ss) hm w)) rfl (fun x hx => ?_))
    refine st (g_assign rfl) rfl ?_
    refine done ?_
    refine th_n ?_
    refine seq ?_
    refine seq ?_
    refine region ?_
    refine st (g_move rfl) rfl ?_
    refine st (g_len el_22 rfl) rfl ?_
    refine st (g_move rfl) rfl ?_
    refine done ?_
    refine th_n ?_
    refine block ?_
    refine loop (α := Nat × (Option Addr × Nat)) (fun ⟨i, y⟩ => i ≤ ss.length ∧ (y.1 = none → y.2 = 0) ∧ tot (ss.take i) ≤ y.2) (fun ⟨i, y⟩ => [(6, slv (tot (ss.take i)) y), (25, .slice p ss.length c), (26, I64 (ss.length : Nat)), (27, I64 (i : Nat))]) (fun ⟨i, y⟩ => [vec (slv (tot (ss.take i)) y) 5 1 (tot (ss.take i)) ((cat (ss.take i)).map B8)]) (fun ⟨i, y⟩ => ss.length - i) (0, x) ⟨Nat.zero_le _, hx.2, Nat.zero_le _⟩ ⟨rfl, rfl, rfl, rfl, trivial⟩ (.cons .here .nil) (fun ⟨i, y⟩ ⟨hI, hy1, hy2⟩ => ?_)
    refine seq ?_
    refine region ?_
    refine st (g_bin rfl rfl rfl) rfl ?_
    refine done ?_
    refine th_n ?_
    refine seq ?_
    refine condS rfl (fun h28 => ?_) (fun h28 => ?_)
    · try simp only [decide_eq_true_eq, decide_eq_false_iff_not] at h28
      have hi : i < ss.length := by omega
      obtain ⟨s, hs⟩ : ∃ s, ss[i]? = some s := ⟨ss[i], by simp [hi]⟩
      have hmem : s ∈ ss := List.mem_of_getElem? hs
      obtain ⟨hl, hnil, hnc, hrs⟩ := hss s hmem
      have hi1 := tot_take hs
      have hle := tot_le ss (i + 1)
      have hps : p.isSome = true := hr.some (by intro h; simp at h; subst h; simp at hi)
      refine skip ?_
      refine th_n ?_
      refine seq ?_
      refine block ?_
      refine seq ?_
      refine region ?_
      refine st (g_indexP (m := i) el_22 rfl rfl (hps) (by omega) (by omega) (by omega)) rfl ?_
      refine st (g_load (v := s.v) sc_23 rfl (Cell.rd (RdA.of hr.s) (by simp [hs]))) rfl ?_
      refine st (g_assign rfl) rfl ?_
      refine done ?_
      refine th_n ?_
      refine region ?_
      refine st (g_move rfl) rfl ?_
      refine st (g_move rfl) rfl ?_
      refine sq rfl (o_append (n := tot (ss.take i)) (m := s.n) (news := s.l.map B8) un_23 zr_5 sz_5 rfl bt_5 (by decide) rfl rfl .here (by simp [hl]) (RdA.of hrs.s) oneB8 hnil (by simp only [maxLen]; omega) (by omega) rfl (fun q cap hq hc hq0 => ?_))
      refine st (g_assign rfl) rfl ?_
      refine done ?_
      refine ib_n ?_
      refine th_n ?_
      refine region ?_
      refine st (g_iadd rfl rfl rfl (by omega) (by omega)) rfl ?_
      refine st (g_move rfl) rfl ?_
      refine done ?_
      refine th_n ?_
      rw [← List.map_append, ← cat_take hs, ← tot_take hs]
      exact again (i + 1, (q, cap)) ⟨by omega, hq0, by omega⟩ (by show _ < _; simp only; omega) ⟨by rw [tot_take hs]; rfl, rfl, rfl, rfl, trivial⟩ (.cons .here .nil)
    · try simp only [decide_eq_true_eq, decide_eq_false_iff_not] at h28
      have hie : i = ss.length := by omega
      subst hie
      have htt : ss.take ss.length = ss := List.take_length
      refine exitc ?_
      refine th_x ?_
      refine th_x ?_
      refine ib_x ?_
      refine th_n ?_
      refine seq ?_
      refine region ?_
      refine st (g_move rfl) rfl ?_
      refine st (g_assign rfl) rfl ?_
      refine done ?_
      refine th_n ?_
      refine ret ?_
      exact ret1 rfl rfl rfl (fun w2 hw2 => ⟨y, ⟨hy1, by rw [← htt]; exact hy2⟩, by rw [htt], by dsimp only at hw2; rw [htt] at hw2; exact hw2⟩)
end Go.Proofs.YtokhediaibdkjaaDoor
