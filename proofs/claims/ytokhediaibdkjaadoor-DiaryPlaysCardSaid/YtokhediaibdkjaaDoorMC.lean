/- The proof's texts, merged: L5 O1 O2 O3 S1 S2 S3 S4 S5 S6 S7 S8 S9 SA SB SC P1. -/
import Derived.Test.YtokhediaibdkjaaDoorMB
/-! From L5 -/
/- The walk of Sha256Pieces. (printed by gen1.py) -/
namespace Go.Proofs.YtokhediaibdkjaaDoor
open Go.Pm Go.RowKit
set_option maxRecDepth 100000
theorem rd_app {l : List UInt8} {rest : List Value} : ∀ j v, (l.map B8)[j]? = some v → (l.map B8 ++ rest)[0 + j]? = some v := fun j v hj => by
  rw [Nat.zero_add, List.getElem?_append_left (List.getElem?_eq_some_iff.1 hj).1]; exact hj
end Go.Proofs.YtokhediaibdkjaaDoor

/-! From O1 -/
/- The walks of octet.Big and octet.Join. (printed by gen1.py) -/
namespace Go.Proofs.YtokhediaibdkjaaDoor
open Go.Pm Go.RowKit
set_option maxRecDepth 100000
theorem f102_spec (n : Int) (h0 : 0 ≤ n) (h1 : n ≤ 65536) (w : World) : Calls Tryd.prog 102 [I64 n].toArray w (fun en w2 => en = .returned (.bool true) ∧ Sat w [] [] w2) := by
  refine enter (n := 9) Tryd.func102 rfl rfl rfl (Sat.refl w) ?_
  refine seq ?_
  refine region ?_
  refine st (g_assign rfl) rfl ?_
  refine done ?_
  refine th_n ?_
  refine seq ?_
  refine region ?_
  refine st (g_move rfl) rfl ?_
  refine st (g_T rfl rfl rfl (by omega)) rfl ?_
  refine st (g_move rfl) rfl ?_
  refine gt rfl ?_
  refine st (g_move rfl) rfl ?_
  refine gt rfl ?_
  refine st (g_T rfl rfl rfl (by omega)) rfl ?_
  refine st (g_pickT rfl rfl) rfl ?_
  refine st (g_assign rfl) rfl ?_
  refine done ?_
  refine th_n ?_
  refine ret ?_
  exact ret1 rfl rfl rfl (fun w2 hw2 => ⟨rfl, hw2⟩)

def byteK (n : BitVec 64) (k : Nat) : UInt8 := UInt8.ofNat (n >>> (8 * k)).toNat
/-- A number's eight bytes, the highest first. -/
def be8 (n : BitVec 64) : List UInt8 := [byteK n 7, byteK n 6, byteK n 5, byteK n 4, byteK n 3, byteK n 2, byteK n 1, byteK n 0]
def bigM (n : BitVec 64) (m : Nat) : List UInt8 := List.replicate (8 - m) 0 ++ (be8 n).drop (8 - m)
theorem bigM_set (n : BitVec 64) {m : Nat} (hm : m < 8) : (bigM n m).set (7 - m) (byteK n m) = bigM n (m + 1) := by
  match m, hm with
  | 0, _ => rfl
  | 1, _ => rfl
  | 2, _ => rfl
  | 3, _ => rfl
  | 4, _ => rfl
  | 5, _ => rfl
  | 6, _ => rfl
  | 7, _ => rfl
theorem bigM_length (n : BitVec 64) {m : Nat} (hm : m ≤ 8) : (bigM n m).length = 8 := by
  have : (be8 n).length = 8 := rfl
  rw [bigM, List.length_append, List.length_replicate, List.length_drop]; omega
theorem shr_more (n : BitVec 64) (m : Nat) : n >>> (8 * m) >>> 8 = n >>> (8 * (m + 1)) := by rw [← BitVec.shiftRight_add]; congr 1
theorem shr_64 (n : BitVec 64) : (n >>> (8 * 8)).toNat = 0 := by
  rw [BitVec.toNat_ushiftRight, Nat.shiftRight_eq_div_pow]
  exact Nat.div_eq_of_lt n.isLt
theorem be8_length (n : BitVec 64) : (be8 n).length = 8 := rfl


theorem f72_spec (n : BitVec 64) (w : World) : Calls Tryd.prog 72 [U64 n, I64 8].toArray w (fun en w2 => ∃ g : Nat, True ∧ en = .returned (.tuple #[.slice (some ⟨g, 0, none⟩) 8 8, I64 0]) ∧ Sat w (fps []) [blk g 5 ((be8 n).map B8)] w2) := by
  refine enter (n := 29) Tryd.func72 rfl rfl rfl (Sat.refl w) ?_
  refine seq ?_
  refine region ?_
  refine st (g_assign rfl) rfl ?_
  refine st (g_assign rfl) rfl ?_
  refine done ?_
  refine th_n ?_
  refine seq ?_
  refine seq ?_
  refine region ?_
  refine st (g_move rfl) rfl ?_
  refine sq rfl (o_callP Tryd.func102 rfl rfl rfl (fun w hw => f102_spec 8 (by decide) (by decide) w) rfl ?_)
  refine st (g_not rfl) rfl ?_
  refine done ?_
  refine th_n ?_
  refine condF rfl ?_
  refine skip ?_
  refine th_n ?_
  refine seq ?_
  refine region ?_
  refine st (g_move rfl) rfl ?_
  refine sq rfl (o_make (s := 1) (zv := B8 0) un_23 zr_5 sz_5 bt_5 (by decide) rfl rfl (by decide) (by decide) (by decide) rfl (fun b12 => ?_))
  refine st (g_assign rfl) rfl ?_
  refine done ?_
  refine th_n ?_
  refine seq ?_
  refine seq ?_
  refine region ?_
  refine st (g_move rfl) rfl ?_
  refine st (g_isub (c := 7) rfl rfl (by omega) (by omega) (by omega)) rfl ?_
  refine st (g_assign rfl) rfl ?_
  refine done ?_
  refine th_n ?_
  refine block ?_
  refine loop (α := Nat) (fun m => m ≤ 8) (fun m => [(0, U64 (n >>> (8 * m))), (6, .slice (some ⟨b12, 0, none⟩) 8 8), (7, I64 (7 - (m : Int)))]) (fun m => [blk b12 5 ((bigM n m).map B8)]) (fun m => 8 - m) 0 (Nat.zero_le _) ⟨congrArg (fun t => some (U64 t)) (by simp), rfl, rfl, trivial⟩ (.cons .here .nil) (fun m hI => ?_)
  refine seq ?_
  refine seq ?_
  refine region ?_
  refine st (g_move rfl) rfl ?_
  refine st (g_bin rfl rfl rfl) rfl ?_
  refine done ?_
  refine th_n ?_
  refine condS rfl (fun h16 => ?_) (fun h16 => ?_)
  · try simp only [decide_eq_true_eq] at h16
    have hm8 : m < 8 := by omega
    have hbl := bigM_length n (Nat.le_of_lt hm8)
    refine skip ?_
    refine th_n ?_
    refine seq ?_
    refine block ?_
    refine seq ?_
    refine region ?_
    refine st (g_move rfl) rfl ?_
    refine st (g_move rfl) rfl ?_
    refine st (g_move rfl) rfl ?_
    refine st (g_to8 it_34 it_5 rfl rfl) rfl ?_
    refine st (g_indexS (m := 7 - m) el_23 rfl rfl (by omega) (by omega) (by omega)) rfl ?_
    refine sq rfl (o_store (cs' := (bigM n (m + 1)).map B8) sz_5 rfl rfl rfl .here (by rw [List.length_map, hbl]; omega) (by rw [← bigM_set n hm8, List.map_set]; rfl) ?_)
    refine done ?_
    refine th_n ?_
    refine region ?_
    refine st (g_move rfl) rfl ?_
    refine st (g_shr64 (n := 8) rfl rfl rfl) rfl ?_
    refine st (g_assign rfl) rfl ?_
    refine done ?_
    refine ib_n ?_
    refine th_n ?_
    refine region ?_
    refine st (g_move rfl) rfl ?_
    refine st (g_isub (c := 6 - (m : Int)) rfl rfl (by omega) (by omega) (by omega)) rfl ?_
    refine st (g_assign rfl) rfl ?_
    refine done ?_
    refine th_n ?_
    exact again (m + 1) (by omega) (by omega) ⟨congrArg (fun t => some (U64 t)) (shr_more n m), rfl, congrArg (fun t => some (I64 t)) (by omega), trivial⟩ (.cons .here .nil)
  · try simp only [decide_eq_false_iff_not] at h16
    have hm8 : m = 8 := by omega
    subst hm8
    refine exitc ?_
    refine th_x ?_
    refine th_x ?_
    refine ib_x ?_
    refine th_n ?_
    refine seq ?_
    refine seq ?_
    refine region ?_
    refine st (g_move rfl) rfl ?_
    refine st (g_F rfl rfl rfl (by have := shr_64 n; omega)) rfl ?_
    refine done ?_
    refine th_n ?_
    refine condF rfl ?_
    refine skip ?_
    refine th_n ?_
    refine seq ?_
    refine region ?_
    refine st (g_move rfl) rfl ?_
    refine st (g_assign rfl) rfl ?_
    refine st (g_assign rfl) rfl ?_
    refine done ?_
    refine th_n ?_
    refine ret ?_
    exact ret2 rfl rfl rfl rfl (fun w2 hw2 => ⟨b12, trivial, rfl, hw2⟩)

theorem f73_spec (p : Option Addr) (c : Nat) (ss : List Sl) (w : World) (hss : ∀ s ∈ ss, s.ok w) (hr : RdC w p (ss.map Sl.v)) (hm : tot ss ≤ 70368744177664) (hm2 : ss.length ≤ 1000000) :
    Calls Tryd.prog 73 [.slice p ss.length c].toArray w (fun en w2 => ∃ x : Option Addr × Nat, ((x.1 = none → x.2 = 0) ∧ tot ss ≤ x.2) ∧ en = .returned (slv (tot ss) x) ∧ Sat w (fps []) [vec (slv (tot ss) x) 5 1 (tot ss) ((cat ss).map B8)] w2) := by
  refine enter (n := 5) Tryd.func73 rfl rfl rfl (Sat.refl w) ?_
  refine seq ?_
  refine region ?_
  refine st (g_assign rfl) rfl ?_
  refine done ?_
  refine th_n ?_
  refine seq ?_
  refine region ?_
  refine st (g_move rfl) rfl ?_
  refine sq rfl (o_call Tryd.func66 rfl rfl rfl .nil (fun w hw hA => f66_spec p c ss w (fun s hs => ⟨(hss s hs).1, (hss s hs).2.1, (hss s hs).2.2.1, (RdS.ofOld (A := []) (hss s hs).2.2.2.s hw .nil).c⟩) (RdS.ofOld (A := []) hr.s hw .nil).c hm hm2) rfl (fun x hx => ?_))
  refine st (g_assign rfl) rfl ?_
  refine done ?_
  refine th_n ?_
  refine ret ?_
  exact ret1 rfl rfl rfl (fun w2 hw2 => ⟨x, hx, rfl, hw2⟩)
end Go.Proofs.YtokhediaibdkjaaDoor

/-! From O2 -/
/- The walks of bytes.TrimLeft. (printed by gen1.py) -/
namespace Go.Proofs.YtokhediaibdkjaaDoor
open Go.Pm Go.RowKit
set_option maxRecDepth 100000
/-- Bytes without noughts ahead: how many noughts. -/
def lead : List UInt8 → Nat
  | [] => 0
  | x :: l => if x = 0 then lead l + 1 else 0
theorem lead_le : ∀ l : List UInt8, lead l ≤ l.length
  | [] => Nat.le_refl _
  | x :: l => by simp only [lead]; split; have := lead_le l; simp; omega; simp
theorem lead_get {l : List UInt8} {i : Nat} (h : i < lead l) : l.getD i 0 = 0 := by
  induction l generalizing i with
  | nil => simp [lead] at h
  | cons x l ih =>
    simp only [lead] at h
    split at h
    · rename_i hx
      cases i with
      | zero => simpa using hx
      | succ i => simpa using ih (i := i) (by omega)
    · omega
theorem lead_next {l : List UInt8} (h : lead l < l.length) : l.getD (lead l) 0 ≠ 0 := by
  induction l with
  | nil => simp [lead] at h
  | cons x l ih =>
    simp only [lead] at h ⊢
    split
    · rename_i hx
      rw [if_pos hx] at h
      simpa using ih (by simpa using h)
    · rename_i hx; simpa using hx
theorem b8_zero {x : UInt8} : (x.toNat : Int) = 0 ↔ x = 0 := by
  constructor
  · intro h
    have : x.toNat = 0 := by omega
    exact UInt8.toNat_inj.1 this
  · rintro rfl; rfl


/-- Where a slice lies behind i bytes, one by one. -/
def trimP (p : Option Addr) (c i : Nat) : Option Addr × Nat := iter (fun _ q => (adv q.1 q.2 1 1, q.2 - 1)) i (p, c)
theorem trimP_cap (p : Option Addr) (c : Nat) : ∀ i, (trimP p c i).2 = c - i
  | 0 => rfl
  | i + 1 => by show (trimP p c i).2 - 1 = _; rw [trimP_cap p c i]; omega
theorem trimP_none {p : Option Addr} {c : Nat} : ∀ {i : Nat}, (trimP p c i).1 = none → p = none
  | 0, h => h
  | i + 1, h => trimP_none (i := i) (adv_none (show adv (trimP p c i).1 (trimP p c i).2 1 1 = none from h))
theorem trimP_rd {w : World} {S : List Nat} {p : Option Addr} {c : Nat} {vs : List Value} (h : RdS w S p vs) (hc : vs.length ≤ c) : ∀ i, RdS w S (trimP p c i).1 (vs.drop i)
  | 0 => by simpa [trimP, iter] using h
  | i + 1 => by
    have h1 := (trimP_rd h hc i).adv (c := (trimP p c i).2) (k := 1) (s := 1) (fun he => by rw [trimP_cap] at he; rw [List.length_drop]; omega)
    rw [List.drop_drop] at h1
    exact h1
def trimV (p : Option Addr) (c : Nat) (l : List UInt8) : Value := if l.length = lead l then .slice none 0 0 else slv (l.length - lead l) (trimP p c (lead l))


theorem f116_spec (p : Option Addr) (c : Nat) (l : List UInt8) (_hp : p = none → c = 0) (hnc : l.length ≤ c) (_hn : l.length ≤ 1000000000) (w : World) (hr : RdC w p (l.map B8)) : Calls Tryd.prog 116 [.slice p l.length c, B8 0].toArray w (fun en w2 => en = .returned (trimV p c l) ∧ Sat w [] [] w2) := by
  have hll := lead_le l
  refine enter (n := 21) Tryd.func116 rfl rfl rfl (Sat.refl w) ?_
  refine seq ?_
  refine region ?_
  refine st (g_assign rfl) rfl ?_
  refine done ?_
  refine th_n ?_
  refine seq ?_
  refine block ?_
  refine loop (α := Nat) (fun i => i ≤ lead l) (fun i => [(0, slv (l.length - i) (trimP p c i)), (1, B8 0)]) (fun i => []) (fun i => l.length - i) 0 (Nat.zero_le _) ⟨rfl, rfl, trivial⟩ .nil (fun i hI => ?_)
  refine seq ?_
  refine seq ?_
  refine region ?_
  have hcap := trimP_cap p c i
  have hrd := trimP_rd hr.s (by rw [List.length_map]; exact hnc) i
  refine st (g_move rfl) rfl ?_
  refine st (g_len el_23 rfl) rfl ?_
  refine sp (g_bin rfl rfl rfl) rfl (fun h7 => ?_) (fun h7 => ?_)
  · have hi : i < l.length := by omega
    have hps : (trimP p c i).1.isSome = true := hrd.some (by intro h; have := congrArg List.length h; rw [List.length_drop, List.length_map] at this; simp at this; omega)
    refine st (g_move rfl) rfl ?_
    refine gt rfl ?_
    refine st (g_move rfl) rfl ?_
    refine gt rfl ?_
    refine st (g_indexP (m := 0) el_23 rfl rfl (hps) (by omega) (by omega) (by omega)) rfl ?_
    refine gt rfl ?_
    refine st (g_load (v := B8 (l.getD i 0)) sc_5 rfl (Cell.rd (RdA.of hrd) (by rw [List.getElem?_drop, Nat.add_zero]; exact get_B8 rfl hi))) rfl ?_
    refine gt rfl ?_
    refine st (g_move rfl) rfl ?_
    refine gt rfl ?_
    refine sp (g_bin rfl rfl rfl) rfl (fun h13 => ?_) (fun h13 => ?_)
    · have hz0 : l.getD i 0 = 0 := b8_zero.1 h13
      have hlead : i + 1 ≤ lead l := by
        rcases Nat.lt_or_ge i (lead l) with h | h
        · exact h
        · have hie : i = lead l := by omega
          subst hie
          exact absurd hz0 (lead_next hi)
      refine st (g_pickT rfl rfl) rfl ?_
      refine done ?_
      refine th_n ?_
      refine condT rfl ?_
      refine skip ?_
      refine th_n ?_
      refine block ?_
      refine region ?_
      refine st (g_move rfl) rfl ?_
      refine st (g_slice (l := 1) (h := ((l.length - i : Nat) : Int)) (m := ((trimP p c i).2 : Int)) (p' := (trimP p c (i + 1)).1) (n' := l.length - i - 1) (c' := (trimP p c (i + 1)).2) el_23 rfl rfl rfl rfl (by simp) (by decide) (by omega) (by omega) (by omega) rfl (by omega) (by show _ = (trimP p c i).2 - 1; omega)) rfl ?_
      refine st (g_assign rfl) rfl ?_
      refine done ?_
      refine ib_n ?_
      refine th_n ?_
      exact again (i + 1) hlead (by omega) ⟨congrArg (fun t => some (Value.slice (trimP p c (i + 1)).1 t (trimP p c (i + 1)).2)) (show l.length - i - 1 = l.length - (i + 1) by omega), rfl, trivial⟩ .nil
    · have hz0 : ¬ l.getD i 0 = 0 := fun h => h13 (b8_zero.2 h)
      have hie : i = lead l := by
        rcases Nat.lt_or_ge i (lead l) with h | h
        · exact absurd (lead_get h) hz0
        · omega
      subst hie
      refine st (g_pickT rfl rfl) rfl ?_
      refine done ?_
      refine th_n ?_
      refine condF rfl ?_
      refine exitc ?_
      refine th_x ?_
      refine th_x ?_
      refine ib_x ?_
      refine th_n ?_
      refine seq ?_
      refine seq ?_
      refine region ?_
      refine st (g_move rfl) rfl ?_
      refine st (g_len el_23 rfl) rfl ?_
      refine st (g_bin rfl rfl rfl) rfl ?_
      refine done ?_
      refine th_n ?_
      refine condS rfl (fun h19 => ?_) (fun h19 => ?_)
      · try simp only [decide_eq_true_eq] at h19
        refine seq ?_
        refine region ?_
        refine st (g_assign rfl) rfl ?_
        refine done ?_
        refine th_n ?_
        refine ret ?_
        refine th_r ?_
        exact ret1 rfl rfl rfl (fun w2 hw2 => ⟨by rw [trimV, if_pos (by omega)], hw2⟩)
      · try simp only [decide_eq_false_iff_not] at h19
        refine skip ?_
        refine th_n ?_
        refine seq ?_
        refine region ?_
        refine st (g_move rfl) rfl ?_
        refine st (g_assign rfl) rfl ?_
        refine done ?_
        refine th_n ?_
        refine ret ?_
        exact ret1 rfl rfl rfl (fun w2 hw2 => ⟨by rw [trimV, if_neg (by omega)], hw2⟩)
  · have hie : i = lead l := by omega
    subst hie
    refine st (g_move rfl) rfl ?_
    refine gf rfl rfl ?_
    refine gf rfl rfl ?_
    refine gf rfl rfl ?_
    refine gf rfl rfl ?_
    refine gf rfl rfl ?_
    refine st (g_pickF rfl rfl) rfl ?_
    refine done ?_
    refine th_n ?_
    refine condF rfl ?_
    refine exitc ?_
    refine th_x ?_
    refine th_x ?_
    refine ib_x ?_
    refine th_n ?_
    refine seq ?_
    refine seq ?_
    refine region ?_
    refine st (g_move rfl) rfl ?_
    refine st (g_len el_23 rfl) rfl ?_
    refine st (g_bin rfl rfl rfl) rfl ?_
    refine done ?_
    refine th_n ?_
    refine condS rfl (fun h19 => ?_) (fun h19 => ?_)
    · try simp only [decide_eq_true_eq] at h19
      refine seq ?_
      refine region ?_
      refine st (g_assign rfl) rfl ?_
      refine done ?_
      refine th_n ?_
      refine ret ?_
      refine th_r ?_
      exact ret1 rfl rfl rfl (fun w2 hw2 => ⟨by rw [trimV, if_pos (by omega)], hw2⟩)
    · try simp only [decide_eq_false_iff_not] at h19
      refine skip ?_
      refine th_n ?_
      refine seq ?_
      refine region ?_
      refine st (g_move rfl) rfl ?_
      refine st (g_assign rfl) rfl ?_
      refine done ?_
      refine th_n ?_
      refine ret ?_
      exact ret1 rfl rfl rfl (fun w2 hw2 => ⟨by rw [trimV, if_neg (by omega)], hw2⟩)

theorem f114_spec (p : Option Addr) (c : Nat) (l : List UInt8) (hp : p = none → c = 0) (hnc : l.length ≤ c) (hn : l.length ≤ 1000000000) (w : World) (hr : RdC w p (l.map B8)) : Calls Tryd.prog 114 [.slice p l.length c, .string ⟨#[0]⟩].toArray w (fun en w2 => en = .returned (trimV p c l) ∧ Sat w [] [] w2) := by
  refine enter (n := 36) Tryd.func114 rfl rfl rfl (Sat.refl w) ?_
  refine seq ?_
  refine region ?_
  refine st (g_assign rfl) rfl ?_
  refine done ?_
  refine th_n ?_
  refine seq ?_
  refine seq ?_
  refine region ?_
  refine st (g_move rfl) rfl ?_
  refine st (g_len el_23 rfl) rfl ?_
  refine st (g_bin rfl rfl rfl) rfl ?_
  refine done ?_
  refine th_n ?_
  refine condS rfl (fun h9 => ?_) (fun h9 => ?_)
  · try simp only [decide_eq_true_eq] at h9
    have hl0 : l = [] := List.eq_nil_of_length_eq_zero (by omega)
    refine seq ?_
    refine region ?_
    refine st (g_assign rfl) rfl ?_
    refine done ?_
    refine th_n ?_
    refine ret ?_
    refine th_r ?_
    exact ret1 rfl rfl rfl (fun w2 hw2 => ⟨by rw [hl0]; rfl, hw2⟩)
  · try simp only [decide_eq_false_iff_not] at h9
    refine skip ?_
    refine th_n ?_
    refine seq ?_
    refine seq ?_
    refine region ?_
    refine st (g_move rfl) rfl ?_
    refine st (g_eqSF rfl rfl (by decide)) rfl ?_
    refine done ?_
    refine th_n ?_
    refine condF rfl ?_
    refine skip ?_
    refine th_n ?_
    refine seq ?_
    refine seq ?_
    refine region ?_
    refine st (g_move rfl) rfl ?_
    refine st (g_lenS str_9 rfl) rfl ?_
    refine st (g_T rfl rfl rfl (by decide)) rfl ?_
    refine st (g_move rfl) rfl ?_
    refine gt rfl ?_
    refine st (g_move rfl) rfl ?_
    refine gt rfl ?_
    refine st (g_sIdx (b := 0) str_9 rfl rfl (by decide) rfl) rfl ?_
    refine gt rfl ?_
    refine st (g_T rfl rfl rfl (by decide)) rfl ?_
    refine st (g_pickT rfl rfl) rfl ?_
    refine done ?_
    refine th_n ?_
    refine condT rfl ?_
    refine seq ?_
    refine region ?_
    refine st (g_move rfl) rfl ?_
    refine st (g_move rfl) rfl ?_
    refine st (g_sIdx (b := 0) str_9 rfl rfl (by decide) rfl) rfl ?_
    refine sq rfl (o_callP Tryd.func116 rfl rfl rfl (fun w hw => f116_spec p c l hp hnc hn w (RdS.ofOld (A := []) hr.s hw .nil).c) rfl ?_)
    refine st (g_assign rfl) rfl ?_
    refine done ?_
    refine th_n ?_
    refine ret ?_
    refine th_r ?_
    exact ret1 rfl rfl rfl (fun w2 hw2 => ⟨rfl, hw2⟩)

theorem f107_spec (p : Option Addr) (c : Nat) (l : List UInt8) (hp : p = none → c = 0) (hnc : l.length ≤ c) (hn : l.length ≤ 1000000000) (w : World) (hr : RdC w p (l.map B8)) : Calls Tryd.prog 107 [.slice p l.length c].toArray w (fun en w2 => ∃ z : Option Addr × Nat, (l.length - lead l ≤ z.2 ∧ (z.1 = none → z.2 = 0)) ∧ en = .returned (slv (l.length - lead l) z) ∧ Sat w (fps []) [vec (slv (l.length - lead l) z) 5 1 (l.length - lead l) ((l.drop (lead l)).map B8)] w2) := by
  have hll := lead_le l
  obtain ⟨y, hy, hy1, hy2, hy3⟩ : ∃ y : Option Addr × Nat, trimV p c l = slv (l.length - lead l) y ∧ (y.1 = none → y.2 = 0) ∧ l.length - lead l ≤ y.2 ∧ RdC w y.1 ((l.drop (lead l)).map B8) := by
    by_cases he : l.length = lead l
    · exact ⟨(none, 0), by rw [trimV, if_pos he, he, Nat.sub_self], fun _ => rfl, by omega, by rw [List.drop_eq_nil_of_le (by omega)]; exact RdC.nil⟩
    · refine ⟨trimP p c (lead l), by rw [trimV, if_neg he], fun h => ?_, by rw [trimP_cap]; omega, ?_⟩
      · rw [trimP_cap]; have := hp (trimP_none h); omega
      · have h0 := trimP_rd hr.s (by rw [List.length_map]; exact hnc) (lead l)
        rw [← List.map_drop] at h0
        exact h0.c
  refine enter (n := 6) Tryd.func107 rfl rfl rfl (Sat.refl w) ?_
  refine seq ?_
  refine region ?_
  refine st (g_assign rfl) rfl ?_
  refine done ?_
  refine th_n ?_
  refine seq ?_
  refine region ?_
  refine st (g_move rfl) rfl ?_
  refine sq rfl (o_callP (v := slv (l.length - lead l) y) Tryd.func114 rfl rfl rfl (fun w hw => (by rw [← hy]; exact f114_spec p c l hp hnc hn w (RdS.ofOld (A := []) hr.s hw .nil).c)) rfl ?_)
  refine sq rfl (o_call Tryd.func69 rfl rfl rfl .nil (fun w hw hA => f69_spec y.1 (l.length - lead l) y.2 (l.drop (lead l)) (by rw [List.length_drop]) (fun h => ⟨by have := hy1 h; omega, hy1 h⟩) (by omega) w (RdS.ofOld (A := []) hy3.s hw .nil).c) rfl (fun z hz => ?_))
  refine st (g_assign rfl) rfl ?_
  refine done ?_
  refine th_n ?_
  refine ret ?_
  exact ret1 rfl rfl rfl (fun w2 hw2 => ⟨z, ⟨hz.2.2, hz.2.1⟩, rfl, hw2⟩)

def wholeStep (t : List UInt8) (i : Nat) (n : BitVec 64) : BitVec 64 := (n <<< 8) ||| BitVec.ofNat 64 (t.getD i 0).toNat
/-- Bytes' number (of eight bytes at most behind the noughts). -/
def wholeW (l : List UInt8) : BitVec 64 := iter (wholeStep (l.drop (lead l))) (l.length - lead l) 0#64


theorem f84_spec (p : Option Addr) (c : Nat) (l : List UInt8) (hp : p = none → c = 0) (hnc : l.length ≤ c) (hn : l.length ≤ 8) (w : World) (hr : RdC w p (l.map B8)) : Calls Tryd.prog 84 [.slice p l.length c].toArray w (fun en w2 => en = .returned (.tuple #[U64 (wholeW l), I64 0]) ∧ Sat w [] [] w2) := by
  have hll := lead_le l
  have htl : (l.drop (lead l)).length = l.length - lead l := List.length_drop
  refine enter (n := 26) Tryd.func84 rfl rfl rfl (Sat.refl w) ?_
  refine seq ?_
  refine region ?_
  refine st (g_assign (v := U64 0#64) rfl) rfl ?_
  refine st (g_assign rfl) rfl ?_
  refine done ?_
  refine th_n ?_
  refine seq ?_
  refine region ?_
  refine st (g_move rfl) rfl ?_
  refine sq rfl (o_call Tryd.func107 rfl rfl rfl .nil (fun w hw hA => f107_spec p c l hp hnc (by omega) w (RdS.ofOld (A := []) hr.s hw .nil).c) rfl (fun z hz => ?_))
  refine st (g_assign rfl) rfl ?_
  refine done ?_
  refine th_n ?_
  refine seq ?_
  refine seq ?_
  refine region ?_
  refine st (g_move rfl) rfl ?_
  refine st (g_len el_23 rfl) rfl ?_
  refine st (g_F rfl rfl rfl (by omega)) rfl ?_
  refine done ?_
  refine th_n ?_
  refine condF rfl ?_
  refine skip ?_
  refine th_n ?_
  refine seq ?_
  refine region ?_
  refine st (g_assign (v := U64 0#64) rfl) rfl ?_
  refine done ?_
  refine th_n ?_
  refine seq ?_
  refine seq ?_
  refine region ?_
  refine st (g_move rfl) rfl ?_
  refine st (g_len el_23 rfl) rfl ?_
  refine st (g_move rfl) rfl ?_
  refine done ?_
  refine th_n ?_
  refine block ?_
  refine loop (α := Nat) (fun i => i ≤ l.length - lead l) (fun i => [(5, U64 (iter (wholeStep (l.drop (lead l))) i 0#64)), (13, slv (l.length - lead l) z), (14, I64 (l.length - lead l : Nat)), (15, I64 (i : Nat))]) (fun i => [vec (slv (l.length - lead l) z) 5 1 (l.length - lead l) ((l.drop (lead l)).map B8)]) (fun i => l.length - lead l - i) 0 (Nat.zero_le _) ⟨rfl, rfl, rfl, rfl, trivial⟩ (.cons .here .nil) (fun i hI => ?_)
  refine seq ?_
  refine region ?_
  refine st (g_bin rfl rfl rfl) rfl ?_
  refine done ?_
  refine th_n ?_
  refine seq ?_
  refine condS rfl (fun h16 => ?_) (fun h16 => ?_)
  · try simp only [decide_eq_true_eq] at h16
    have hi : i < l.length - lead l := by omega
    have hzs : z.1.isSome = true := by
      cases hq : z.1 with
      | none => have := hz.2 hq; have := hz.1; omega
      | some a => rfl
    refine skip ?_
    refine th_n ?_
    refine seq ?_
    refine block ?_
    refine seq ?_
    refine region ?_
    refine st (g_indexP (m := i) el_23 rfl rfl (hzs) (by omega) (by omega) (by omega)) rfl ?_
    refine st (g_load (v := B8 ((l.drop (lead l)).getD i 0)) sc_5 rfl (Cell.rd (RdA.vec .here) (get_B8 (by omega) (by rw [htl]; exact hi)))) rfl ?_
    refine st (g_assign rfl) rfl ?_
    refine done ?_
    refine th_n ?_
    refine region ?_
    refine st (g_move rfl) rfl ?_
    refine st (g_shl64 (n := 8) rfl rfl rfl) rfl ?_
    refine st (g_move rfl) rfl ?_
    refine st (g_to64 it_5 it_34 rfl rfl) rfl ?_
    refine st (g_or64 rfl rfl) rfl ?_
    refine st (g_assign rfl) rfl ?_
    refine done ?_
    refine ib_n ?_
    refine th_n ?_
    refine region ?_
    refine st (g_iadd rfl rfl rfl (by omega) (by omega)) rfl ?_
    refine st (g_move rfl) rfl ?_
    refine done ?_
    refine th_n ?_
    exact again (i + 1) (by omega) (by omega) ⟨rfl, rfl, rfl, rfl, trivial⟩ (.cons .here .nil)
  · try simp only [decide_eq_false_iff_not] at h16
    have hie : i = l.length - lead l := by omega
    subst hie
    refine exitc ?_
    refine th_x ?_
    refine th_x ?_
    refine ib_x ?_
    refine th_n ?_
    refine seq ?_
    refine region ?_
    refine st (g_move rfl) rfl ?_
    refine st (g_assign rfl) rfl ?_
    refine st (g_assign rfl) rfl ?_
    refine done ?_
    refine th_n ?_
    refine ret ?_
    exact ret2 rfl rfl rfl rfl (fun w2 hw2 => ⟨rfl, hw2.drop⟩)

theorem f85_spec (p q : Option Addr) (c d : Nat) (l m : List UInt8) (w : World) (hl : RdC w p (l.map B8)) (hm : RdC w q (m.map B8)) : Calls Tryd.prog 85 [.slice p l.length c, .slice q m.length d].toArray w (fun en w2 => en = .returned (.bool (decide (l = m))) ∧ Sat w [] [] w2) := by
  refine enter (n := 10) Tryd.func85 rfl rfl rfl (Sat.refl w) ?_
  refine seq ?_
  refine region ?_
  refine st (g_assign rfl) rfl ?_
  refine done ?_
  refine th_n ?_
  refine seq ?_
  refine region ?_
  refine st (g_move rfl) rfl ?_
  refine st (g_str (l := l) by_23 str_9 rfl rfl (RdA.of hl.s)) rfl ?_
  refine st (g_move rfl) rfl ?_
  refine st (g_str (l := m) by_23 str_9 rfl rfl (RdA.of hm.s)) rfl ?_
  refine st (g_eqS rfl rfl) rfl ?_
  refine st (g_assign rfl) rfl ?_
  refine done ?_
  refine th_n ?_
  refine ret ?_
  exact ret1 rfl rfl rfl (fun w2 hw2 => ⟨by simp, hw2⟩)
end Go.Proofs.YtokhediaibdkjaaDoor

/-! From O3 -/
/- The walk of octet.Cut. (printed by gen1.py) -/
namespace Go.Proofs.YtokhediaibdkjaaDoor
open Go.Pm Go.RowKit
set_option maxRecDepth 100000
theorem un_115 : Tryd.prog.underlying 115 = some (.slice 3) := by kernel_rfl
/-- A piece: its size, its bytes, where it lies. -/
abbrev Pc := Nat × List UInt8 × (Option Addr × Nat)
def pcV (d : Pc) : Value := slv d.1 d.2.2
def pcR (d : Pc) : Res := vec (slv d.1 d.2.2) 5 1 d.1 (d.2.1.map B8)
def pcOk (d : Pc) : Prop := d.2.1.length = d.1 ∧ (d.2.2.1 = none → d.2.2.2 = 0) ∧ d.1 ≤ d.2.2.2
def off (szs : List Nat) (i : Nat) : Nat := (szs.take i).sum
def cutP (szs : List Nat) (p : Option Addr) (c i : Nat) : Option Addr × Nat := iter (fun j q => (adv q.1 q.2 (szs.getD j 0) 1, q.2 - szs.getD j 0)) i (p, c)
def pieceW (szs : List Nat) (l : List UInt8) (j : Nat) : List UInt8 := (l.drop (off szs j)).take (szs.getD j 0)
theorem off_succ {szs : List Nat} {i : Nat} (h : i < szs.length) : off szs (i + 1) = off szs i + szs.getD i 0 := by
  rw [off, off, take_one (getD_get (d := 0) h)]; simp
theorem off_all (szs : List Nat) : off szs szs.length = szs.sum := by rw [off, List.take_length]
theorem off_le (szs : List Nat) (i : Nat) : off szs i ≤ szs.sum := by
  have h : szs.sum = off szs i + (szs.drop i).sum := by
    conv => lhs; rw [← List.take_append_drop i szs]
    rw [List.sum_append]; rfl
  omega
theorem cutP_cap {szs : List Nat} {p : Option Addr} {c : Nat} : ∀ {i : Nat}, i ≤ szs.length → (cutP szs p c i).2 = c - off szs i
  | 0, _ => by simp [cutP, iter, off]
  | i + 1, h => by show (cutP szs p c i).2 - szs.getD i 0 = _; rw [cutP_cap (by omega), off_succ (by omega)]; omega
theorem cutP_none {szs : List Nat} {p : Option Addr} {c : Nat} : ∀ {i : Nat}, (cutP szs p c i).1 = none → p = none
  | 0, h => h
  | i + 1, h => cutP_none (i := i) (adv_none (show adv (cutP szs p c i).1 (cutP szs p c i).2 (szs.getD i 0) 1 = none from h))
theorem cutP_rd {w : World} {S : List Nat} {szs : List Nat} {p : Option Addr} {c : Nat} {vs : List Value} (h : RdS w S p vs) (hc : vs.length ≤ c) : ∀ i, i ≤ szs.length → RdS w S (cutP szs p c i).1 (vs.drop (off szs i))
  | 0, _ => by simpa [cutP, iter, off] using h
  | i + 1, hi => by
    have h1 := (cutP_rd (szs := szs) h hc i (by omega)).adv (c := (cutP szs p c i).2) (k := szs.getD i 0) (s := 1) (fun he => by rw [cutP_cap (szs := szs) (p := p) (c := c) (i := i) (by omega)] at he; rw [List.length_drop]; omega)
    rw [List.drop_drop, Nat.mul_one, ← off_succ (szs := szs) (i := i) (by omega)] at h1
    exact h1


theorem f83_spec (p : Option Addr) (c : Nat) (l : List UInt8) (hp : p = none → c = 0) (hnc : l.length ≤ c) (hn : l.length ≤ 1000000000) (pz : Option Addr) (cz : Nat) (szs : List Nat) (hz1 : ∀ x ∈ szs, x ≤ 1000000) (hz2 : szs.length ≤ 1000) (w : World) (hr : RdC w p (l.map B8)) (hrz : RdC w pz (szs.map fun x : Nat => I64 (x : Int))) :
    Calls Tryd.prog 83 [.slice p l.length c, .slice pz szs.length cz].toArray w (fun en w2 =>
      (szs.sum = l.length ∧ ∃ (ds : List Pc) (o : Option Addr × Nat), ds.length = szs.length ∧ (∀ d ∈ ds, pcOk d) ∧ (o.1 = none → o.2 = 0) ∧ ds.reverse.map (fun d => (d.1, d.2.1)) = (List.range szs.length).map (fun j => (szs.getD j 0, pieceW szs l j)) ∧ en = .returned (.tuple #[slv szs.length o, I64 0]) ∧ Sat w [] (vec (slv szs.length o) 23 1 szs.length (ds.reverse.map pcV) :: ds.map pcR) w2) ∨
      (szs.sum ≠ l.length ∧ en = .returned (.tuple #[.slice none 0 0, I64 2]) ∧ Sat w [] [] w2)) := by
  refine enter (n := 38) Tryd.func83 rfl rfl rfl (Sat.refl w) ?_
  refine seq ?_
  refine region ?_
  refine st (g_assign rfl) rfl ?_
  refine st (g_assign rfl) rfl ?_
  refine done ?_
  refine th_n ?_
  refine seq ?_
  refine region ?_
  refine st (g_assign rfl) rfl ?_
  refine done ?_
  refine th_n ?_
  refine seq ?_
  refine seq ?_
  refine region ?_
  refine st (g_move rfl) rfl ?_
  refine st (g_len el_115 rfl) rfl ?_
  refine At.up (fun w hw => new0_vec (T := 23) (s := 1) hw ⟨rfl, .inl ⟨rfl, rfl⟩⟩) ?_
  refine st (g_move rfl) rfl ?_
  refine done ?_
  refine th_n ?_
  refine block ?_
  refine loop (α := Nat × List Pc × (Option Addr × Nat)) (fun ⟨i, ds, o⟩ => i ≤ szs.length ∧ off szs i ≤ l.length ∧ ds.length = i ∧ (∀ d ∈ ds, pcOk d) ∧ (o.1 = none → o.2 = 0) ∧ ds.reverse.map (fun d => (d.1, d.2.1)) = (List.range i).map (fun j => (szs.getD j 0, pieceW szs l j))) (fun ⟨i, ds, o⟩ => [(0, slv (l.length - off szs i) (cutP szs p c i)), (6, slv i o), (9, .slice pz szs.length cz), (10, I64 (szs.length : Nat)), (11, I64 (i : Nat))]) (fun ⟨i, ds, o⟩ => vec (slv i o) 23 1 i (ds.reverse.map pcV) :: ds.map pcR) (fun ⟨i, ds, o⟩ => szs.length - i) (0, [], (none, 0)) ⟨Nat.zero_le _, Nat.zero_le _, rfl, by simp, fun _ => rfl, rfl⟩ ⟨rfl, rfl, rfl, rfl, rfl, trivial⟩ (.cons .here .nil) (fun ⟨i, ds, o⟩ ⟨hI, hoff, hdl, hdo, ho, hdm⟩ => ?_)
  refine seq ?_
  refine region ?_
  refine st (g_bin rfl rfl rfl) rfl ?_
  refine done ?_
  refine th_n ?_
  refine seq ?_
  refine condS rfl (fun h12 => ?_) (fun h12 => ?_)
  · try simp only [decide_eq_true_eq] at h12
    have hi : i < szs.length := by omega
    have hzi := hz1 _ (List.mem_of_getElem? (getD_get (d := 0) hi))
    have hpz : pz.isSome = true := hrz.some (by intro h; rw [List.map_eq_nil_iff] at h; rw [h] at hi; exact absurd hi (Nat.not_lt_zero _))
    have hcap := cutP_cap (p := p) (c := c) hI
    have hrd := cutP_rd (szs := szs) hr.s (by rw [List.length_map]; exact hnc) i hI
    rw [← List.map_drop] at hrd
    have hole := off_le szs (i + 1)
    rw [off_succ hi] at hole
    refine skip ?_
    refine th_n ?_
    refine seq ?_
    refine block ?_
    refine seq ?_
    refine region ?_
    refine st (g_indexP (m := i) el_115 rfl rfl (hpz) (by omega) (by omega) (by omega)) rfl ?_
    refine st (g_load (v := I64 (szs.getD i 0 : Nat)) sc_3 rfl (Cell.rd (RdA.of hrz.s) (by rw [List.getElem?_map, getD_get (d := 0) hi]; rfl))) rfl ?_
    refine st (g_assign rfl) rfl ?_
    refine done ?_
    refine th_n ?_
    refine seq ?_
    refine seq ?_
    refine region ?_
    refine st (g_move rfl) rfl ?_
    refine st (g_F rfl rfl rfl (by omega)) rfl ?_
    refine st (g_move rfl) rfl ?_
    refine gt rfl ?_
    refine st (g_move rfl) rfl ?_
    refine gt rfl ?_
    refine st (g_move rfl) rfl ?_
    refine gt rfl ?_
    refine st (g_len el_23 rfl) rfl ?_
    refine gt rfl ?_
    refine sp (g_bin rfl rfl rfl) rfl (fun h21 => ?_) (fun h21 => ?_)
    · refine st (g_pickF rfl rfl) rfl ?_
      refine done ?_
      refine th_n ?_
      refine condT rfl ?_
      refine seq ?_
      refine region ?_
      refine st (g_assign rfl) rfl ?_
      refine st (g_assign rfl) rfl ?_
      refine done ?_
      refine th_n ?_
      refine ret ?_
      refine th_r ?_
      refine ib_r ?_
      refine th_r ?_
      refine th_r ?_
      refine ib_r ?_
      refine th_r ?_
      exact ret2 rfl rfl rfl rfl (fun w2 hw2 => .inr ⟨by omega, rfl, hw2.clear⟩)
    · refine st (g_pickF rfl rfl) rfl ?_
      refine done ?_
      refine th_n ?_
      refine condF rfl ?_
      refine skip ?_
      refine th_n ?_
      refine seq ?_
      refine region ?_
      refine st (g_move rfl) rfl ?_
      refine st (g_move rfl) rfl ?_
      refine st (g_move rfl) rfl ?_
      refine st (g_slice (l := 0) (h := (szs.getD i 0 : Nat)) (m := ((cutP szs p c i).2 : Int)) (p' := (cutP szs p c i).1) (n' := szs.getD i 0) (c' := (cutP szs p c i).2) el_23 rfl rfl rfl rfl (by simp) (by decide) (by omega) (by omega) (by omega) (adv_zero _ _ _) (by omega) (by omega)) rfl ?_
      refine sq rfl (o_call Tryd.func69 rfl rfl rfl .nil (fun w hw hA => f69_spec (cutP szs p c i).1 (szs.getD i 0) (cutP szs p c i).2 (pieceW szs l i) (by rw [pieceW, List.length_take, List.length_drop]; omega) (fun h => by have := hp (cutP_none h); omega) (by omega) w (by have h0 := (RdS.ofOld (A := []) hrd hw .nil).take (szs.getD i 0); rw [← List.map_take] at h0; exact h0.c)) rfl (fun y hy => ?_))
      have hpl : (pieceW szs l i).length = szs.getD i 0 := by rw [pieceW, List.length_take, List.length_drop]; omega
      refine sq rfl (o_buildSlice1 (vs := [slv (szs.getD i 0) y]) un_22 zr_23 sz_23 (by decide) (by decide) rfl rfl rfl (by simp [Value.oneCell']) rfl (fun b28 => ?_))
      refine sq rfl (o_append (n := i) (m := 1) (news := [slv (szs.getD i 0) y]) un_22 zr_23 sz_23 rfl bt_23 (by decide) rfl rfl (.there (.there (.here))) rfl (RdA.own .here (by simp)) (by simp [Value.oneCell']) (by simp) (by simp only [maxLen]; omega) (by omega) rfl (fun q cap hq hc hq0 => ?_))
      refine st (g_assign rfl) rfl ?_
      refine done ?_
      refine th_n ?_
      refine region ?_
      refine st (g_move rfl) rfl ?_
      refine st (g_move rfl) rfl ?_
      refine st (g_slice (l := (szs.getD i 0 : Nat)) (h := ((l.length - off szs i : Nat) : Int)) (m := ((cutP szs p c i).2 : Int)) (p' := (cutP szs p c (i + 1)).1) (n' := l.length - off szs i - szs.getD i 0) (c' := (cutP szs p c (i + 1)).2) el_23 rfl rfl rfl rfl (by simp) (by omega) (by omega) (by omega) (by omega) (by show adv _ _ _ _ = adv _ _ _ _; rfl) (by omega) (by show _ = (cutP szs p c i).2 - szs.getD i 0; omega)) rfl ?_
      refine st (g_assign rfl) rfl ?_
      refine done ?_
      refine ib_n ?_
      refine th_n ?_
      refine region ?_
      refine st (g_iadd rfl rfl rfl (by omega) (by omega)) rfl ?_
      refine st (g_move rfl) rfl ?_
      refine done ?_
      refine th_n ?_
      have hrev : ds.reverse.map pcV ++ [slv (szs.getD i 0) y] = (((szs.getD i 0, pieceW szs l i, y) : Pc) :: ds).reverse.map pcV := by rw [List.reverse_cons, List.map_append]; rfl
      rw [hrev]
      exact again (i + 1, (szs.getD i 0, pieceW szs l i, y) :: ds, (q, cap)) ⟨by omega, by rw [off_succ hi]; omega, by simp [hdl], fun d hd => by rcases List.mem_cons.1 hd with rfl | hd; exact ⟨hpl, hy.2.1, hy.2.2⟩; exact hdo d hd, hq0, by rw [List.reverse_cons, List.map_append, hdm, List.range_succ, List.map_append]; rfl⟩ (by show _ < _; simp only; omega) ⟨congrArg (fun t => some (Value.slice (cutP szs p c (i + 1)).1 t (cutP szs p c (i + 1)).2)) (show l.length - off szs i - szs.getD i 0 = l.length - off szs (i + 1) by rw [off_succ hi]; omega), rfl, rfl, rfl, rfl, trivial⟩ (.cons .here (.cons (.there .here) (split_skip _ _)))
  · try simp only [decide_eq_false_iff_not] at h12
    have hie : i = szs.length := by omega
    subst hie
    have hsum := off_all szs
    refine exitc ?_
    refine th_x ?_
    refine th_x ?_
    refine ib_x ?_
    refine th_n ?_
    refine seq ?_
    refine seq ?_
    refine region ?_
    refine st (g_move rfl) rfl ?_
    refine st (g_len el_23 rfl) rfl ?_
    refine st (g_bin rfl rfl rfl) rfl ?_
    refine done ?_
    refine th_n ?_
    refine condS rfl (fun h36 => ?_) (fun h36 => ?_)
    · try simp only [decide_eq_true_eq] at h36
      refine seq ?_
      refine region ?_
      refine st (g_assign rfl) rfl ?_
      refine st (g_assign rfl) rfl ?_
      refine done ?_
      refine th_n ?_
      refine ret ?_
      refine th_r ?_
      exact ret2 rfl rfl rfl rfl (fun w2 hw2 => .inr ⟨by omega, rfl, hw2.clear⟩)
    · try simp only [decide_eq_false_iff_not] at h36
      refine skip ?_
      refine th_n ?_
      refine seq ?_
      refine region ?_
      refine st (g_move rfl) rfl ?_
      refine st (g_assign rfl) rfl ?_
      refine st (g_assign rfl) rfl ?_
      refine done ?_
      refine th_n ?_
      refine ret ?_
      exact ret2 rfl rfl rfl rfl (fun w2 hw2 => .inl ⟨by omega, ds, o, hdl, hdo, ho, hdm, rfl, hw2⟩)
end Go.Proofs.YtokhediaibdkjaaDoor

/-! From S1 -/
/- The walk of slot.Encode. (printed by gen1.py) -/
namespace Go.Proofs.YtokhediaibdkjaaDoor
open Go.Pm Go.RowKit
set_option maxRecDepth 100000
/-- A record's sector. -/
def headB : List UInt8 := [80, 77, 1, 0]
def frontW (n : BitVec 64) (d : List UInt8) : List UInt8 := headB ++ be8 n ++ d
def encW (n : BitVec 64) (d : List UInt8) : List UInt8 := frontW n d ++ (hashOf 256 (frontW n d)).take 16 ++ be8 n ++ List.replicate 4 0
theorem frontW_length (n : BitVec 64) {d : List UInt8} (h : d.length = 24) : (frontW n d).length = 36 := by simp [frontW, headB, be8, h]
theorem hash256_length (bs : List UInt8) : (hashOf 256 bs).length = 32 := digest_length (by decide)
theorem encW_length (n : BitVec 64) {d : List UInt8} (h : d.length = 24) : (encW n d).length = 64 := by
  rw [encW, List.length_append, List.length_append, List.length_append, frontW_length n h, List.length_take, hash256_length, be8_length, List.length_replicate]; decide
theorem f73_of (p : Option Addr) (c : Nat) (ss : List Sl) (N : Nat) (L : List UInt8) (hN : tot ss = N) (hL : cat ss = L) (hm : N ≤ 1000000) (hm2 : ss.length ≤ 1000000) (w : World) (hss : ∀ s ∈ ss, s.ok w) (hr : RdC w p (ss.map Sl.v)) :
    Calls Tryd.prog 73 [.slice p ss.length c].toArray w (fun en w2 => ∃ x : Option Addr × Nat, ((x.1 = none → x.2 = 0) ∧ N ≤ x.2) ∧ en = .returned (slv N x) ∧ Sat w (fps []) [vec (slv N x) 5 1 N (L.map B8)] w2) := by
  subst hN; subst hL
  exact f73_spec p c ss w hss hr (by omega) hm2
theorem sl_blk {w0 w : World} {S0 : List Nat} {Rs B : List Res} {b E : Nat} {rest : List Value} {l : List UInt8} {n c : Nat} (hw : Sat w0 S0 Rs w) (hk : Pick (blk b E (l.map B8 ++ rest)) Rs B) (hl : l.length = n) (hc : n ≤ c) : Sl.ok ⟨some ⟨b, 0, none⟩, n, c, l⟩ w :=
  ⟨hl, by simp, hc, RdA.own (cx := ⟨0, [], w0, S0⟩) hk rd_app w hw⟩
theorem sl_vec {w0 w : World} {S0 : List Nat} {Rs B : List Res} {x : Option Addr × Nat} {n : Nat} {l : List UInt8} (hw : Sat w0 S0 Rs w) (hk : Pick (vec (slv n x) 5 1 n (l.map B8)) Rs B) (hx : x.1 = none → x.2 = 0) (hxn : n ≤ x.2) : Sl.ok ⟨x.1, n, x.2, l⟩ w := by
  have hv : w.ownsRow 0 5 1 (slv n x) n (l.map B8) := hw.get hk
  exact ⟨by simpa using hv.1, hx, hxn, RdC.ofVec hv⟩
theorem bu_73 (n : BitVec 64) (v : Value) (h : v.oneCell' = true) : Tryd.prog.built 73 [(0, U64 n), (1, v)] = some [U64 n, v].toArray := by
  have h1 : Tryd.prog.built 73 [(0, U64 n), (1, v)] = Instr.fill (fun i => ([(0, 1), (1, 1)] : List (Nat × Nat)).toArray[i]?) #[.int .u64 0, .slice none 0 0] [(0, U64 n), (1, v)] := by kernel_rfl
  rw [h1, fill_cons1 (off := 0) rfl rfl (by simp), fill_cons1 (off := 1) rfl h (by simp)]; rfl
theorem bu_73z : Tryd.prog.built 73 [] = some [U64 0#64, .slice none 0 0].toArray := by kernel_rfl
theorem u64_ne {n : BitVec 64} (h : n ≠ 0#64) : ¬ (n.toNat : Int) = 0 := fun hh => h (BitVec.eq_of_toNat_eq (by simp; omega))
theorem f45_good (n : BitVec 64) (p : Option Addr) (dn dc : Nat) (d : List UInt8) (hd : d.length = dn) (hp : p = none → dc = 0) (hdc : dn ≤ dc) (h0 : n ≠ 0#64) (h24 : dn = 24) (w : World) (hr : RdC w p (d.map B8)) (hG : Gl w []) : Calls Tryd.prog 45 [.agg [U64 n, .slice p dn dc].toArray].toArray w (fun en w2 => ∃ x : Option Addr × Nat, ((x.1 = none → x.2 = 0) ∧ 64 ≤ x.2) ∧ en = .returned (.tuple #[slv 64 x, I64 0]) ∧ Sat w (fps []) [vec (slv 64 x) 5 1 64 ((encW n d).map B8)] w2) := by
  subst h24
  refine enter (n := 59) Tryd.func45 rfl rfl rfl (Sat.refl w) ?_
  refine seq ?_
  refine region ?_
  refine sq rfl (o_box (cs := [U64 n, .slice p 24 dc]) rfl rfl rfl (fun b1 => ?_))
  refine st (g_assign rfl) rfl ?_
  refine st (g_assign rfl) rfl ?_
  refine done ?_
  refine th_n ?_
  refine seq ?_
  refine seq ?_
  refine region ?_
  refine st (g_fieldAddr fo_73_0 rfl rfl) rfl ?_
  refine st (g_load (v := U64 n) sc_34 rfl (Cell.own .here rfl)) rfl ?_
  refine st (g_F rfl rfl rfl (u64_ne h0)) rfl ?_
  refine st (g_move rfl) rfl ?_
  refine gt rfl ?_
  refine st (g_fieldAddr fo_73_1 rfl rfl) rfl ?_
  refine gt rfl ?_
  refine st (g_load (v := .slice p 24 dc) sc_23 rfl (Cell.own .here rfl)) rfl ?_
  refine gt rfl ?_
  refine st (g_len el_23 rfl) rfl ?_
  refine gt rfl ?_
  refine st (g_F rfl rfl rfl (by decide)) rfl ?_
  refine st (g_pickF rfl rfl) rfl ?_
  refine done ?_
  refine th_n ?_
  refine condF rfl ?_
  refine skip ?_
  refine th_n ?_
  refine seq ?_
  refine region ?_
  refine st (g_fieldAddr fo_73_0 rfl rfl) rfl ?_
  refine st (g_load (v := U64 n) sc_34 rfl (Cell.own .here rfl)) rfl ?_
  refine sq rfl (o_call Tryd.func72 rfl rfl rfl .nil (fun w hw hA => f72_spec n w) rfl (fun g _ => ?_))
  refine st (g_move rfl) rfl ?_
  refine st (g_extract rfl rfl) rfl ?_
  refine st (g_extract rfl rfl) rfl ?_
  refine st (g_assign rfl) rfl ?_
  refine st (g_assign rfl) rfl ?_
  refine done ?_
  refine th_n ?_
  refine seq ?_
  refine seq ?_
  refine region ?_
  refine st (g_move rfl) rfl ?_
  refine st (g_F rfl rfl rfl (by decide)) rfl ?_
  refine done ?_
  refine th_n ?_
  refine condF rfl ?_
  refine skip ?_
  refine th_n ?_
  refine seq ?_
  refine region ?_
  refine sq rfl (o_buildSlice1 (vs := headB.map B8) un_23 zr_5 sz_5 (by decide) (by decide) rfl rfl rfl oneB8 rfl (fun b27 => ?_))
  refine sq rfl (o_mark un_23 un_5 rfl .here rfl ?_)
  refine st (g_move rfl) rfl ?_
  refine st (g_fieldAddr fo_73_1 rfl rfl) rfl ?_
  refine st (g_load (v := .slice p 24 dc) sc_23 rfl (Cell.own (.there (.there (.here))) rfl)) rfl ?_
  refine sq rfl (o_buildSlice1 (vs := [.slice (some ⟨b27, 0, none⟩) 4 4, .slice (some ⟨g, 0, none⟩) 8 8, .slice p 24 dc]) un_22 zr_23 sz_23 (by decide) (by decide) rfl rfl rfl (by simp [Value.oneCell']) rfl (fun b32 => ?_))
  refine sq rfl (o_call Tryd.func73 rfl rfl rfl .nil (fun w hw hA => f73_of (some ⟨b32, 0, none⟩) 3 [⟨some ⟨b27, 0, none⟩, 4, 4, headB⟩, ⟨some ⟨g, 0, none⟩, 8, 8, be8 n⟩, ⟨p, 24, dc, d⟩] 36 (frontW n d) rfl (by simp [cat, frontW]) (by decide) (Nat.le_of_ble_eq_true rfl) w (by intro s hs; simp only [List.mem_cons, List.not_mem_nil, or_false] at hs; rcases hs with rfl | rfl | rfl; exact ⟨rfl, by simp, Nat.le_refl _, RdA.ownF (cx := ⟨0, [], _, _⟩) (.there (.here)) (fun j v hj => by rw [Nat.zero_add]; exact hj) w hw⟩; exact sl_blk (rest := []) hw (by rw [List.append_nil]; exact (.there (.there (.here)))) rfl (Nat.le_refl _); exact ⟨hd, hp, hdc, (RdS.ofOld (A := []) hr.s hw .nil).c⟩) (RdC.ofBlk hw .here rfl)) rfl (fun x1 hx1 => ?_))
  refine st (g_assign rfl) rfl ?_
  refine done ?_
  refine th_n ?_
  refine seq ?_
  refine region ?_
  refine st (g_move rfl) rfl ?_
  refine sq rfl (o_call Tryd.func17 rfl rfl rfl .nil (fun w hw hA => f17_spec 256 (.inr rfl) x1.1 36 x1.2 (frontW n d) (frontW_length n hd) hx1.1 hx1.2 (by decide) w (RdC.ofVec (hw.get .here)) (Gl.ofOld (A := []) hG hw .nil)) rfl (fun o _ => ?_))
  refine st (g_move rfl) rfl ?_
  refine st (g_extract rfl rfl) rfl ?_
  refine st (g_extract rfl rfl) rfl ?_
  refine st (g_assign rfl) rfl ?_
  refine st (g_assign rfl) rfl ?_
  refine done ?_
  refine th_n ?_
  refine seq ?_
  refine seq ?_
  refine region ?_
  refine st (g_move rfl) rfl ?_
  refine st (g_F rfl rfl rfl (by decide)) rfl ?_
  refine st (g_move rfl) rfl ?_
  refine gt rfl ?_
  refine st (g_move rfl) rfl ?_
  refine gt rfl ?_
  refine st (g_len el_23 rfl) rfl ?_
  refine gt rfl ?_
  refine st (g_F rfl rfl rfl (by decide)) rfl ?_
  refine st (g_pickF rfl rfl) rfl ?_
  refine done ?_
  refine th_n ?_
  refine condF rfl ?_
  refine skip ?_
  refine th_n ?_
  refine seq ?_
  refine region ?_
  refine st (g_move rfl) rfl ?_
  refine st (g_move rfl) rfl ?_
  refine st (g_slice (l := 0) (h := 16) (m := 32) (p' := some ⟨o.1, 0, none⟩) (n' := 16) (c' := 32) el_23 rfl rfl rfl rfl (by simp) (by decide) (by decide) (by decide) (by decide) (adv_zero _ _ _) rfl rfl) rfl ?_
  refine st (g_move rfl) rfl ?_
  refine sq rfl (o_buildSlice1 (vs := [slv 36 x1, .slice (some ⟨o.1, 0, none⟩) 16 32, .slice (some ⟨g, 0, none⟩) 8 8]) un_22 zr_23 sz_23 (by decide) (by decide) rfl rfl rfl (by simp [Value.oneCell']) rfl (fun b50 => ?_))
  refine sq rfl (o_call Tryd.func73 rfl rfl rfl .nil (fun w hw hA => f73_of (some ⟨b50, 0, none⟩) 3 [⟨x1.1, 36, x1.2, frontW n d⟩, ⟨some ⟨o.1, 0, none⟩, 16, 32, (hashOf 256 (frontW n d)).take 16⟩, ⟨some ⟨g, 0, none⟩, 8, 8, be8 n⟩] 60 (frontW n d ++ (hashOf 256 (frontW n d)).take 16 ++ be8 n) rfl (by simp [cat]) (by decide) (Nat.le_of_ble_eq_true rfl) w (by intro s hs; simp only [List.mem_cons, List.not_mem_nil, or_false] at hs; rcases hs with rfl | rfl | rfl; exact sl_vec hw (.there (.there (.here))) hx1.1 hx1.2; exact sl_blk (rest := ((hashOf 256 (frontW n d)).drop 16).map B8 ++ o.2) hw (by rw [← List.append_assoc, ← List.map_append, List.take_append_drop]; exact (.there (.here))) (by rw [List.length_take, hash256_length]; rfl) (by decide); exact sl_blk (rest := []) hw (by rw [List.append_nil]; exact (.there (.there (.there (.there (.there (.here))))))) rfl (Nat.le_refl _)) (RdC.ofBlk hw .here rfl)) rfl (fun x2 hx2 => ?_))
  refine st (g_assign rfl) rfl ?_
  refine done ?_
  refine th_n ?_
  refine seq ?_
  refine region ?_
  refine st (g_move rfl) rfl ?_
  refine st (g_move rfl) rfl ?_
  refine st (g_len el_23 rfl) rfl ?_
  refine st (g_isub (c := 4) rfl rfl (by omega) (by omega) (by omega)) rfl ?_
  refine sq rfl (o_make (s := 1) (zv := B8 0) un_23 zr_5 sz_5 bt_5 (by decide) rfl rfl (by decide) (by decide) (by decide) rfl (fun b56 => ?_))
  refine sq rfl (o_buildSlice1 (vs := [slv 60 x2, .slice (some ⟨b56, 0, none⟩) 4 4]) un_22 zr_23 sz_23 (by decide) (by decide) rfl rfl rfl (by simp [Value.oneCell']) rfl (fun b57 => ?_))
  refine sq rfl (o_call Tryd.func73 rfl rfl rfl .nil (fun w hw hA => f73_of (some ⟨b57, 0, none⟩) 2 [⟨x2.1, 60, x2.2, frontW n d ++ (hashOf 256 (frontW n d)).take 16 ++ be8 n⟩, ⟨some ⟨b56, 0, none⟩, 4, 4, List.replicate 4 0⟩] 64 (encW n d) rfl (by simp [cat, encW]) (by decide) (Nat.le_of_ble_eq_true rfl) w (by intro s hs; simp only [List.mem_cons, List.not_mem_nil, or_false] at hs; rcases hs with rfl | rfl; exact sl_vec hw (.there (.there (.here))) hx2.1 hx2.2; exact sl_blk (rest := []) hw (by rw [List.append_nil]; exact (.there (.here))) rfl (Nat.le_refl _)) (RdC.ofBlk hw .here rfl)) rfl (fun x3 hx3 => ?_))
  refine st (g_assign rfl) rfl ?_
  refine st (g_assign rfl) rfl ?_
  refine done ?_
  refine th_n ?_
  refine ret ?_
  exact ret2 rfl rfl rfl rfl (fun w2 hw2 => ⟨x3, hx3, rfl, Sat.left (hw2.split (A := [_]) (.cons .here .nil))⟩)

theorem f45_bad (n : BitVec 64) (p : Option Addr) (dn dc : Nat) (h : n = 0#64 ∨ dn ≠ 24) (w : World) : Calls Tryd.prog 45 [.agg [U64 n, .slice p dn dc].toArray].toArray w (fun en w2 => en = .returned (.tuple #[.slice none 0 0, I64 180]) ∧ Sat w [] [] w2) := by
  refine enter (n := 59) Tryd.func45 rfl rfl rfl (Sat.refl w) ?_
  refine seq ?_
  refine region ?_
  refine sq rfl (o_box (cs := [U64 n, .slice p dn dc]) rfl rfl rfl (fun b1 => ?_))
  refine st (g_assign rfl) rfl ?_
  refine st (g_assign rfl) rfl ?_
  refine done ?_
  refine th_n ?_
  refine seq ?_
  refine seq ?_
  refine region ?_
  refine st (g_fieldAddr fo_73_0 rfl rfl) rfl ?_
  refine st (g_load (v := U64 n) sc_34 rfl (Cell.own .here rfl)) rfl ?_
  refine sp (g_bin rfl rfl rfl) rfl (fun h11 => ?_) (fun h11 => ?_)
  · refine st (g_move rfl) rfl ?_
    refine gf rfl rfl ?_
    refine gf rfl rfl ?_
    refine gf rfl rfl ?_
    refine gf rfl rfl ?_
    refine st (g_pickT rfl rfl) rfl ?_
    refine done ?_
    refine th_n ?_
    refine condT rfl ?_
    refine seq ?_
    refine region ?_
    refine st (g_assign rfl) rfl ?_
    refine st (g_assign rfl) rfl ?_
    refine done ?_
    refine th_n ?_
    refine ret ?_
    refine th_r ?_
    exact ret2 rfl rfl rfl rfl (fun w2 hw2 => ⟨rfl, hw2.clear⟩)
  · have hn : ¬ n = 0#64 := fun hh => h11 (by rw [hh]; rfl)
    refine st (g_move rfl) rfl ?_
    refine gt rfl ?_
    refine st (g_fieldAddr fo_73_1 rfl rfl) rfl ?_
    refine gt rfl ?_
    refine st (g_load (v := .slice p dn dc) sc_23 rfl (Cell.own .here rfl)) rfl ?_
    refine gt rfl ?_
    refine st (g_len el_23 rfl) rfl ?_
    refine gt rfl ?_
    refine st (g_T rfl rfl rfl (by rcases h with h | h; exact absurd h hn; omega)) rfl ?_
    refine st (g_pickF rfl rfl) rfl ?_
    refine done ?_
    refine th_n ?_
    refine condT rfl ?_
    refine seq ?_
    refine region ?_
    refine st (g_assign rfl) rfl ?_
    refine st (g_assign rfl) rfl ?_
    refine done ?_
    refine th_n ?_
    refine ret ?_
    refine th_r ?_
    exact ret2 rfl rfl rfl rfl (fun w2 hw2 => ⟨rfl, hw2.clear⟩)
end Go.Proofs.YtokhediaibdkjaaDoor

/-! From S2 -/
/- The walk of slot.Decode. (printed by gen1.py) -/
namespace Go.Proofs.YtokhediaibdkjaaDoor
open Go.Pm Go.RowKit
set_option maxRecDepth 100000
def w8 (l : List UInt8) : List UInt8 := (l.drop 4).take 8
def d24 (l : List UInt8) : List UInt8 := (l.drop 12).take 24
/-- A sector's record. -/
def decW (l : List UInt8) : Option (BitVec 64 × List UInt8) := if l.length = 64 ∧ wholeW (w8 l) ≠ 0#64 ∧ encW (wholeW (w8 l)) (d24 l) = l then some (wholeW (w8 l), d24 l) else none
theorem w8_length {l : List UInt8} (h : l.length = 64) : (w8 l).length = 8 := by rw [w8, List.length_take, List.length_drop, h]; decide
theorem d24_length {l : List UInt8} (h : l.length = 64) : (d24 l).length = 24 := by rw [d24, List.length_take, List.length_drop, h]; decide
theorem cut4_ok (p : Option Addr) (c : Nat) (l : List UInt8) (hp : p = none → c = 0) (hnc : 64 ≤ c) (hl : l.length = 64) (pz : Option Addr) (cz : Nat) (w : World) (hr : RdC w p (l.map B8)) (hrz : RdC w pz [I64 4, I64 8, I64 24, I64 28]) :
    Calls Tryd.prog 83 [.slice p 64 c, .slice pz 4 cz].toArray w (fun en w2 => ∃ x : (Option Addr × Nat) × (Nat → Option Addr × Nat), ((x.1.1 = none → x.1.2 = 0) ∧ ∀ j, ((x.2 j).1 = none → (x.2 j).2 = 0) ∧ ([4, 8, 24, 28] : List Nat).getD j 0 ≤ (x.2 j).2) ∧ en = .returned (.tuple #[slv 4 x.1, I64 0]) ∧
      Sat w (fps []) [vec (slv 4 x.1) 23 1 4 [slv 4 (x.2 0), slv 8 (x.2 1), slv 24 (x.2 2), slv 28 (x.2 3)], vec (slv 8 (x.2 1)) 5 1 8 ((w8 l).map B8), vec (slv 24 (x.2 2)) 5 1 24 ((d24 l).map B8)] w2) := by
  have h := f83_spec p c l hp (by omega) (by omega) pz cz [4, 8, 24, 28] (by decide) (by decide) w hr hrz
  rw [hl] at h
  refine h.mono ?_
  rintro en w2 (⟨_, ds, o, hdl, hdo, ho, hdm, he, hs⟩ | ⟨hne, _⟩)
  · match ds, hdl with
    | [d3, d2, d1, d0], _ =>
      obtain ⟨n0, l0, y0⟩ := d0
      obtain ⟨n1, l1, y1⟩ := d1
      obtain ⟨n2, l2, y2⟩ := d2
      obtain ⟨n3, l3, y3⟩ := d3
      have hdm' : [(n0, l0), (n1, l1), (n2, l2), (n3, l3)] = [(4, pieceW [4, 8, 24, 28] l 0), (8, pieceW [4, 8, 24, 28] l 1), (24, pieceW [4, 8, 24, 28] l 2), (28, pieceW [4, 8, 24, 28] l 3)] := hdm
      simp only [List.cons.injEq, Prod.mk.injEq, and_true] at hdm'
      obtain ⟨⟨rfl, rfl⟩, ⟨rfl, rfl⟩, ⟨rfl, rfl⟩, rfl, rfl⟩ := hdm'
      have o0 := hdo _ (List.mem_cons_of_mem _ (List.mem_cons_of_mem _ (List.mem_cons_of_mem _ (List.mem_cons_self ..))))
      have o1 := hdo _ (List.mem_cons_of_mem _ (List.mem_cons_of_mem _ (List.mem_cons_self ..)))
      have o2 := hdo _ (List.mem_cons_of_mem _ (List.mem_cons_self ..))
      have o3 := hdo _ (List.mem_cons_self ..)
      refine ⟨(o, fun j => if j = 0 then y0 else if j = 1 then y1 else if j = 2 then y2 else if j = 3 then y3 else (none, 0)), ⟨ho, fun j => ?_⟩, he, Sat.left (hs.split (A := [_, _, _]) (.cons .here (.cons (.there (.there .here)) (.cons (.there .here) .nil))))⟩
      match j with
      | 0 => exact ⟨o0.2.1, o0.2.2⟩
      | 1 => exact ⟨o1.2.1, o1.2.2⟩
      | 2 => exact ⟨o2.2.1, o2.2.2⟩
      | 3 => exact ⟨o3.2.1, o3.2.2⟩
      | j + 4 => exact ⟨fun _ => rfl, Nat.zero_le _⟩
  · exact absurd (show ([4, 8, 24, 28] : List Nat).sum = 64 from rfl) hne
theorem cut4_bad (p : Option Addr) (c n : Nat) (l : List UInt8) (hp : p = none → c = 0) (hnc : n ≤ c) (hl : l.length = n) (hn : n ≤ 1000000000) (h64 : n ≠ 64) (pz : Option Addr) (cz : Nat) (w : World) (hr : RdC w p (l.map B8)) (hrz : RdC w pz [I64 4, I64 8, I64 24, I64 28]) :
    Calls Tryd.prog 83 [.slice p n c, .slice pz 4 cz].toArray w (fun en w2 => en = .returned (.tuple #[.slice none 0 0, I64 2]) ∧ Sat w [] [] w2) := by
  subst hl
  refine (f83_spec p c l hp hnc hn pz cz [4, 8, 24, 28] (by decide) (by decide) w hr hrz).mono ?_
  rintro en w2 (⟨hs, _⟩ | ⟨_, h1, h2⟩)
  · exact absurd hs.symm h64
  · exact ⟨h1, h2⟩
theorem f84_of (p : Option Addr) (n c : Nat) (l : List UInt8) (hl : l.length = n) (hp : p = none → c = 0) (hnc : n ≤ c) (hn : n ≤ 8) (w : World) (hr : RdC w p (l.map B8)) : Calls Tryd.prog 84 [.slice p n c].toArray w (fun en w2 => en = .returned (.tuple #[U64 (wholeW l), I64 0]) ∧ Sat w [] [] w2) := by
  subst hl; exact f84_spec p c l hp hnc hn w hr
theorem f85_of (p q : Option Addr) (a b c d : Nat) (l m : List UInt8) (ha : l.length = a) (hb : m.length = b) (w : World) (hl : RdC w p (l.map B8)) (hm : RdC w q (m.map B8)) : Calls Tryd.prog 85 [.slice p a c, .slice q b d].toArray w (fun en w2 => en = .returned (.bool (decide (l = m))) ∧ Sat w [] [] w2) := by
  subst ha; subst hb; exact f85_spec p q c d l m w hl hm
theorem decW_some {l : List UInt8} (h1 : l.length = 64) (h2 : wholeW (w8 l) ≠ 0#64) (h3 : encW (wholeW (w8 l)) (d24 l) = l) : decW l = some (wholeW (w8 l), d24 l) := by rw [decW, if_pos ⟨h1, h2, h3⟩]
theorem decW_none {l : List UInt8} (h : ¬ (l.length = 64 ∧ wholeW (w8 l) ≠ 0#64 ∧ encW (wholeW (w8 l)) (d24 l) = l)) : decW l = none := by rw [decW, if_neg h]


theorem At.up2 {cx : Cx} {e : Env} {Rs : List Res} {K : Act → World → Prop} {F : Prop} (hs : ∀ w, Sat cx.w0 cx.S0 Rs w → F) (h : F → At cx e Rs K) : At cx e Rs K := fun a w ha hw => h (hs w hw) a w ha hw
theorem vec_isSome {w : World} {T s n : Nat} {y : Option Addr × Nat} {xs : List Value} (h : w.ownsRow 0 T s (slv n y) n xs) (hn : 0 < n) : y.1.isSome = true := by
  rcases h.2 with ⟨he, h0⟩ | ⟨g, cap, cur, he, _⟩
  · omega
  · simp only [slv, Value.slice.injEq] at he; rw [he.1]; rfl


theorem f47_len (p : Option Addr) (n c : Nat) (l : List UInt8) (hl : l.length = n) (hp : p = none → c = 0) (hnc : n ≤ c) (hn : n ≤ 1000000000) (w : World) (hr : RdC w p (l.map B8)) (_hG : Gl w []) (h64 : n ≠ 64) : Calls Tryd.prog 47 [.slice p n c].toArray w (fun en w2 => en = .returned (.tuple #[.agg [U64 0#64, .slice none 0 0].toArray, I64 180]) ∧ Sat w [] [] w2) := by
  refine enter (n := 49) Tryd.func47 rfl rfl rfl (Sat.refl w) ?_
  refine seq ?_
  refine region ?_
  refine sq rfl (o_alloc (zs := [U64 0#64, .slice none 0 0]) zr_73 rfl (fun b2 => ?_))
  refine st (g_assign rfl) rfl ?_
  refine done ?_
  refine th_n ?_
  refine seq ?_
  refine region ?_
  refine st (g_move rfl) rfl ?_
  refine sq rfl (o_buildSlice1 (vs := [I64 4, I64 8, I64 24, I64 28]) un_115 zr_3 sz_3 (by decide) (by decide) rfl rfl rfl (by simp [Value.oneCell']) rfl (fun b12 => ?_))
  refine sq rfl (o_callP Tryd.func83 rfl rfl rfl (fun w hw => cut4_bad p c n l hp hnc hl hn h64 _ _ w (RdS.ofOld (A := []) hr.s hw .nil).c (RdC.ofBlk hw .here rfl)) rfl ?_)
  refine st (g_move rfl) rfl ?_
  refine st (g_extract rfl rfl) rfl ?_
  refine st (g_extract rfl rfl) rfl ?_
  refine st (g_assign rfl) rfl ?_
  refine st (g_assign rfl) rfl ?_
  refine done ?_
  refine th_n ?_
  refine seq ?_
  refine seq ?_
  refine region ?_
  refine st (g_move rfl) rfl ?_
  refine st (g_T rfl rfl rfl (by decide)) rfl ?_
  refine done ?_
  refine th_n ?_
  refine condT rfl ?_
  refine seq ?_
  refine region ?_
  refine st (g_build rfl bu_73z) rfl ?_
  refine sq rfl (o_storeA (cs' := [U64 0#64, .slice none 0 0]) sz_73 rfl rfl rfl (by simp [Value.oneCell']) (.there (.here)) (Nat.le_of_ble_eq_true rfl) rfl ?_)
  refine st (g_assign rfl) rfl ?_
  refine done ?_
  refine th_n ?_
  refine ret ?_
  refine th_r ?_
  exact retG rfl (fun a w2 ha hw2 => ⟨resc2 ha rfl rfl rfl ag_73 rfl (hw2.get .here), rfl, hw2.clear⟩)

theorem f47_zero (p : Option Addr) (c : Nat) (l : List UInt8) (hl : l.length = 64) (hp : p = none → c = 0) (hnc : 64 ≤ c) (w : World) (hr : RdC w p (l.map B8)) (_hG : Gl w []) (h0 : wholeW (w8 l) = 0#64) : Calls Tryd.prog 47 [.slice p 64 c].toArray w (fun en w2 => en = .returned (.tuple #[.agg [U64 0#64, .slice none 0 0].toArray, I64 180]) ∧ Sat w [] [] w2) := by
  refine enter (n := 49) Tryd.func47 rfl rfl rfl (Sat.refl w) ?_
  refine seq ?_
  refine region ?_
  refine sq rfl (o_alloc (zs := [U64 0#64, .slice none 0 0]) zr_73 rfl (fun b2 => ?_))
  refine st (g_assign rfl) rfl ?_
  refine done ?_
  refine th_n ?_
  refine seq ?_
  refine region ?_
  refine st (g_move rfl) rfl ?_
  refine sq rfl (o_buildSlice1 (vs := [I64 4, I64 8, I64 24, I64 28]) un_115 zr_3 sz_3 (by decide) (by decide) rfl rfl rfl (by simp [Value.oneCell']) rfl (fun b12 => ?_))
  refine sq rfl (o_call Tryd.func83 rfl rfl rfl .nil (fun w hw hA => cut4_ok p c l hp hnc hl _ _ w (RdS.ofOld (A := []) hr.s hw .nil).c (RdC.ofBlk hw .here rfl)) rfl (fun x hx => ?_))
  refine st (g_move rfl) rfl ?_
  refine st (g_extract rfl rfl) rfl ?_
  refine st (g_extract rfl rfl) rfl ?_
  refine st (g_assign rfl) rfl ?_
  refine st (g_assign rfl) rfl ?_
  refine done ?_
  refine th_n ?_
  refine seq ?_
  refine seq ?_
  refine region ?_
  refine st (g_move rfl) rfl ?_
  refine st (g_F rfl rfl rfl (by decide)) rfl ?_
  refine done ?_
  refine th_n ?_
  refine condF rfl ?_
  refine skip ?_
  refine th_n ?_
  refine seq ?_
  refine region ?_
  refine At.up2 (fun w hw => vec_isSome (hw.get .here) (by decide)) (fun hos => ?_)
  refine st (g_move rfl) rfl ?_
  refine st (g_indexP (m := 1) el_22 rfl rfl (hos) (by omega) (by omega) (by omega)) rfl ?_
  refine st (g_load (v := slv 8 (x.2 1)) sc_23 rfl (Cell.rd (RdA.vec .here) rfl)) rfl ?_
  refine sq rfl (o_callP Tryd.func84 rfl rfl rfl (fun w hw => f84_of (x.2 1).1 8 (x.2 1).2 (w8 l) (w8_length hl) (hx.2 1).1 (hx.2 1).2 (by decide) w (RdC.ofVec (hw.get (.there (.here))))) rfl ?_)
  refine st (g_move rfl) rfl ?_
  refine st (g_extract rfl rfl) rfl ?_
  refine st (g_extract rfl rfl) rfl ?_
  refine st (g_assign rfl) rfl ?_
  refine st (g_assign rfl) rfl ?_
  refine done ?_
  refine th_n ?_
  refine seq ?_
  refine seq ?_
  refine region ?_
  refine st (g_move rfl) rfl ?_
  refine st (g_F rfl rfl rfl (by decide)) rfl ?_
  refine done ?_
  refine th_n ?_
  refine condF rfl ?_
  refine skip ?_
  refine th_n ?_
  refine seq ?_
  refine region ?_
  refine st (g_move rfl) rfl ?_
  refine st (g_move rfl) rfl ?_
  refine st (g_indexP (m := 2) el_22 rfl rfl (hos) (by omega) (by omega) (by omega)) rfl ?_
  refine st (g_load (v := slv 24 (x.2 2)) sc_23 rfl (Cell.rd (RdA.vec .here) rfl)) rfl ?_
  refine st (g_build rfl (bu_73 _ _ rfl)) rfl ?_
  refine sq rfl (o_alloc (zs := [U64 0#64, .slice none 0 0]) zr_73 rfl (fun b7 => ?_))
  refine sq rfl (o_storeA (cs' := [U64 (wholeW (w8 l)), slv 24 (x.2 2)]) sz_73 rfl rfl rfl (by simp [Value.oneCell']) .here (Nat.le_of_ble_eq_true rfl) rfl ?_)
  refine done ?_
  refine th_n ?_
  refine seq ?_
  refine seq ?_
  refine region ?_
  refine st (g_loadA (vs := [U64 (wholeW (w8 l)), slv 24 (x.2 2)]) ag_73 rfl rfl (Cells.part .here rfl)) rfl ?_
  refine sq rfl (o_callP Tryd.func45 rfl rfl rfl (fun w hw => f45_bad _ _ _ _ (.inl h0) w) rfl ?_)
  refine st (g_move rfl) rfl ?_
  refine st (g_extract rfl rfl) rfl ?_
  refine st (g_extract rfl rfl) rfl ?_
  refine st (g_assign rfl) rfl ?_
  refine st (g_assign rfl) rfl ?_
  refine done ?_
  refine th_n ?_
  refine seq ?_
  refine region ?_
  refine st (g_move rfl) rfl ?_
  refine st (g_T rfl rfl rfl (by decide)) rfl ?_
  refine st (g_move rfl) rfl ?_
  refine gf rfl rfl ?_
  refine gf rfl rfl ?_
  refine gf rfl rfl ?_
  refine gf rfl rfl ?_
  refine st (g_pickT rfl rfl) rfl ?_
  refine done ?_
  refine th_n ?_
  refine condT rfl ?_
  refine seq ?_
  refine region ?_
  refine st (g_build rfl bu_73z) rfl ?_
  refine sq rfl (o_storeA (cs' := [U64 0#64, .slice none 0 0]) sz_73 rfl rfl rfl (by simp [Value.oneCell']) (.there (.there (.there (.there (.there (.here)))))) (Nat.le_of_ble_eq_true rfl) rfl ?_)
  refine st (g_assign rfl) rfl ?_
  refine done ?_
  refine th_n ?_
  refine ret ?_
  refine th_r ?_
  exact retG rfl (fun a w2 ha hw2 => ⟨resc2 ha rfl rfl rfl ag_73 rfl (hw2.get .here), rfl, hw2.clear⟩)

theorem f47_other (p : Option Addr) (c : Nat) (l : List UInt8) (hl : l.length = 64) (hp : p = none → c = 0) (hnc : 64 ≤ c) (w : World) (hr : RdC w p (l.map B8)) (hG : Gl w []) (h0 : wholeW (w8 l) ≠ 0#64) (h1 : ¬ encW (wholeW (w8 l)) (d24 l) = l) : Calls Tryd.prog 47 [.slice p 64 c].toArray w (fun en w2 => en = .returned (.tuple #[.agg [U64 0#64, .slice none 0 0].toArray, I64 180]) ∧ Sat w [] [] w2) := by
  refine enter (n := 49) Tryd.func47 rfl rfl rfl (Sat.refl w) ?_
  refine seq ?_
  refine region ?_
  refine sq rfl (o_alloc (zs := [U64 0#64, .slice none 0 0]) zr_73 rfl (fun b2 => ?_))
  refine st (g_assign rfl) rfl ?_
  refine done ?_
  refine th_n ?_
  refine seq ?_
  refine region ?_
  refine st (g_move rfl) rfl ?_
  refine sq rfl (o_buildSlice1 (vs := [I64 4, I64 8, I64 24, I64 28]) un_115 zr_3 sz_3 (by decide) (by decide) rfl rfl rfl (by simp [Value.oneCell']) rfl (fun b12 => ?_))
  refine sq rfl (o_call Tryd.func83 rfl rfl rfl .nil (fun w hw hA => cut4_ok p c l hp hnc hl _ _ w (RdS.ofOld (A := []) hr.s hw .nil).c (RdC.ofBlk hw .here rfl)) rfl (fun x hx => ?_))
  refine st (g_move rfl) rfl ?_
  refine st (g_extract rfl rfl) rfl ?_
  refine st (g_extract rfl rfl) rfl ?_
  refine st (g_assign rfl) rfl ?_
  refine st (g_assign rfl) rfl ?_
  refine done ?_
  refine th_n ?_
  refine seq ?_
  refine seq ?_
  refine region ?_
  refine st (g_move rfl) rfl ?_
  refine st (g_F rfl rfl rfl (by decide)) rfl ?_
  refine done ?_
  refine th_n ?_
  refine condF rfl ?_
  refine skip ?_
  refine th_n ?_
  refine seq ?_
  refine region ?_
  refine At.up2 (fun w hw => vec_isSome (hw.get .here) (by decide)) (fun hos => ?_)
  refine st (g_move rfl) rfl ?_
  refine st (g_indexP (m := 1) el_22 rfl rfl (hos) (by omega) (by omega) (by omega)) rfl ?_
  refine st (g_load (v := slv 8 (x.2 1)) sc_23 rfl (Cell.rd (RdA.vec .here) rfl)) rfl ?_
  refine sq rfl (o_callP Tryd.func84 rfl rfl rfl (fun w hw => f84_of (x.2 1).1 8 (x.2 1).2 (w8 l) (w8_length hl) (hx.2 1).1 (hx.2 1).2 (by decide) w (RdC.ofVec (hw.get (.there (.here))))) rfl ?_)
  refine st (g_move rfl) rfl ?_
  refine st (g_extract rfl rfl) rfl ?_
  refine st (g_extract rfl rfl) rfl ?_
  refine st (g_assign rfl) rfl ?_
  refine st (g_assign rfl) rfl ?_
  refine done ?_
  refine th_n ?_
  refine seq ?_
  refine seq ?_
  refine region ?_
  refine st (g_move rfl) rfl ?_
  refine st (g_F rfl rfl rfl (by decide)) rfl ?_
  refine done ?_
  refine th_n ?_
  refine condF rfl ?_
  refine skip ?_
  refine th_n ?_
  refine seq ?_
  refine region ?_
  refine st (g_move rfl) rfl ?_
  refine st (g_move rfl) rfl ?_
  refine st (g_indexP (m := 2) el_22 rfl rfl (hos) (by omega) (by omega) (by omega)) rfl ?_
  refine st (g_load (v := slv 24 (x.2 2)) sc_23 rfl (Cell.rd (RdA.vec .here) rfl)) rfl ?_
  refine st (g_build rfl (bu_73 _ _ rfl)) rfl ?_
  refine sq rfl (o_alloc (zs := [U64 0#64, .slice none 0 0]) zr_73 rfl (fun b7 => ?_))
  refine sq rfl (o_storeA (cs' := [U64 (wholeW (w8 l)), slv 24 (x.2 2)]) sz_73 rfl rfl rfl (by simp [Value.oneCell']) .here (Nat.le_of_ble_eq_true rfl) rfl ?_)
  refine done ?_
  refine th_n ?_
  refine seq ?_
  refine seq ?_
  refine region ?_
  refine st (g_loadA (vs := [U64 (wholeW (w8 l)), slv 24 (x.2 2)]) ag_73 rfl rfl (Cells.part .here rfl)) rfl ?_
  refine sq rfl (o_call Tryd.func45 rfl rfl rfl .nil (fun w hw hA => f45_good (wholeW (w8 l)) (x.2 2).1 24 (x.2 2).2 (d24 l) (d24_length hl) (hx.2 2).1 (hx.2 2).2 h0 rfl w (RdC.ofVec (hw.get (.there (.there (.there (.here)))))) (Gl.ofOld (A := []) hG hw .nil)) rfl (fun z hz => ?_))
  refine st (g_move rfl) rfl ?_
  refine st (g_extract rfl rfl) rfl ?_
  refine st (g_extract rfl rfl) rfl ?_
  refine st (g_assign rfl) rfl ?_
  refine st (g_assign rfl) rfl ?_
  refine done ?_
  refine th_n ?_
  refine seq ?_
  refine region ?_
  refine st (g_move rfl) rfl ?_
  refine st (g_F rfl rfl rfl (by decide)) rfl ?_
  refine st (g_move rfl) rfl ?_
  refine gt rfl ?_
  refine st (g_move rfl) rfl ?_
  refine gt rfl ?_
  refine st (g_move rfl) rfl ?_
  refine gt rfl ?_
  refine sq rfl (o_callP (v := .bool false) Tryd.func85 rfl rfl rfl (fun w hw => (by have h := f85_of z.1 p 64 64 z.2 c (encW (wholeW (w8 l)) (d24 l)) l (encW_length _ (d24_length hl)) hl w (RdC.ofVec (hw.get .here)) (RdS.ofOld (A := []) hr.s hw .nil).c; rwa [decide_eq_false h1] at h)) rfl ?_)
  refine gt rfl ?_
  refine st (g_not rfl) rfl ?_
  refine st (g_pickF rfl rfl) rfl ?_
  refine done ?_
  refine th_n ?_
  refine condT rfl ?_
  refine seq ?_
  refine region ?_
  refine st (g_build rfl bu_73z) rfl ?_
  refine sq rfl (o_storeA (cs' := [U64 0#64, .slice none 0 0]) sz_73 rfl rfl rfl (by simp [Value.oneCell']) (.there (.there (.there (.there (.there (.there (.here))))))) (Nat.le_of_ble_eq_true rfl) rfl ?_)
  refine st (g_assign rfl) rfl ?_
  refine done ?_
  refine th_n ?_
  refine ret ?_
  refine th_r ?_
  exact retG rfl (fun a w2 ha hw2 => ⟨resc2 ha rfl rfl rfl ag_73 rfl (hw2.get .here), rfl, hw2.clear⟩)

theorem f47_good (p : Option Addr) (c : Nat) (l : List UInt8) (hl : l.length = 64) (hp : p = none → c = 0) (hnc : 64 ≤ c) (w : World) (hr : RdC w p (l.map B8)) (hG : Gl w []) (h0 : wholeW (w8 l) ≠ 0#64) (h1 : encW (wholeW (w8 l)) (d24 l) = l) : Calls Tryd.prog 47 [.slice p 64 c].toArray w (fun en w2 => ∃ y : Option Addr × Nat, ((y.1 = none → y.2 = 0) ∧ 24 ≤ y.2) ∧ en = .returned (.tuple #[.agg [U64 (wholeW (w8 l)), slv 24 y].toArray, I64 0]) ∧ Sat w (fps []) [vec (slv 24 y) 5 1 24 ((d24 l).map B8)] w2) := by
  refine enter (n := 49) Tryd.func47 rfl rfl rfl (Sat.refl w) ?_
  refine seq ?_
  refine region ?_
  refine sq rfl (o_alloc (zs := [U64 0#64, .slice none 0 0]) zr_73 rfl (fun b2 => ?_))
  refine st (g_assign rfl) rfl ?_
  refine done ?_
  refine th_n ?_
  refine seq ?_
  refine region ?_
  refine st (g_move rfl) rfl ?_
  refine sq rfl (o_buildSlice1 (vs := [I64 4, I64 8, I64 24, I64 28]) un_115 zr_3 sz_3 (by decide) (by decide) rfl rfl rfl (by simp [Value.oneCell']) rfl (fun b12 => ?_))
  refine sq rfl (o_call Tryd.func83 rfl rfl rfl .nil (fun w hw hA => cut4_ok p c l hp hnc hl _ _ w (RdS.ofOld (A := []) hr.s hw .nil).c (RdC.ofBlk hw .here rfl)) rfl (fun x hx => ?_))
  refine st (g_move rfl) rfl ?_
  refine st (g_extract rfl rfl) rfl ?_
  refine st (g_extract rfl rfl) rfl ?_
  refine st (g_assign rfl) rfl ?_
  refine st (g_assign rfl) rfl ?_
  refine done ?_
  refine th_n ?_
  refine seq ?_
  refine seq ?_
  refine region ?_
  refine st (g_move rfl) rfl ?_
  refine st (g_F rfl rfl rfl (by decide)) rfl ?_
  refine done ?_
  refine th_n ?_
  refine condF rfl ?_
  refine skip ?_
  refine th_n ?_
  refine seq ?_
  refine region ?_
  refine At.up2 (fun w hw => vec_isSome (hw.get .here) (by decide)) (fun hos => ?_)
  refine st (g_move rfl) rfl ?_
  refine st (g_indexP (m := 1) el_22 rfl rfl (hos) (by omega) (by omega) (by omega)) rfl ?_
  refine st (g_load (v := slv 8 (x.2 1)) sc_23 rfl (Cell.rd (RdA.vec .here) rfl)) rfl ?_
  refine sq rfl (o_callP Tryd.func84 rfl rfl rfl (fun w hw => f84_of (x.2 1).1 8 (x.2 1).2 (w8 l) (w8_length hl) (hx.2 1).1 (hx.2 1).2 (by decide) w (RdC.ofVec (hw.get (.there (.here))))) rfl ?_)
  refine st (g_move rfl) rfl ?_
  refine st (g_extract rfl rfl) rfl ?_
  refine st (g_extract rfl rfl) rfl ?_
  refine st (g_assign rfl) rfl ?_
  refine st (g_assign rfl) rfl ?_
  refine done ?_
  refine th_n ?_
  refine seq ?_
  refine seq ?_
  refine region ?_
  refine st (g_move rfl) rfl ?_
  refine st (g_F rfl rfl rfl (by decide)) rfl ?_
  refine done ?_
  refine th_n ?_
  refine condF rfl ?_
  refine skip ?_
  refine th_n ?_
  refine seq ?_
  refine region ?_
  refine st (g_move rfl) rfl ?_
  refine st (g_move rfl) rfl ?_
  refine st (g_indexP (m := 2) el_22 rfl rfl (hos) (by omega) (by omega) (by omega)) rfl ?_
  refine st (g_load (v := slv 24 (x.2 2)) sc_23 rfl (Cell.rd (RdA.vec .here) rfl)) rfl ?_
  refine st (g_build rfl (bu_73 _ _ rfl)) rfl ?_
  refine sq rfl (o_alloc (zs := [U64 0#64, .slice none 0 0]) zr_73 rfl (fun b7 => ?_))
  refine sq rfl (o_storeA (cs' := [U64 (wholeW (w8 l)), slv 24 (x.2 2)]) sz_73 rfl rfl rfl (by simp [Value.oneCell']) .here (Nat.le_of_ble_eq_true rfl) rfl ?_)
  refine done ?_
  refine th_n ?_
  refine seq ?_
  refine seq ?_
  refine region ?_
  refine st (g_loadA (vs := [U64 (wholeW (w8 l)), slv 24 (x.2 2)]) ag_73 rfl rfl (Cells.part .here rfl)) rfl ?_
  refine sq rfl (o_call Tryd.func45 rfl rfl rfl .nil (fun w hw hA => f45_good (wholeW (w8 l)) (x.2 2).1 24 (x.2 2).2 (d24 l) (d24_length hl) (hx.2 2).1 (hx.2 2).2 h0 rfl w (RdC.ofVec (hw.get (.there (.there (.there (.here)))))) (Gl.ofOld (A := []) hG hw .nil)) rfl (fun z hz => ?_))
  refine st (g_move rfl) rfl ?_
  refine st (g_extract rfl rfl) rfl ?_
  refine st (g_extract rfl rfl) rfl ?_
  refine st (g_assign rfl) rfl ?_
  refine st (g_assign rfl) rfl ?_
  refine done ?_
  refine th_n ?_
  refine seq ?_
  refine region ?_
  refine st (g_move rfl) rfl ?_
  refine st (g_F rfl rfl rfl (by decide)) rfl ?_
  refine st (g_move rfl) rfl ?_
  refine gt rfl ?_
  refine st (g_move rfl) rfl ?_
  refine gt rfl ?_
  refine st (g_move rfl) rfl ?_
  refine gt rfl ?_
  refine sq rfl (o_callP (v := .bool true) Tryd.func85 rfl rfl rfl (fun w hw => (by have h := f85_of z.1 p 64 64 z.2 c (encW (wholeW (w8 l)) (d24 l)) l (encW_length _ (d24_length hl)) hl w (RdC.ofVec (hw.get .here)) (RdS.ofOld (A := []) hr.s hw .nil).c; rwa [decide_eq_true h1] at h)) rfl ?_)
  refine gt rfl ?_
  refine st (g_not rfl) rfl ?_
  refine st (g_pickF rfl rfl) rfl ?_
  refine done ?_
  refine th_n ?_
  refine condF rfl ?_
  refine skip ?_
  refine th_n ?_
  refine seq ?_
  refine region ?_
  refine st (g_loadA (vs := [U64 (wholeW (w8 l)), slv 24 (x.2 2)]) ag_73 rfl rfl (Cells.part (.there (.here)) rfl)) rfl ?_
  refine sq rfl (o_storeA (cs' := [U64 (wholeW (w8 l)), slv 24 (x.2 2)]) sz_73 rfl rfl rfl (by simp [Value.oneCell']) (.there (.there (.there (.there (.there (.there (.here))))))) (Nat.le_of_ble_eq_true rfl) rfl ?_)
  refine st (g_assign rfl) rfl ?_
  refine done ?_
  refine th_n ?_
  refine ret ?_
  exact retG rfl (fun a w2 ha hw2 => ⟨resc2 ha rfl rfl rfl ag_73 rfl (hw2.get .here), x.2 2, hx.2 2, rfl, Sat.left (hw2.split (A := [_]) (.cons (.there (.there (.there (.there (.there (.here)))))) .nil))⟩)

theorem f47_none (p : Option Addr) (n c : Nat) (l : List UInt8) (hl : l.length = n) (hp : p = none → c = 0) (hnc : n ≤ c) (hn : n ≤ 1000000000) (w : World) (hr : RdC w p (l.map B8)) (hG : Gl w []) (h : decW l = none) : Calls Tryd.prog 47 [.slice p n c].toArray w (fun en w2 => en = .returned (.tuple #[.agg [U64 0#64, .slice none 0 0].toArray, I64 180]) ∧ Sat w [] [] w2) := by
  by_cases h64 : n = 64
  · subst h64
    by_cases h0 : wholeW (w8 l) = 0#64
    · exact f47_zero p c l hl hp hnc w hr hG h0
    · by_cases h1 : encW (wholeW (w8 l)) (d24 l) = l
      · rw [decW_some hl h0 h1] at h; cases h
      · exact f47_other p c l hl hp hnc w hr hG h0 h1
  · exact f47_len p n c l hl hp hnc hn w hr hG h64
theorem f47_some (p : Option Addr) (n c : Nat) (l : List UInt8) (hl : l.length = n) (hp : p = none → c = 0) (hnc : n ≤ c) (hn : n ≤ 1000000000) (w : World) (hr : RdC w p (l.map B8)) (hG : Gl w []) (m : BitVec 64) (d : List UInt8) (h : decW l = some (m, d)) : Calls Tryd.prog 47 [.slice p n c].toArray w (fun en w2 => ∃ y : Option Addr × Nat, ((y.1 = none → y.2 = 0) ∧ 24 ≤ y.2) ∧ en = .returned (.tuple #[.agg [U64 m, slv 24 y].toArray, I64 0]) ∧ Sat w (fps []) [vec (slv 24 y) 5 1 24 (d.map B8)] w2) := by
  by_cases hc : l.length = 64 ∧ wholeW (w8 l) ≠ 0#64 ∧ encW (wholeW (w8 l)) (d24 l) = l
  · obtain ⟨h1, h2, h3⟩ := hc
    rw [decW_some h1 h2 h3] at h
    cases h
    have : n = 64 := by omega
    subst this
    exact f47_good p c l hl hp hnc w hr hG h2 h3
  · rw [decW_none hc] at h; cases h
end Go.Proofs.YtokhediaibdkjaaDoor

/-! From S3 -/
/- The walk of slot.sectors. (printed by gen1.py) -/
namespace Go.Proofs.YtokhediaibdkjaaDoor
open Go.Pm Go.RowKit
set_option maxRecDepth 100000
/-- What a disk tells of a sector: the error, and the bytes. -/
def Dk.rd (k : Dk) (i : Nat) : Int × List UInt8 := if k.down = true then (171, []) else if i < k.stays.length then (0, k.look i) else (170, [])
theorem f109_rd (b : Nat) (k : Dk) (hk : k.ok) (r : Rp) (hro : r.ok k) (i : Nat) (w : World) (hA : Sat w (fps (dkR b k r)) (dkR b k r) w) :
    Calls Tryd.prog 109 [.pointer (some ⟨b, 0, none⟩), I64 i].toArray w (fun en w2 => ∃ y : Option Addr × Nat, ((y.1 = none → y.2 = 0) ∧ (k.rd i).2.length ≤ y.2) ∧ en = .returned (.tuple #[slv (k.rd i).2.length y, I64 (k.rd i).1]) ∧ Sat w (fps (dkR b k r)) (vec (slv (k.rd i).2.length y) 5 1 (k.rd i).2.length ((k.rd i).2.map B8) :: dkR b k r) w2) := by
  by_cases hd : k.down = true
  · have e : k.rd i = (171, []) := by rw [Dk.rd, if_pos hd]
    rw [e]
    refine (f109_down b k hk r hro i hd w hA).mono ?_
    rintro en w2 ⟨_, _, he, hs⟩
    exact ⟨(none, 0), ⟨fun _ => rfl, Nat.le_refl _⟩, he, new0_vec hs ⟨rfl, .inl ⟨rfl, rfl⟩⟩⟩
  · have hd' : k.down = false := by simpa using hd
    by_cases hi : i < k.stays.length
    · have e : k.rd i = (0, k.look i) := by rw [Dk.rd, if_neg hd, if_pos hi]
      have hl := k.look_length hk hi
      rw [e]
      refine (f109_good b k hk r hro i hd' (by omega) (by omega) w hA).mono ?_
      rintro en w2 ⟨y, hy, he, hs⟩
      refine ⟨y, ⟨fun h => ?_, by show (k.look i).length ≤ y.2; omega⟩, by rw [he]; simp only [hl], ?_⟩
      · rw [h] at hy; cases hy.1
      · simp only [hl]; simpa using hs
    · have e : k.rd i = (170, []) := by rw [Dk.rd, if_neg hd, if_neg hi]
      rw [e]
      refine (f109_bad b k hk r hro i hd' (by omega) w hA).mono ?_
      rintro en w2 ⟨_, _, he, hs⟩
      exact ⟨(none, 0), ⟨fun _ => rfl, Nat.le_refl _⟩, he, new0_vec hs ⟨rfl, .inl ⟨rfl, rfl⟩⟩⟩


theorem f108_spec {σ : Type} (lp bd b : Nat) (k : Dk) (hk : k.ok) (r : Rp) (hro : r.ok k) (J : Nat → σ → Prop) (LP : σ → Res) (LL : σ → List Res) (go : Nat → Bool) (s0 : σ) (hJ : J 0 s0) (w : World) (hA : Sat w (fps (LP s0 :: blk bd 48 [.pointer (some ⟨b, 0, none⟩)] :: dkB b k r :: dkS k r :: dkW k r :: dkC k r :: LL s0)) (LP s0 :: blk bd 48 [.pointer (some ⟨b, 0, none⟩)] :: dkB b k r :: dkS k r :: dkW k r :: dkC k r :: LL s0) w)
    (hY : ∀ i s y, i < 2 → (1 ≤ i → go 0 = true) → J i s → ((y.1 = none → y.2 = 0) ∧ (k.rd i).2.length ≤ y.2) → ∀ w', Sat w (fps (LP s0 :: blk bd 48 [.pointer (some ⟨b, 0, none⟩)] :: dkB b k r :: dkS k r :: dkW k r :: dkC k r :: LL s0)) (LP s :: vec (slv (k.rd i).2.length y) 5 1 (k.rd i).2.length ((k.rd i).2.map B8) :: blk bd 48 [.pointer (some ⟨b, 0, none⟩)] :: dkB b k r :: dkS k r :: dkW k r :: dkC k r :: LL s) w' → Sat w' (fps (LP s :: vec (slv (k.rd i).2.length y) 5 1 (k.rd i).2.length ((k.rd i).2.map B8) :: blk bd 48 [.pointer (some ⟨b, 0, none⟩)] :: dkB b k r :: dkS k r :: dkW k r :: dkC k r :: LL s)) (LP s :: vec (slv (k.rd i).2.length y) 5 1 (k.rd i).2.length ((k.rd i).2.map B8) :: blk bd 48 [.pointer (some ⟨b, 0, none⟩)] :: dkB b k r :: dkS k r :: dkW k r :: dkC k r :: LL s) w' → YieldCall Tryd.prog lp [slv (k.rd i).2.length y, I64 (k.rd i).1] w' (fun b2 w2 => ∃ s2, (b2 = go i ∧ J (i + 1) s2) ∧ Sat w' (fps (LP s :: vec (slv (k.rd i).2.length y) 5 1 (k.rd i).2.length ((k.rd i).2.map B8) :: blk bd 48 [.pointer (some ⟨b, 0, none⟩)] :: dkB b k r :: dkS k r :: dkW k r :: dkC k r :: LL s)) (LP s2 :: blk bd 48 [.pointer (some ⟨b, 0, none⟩)] :: dkB b k r :: dkS k r :: dkW k r :: dkC k r :: LL s2) w2)) :
    Calls Tryd.prog 108 [.func (.yield lp) #[] #[], .pointer (some ⟨bd, 0, none⟩)].toArray w (fun en w2 => en = .returned (.tuple #[]) ∧ ∃ s2, J (if go 0 = true then 2 else 1) s2 ∧ Sat w (fps (LP s0 :: blk bd 48 [.pointer (some ⟨b, 0, none⟩)] :: dkB b k r :: dkS k r :: dkW k r :: dkC k r :: LL s0)) (LP s2 :: blk bd 48 [.pointer (some ⟨b, 0, none⟩)] :: dkB b k r :: dkS k r :: dkW k r :: dkC k r :: LL s2) w2) := by
  refine enter (n := 16) Tryd.func108 rfl rfl rfl hA ?_
  refine seq ?_
  refine region ?_
  refine st (g_move rfl) rfl ?_
  refine done ?_
  refine th_n ?_
  refine block ?_
  refine loop (α := Nat × σ) (fun x => x.1 ≤ 2 ∧ J x.1 x.2 ∧ (1 ≤ x.1 → go 0 = true)) (fun x => [(0, .func (.yield lp) #[] #[]), (1, .pointer (some ⟨bd, 0, none⟩)), (4, I64 (x.1 : Nat))]) (fun x => LP x.2 :: blk bd 48 [.pointer (some ⟨b, 0, none⟩)] :: dkB b k r :: dkS k r :: dkW k r :: dkC k r :: LL x.2) (fun x => 2 - x.1) (0, s0) ⟨Nat.zero_le _, hJ, fun h => absurd h (by simp)⟩ ⟨rfl, rfl, rfl, trivial⟩ (Split.all _) (fun x hI => ?_)
  refine seq ?_
  refine region ?_
  refine st (g_bin rfl rfl rfl) rfl ?_
  refine done ?_
  refine th_n ?_
  refine seq ?_
  refine condS rfl (fun h5 => ?_) (fun h5 => ?_)
  · try simp only [decide_eq_true_eq] at h5
    refine skip ?_
    refine th_n ?_
    refine seq ?_
    refine block ?_
    refine seq ?_
    refine region ?_
    refine st (g_move rfl) rfl ?_
    refine st (g_assign rfl) rfl ?_
    refine done ?_
    refine th_n ?_
    refine seq ?_
    refine region ?_
    refine st (g_move rfl) rfl ?_
    refine st (g_load sc_48 rfl (Cell.own (.there (.here)) rfl)) rfl ?_
    refine st (g_move rfl) rfl ?_
    refine sq rfl (o_call Tryd.func109 rfl rfl rfl (.cons (.there (.there (.here))) (.cons (.there (.there (.here))) (.cons (.there (.there (.here))) (.cons (.there (.there (.here))) .nil)))) (fun w hw hA => f109_rd b k hk r hro x.1 w (by assumption)) rfl (fun y hy => ?_))
    refine st (g_extract rfl rfl) rfl ?_
    refine st (g_extract rfl rfl) rfl ?_
    refine sq rfl (o_yield (vs := [slv (k.rd x.1).2.length y, I64 (k.rd x.1).1]) (β := σ) (I := fun s2 b2 => b2 = go x.1 ∧ J (x.1 + 1) s2) (A' := fun s2 => (LP s2 :: blk bd 48 [.pointer (some ⟨b, 0, none⟩)] :: dkB b k r :: dkS k r :: dkW k r :: dkC k r :: LL s2)) rfl rfl (.cons (.there (.there (.there (.there (.there .here))))) (.cons .here (.cons (.there (.there (.there (.there .here)))) (.cons .here (.cons .here (.cons .here (.cons .here (Split.all _)))))))) (fun w' hw' hA' => hY x.1 x.2 y (by omega) hI.2.2 hI.2.1 hy w' (Sat.left (hw'.split (A := (LP x.2 :: vec (slv (k.rd x.1).2.length y) 5 1 (k.rd x.1).2.length ((k.rd x.1).2.map B8) :: blk bd 48 [.pointer (some ⟨b, 0, none⟩)] :: dkB b k r :: dkS k r :: dkW k r :: dkC k r :: LL x.2)) (.cons (.there (.there (.there (.there (.there .here))))) (.cons .here (.cons (.there (.there (.there (.there .here)))) (.cons .here (.cons .here (.cons .here (.cons .here (Split.all _)))))))))) hA') rfl (fun s2 b2 hs2 => ?_))
    refine At.up (fun w hw => Sat.left hw) ?_
    refine st (g_not rfl) rfl ?_
    refine done ?_
    refine th_n ?_
    refine condS rfl (fun h14 => ?_) (fun h14 => ?_)
    · try simp only [decide_eq_true_eq, decide_eq_false_iff_not] at h14
      have hJ2 : J (if go 0 = true then 2 else 1) s2 := by
        by_cases h0 : x.1 = 0
        · have e := hs2.1
          rw [h0] at e
          have h2 := hs2.2
          rw [h0] at h2
          rw [if_neg (by rw [← e]; simpa using h14)]
          exact h2
        · rw [if_pos (hI.2.2 (by omega))]
          have h2 := hs2.2
          rwa [show x.1 = 1 by omega] at h2
      refine ret ?_
      refine ib_r ?_
      refine th_r ?_
      refine th_r ?_
      refine ib_r ?_
      exact ret0 rfl rfl (fun w2 hw2 => ⟨rfl, _, hJ2, hw2⟩)
    · try simp only [decide_eq_true_eq, decide_eq_false_iff_not] at h14
      have hg0 : go 0 = true := by
        by_cases h0 : x.1 = 0
        · have e := hs2.1
          rw [h0] at e
          rw [← e]
          simpa using h14
        · exact hI.2.2 (by omega)
      refine skip ?_
      refine ib_n ?_
      refine th_n ?_
      refine region ?_
      refine st (g_iadd rfl rfl rfl (by omega) (by omega)) rfl ?_
      refine st (g_move rfl) rfl ?_
      refine done ?_
      refine th_n ?_
      exact again (x.1 + 1, s2) ⟨by show x.1 + 1 ≤ 2; omega, hs2.2, fun _ => hg0⟩ (by show 2 - (x.1 + 1) < 2 - x.1; omega) ⟨rfl, rfl, rfl, trivial⟩ (Split.all _)
  · try simp only [decide_eq_false_iff_not] at h5
    have hx2 : x.1 = 2 := by omega
    have hJ2 : J (if go 0 = true then 2 else 1) x.2 := by
      rw [if_pos (hI.2.2 (by omega))]
      have h2 := hI.2.1
      rwa [hx2] at h2
    refine exitc ?_
    refine th_x ?_
    refine th_x ?_
    refine ib_x ?_
    exact ret0n rfl rfl (fun w2 hw2 => ⟨rfl, _, hJ2, hw2⟩)
end Go.Proofs.YtokhediaibdkjaaDoor

/-! From S4 -/
/- What slot.Load finds. (printed by gen1.py) -/
namespace Go.Proofs.YtokhediaibdkjaaDoor
open Go.Pm Go.RowKit
set_option maxRecDepth 100000
/-- What Load has found. -/
structure Ld where
  n : BitVec 64
  d : List UInt8
  nx : Int
  w : Int
  a : Int
def Ld.z : Ld := ⟨0#64, [], 0, 0, -1⟩
def Dk.ldStep (k : Dk) (i : Nat) (s : Ld) : Ld :=
  if (k.rd i).1 = 0 then
    match decW (k.rd i).2 with
    | none => { s with w := 0, a := i }
    | some (m, d) => if m ≤ s.n then { s with w := 0, a := i } else ⟨m, d, 1 - i, 0, i⟩
  else { s with w := (k.rd i).1 }
def Dk.lds (k : Dk) (i : Nat) : Ld := iter k.ldStep i Ld.z
def Dk.go (k : Dk) (i : Nat) : Bool := decide ((k.rd i).1 = 0)
def Dk.ld (k : Dk) : Ld := k.lds (if k.go 0 = true then 2 else 1)
def Dk.load (k : Dk) : Ld := if k.ld.w = 0 then k.ld else { Ld.z with w := k.ld.w }
theorem ldStep_w (k : Dk) (i : Nat) (s : Ld) : (k.ldStep i s).w = (k.rd i).1 := by
  unfold Dk.ldStep
  split
  · rename_i h
    rw [h]
    split
    · rfl
    · split <;> rfl
  · rfl
theorem lds_w0 (k : Dk) {i : Nat} (hi : i < 2) (h : 1 ≤ i → k.go 0 = true) : (k.lds i).w = 0 := by
  match i, hi with
  | 0, _ => rfl
  | 1, _ =>
    show (k.ldStep 0 Ld.z).w = 0
    rw [ldStep_w]
    simpa [Dk.go] using h (by decide)
theorem rd_len (k : Dk) (hk : k.ok) (i : Nat) : (k.rd i).2.length ≤ 64 := by
  unfold Dk.rd; split
  · simp
  · split
    · rename_i h; show (k.look i).length ≤ 64; rw [k.look_length hk h]; decide
    · simp
theorem decW_len {l d : List UInt8} {m : BitVec 64} (h : decW l = some (m, d)) : d.length = 24 := by
  unfold decW at h
  split at h
  · rename_i hc; cases h; exact d24_length hc.1
  · cases h
/-- The slice of what was found. -/
def ldOk (s : Ld) (y : Option Addr × Nat) : Prop := (y.1 = none → y.2 = 0) ∧ s.d.length ≤ y.2
def ldv (s : Ld) (y : Option Addr × Nat) : List Value := [U64 s.n, slv s.d.length y]
def ldR (s : Ld) (y : Option Addr × Nat) : Res := vec (slv s.d.length y) 5 1 s.d.length (s.d.map B8)
theorem lds_a (k : Dk) {i : Nat} (hi : i < 2) (h : 1 ≤ i → k.go 0 = true) : (k.lds i).a = (i : Int) - 1 := by
  match i, hi with
  | 0, _ => rfl
  | 1, _ =>
    have h0 : (k.rd 0).1 = 0 := by simpa [Dk.go] using h (by decide)
    show (k.ldStep 0 Ld.z).a = 0
    unfold Dk.ldStep
    rw [if_pos h0]
    split
    · rfl
    · split <;> rfl
/-- What Decode answers. -/
def decR (l : List UInt8) : BitVec 64 × List UInt8 × Int :=
  match decW l with
  | none => (0#64, [], 180)
  | some (m, d) => (m, d, 0)
theorem f47_all (p : Option Addr) (n c : Nat) (l : List UInt8) (hl : l.length = n) (hp : p = none → c = 0) (hnc : n ≤ c) (hn : n ≤ 1000000000) (w : World) (hr : RdC w p (l.map B8)) (hG : Gl w []) :
    Calls Tryd.prog 47 [.slice p n c].toArray w (fun en w2 => ∃ y : Option Addr × Nat, ((y.1 = none → y.2 = 0) ∧ (decR l).2.1.length ≤ y.2) ∧ en = .returned (.tuple #[.agg [U64 (decR l).1, slv (decR l).2.1.length y].toArray, I64 (decR l).2.2]) ∧ Sat w (fps []) [vec (slv (decR l).2.1.length y) 5 1 (decR l).2.1.length ((decR l).2.1.map B8)] w2) := by
  cases h : decW l with
  | none =>
    have e : decR l = (0#64, [], 180) := by rw [decR, h]
    rw [e]
    refine (f47_none p n c l hl hp hnc hn w hr hG h).mono ?_
    rintro en w2 ⟨he, hs⟩
    exact ⟨(none, 0), ⟨fun _ => rfl, Nat.le_refl _⟩, he, new0_vec hs ⟨rfl, .inl ⟨rfl, rfl⟩⟩⟩
  | some x =>
    obtain ⟨m, d⟩ := x
    have e : decR l = (m, d, 0) := by rw [decR, h]
    have hd := decW_len h
    rw [e]
    refine (f47_some p n c l hl hp hnc hn w hr hG m d h).mono ?_
    rintro en w2 ⟨y, hy, he, hs⟩
    exact ⟨y, ⟨hy.1, by show d.length ≤ y.2; rw [hd]; exact hy.2⟩, by rw [he]; simp only [hd], by simpa only [hd] using hs⟩
theorem ldStep_bad {k : Dk} {i : Nat} {s : Ld} (h0 : (k.rd i).1 = 0) (h : ¬ (decR (k.rd i).2).2.2 = 0) : k.ldStep i s = { s with w := 0, a := i } := by
  unfold Dk.ldStep
  rw [if_pos h0]
  unfold decR at h
  cases hd : decW (k.rd i).2 with
  | none => rfl
  | some x => rw [hd] at h; exact absurd rfl h
theorem ldStep_low {k : Dk} {i : Nat} {s : Ld} (h0 : (k.rd i).1 = 0) (_h : (decR (k.rd i).2).2.2 = 0) (hm : (decR (k.rd i).2).1 ≤ s.n) : k.ldStep i s = { s with w := 0, a := i } := by
  unfold Dk.ldStep
  rw [if_pos h0]
  unfold decR at hm
  cases hd : decW (k.rd i).2 with
  | none => rfl
  | some x => rw [hd] at hm; exact if_pos hm
theorem ldStep_new {k : Dk} {i : Nat} {s : Ld} (h0 : (k.rd i).1 = 0) (h : (decR (k.rd i).2).2.2 = 0) (hm : ¬ (decR (k.rd i).2).1 ≤ s.n) : k.ldStep i s = ⟨(decR (k.rd i).2).1, (decR (k.rd i).2).2.1, 1 - i, 0, i⟩ := by
  unfold Dk.ldStep
  rw [if_pos h0]
  unfold decR at h hm ⊢
  cases hd : decW (k.rd i).2 with
  | none => rw [hd] at h; exact absurd h (by decide)
  | some x => rw [hd] at hm; exact if_neg hm


theorem f87_spec (a : Option Addr) (w : World) : Calls Tryd.prog 87 [.pointer a].toArray w (fun en w2 => ∃ y : Nat, True ∧ en = .returned (.func (.func 108) #[] [.pointer (some ⟨y, 0, none⟩)].toArray) ∧ Sat w (fps []) [blk y 48 [.pointer a]] w2) := by
  refine enter (n := 4) Tryd.func87 rfl rfl rfl (Sat.refl w) ?_
  refine seq ?_
  refine region ?_
  refine sq rfl (o_box (cs := [.pointer a]) rfl rfl rfl (fun b1 => ?_))
  refine st (g_assign rfl) rfl ?_
  refine done ?_
  refine th_n ?_
  refine seq ?_
  refine region ?_
  refine st (g_makeFunc rfl rfl) rfl ?_
  refine st (g_assign rfl) rfl ?_
  refine done ?_
  refine th_n ?_
  refine ret ?_
  exact ret1 rfl rfl rfl (fun w2 hw2 => ⟨b1, trivial, rfl, hw2⟩)
end Go.Proofs.YtokhediaibdkjaaDoor

/-! From S5 -/
/- The walk of slot.Load. (printed by gen1.py) -/
namespace Go.Proofs.YtokhediaibdkjaaDoor
open Go.Pm Go.RowKit
set_option maxRecDepth 100000
theorem f52_spec (b : Nat) (k : Dk) (hk : k.ok) (r : Rp) (hro : r.ok k) (w : World) (hA : Sat w (fps (dkR b k r)) (dkR b k r) w) (hG : Gl w (fps (dkR b k r))) :
    Calls Tryd.prog 52 [.pointer (some ⟨b, 0, none⟩)].toArray w (fun en w2 => ∃ y : Option Addr × Nat, ldOk k.load y ∧ en = .returned (.tuple #[.agg (ldv k.load y).toArray, I64 k.load.nx, I64 k.load.w]) ∧ Sat w (fps (dkR b k r)) (ldR k.load y :: dkR b k r) w2) := by
  refine enterM (n := 45) Tryd.func52 rfl rfl rfl hA ?_
  refine seq ?_
  refine region ?_
  refine sq rfl (o_alloc (zs := [U64 0#64, .slice none 0 0]) zr_73 rfl (fun b2 => ?_))
  refine st (g_assign rfl) rfl ?_
  refine st (g_assign rfl) rfl ?_
  refine done ?_
  refine th_n ?_
  refine scope ?_
  refine seq ?_
  refine region ?_
  refine sq rfl (o_alloc (zs := [U64 0#64, .slice none 0 0]) zr_73 rfl (fun b5 => ?_))
  refine done ?_
  refine th_n ?_
  refine seq ?_
  refine region ?_
  refine sq rfl (o_alloc zr_24 rfl (fun b6 => ?_))
  refine sq rfl (o_alloc zr_3 rfl (fun b7 => ?_))
  refine sq rfl (o_alloc zr_3 rfl (fun b8 => ?_))
  refine sq rfl (o_store sz_24 rfl rfl rfl (.there (.there (.here))) (Nat.le_of_ble_eq_true rfl) rfl ?_)
  refine sq rfl (o_store sz_3 rfl rfl rfl (.there (.there (.here))) (Nat.le_of_ble_eq_true rfl) rfl ?_)
  refine sq rfl (o_store sz_3 rfl rfl rfl (.there (.there (.here))) (Nat.le_of_ble_eq_true rfl) rfl ?_)
  refine done ?_
  refine th_n ?_
  refine seq ?_
  refine label ?_
  refine th_n ?_
  refine seq ?_
  refine seq ?_
  refine region ?_
  refine st (g_move rfl) rfl ?_
  refine sq rfl (o_call Tryd.func87 rfl rfl rfl .nil (fun w hw hA => f87_spec _ w) rfl (fun bd _ => ?_))
  refine done ?_
  refine th_n ?_
  refine block ?_
  skip
  refine At.up (fun w hw => new0_vec (T := 5) (s := 1) hw ⟨rfl, .inl ⟨rfl, rfl⟩⟩) ?_
  refine At.weaken (e' := [(2, .pointer (some ⟨b2, 0, none⟩)), (3, I64 0), (4, I64 0), (5, .pointer (some ⟨b5, 0, none⟩)), (6, .pointer (some ⟨b6, 0, none⟩)), (7, .pointer (some ⟨b7, 0, none⟩)), (8, .pointer (some ⟨b8, 0, none⟩)), (14, .func (.func 108) #[] [.pointer (some ⟨bd, 0, none⟩)].toArray)]) (Rs' := [blk bd 48 [.pointer (some ⟨b, 0, none⟩)], dkB b k r, dkS k r, dkW k r, dkC k r, blk b5 73 (ldv (k.lds 0) (none, 0)), blk b6 24 [I64 (k.lds 0).w], blk b7 3 [I64 (k.lds 0).nx], blk b8 3 [I64 (k.lds 0).a], ldR (k.lds 0) (none, 0), blk b2 73 [U64 0#64, .slice none 0 0]]) ?_ ⟨rfl, rfl, rfl, rfl, rfl, rfl, rfl, rfl, trivial⟩ (.cons (.there (.here)) (.cons (.there (.there (.there (.there (.there (.there (.here))))))) (.cons (.there (.there (.there (.there (.there (.there (.here))))))) (.cons (.there (.there (.there (.there (.there (.there (.here))))))) (.cons (.there (.there (.there (.there (.there (.there (.here))))))) (.cons (.there (.there (.there (.there (.here))))) (.cons (.there (.there (.there (.here)))) (.cons (.there (.there (.here))) (.cons (.there (.here)) (.cons .here (.cons .here .nil)))))))))))
  refine rangeF (β := Option Addr × Nat) (I := fun y => ldOk k.ld y) (stt := fun _ => if k.ld.w = 0 then .ready else .done) (pend := fun _ => if k.ld.w = 0 then none else some (.exit 0)) (RR := fun y => [blk bd 48 [.pointer (some ⟨b, 0, none⟩)], dkB b k r, dkS k r, dkW k r, dkC k r, blk b5 73 (ldv k.ld y), blk b6 24 [I64 k.ld.w], blk b7 3 [I64 k.ld.nx], blk b8 3 [I64 k.ld.a], ldR k.ld y, blk b2 73 [U64 0#64, .slice none 0 0]]) rfl Tryd.func108 rfl rfl ?_ (fun _ _ => by split <;> nofun) ?_ ?_
  · intro a fn D lp w1 hOk hS
    have hG1 := Gl.ofOld (A := [objR lp _, blk bd 48 [.pointer (some ⟨b, 0, none⟩)], dkB b k r, dkS k r, dkW k r, dkC k r, blk b5 73 (ldv (k.lds 0) ((none, 0) : Option Addr × Nat)), blk b6 24 [I64 (k.lds 0).w], blk b7 3 [I64 (k.lds 0).nx], blk b8 3 [I64 (k.lds 0).a], ldR (k.lds 0) ((none, 0) : Option Addr × Nat), blk b2 73 [U64 0#64, .slice none 0 0], objR D (.deferred (some []))]) hG hS (.cons .here (.cons (.there (.here)) (.cons (.there (.here)) (.cons (.there (.here)) (.cons (.there (.here)) (.cons (.there (.here)) (.cons (.there (.here)) (.cons (.there (.here)) (.cons (.there (.here)) (.cons (.there (.here)) (.cons (.there (.here)) (.cons (.there (.here)) (.cons .here .nil)))))))))))))
    have hS1 := hS.split (A := [objR lp _, blk bd 48 [.pointer (some ⟨b, 0, none⟩)], dkB b k r, dkS k r, dkW k r, dkC k r, blk b5 73 (ldv (k.lds 0) ((none, 0) : Option Addr × Nat)), blk b6 24 [I64 (k.lds 0).w], blk b7 3 [I64 (k.lds 0).nx], blk b8 3 [I64 (k.lds 0).a], ldR (k.lds 0) ((none, 0) : Option Addr × Nat), blk b2 73 [U64 0#64, .slice none 0 0], objR D (.deferred (some []))]) (.cons .here (.cons (.there (.here)) (.cons (.there (.here)) (.cons (.there (.here)) (.cons (.there (.here)) (.cons (.there (.here)) (.cons (.there (.here)) (.cons (.there (.here)) (.cons (.there (.here)) (.cons (.there (.here)) (.cons (.there (.here)) (.cons (.there (.here)) (.cons .here .nil)))))))))))))
    refine (f108_spec (σ := Nat × (Option Addr × Nat)) lp bd b k hk r hro (fun i s => s.1 = i ∧ ldOk (k.lds i) s.2) (fun s => objR lp (.loop ⟨if (k.lds s.1).w = 0 then .ready else .done, if (k.lds s.1).w = 0 then none else some (.exit 0), fn, a.tmps, _, _, _, D⟩)) (fun s => [blk b5 73 (ldv (k.lds s.1) s.2), blk b6 24 [I64 (k.lds s.1).w], blk b7 3 [I64 (k.lds s.1).nx], blk b8 3 [I64 (k.lds s.1).a], ldR (k.lds s.1) s.2, blk b2 73 [U64 0#64, .slice none 0 0], objR D (.deferred (some []))]) k.go (0, (none, 0)) ⟨rfl, fun _ => rfl, Nat.le_refl _⟩ w1 hS1.hand ?_).mono ?_
    · rintro i ⟨i', ys⟩ y hi hg ⟨hii, hys⟩ hy w3 h3 hA3
      simp only at hii
      subst hii
      have hw0 := lds_w0 k hi hg
      have hlen := rd_len k hk i'
      simp only [if_pos hw0] at h3 hA3 ⊢
      have HG := Gl.ofOld hG1 h3 (Split.all _)
      refine yield_walk (n := 45) (ds := []) (e := [(2, .pointer (some ⟨b2, 0, none⟩)), (3, I64 0), (4, I64 0), (5, .pointer (some ⟨b5, 0, none⟩)), (6, .pointer (some ⟨b6, 0, none⟩)), (7, .pointer (some ⟨b7, 0, none⟩)), (8, .pointer (some ⟨b8, 0, none⟩)), (14, .func (.func 108) #[] [.pointer (some ⟨bd, 0, none⟩)].toArray)]) hA3 ⟨hOk.size, rfl, hOk.get⟩ rfl (by decide) ?_
      refine seq ?_
      refine region ?_
      refine st (g_assign rfl) rfl ?_
      refine done ?_
      refine th_n ?_
      refine region ?_
      refine st (g_assign rfl) rfl ?_
      refine done ?_
      refine th_n ?_
      refine begin_round .here rfl ?_
      refine block ?_
      refine seq ?_
      refine seq ?_
      refine region ?_
      refine st (g_move rfl) rfl ?_
      refine sq rfl (o_store (cs' := [I64 (k.rd i').1]) sz_24 rfl rfl rfl (.there (.there (.there (.there (.there (.there (.there (.there (.here))))))))) (Nat.le_of_ble_eq_true rfl) rfl ?_)
      refine done ?_
      refine th_n ?_
      refine seq ?_
      refine region ?_
      refine st (g_move rfl) rfl ?_
      refine st (g_bin rfl rfl rfl) rfl ?_
      refine done ?_
      refine th_n ?_
      refine condS rfl (fun h19 => ?_) (fun h19 => ?_)
      · try simp only [decide_eq_true_eq] at h19
        have hne : ¬ (k.rd i').1 = 0 := by simpa using h19
        have hgo : false = k.go i' := (decide_eq_false hne).symm
        have hstep : k.lds (i' + 1) = { k.lds i' with w := (k.rd i').1 } := by show k.ldStep i' (k.lds i') = _; rw [Dk.ldStep, if_neg hne]
        have hok : ldOk (k.lds (i' + 1)) ys := by rw [hstep]; exact hys
        refine exitc ?_
        refine th_x ?_
        refine ib_y rfl ?_
        exact round_exit (.there (.here)) (fun w4 h4 => ⟨(i' + 1, ys), ⟨hgo, rfl, hok⟩, by
          simp only [hstep, if_neg hne]
          exact Sat.left (h4.split (.cons .here (.cons (.there (.there (.here))) (.cons (.there (.there (.here))) (.cons (.there (.there (.here))) (.cons (.there (.there (.here))) (.cons (.there (.there (.here))) (.cons (.there (.there (.here))) (.cons .here (.cons (.there (.here)) (.cons (.there (.here)) (.cons (.there (.here)) (.cons (.there (.here)) (.cons (.there (.here)) .nil))))))))))))))⟩)
      · try simp only [decide_eq_false_iff_not] at h19
        have h0 : (k.rd i').1 = 0 := by simpa using h19
        have hgo : true = k.go i' := (decide_eq_true h0).symm
        have hla := lds_a k hi hg
        refine skip ?_
        refine th_n ?_
        refine seq ?_
        refine region ?_
        refine st (g_load sc_3 rfl (Cell.own (.there (.there (.there (.there (.there (.there (.there (.there (.there (.there (.here))))))))))) rfl)) rfl ?_
        refine st (g_iadd (c := (i' : Nat)) rfl rfl (by omega) (by omega) (by omega)) rfl ?_
        refine sq rfl (o_store (cs' := [I64 (i' : Nat)]) sz_3 rfl rfl rfl (.there (.there (.there (.there (.there (.there (.there (.there (.there (.there (.here))))))))))) (Nat.le_of_ble_eq_true rfl) rfl ?_)
        refine done ?_
        refine th_n ?_
        refine seq ?_
        refine region ?_
        refine st (g_move rfl) rfl ?_
        refine sq rfl (o_call Tryd.func47 rfl rfl rfl .nil (fun w hw hA => f47_all y.1 _ y.2 (k.rd i').2 rfl hy.1 hy.2 (by omega) w (RdC.ofVec (hw.get (.there (.there (.there (.here)))))) (Gl.ofOld (A := []) HG hw .nil)) rfl (fun x hx => ?_))
        refine st (g_move rfl) rfl ?_
        refine st (g_extract rfl rfl) rfl ?_
        refine st (g_extract rfl rfl) rfl ?_
        refine sq rfl (o_alloc (zs := [U64 0#64, .slice none 0 0]) zr_73 rfl (fun b11 => ?_))
        refine sq rfl (o_storeA (cs' := [U64 (decR (k.rd i').2).1, slv (decR (k.rd i').2).2.1.length x]) sz_73 rfl rfl rfl (by simp [Value.oneCell']) .here (Nat.le_of_ble_eq_true rfl) rfl ?_)
        refine st (g_assign rfl) rfl ?_
        refine done ?_
        refine th_n ?_
        refine seq ?_
        refine seq ?_
        refine region ?_
        refine st (g_move rfl) rfl ?_
        refine sp (g_bin rfl rfl rfl) rfl (fun h28 => ?_) (fun h28 => ?_)
        · have hd0 : ¬ (decR (k.rd i').2).2.2 = 0 := by simpa using h28
          have hstep : k.lds (i' + 1) = { k.lds i' with w := 0, a := (i' : Int) } := ldStep_bad h0 hd0
          have hok : ldOk (k.lds (i' + 1)) ys := by rw [hstep]; exact hys
          refine st (g_move rfl) rfl ?_
          refine gf rfl rfl ?_
          refine gf rfl rfl ?_
          refine gf rfl rfl ?_
          refine gf rfl rfl ?_
          refine gf rfl rfl ?_
          refine st (g_pickT rfl rfl) rfl ?_
          refine done ?_
          refine th_n ?_
          refine condT rfl ?_
          refine exitc ?_
          refine th_x ?_
          refine ib_x ?_
          exact round_on (.there (.there (.there (.there (.here))))) (fun w4 h4 => ⟨(i' + 1, ys), ⟨hgo, rfl, hok⟩, by
            rw [h0] at h4
            simp only [hstep, ↓reduceIte]
            exact Sat.left (h4.split (.cons .here (.cons (.there (.there (.there (.there (.there (.here)))))) (.cons (.there (.there (.there (.there (.there (.here)))))) (.cons (.there (.there (.there (.there (.there (.here)))))) (.cons (.there (.there (.there (.there (.there (.here)))))) (.cons (.there (.there (.there (.there (.there (.here)))))) (.cons (.there (.there (.there (.there (.there (.here)))))) (.cons (.there (.there (.there (.here)))) (.cons (.there (.there (.there (.there (.here))))) (.cons (.there (.there (.here))) (.cons (.there (.there (.there (.here)))) (.cons (.there (.there (.there (.here)))) (.cons (.there (.there (.there (.here)))) .nil))))))))))))))⟩)
        · have hd0 : (decR (k.rd i').2).2.2 = 0 := by simpa using h28
          refine st (g_move rfl) rfl ?_
          refine gt rfl ?_
          refine st (g_fieldAddr fo_73_0 rfl rfl) rfl ?_
          refine gt rfl ?_
          refine st (g_load sc_34 rfl (Cell.own .here rfl)) rfl ?_
          refine gt rfl ?_
          refine st (g_fieldAddr fo_73_0 rfl rfl) rfl ?_
          refine gt rfl ?_
          refine st (g_load sc_34 rfl (Cell.own (.there (.there (.there (.there (.there (.there (.there (.there (.there (.there (.there (.here)))))))))))) rfl)) rfl ?_
          refine gt rfl ?_
          refine st (g_bin rfl rfl rfl) rfl ?_
          refine st (g_pickF rfl rfl) rfl ?_
          refine done ?_
          refine th_n ?_
          refine condS rfl (fun h35 => ?_) (fun h35 => ?_)
          · try simp only [decide_eq_true_eq] at h35
            have hm0 : (decR (k.rd i').2).1 ≤ (k.lds i').n := BitVec.le_def.2 (by omega)
            have hstep : k.lds (i' + 1) = { k.lds i' with w := 0, a := (i' : Int) } := ldStep_low h0 hd0 hm0
            have hok : ldOk (k.lds (i' + 1)) ys := by rw [hstep]; exact hys
            refine exitc ?_
            refine th_x ?_
            refine ib_x ?_
            exact round_on (.there (.there (.there (.there (.here))))) (fun w4 h4 => ⟨(i' + 1, ys), ⟨hgo, rfl, hok⟩, by
              rw [h0] at h4
              simp only [hstep, ↓reduceIte]
              exact Sat.left (h4.split (.cons .here (.cons (.there (.there (.there (.there (.there (.here)))))) (.cons (.there (.there (.there (.there (.there (.here)))))) (.cons (.there (.there (.there (.there (.there (.here)))))) (.cons (.there (.there (.there (.there (.there (.here)))))) (.cons (.there (.there (.there (.there (.there (.here)))))) (.cons (.there (.there (.there (.there (.there (.here)))))) (.cons (.there (.there (.there (.here)))) (.cons (.there (.there (.there (.there (.here))))) (.cons (.there (.there (.here))) (.cons (.there (.there (.there (.here)))) (.cons (.there (.there (.there (.here)))) (.cons (.there (.there (.there (.here)))) .nil))))))))))))))⟩)
          · try simp only [decide_eq_false_iff_not] at h35
            have hm0 : ¬ (decR (k.rd i').2).1 ≤ (k.lds i').n := fun hh => by have := BitVec.le_def.1 hh; omega
            have hstep : k.lds (i' + 1) = ⟨(decR (k.rd i').2).1, (decR (k.rd i').2).2.1, 1 - i', 0, i'⟩ := ldStep_new h0 hd0 hm0
            have hok : ldOk (k.lds (i' + 1)) x := by rw [hstep]; exact hx
            refine skip ?_
            refine th_n ?_
            refine regionL ⟨[_, _], [], []⟩ mixed (by decide +kernel) (.cons .here (.cons (.there (.here)) .nil)) .nil ?_
            refine An'.q 0 [] rfl (by decide +kernel) rfl rfl (g_loadA (vs := [U64 (decR (k.rd i').2).1, slv (decR (k.rd i').2).2.1.length x]) ag_73 rfl rfl (Cells.part .here rfl)) rfl ?_
            refine An'.q 1 [] rfl (by decide +kernel) rfl rfl (g_load sc_3 rfl (Cell.own (.there (.here)) rfl)) rfl ?_
            refine An'.q 2 [] rfl (by decide +kernel) rfl rfl (g_isub (c := (1 - i' : Int)) rfl rfl (by omega) (by omega) (by omega)) rfl ?_
            refine An'.oneG 3 (by decide +kernel) rfl rfl ?_
            refine o_storeA (cs' := [U64 (decR (k.rd i').2).1, slv (decR (k.rd i').2).2.1.length x]) sz_73 rfl rfl rfl (by simp [Value.oneCell']) (.there (.there (.there (.there (.there (.there (.there (.there (.there (.there (.there (.here)))))))))))) (Nat.le_of_ble_eq_true rfl) rfl ?_
            refine An'.on0 (.cons (.there (.here)) (.cons (.there (.there (.here))) .nil)) .nil rfl ?_
            refine An'.oneG 4 (by decide +kernel) rfl rfl ?_
            refine o_store (cs' := [I64 (1 - i' : Int)]) sz_3 rfl rfl rfl (.there (.there (.there (.there (.there (.there (.there (.there (.there (.there (.there (.there (.here))))))))))))) (Nat.le_of_ble_eq_true rfl) rfl ?_
            refine An'.on0 (.cons (.there (.there (.here))) (.cons (.there (.there (.there (.here)))) .nil)) .nil rfl ?_
            refine An'.fin (by decide +kernel) ?_
            refine ib_n ?_
            exact round_on (.there (.there (.there (.there (.there (.there (.here))))))) (fun w4 h4 => ⟨(i' + 1, x), ⟨hgo, rfl, hok⟩, by
              rw [h0] at h4
              simp only [hstep, ↓reduceIte]
              exact Sat.left (h4.split (.cons .here (.cons (.there (.there (.there (.there (.there (.there (.there (.here)))))))) (.cons (.there (.there (.there (.there (.there (.there (.there (.here)))))))) (.cons (.there (.there (.there (.there (.there (.there (.there (.here)))))))) (.cons (.there (.there (.there (.there (.there (.there (.there (.here)))))))) (.cons (.there (.there (.there (.there (.there (.there (.there (.here)))))))) (.cons (.there (.here)) (.cons (.there (.there (.there (.there (.here))))) (.cons .here (.cons (.there (.there (.here))) (.cons (.there (.here)) (.cons (.there (.there (.there (.here)))) (.cons (.there (.there (.there (.here)))) .nil))))))))))))))⟩)
    · rintro en w2 ⟨he, ⟨i', ys⟩, ⟨hii, hys⟩, hs2⟩
      simp only at hii
      subst hii
      exact ⟨⟨_, he⟩, ys, hys, Sat.app0 ((hS1.join hs2).split (.cons .here (.cons (.there (.there (.there (.there (.there (.there (.there (.there (.there (.there (.there (.here)))))))))))) (.cons .here (.cons .here (.cons .here (.cons .here (.cons .here (.cons .here (.cons .here (.cons .here (.cons .here (.cons .here (.cons .here .nil))))))))))))))⟩
  · intro D y hy hp
    have hw : k.ld.w = 0 := by by_cases h : k.ld.w = 0; exact h; rw [if_neg h] at hp; cases hp
    refine ib_n ?_
    refine th_n ?_
    refine seq ?_
    refine seq ?_
    refine region ?_
    refine st (g_load sc_24 rfl (Cell.own (.there (.there (.there (.there (.there (.there (.there (.here)))))))) rfl)) rfl ?_
    refine st (g_F rfl rfl rfl (by simpa using hw)) rfl ?_
    refine done ?_
    refine th_n ?_
    refine condF rfl ?_
    refine skip ?_
    refine th_n ?_
    refine seq ?_
    refine regionL ⟨[_, _], [], []⟩ mixed (by decide +kernel) (.cons (.there (.there (.there (.there (.there (.there (.here))))))) (.cons (.there (.there (.there (.there (.there (.there (.there (.here)))))))) .nil)) .nil ?_
    refine An'.q 0 [] rfl (by decide +kernel) rfl rfl (g_loadA (vs := ldv k.ld y) ag_73 rfl rfl (Cells.part .here rfl)) rfl ?_
    refine An'.q 1 [] rfl (by decide +kernel) rfl rfl (g_load sc_3 rfl (Cell.own (.there (.here)) rfl)) rfl ?_
    refine An'.oneG 2 (by decide +kernel) rfl rfl ?_
    refine o_storeA (cs' := ldv k.ld y) sz_73 rfl rfl rfl (by simp [ldv]; exact ⟨rfl, rfl⟩) (.there (.there (.there (.there (.there (.there (.there (.there (.there (.there (.there (.here)))))))))))) (Nat.le_of_ble_eq_true rfl) rfl ?_
    refine An'.on0 (.cons (.there (.there (.there (.there (.there (.there (.there (.here)))))))) (.cons (.there (.there (.there (.there (.there (.there (.there (.there (.here))))))))) .nil)) .nil rfl ?_
    refine An'.q 3 [] rfl (by decide +kernel) rfl rfl (g_assign rfl) rfl ?_
    refine An'.q 4 [] rfl (by decide +kernel) rfl rfl (g_assign rfl) rfl ?_
    refine An'.fin (by decide +kernel) ?_
    refine th_n ?_
    refine ret ?_
    refine ng_r ?_
    have hL : k.load = k.ld := by rw [Dk.load, if_pos hw]
    exact retM1 (vf := fun _ _ => .tuple #[.agg (ldv k.ld y).toArray, I64 k.ld.nx, I64 0]) rfl (.there (.here)) (fun a w2 ha hw2 => ⟨resc3 ha rfl rfl rfl rfl ag_73 rfl (hw2.get .here), by rw [hL]; exact ⟨y, hy, by rw [hw], Sat.left (hw2.split (.cons (.there (.there (.there (.there (.there (.there (.there (.there (.there (.there (.here))))))))))) (.cons (.there (.there (.here))) (.cons (.there (.there (.here))) (.cons (.there (.there (.here))) (.cons (.there (.there (.here))) .nil))))))⟩⟩)
  · intro D y c hy hp
    have hw : k.ld.w ≠ 0 := fun h => by rw [if_pos h] at hp; cases hp
    rw [if_neg hw] at hp
    cases hp
    refine exitc ?_
    refine ib_x ?_
    refine th_n ?_
    refine seq ?_
    refine seq ?_
    refine region ?_
    refine st (g_load sc_24 rfl (Cell.own (.there (.there (.there (.there (.there (.there (.there (.here)))))))) rfl)) rfl ?_
    refine st (g_T rfl rfl rfl (by simpa using hw)) rfl ?_
    refine done ?_
    refine th_n ?_
    refine condT rfl ?_
    refine seq ?_
    refine regionL ⟨[_], [], []⟩ mixed (by decide +kernel) (.cons (.there (.there (.there (.there (.there (.there (.there (.here)))))))) .nil) .nil ?_
    refine An'.q 0 [] rfl (by decide +kernel) rfl rfl (g_build rfl bu_73z) rfl ?_
    refine An'.q 1 [] rfl (by decide +kernel) rfl rfl (g_load sc_24 rfl (Cell.own .here rfl)) rfl ?_
    refine An'.oneG 2 (by decide +kernel) rfl rfl ?_
    refine o_storeA (cs' := [U64 0#64, .slice none 0 0]) sz_73 rfl rfl rfl (by simp [Value.oneCell']) (.there (.there (.there (.there (.there (.there (.there (.there (.there (.there (.there (.here)))))))))))) (Nat.le_of_ble_eq_true rfl) rfl ?_
    refine An'.on0 (.cons (.there (.there (.there (.there (.there (.there (.there (.there (.here))))))))) .nil) .nil rfl ?_
    refine An'.q 3 [] rfl (by decide +kernel) rfl rfl (g_assign rfl) rfl ?_
    refine An'.q 4 [] rfl (by decide +kernel) rfl rfl (g_assign rfl) rfl ?_
    refine An'.fin (by decide +kernel) ?_
    refine th_n ?_
    refine ret ?_
    refine th_r ?_
    refine ng_r ?_
    have hL : k.load = { Ld.z with w := k.ld.w } := by rw [Dk.load, if_neg hw]
    exact retM1 (vf := fun _ _ => .tuple #[.agg [U64 0#64, .slice none 0 0].toArray, I64 0, I64 k.ld.w]) rfl (.there (.here)) (fun a w2 ha hw2 => ⟨resc3 ha rfl rfl rfl rfl ag_73 rfl (hw2.get .here), by rw [hL]; exact ⟨(none, 0), ⟨fun _ => rfl, Nat.le_refl _⟩, rfl, new0_vec (Sat.left (hw2.split (.cons (.there (.there (.here))) (.cons (.there (.there (.here))) (.cons (.there (.there (.here))) (.cons (.there (.there (.here))) .nil)))))) ⟨rfl, .inl ⟨rfl, rfl⟩⟩⟩⟩)
end Go.Proofs.YtokhediaibdkjaaDoor

/-! From S6 -/
/- The walk of slot.Save, where nothing is saved. (printed by gen1.py) -/
namespace Go.Proofs.YtokhediaibdkjaaDoor
open Go.Pm Go.RowKit
set_option maxRecDepth 100000
/-- What Save answers, and the disk behind it. -/
def Ld.err (e : Int) : Ld := { Ld.z with w := e }
def Dk.save (k : Dk) (l : List UInt8) : Ld × Dk :=
  if k.load.w ≠ 0 then (Ld.err k.load.w, k)
  else if l.length ≠ 24 ∨ k.load.n = 18446744073709551615#64 then (Ld.err 180, k)
  else
    let x := k.write k.load.nx (encW (k.load.n + 1#64) l)
    if x.1 ≠ 0 then (Ld.err x.1, x.2)
    else if x.2.flush.1 ≠ 0 then (Ld.err x.2.flush.1, x.2.flush.2)
    else (Ld.mk (k.load.n + 1#64) l 0 0 0, x.2.flush.2)
theorem max_succ {n : BitVec 64} (h : ¬ n = 18446744073709551615#64) : n + 1#64 ≠ 0#64 := fun hh => h (by
  have h1 := congrArg BitVec.toNat hh
  rw [BitVec.toNat_add] at h1
  have h2 := n.isLt
  apply BitVec.eq_of_toNat_eq
  simp at h1 ⊢
  omega)


theorem f39_a (b : Nat) (k : Dk) (hk : k.ok) (r : Rp) (hro : r.ok k) (p : Option Addr) (n c : Nat) (l : List UInt8) (_hl : l.length = n) (_hpn : p = none → n = 0 ∧ c = 0) (_hnc : n ≤ c) (w : World) (hA : Sat w (fps (dkR b k r)) (dkR b k r) w) (hG : Gl w (fps (dkR b k r))) (_hr : RdS w (fps (dkR b k r)) p (l.map B8)) (hw0 : k.load.w ≠ 0) : Calls Tryd.prog 39 [.pointer (some ⟨b, 0, none⟩), .slice p n c].toArray w (fun en w2 => ∃ x : (Option Addr × Nat) × Rp, (ldOk (Ld.err k.load.w) x.1 ∧ x.2.ok k) ∧ en = .returned (.tuple #[.agg (ldv (Ld.err k.load.w) x.1).toArray, I64 (Ld.err k.load.w).w]) ∧ Sat w (fps (dkR b k r)) (ldR (Ld.err k.load.w) x.1 :: dkR b k x.2) w2) := by
  refine enter (n := 56) Tryd.func39 rfl rfl rfl hA ?_
  refine seq ?_
  refine region ?_
  refine sq rfl (o_alloc (zs := [U64 0#64, .slice none 0 0]) zr_73 rfl (fun b4 => ?_))
  refine st (g_assign rfl) rfl ?_
  refine done ?_
  refine th_n ?_
  refine seq ?_
  refine region ?_
  refine st (g_move rfl) rfl ?_
  refine sq rfl (o_call Tryd.func52 rfl rfl rfl (.cons (.there (.here)) (.cons (.there (.here)) (.cons (.there (.here)) (.cons (.there (.here)) .nil)))) (fun w hw hA => f52_spec b k hk r hro w (by assumption) (Gl.ofOld (A := dkR b k r) hG hw (.cons (.there (.here)) (.cons (.there (.here)) (.cons (.there (.here)) (.cons (.there (.here)) .nil)))))) rfl (fun y hy => ?_))
  refine st (g_move rfl) rfl ?_
  refine st (g_extract rfl rfl) rfl ?_
  refine st (g_extract rfl rfl) rfl ?_
  refine st (g_extract rfl rfl) rfl ?_
  refine sq rfl (o_alloc (zs := [U64 0#64, .slice none 0 0]) zr_73 rfl (fun b6 => ?_))
  refine sq rfl (o_storeA (cs' := ldv k.load y) sz_73 rfl rfl rfl (by simp [ldv]; exact ⟨rfl, rfl⟩) .here (Nat.le_of_ble_eq_true rfl) rfl ?_)
  refine st (g_assign rfl) rfl ?_
  refine st (g_assign rfl) rfl ?_
  refine done ?_
  refine th_n ?_
  refine seq ?_
  refine seq ?_
  refine region ?_
  refine st (g_move rfl) rfl ?_
  refine st (g_T rfl rfl rfl (by simpa using hw0)) rfl ?_
  refine done ?_
  refine th_n ?_
  refine condT rfl ?_
  refine seq ?_
  refine region ?_
  refine st (g_build rfl bu_73z) rfl ?_
  refine st (g_move rfl) rfl ?_
  refine sq rfl (o_storeA (cs' := [U64 0#64, .slice none 0 0]) sz_73 rfl rfl rfl (by simp [Value.oneCell']) (.there (.there (.there (.there (.there (.there (.here))))))) (Nat.le_of_ble_eq_true rfl) rfl ?_)
  refine st (g_assign rfl) rfl ?_
  refine done ?_
  refine th_n ?_
  refine ret ?_
  refine th_r ?_
  exact retG rfl (fun a w2 ha hw2 => ⟨resc2 ha rfl rfl rfl ag_73 rfl (hw2.get .here), ((none, 0), r), ⟨⟨fun _ => rfl, Nat.le_refl _⟩, hro⟩, rfl, new0_vec (Sat.left (hw2.split (.cons (.there (.there (.there (.here)))) (.cons (.there (.there (.there (.here)))) (.cons (.there (.there (.there (.here)))) (.cons (.there (.there (.there (.here)))) .nil)))))) ⟨rfl, .inl ⟨rfl, rfl⟩⟩⟩)

theorem f39_b (b : Nat) (k : Dk) (hk : k.ok) (r : Rp) (hro : r.ok k) (p : Option Addr) (n c : Nat) (l : List UInt8) (_hl : l.length = n) (_hpn : p = none → n = 0 ∧ c = 0) (_hnc : n ≤ c) (w : World) (hA : Sat w (fps (dkR b k r)) (dkR b k r) w) (hG : Gl w (fps (dkR b k r))) (_hr : RdS w (fps (dkR b k r)) p (l.map B8)) (hw0 : k.load.w = 0) (h24 : n ≠ 24) : Calls Tryd.prog 39 [.pointer (some ⟨b, 0, none⟩), .slice p n c].toArray w (fun en w2 => ∃ x : (Option Addr × Nat) × Rp, (ldOk (Ld.err 180) x.1 ∧ x.2.ok k) ∧ en = .returned (.tuple #[.agg (ldv (Ld.err 180) x.1).toArray, I64 (Ld.err 180).w]) ∧ Sat w (fps (dkR b k r)) (ldR (Ld.err 180) x.1 :: dkR b k x.2) w2) := by
  refine enter (n := 56) Tryd.func39 rfl rfl rfl hA ?_
  refine seq ?_
  refine region ?_
  refine sq rfl (o_alloc (zs := [U64 0#64, .slice none 0 0]) zr_73 rfl (fun b4 => ?_))
  refine st (g_assign rfl) rfl ?_
  refine done ?_
  refine th_n ?_
  refine seq ?_
  refine region ?_
  refine st (g_move rfl) rfl ?_
  refine sq rfl (o_call Tryd.func52 rfl rfl rfl (.cons (.there (.here)) (.cons (.there (.here)) (.cons (.there (.here)) (.cons (.there (.here)) .nil)))) (fun w hw hA => f52_spec b k hk r hro w (by assumption) (Gl.ofOld (A := dkR b k r) hG hw (.cons (.there (.here)) (.cons (.there (.here)) (.cons (.there (.here)) (.cons (.there (.here)) .nil)))))) rfl (fun y hy => ?_))
  refine st (g_move rfl) rfl ?_
  refine st (g_extract rfl rfl) rfl ?_
  refine st (g_extract rfl rfl) rfl ?_
  refine st (g_extract rfl rfl) rfl ?_
  refine sq rfl (o_alloc (zs := [U64 0#64, .slice none 0 0]) zr_73 rfl (fun b6 => ?_))
  refine sq rfl (o_storeA (cs' := ldv k.load y) sz_73 rfl rfl rfl (by simp [ldv]; exact ⟨rfl, rfl⟩) .here (Nat.le_of_ble_eq_true rfl) rfl ?_)
  refine st (g_assign rfl) rfl ?_
  refine st (g_assign rfl) rfl ?_
  refine done ?_
  refine th_n ?_
  refine seq ?_
  refine seq ?_
  refine region ?_
  refine st (g_move rfl) rfl ?_
  refine st (g_F rfl rfl rfl (by simpa using hw0)) rfl ?_
  refine done ?_
  refine th_n ?_
  refine condF rfl ?_
  refine skip ?_
  refine th_n ?_
  refine seq ?_
  refine seq ?_
  refine region ?_
  refine st (g_move rfl) rfl ?_
  refine st (g_len el_23 rfl) rfl ?_
  refine st (g_T rfl rfl rfl (by omega)) rfl ?_
  refine st (g_move rfl) rfl ?_
  refine gf rfl rfl ?_
  refine gf rfl rfl ?_
  refine gf rfl rfl ?_
  refine st (g_pickT rfl rfl) rfl ?_
  refine done ?_
  refine th_n ?_
  refine condT rfl ?_
  refine seq ?_
  refine region ?_
  refine st (g_build rfl bu_73z) rfl ?_
  refine sq rfl (o_storeA (cs' := [U64 0#64, .slice none 0 0]) sz_73 rfl rfl rfl (by simp [Value.oneCell']) (.there (.there (.there (.there (.there (.there (.here))))))) (Nat.le_of_ble_eq_true rfl) rfl ?_)
  refine st (g_assign rfl) rfl ?_
  refine done ?_
  refine th_n ?_
  refine ret ?_
  refine th_r ?_
  exact retG rfl (fun a w2 ha hw2 => ⟨resc2 ha rfl rfl rfl ag_73 rfl (hw2.get .here), ((none, 0), r), ⟨⟨fun _ => rfl, Nat.le_refl _⟩, hro⟩, rfl, new0_vec (Sat.left (hw2.split (.cons (.there (.there (.there (.here)))) (.cons (.there (.there (.there (.here)))) (.cons (.there (.there (.there (.here)))) (.cons (.there (.there (.there (.here)))) .nil)))))) ⟨rfl, .inl ⟨rfl, rfl⟩⟩⟩)

theorem f39_c (b : Nat) (k : Dk) (hk : k.ok) (r : Rp) (hro : r.ok k) (p : Option Addr) (n c : Nat) (l : List UInt8) (_hl : l.length = n) (_hpn : p = none → n = 0 ∧ c = 0) (_hnc : n ≤ c) (w : World) (hA : Sat w (fps (dkR b k r)) (dkR b k r) w) (hG : Gl w (fps (dkR b k r))) (_hr : RdS w (fps (dkR b k r)) p (l.map B8)) (hw0 : k.load.w = 0) (h24 : n = 24) (hmx : k.load.n = 18446744073709551615#64) : Calls Tryd.prog 39 [.pointer (some ⟨b, 0, none⟩), .slice p n c].toArray w (fun en w2 => ∃ x : (Option Addr × Nat) × Rp, (ldOk (Ld.err 180) x.1 ∧ x.2.ok k) ∧ en = .returned (.tuple #[.agg (ldv (Ld.err 180) x.1).toArray, I64 (Ld.err 180).w]) ∧ Sat w (fps (dkR b k r)) (ldR (Ld.err 180) x.1 :: dkR b k x.2) w2) := by
  refine enter (n := 56) Tryd.func39 rfl rfl rfl hA ?_
  refine seq ?_
  refine region ?_
  refine sq rfl (o_alloc (zs := [U64 0#64, .slice none 0 0]) zr_73 rfl (fun b4 => ?_))
  refine st (g_assign rfl) rfl ?_
  refine done ?_
  refine th_n ?_
  refine seq ?_
  refine region ?_
  refine st (g_move rfl) rfl ?_
  refine sq rfl (o_call Tryd.func52 rfl rfl rfl (.cons (.there (.here)) (.cons (.there (.here)) (.cons (.there (.here)) (.cons (.there (.here)) .nil)))) (fun w hw hA => f52_spec b k hk r hro w (by assumption) (Gl.ofOld (A := dkR b k r) hG hw (.cons (.there (.here)) (.cons (.there (.here)) (.cons (.there (.here)) (.cons (.there (.here)) .nil)))))) rfl (fun y hy => ?_))
  refine st (g_move rfl) rfl ?_
  refine st (g_extract rfl rfl) rfl ?_
  refine st (g_extract rfl rfl) rfl ?_
  refine st (g_extract rfl rfl) rfl ?_
  refine sq rfl (o_alloc (zs := [U64 0#64, .slice none 0 0]) zr_73 rfl (fun b6 => ?_))
  refine sq rfl (o_storeA (cs' := ldv k.load y) sz_73 rfl rfl rfl (by simp [ldv]; exact ⟨rfl, rfl⟩) .here (Nat.le_of_ble_eq_true rfl) rfl ?_)
  refine st (g_assign rfl) rfl ?_
  refine st (g_assign rfl) rfl ?_
  refine done ?_
  refine th_n ?_
  refine seq ?_
  refine seq ?_
  refine region ?_
  refine st (g_move rfl) rfl ?_
  refine st (g_F rfl rfl rfl (by simpa using hw0)) rfl ?_
  refine done ?_
  refine th_n ?_
  refine condF rfl ?_
  refine skip ?_
  refine th_n ?_
  refine seq ?_
  refine seq ?_
  refine region ?_
  refine st (g_move rfl) rfl ?_
  refine st (g_len el_23 rfl) rfl ?_
  refine st (g_F rfl rfl rfl (by omega)) rfl ?_
  refine st (g_move rfl) rfl ?_
  refine gt rfl ?_
  refine st (g_fieldAddr fo_73_0 rfl rfl) rfl ?_
  refine gt rfl ?_
  refine st (g_load (v := U64 k.load.n) sc_34 rfl (Cell.own .here rfl)) rfl ?_
  refine gt rfl ?_
  refine st (g_T rfl rfl rfl (by rw [hmx]; rfl)) rfl ?_
  refine st (g_pickF rfl rfl) rfl ?_
  refine done ?_
  refine th_n ?_
  refine condT rfl ?_
  refine seq ?_
  refine region ?_
  refine st (g_build rfl bu_73z) rfl ?_
  refine sq rfl (o_storeA (cs' := [U64 0#64, .slice none 0 0]) sz_73 rfl rfl rfl (by simp [Value.oneCell']) (.there (.there (.there (.there (.there (.there (.here))))))) (Nat.le_of_ble_eq_true rfl) rfl ?_)
  refine st (g_assign rfl) rfl ?_
  refine done ?_
  refine th_n ?_
  refine ret ?_
  refine th_r ?_
  exact retG rfl (fun a w2 ha hw2 => ⟨resc2 ha rfl rfl rfl ag_73 rfl (hw2.get .here), ((none, 0), r), ⟨⟨fun _ => rfl, Nat.le_refl _⟩, hro⟩, rfl, new0_vec (Sat.left (hw2.split (.cons (.there (.there (.there (.here)))) (.cons (.there (.there (.there (.here)))) (.cons (.there (.there (.there (.here)))) (.cons (.there (.there (.there (.here)))) .nil)))))) ⟨rfl, .inl ⟨rfl, rfl⟩⟩⟩)
end Go.Proofs.YtokhediaibdkjaaDoor

/-! From S7 -/
/- The walk of slot.Save. (printed by gen1.py) -/
namespace Go.Proofs.YtokhediaibdkjaaDoor
open Go.Pm Go.RowKit
set_option maxRecDepth 100000
theorem u64_nm {n : BitVec 64} (h : ¬ n = 18446744073709551615#64) : ¬ (n.toNat : Int) = 18446744073709551615 := fun hh => h (BitVec.eq_of_toNat_eq (by simp; omega))


theorem f39_d (b : Nat) (k : Dk) (hk : k.ok) (r : Rp) (hro : r.ok k) (p : Option Addr) (n c : Nat) (l : List UInt8) (hl : l.length = n) (hpn : p = none → n = 0 ∧ c = 0) (hnc : n ≤ c) (w : World) (hA : Sat w (fps (dkR b k r)) (dkR b k r) w) (hG : Gl w (fps (dkR b k r))) (hr : RdS w (fps (dkR b k r)) p (l.map B8)) (hw0 : k.load.w = 0) (h24 : n = 24) (hmx : ¬ k.load.n = 18446744073709551615#64) (h1 : (k.write k.load.nx (encW (k.load.n + 1#64) l)).1 ≠ 0) : Calls Tryd.prog 39 [.pointer (some ⟨b, 0, none⟩), .slice p n c].toArray w (fun en w2 => ∃ x : (Option Addr × Nat) × Rp, (ldOk (Ld.err (k.write k.load.nx (encW (k.load.n + 1#64) l)).1) x.1 ∧ x.2.ok (k.write k.load.nx (encW (k.load.n + 1#64) l)).2) ∧ en = .returned (.tuple #[.agg (ldv (Ld.err (k.write k.load.nx (encW (k.load.n + 1#64) l)).1) x.1).toArray, I64 (Ld.err (k.write k.load.nx (encW (k.load.n + 1#64) l)).1).w]) ∧ Sat w (fps (dkR b k r)) (ldR (Ld.err (k.write k.load.nx (encW (k.load.n + 1#64) l)).1) x.1 :: dkR b (k.write k.load.nx (encW (k.load.n + 1#64) l)).2 x.2) w2) := by
  subst h24
  refine enter (n := 56) Tryd.func39 rfl rfl rfl hA ?_
  refine seq ?_
  refine region ?_
  refine sq rfl (o_alloc (zs := [U64 0#64, .slice none 0 0]) zr_73 rfl (fun b4 => ?_))
  refine st (g_assign rfl) rfl ?_
  refine done ?_
  refine th_n ?_
  refine seq ?_
  refine region ?_
  refine st (g_move rfl) rfl ?_
  refine sq rfl (o_call Tryd.func52 rfl rfl rfl (.cons (.there (.here)) (.cons (.there (.here)) (.cons (.there (.here)) (.cons (.there (.here)) .nil)))) (fun w hw hA => f52_spec b k hk r hro w (by assumption) (Gl.ofOld (A := dkR b k r) hG hw (.cons (.there (.here)) (.cons (.there (.here)) (.cons (.there (.here)) (.cons (.there (.here)) .nil)))))) rfl (fun y hy => ?_))
  refine st (g_move rfl) rfl ?_
  refine st (g_extract rfl rfl) rfl ?_
  refine st (g_extract rfl rfl) rfl ?_
  refine st (g_extract rfl rfl) rfl ?_
  refine sq rfl (o_alloc (zs := [U64 0#64, .slice none 0 0]) zr_73 rfl (fun b6 => ?_))
  refine sq rfl (o_storeA (cs' := ldv k.load y) sz_73 rfl rfl rfl (by simp [ldv]; exact ⟨rfl, rfl⟩) .here (Nat.le_of_ble_eq_true rfl) rfl ?_)
  refine st (g_assign rfl) rfl ?_
  refine st (g_assign rfl) rfl ?_
  refine done ?_
  refine th_n ?_
  refine seq ?_
  refine seq ?_
  refine region ?_
  refine st (g_move rfl) rfl ?_
  refine st (g_F rfl rfl rfl (by simpa using hw0)) rfl ?_
  refine done ?_
  refine th_n ?_
  refine condF rfl ?_
  refine skip ?_
  refine th_n ?_
  refine seq ?_
  refine seq ?_
  refine region ?_
  refine st (g_move rfl) rfl ?_
  refine st (g_len el_23 rfl) rfl ?_
  refine st (g_F rfl rfl rfl (by omega)) rfl ?_
  refine st (g_move rfl) rfl ?_
  refine gt rfl ?_
  refine st (g_fieldAddr fo_73_0 rfl rfl) rfl ?_
  refine gt rfl ?_
  refine st (g_load (v := U64 k.load.n) sc_34 rfl (Cell.own .here rfl)) rfl ?_
  refine gt rfl ?_
  refine st (g_F rfl rfl rfl (u64_nm hmx)) rfl ?_
  refine st (g_pickF rfl rfl) rfl ?_
  refine done ?_
  refine th_n ?_
  refine condF rfl ?_
  refine skip ?_
  refine th_n ?_
  refine seq ?_
  refine regionL ⟨[_], [], []⟩ mixed (by decide +kernel) (.cons .here .nil) .nil ?_
  refine An'.q 0 [] rfl (by decide +kernel) rfl rfl (g_fieldAddr fo_73_0 rfl rfl) rfl ?_
  refine An'.q 1 [] rfl (by decide +kernel) rfl rfl (g_load sc_34 rfl (Cell.own .here rfl)) rfl ?_
  refine An'.q 2 [] rfl (by decide +kernel) rfl rfl (g_add64 (b := 1#64) rfl rfl) rfl ?_
  refine An'.q 3 [] rfl (by decide +kernel) rfl rfl (g_move rfl) rfl ?_
  refine An'.allG [4, 6] (by decide +kernel) (by simp) (fun i hi => ?_)
  simp only [List.mem_cons, List.not_mem_nil, or_false] at hi
  rcases hi with rfl | rfl
  · refine ⟨_, rfl, rfl, ?_⟩
    refine o_call Tryd.func69 rfl rfl rfl .nil (fun w hw hA => f69_spec p 24 c l hl hpn (by decide) w (RdS.ofOld (A := []) hr hw .nil).c) rfl (fun z hz => ?_)
    refine An'.on0 (.cons (.there (.here)) .nil) .nil rfl ?_
    refine An'.q 5 [] rfl (by decide +kernel) rfl rfl (g_build rfl (bu_73 _ _ rfl)) rfl ?_
    refine An'.oneG 6 (by decide +kernel) rfl rfl ?_
    refine o_alloc (zs := [U64 0#64, .slice none 0 0]) zr_73 rfl (fun b9 => ?_)
    refine An'.on0 (.cons (.there (.there (.here))) .nil) .nil rfl ?_
    refine An'.oneG 7 (by decide +kernel) rfl rfl ?_
    refine o_storeA (cs' := [U64 (k.load.n + 1#64), slv 24 z]) sz_73 rfl rfl rfl (by simp [Value.oneCell']) .here (Nat.le_of_ble_eq_true rfl) rfl ?_
    refine An'.on0 (.cons (.there (.there (.here))) .nil) .nil rfl ?_
    refine An'.fin (by decide +kernel) ?_
    refine th_n ?_
    refine seq ?_
    refine region ?_
    refine st (g_loadA (vs := [U64 (k.load.n + 1#64), slv 24 z]) ag_73 rfl rfl (Cells.part .here rfl)) rfl ?_
    refine sq rfl (o_call Tryd.func45 rfl rfl rfl .nil (fun w hw hA => f45_good (k.load.n + 1#64) z.1 24 z.2 l hl hz.2.1 hz.2.2 (max_succ hmx) rfl w (RdC.ofVec (hw.get (.there (.here)))) (Gl.ofOld (A := []) hG hw .nil)) rfl (fun u hu => ?_))
    refine st (g_move rfl) rfl ?_
    refine st (g_extract rfl rfl) rfl ?_
    refine st (g_extract rfl rfl) rfl ?_
    refine st (g_assign rfl) rfl ?_
    refine st (g_assign rfl) rfl ?_
    refine done ?_
    refine th_n ?_
    refine seq ?_
    refine seq ?_
    refine region ?_
    refine st (g_move rfl) rfl ?_
    refine st (g_T rfl rfl rfl (by decide)) rfl ?_
    refine done ?_
    refine th_n ?_
    refine condT rfl ?_
    refine region ?_
    refine st (g_move rfl) rfl ?_
    refine st (g_move rfl) rfl ?_
    refine st (g_move rfl) rfl ?_
    refine sq rfl (o_call Tryd.func53 rfl rfl rfl (.cons (.there (.there (.there (.there (.there (.here)))))) (.cons (.there (.there (.there (.there (.there (.here)))))) (.cons (.there (.there (.there (.there (.there (.here)))))) (.cons (.there (.there (.there (.there (.there (.here)))))) .nil)))) (fun w hw hA => f53_spec b k hk r hro k.load.nx u.1 64 u.2 (encW (k.load.n + 1#64) l) (encW_length _ hl) w (by assumption) (RdS.ofVec hw (.cons (.there (.there (.there (.there (.there (.here)))))) (.cons (.there (.there (.there (.there (.there (.here)))))) (.cons (.there (.there (.there (.there (.there (.here)))))) (.cons (.there (.there (.there (.there (.there (.here)))))) .nil)))) .here)) rfl (fun r2 hr2 => ?_))
    refine st (g_assign rfl) rfl ?_
    refine done ?_
    refine th_n ?_
    refine seq ?_
    refine seq ?_
    refine region ?_
    refine st (g_move rfl) rfl ?_
    refine st (g_F rfl rfl rfl (by simpa using h1)) rfl ?_
    refine done ?_
    refine th_n ?_
    refine condF rfl ?_
    refine skip ?_
    refine th_n ?_
    refine seq ?_
    refine seq ?_
    refine region ?_
    refine st (g_move rfl) rfl ?_
    refine st (g_T rfl rfl rfl (by simpa using h1)) rfl ?_
    refine done ?_
    refine th_n ?_
    refine condT rfl ?_
    refine seq ?_
    refine region ?_
    refine st (g_build rfl bu_73z) rfl ?_
    refine st (g_move rfl) rfl ?_
    refine sq rfl (o_storeA (cs' := [U64 0#64, .slice none 0 0]) sz_73 rfl rfl rfl (by simp [Value.oneCell']) (.there (.there (.there (.there (.there (.there (.there (.there (.there (.here)))))))))) (Nat.le_of_ble_eq_true rfl) rfl ?_)
    refine st (g_assign rfl) rfl ?_
    refine done ?_
    refine th_n ?_
    refine ret ?_
    refine th_r ?_
    exact retG rfl (fun a w2 ha hw2 => ⟨resc2 ha rfl rfl rfl ag_73 rfl (hw2.get .here), ((none, 0), r2), ⟨⟨fun _ => rfl, Nat.le_refl _⟩, hr2⟩, rfl, new0_vec (Sat.left (hw2.split (.cons (.there (.here)) (.cons (.there (.here)) (.cons (.there (.here)) (.cons (.there (.here)) .nil)))))) ⟨rfl, .inl ⟨rfl, rfl⟩⟩⟩)
  · refine ⟨_, rfl, rfl, ?_⟩
    refine o_alloc (zs := [U64 0#64, .slice none 0 0]) zr_73 rfl (fun b9 => ?_)
    refine An'.on0 (.cons (.there (.here)) .nil) .nil rfl ?_
    refine An'.oneG 4 (by decide +kernel) rfl rfl ?_
    refine o_call Tryd.func69 rfl rfl rfl .nil (fun w hw hA => f69_spec p 24 c l hl hpn (by decide) w (RdS.ofOld (A := []) hr hw .nil).c) rfl (fun z hz => ?_)
    refine An'.on0 (.cons (.there (.there (.here))) .nil) .nil rfl ?_
    refine An'.q 5 [] rfl (by decide +kernel) rfl rfl (g_build rfl (bu_73 _ _ rfl)) rfl ?_
    refine An'.oneG 7 (by decide +kernel) rfl rfl ?_
    refine o_storeA (cs' := [U64 (k.load.n + 1#64), slv 24 z]) sz_73 rfl rfl rfl (by simp [Value.oneCell']) (.there (.here)) (Nat.le_of_ble_eq_true rfl) rfl ?_
    refine An'.on0 (.cons (.there (.there (.here))) .nil) .nil rfl ?_
    refine An'.fin (by decide +kernel) ?_
    refine th_n ?_
    refine seq ?_
    refine region ?_
    refine st (g_loadA (vs := [U64 (k.load.n + 1#64), slv 24 z]) ag_73 rfl rfl (Cells.part .here rfl)) rfl ?_
    refine sq rfl (o_call Tryd.func45 rfl rfl rfl .nil (fun w hw hA => f45_good (k.load.n + 1#64) z.1 24 z.2 l hl hz.2.1 hz.2.2 (max_succ hmx) rfl w (RdC.ofVec (hw.get (.there (.here)))) (Gl.ofOld (A := []) hG hw .nil)) rfl (fun u hu => ?_))
    refine st (g_move rfl) rfl ?_
    refine st (g_extract rfl rfl) rfl ?_
    refine st (g_extract rfl rfl) rfl ?_
    refine st (g_assign rfl) rfl ?_
    refine st (g_assign rfl) rfl ?_
    refine done ?_
    refine th_n ?_
    refine seq ?_
    refine seq ?_
    refine region ?_
    refine st (g_move rfl) rfl ?_
    refine st (g_T rfl rfl rfl (by decide)) rfl ?_
    refine done ?_
    refine th_n ?_
    refine condT rfl ?_
    refine region ?_
    refine st (g_move rfl) rfl ?_
    refine st (g_move rfl) rfl ?_
    refine st (g_move rfl) rfl ?_
    refine sq rfl (o_call Tryd.func53 rfl rfl rfl (.cons (.there (.there (.there (.there (.there (.here)))))) (.cons (.there (.there (.there (.there (.there (.here)))))) (.cons (.there (.there (.there (.there (.there (.here)))))) (.cons (.there (.there (.there (.there (.there (.here)))))) .nil)))) (fun w hw hA => f53_spec b k hk r hro k.load.nx u.1 64 u.2 (encW (k.load.n + 1#64) l) (encW_length _ hl) w (by assumption) (RdS.ofVec hw (.cons (.there (.there (.there (.there (.there (.here)))))) (.cons (.there (.there (.there (.there (.there (.here)))))) (.cons (.there (.there (.there (.there (.there (.here)))))) (.cons (.there (.there (.there (.there (.there (.here)))))) .nil)))) .here)) rfl (fun r2 hr2 => ?_))
    refine st (g_assign rfl) rfl ?_
    refine done ?_
    refine th_n ?_
    refine seq ?_
    refine seq ?_
    refine region ?_
    refine st (g_move rfl) rfl ?_
    refine st (g_F rfl rfl rfl (by simpa using h1)) rfl ?_
    refine done ?_
    refine th_n ?_
    refine condF rfl ?_
    refine skip ?_
    refine th_n ?_
    refine seq ?_
    refine seq ?_
    refine region ?_
    refine st (g_move rfl) rfl ?_
    refine st (g_T rfl rfl rfl (by simpa using h1)) rfl ?_
    refine done ?_
    refine th_n ?_
    refine condT rfl ?_
    refine seq ?_
    refine region ?_
    refine st (g_build rfl bu_73z) rfl ?_
    refine st (g_move rfl) rfl ?_
    refine sq rfl (o_storeA (cs' := [U64 0#64, .slice none 0 0]) sz_73 rfl rfl rfl (by simp [Value.oneCell']) (.there (.there (.there (.there (.there (.there (.there (.there (.there (.here)))))))))) (Nat.le_of_ble_eq_true rfl) rfl ?_)
    refine st (g_assign rfl) rfl ?_
    refine done ?_
    refine th_n ?_
    refine ret ?_
    refine th_r ?_
    exact retG rfl (fun a w2 ha hw2 => ⟨resc2 ha rfl rfl rfl ag_73 rfl (hw2.get .here), ((none, 0), r2), ⟨⟨fun _ => rfl, Nat.le_refl _⟩, hr2⟩, rfl, new0_vec (Sat.left (hw2.split (.cons (.there (.here)) (.cons (.there (.here)) (.cons (.there (.here)) (.cons (.there (.here)) .nil)))))) ⟨rfl, .inl ⟨rfl, rfl⟩⟩⟩)

theorem f39_e (b : Nat) (k : Dk) (hk : k.ok) (r : Rp) (hro : r.ok k) (p : Option Addr) (n c : Nat) (l : List UInt8) (hl : l.length = n) (hpn : p = none → n = 0 ∧ c = 0) (hnc : n ≤ c) (w : World) (hA : Sat w (fps (dkR b k r)) (dkR b k r) w) (hG : Gl w (fps (dkR b k r))) (hr : RdS w (fps (dkR b k r)) p (l.map B8)) (hw0 : k.load.w = 0) (h24 : n = 24) (hmx : ¬ k.load.n = 18446744073709551615#64) (h1 : (k.write k.load.nx (encW (k.load.n + 1#64) l)).1 = 0) (h2 : (k.write k.load.nx (encW (k.load.n + 1#64) l)).2.flush.1 ≠ 0) : Calls Tryd.prog 39 [.pointer (some ⟨b, 0, none⟩), .slice p n c].toArray w (fun en w2 => ∃ x : (Option Addr × Nat) × Rp, (ldOk (Ld.err (k.write k.load.nx (encW (k.load.n + 1#64) l)).2.flush.1) x.1 ∧ x.2.ok (k.write k.load.nx (encW (k.load.n + 1#64) l)).2.flush.2) ∧ en = .returned (.tuple #[.agg (ldv (Ld.err (k.write k.load.nx (encW (k.load.n + 1#64) l)).2.flush.1) x.1).toArray, I64 (Ld.err (k.write k.load.nx (encW (k.load.n + 1#64) l)).2.flush.1).w]) ∧ Sat w (fps (dkR b k r)) (ldR (Ld.err (k.write k.load.nx (encW (k.load.n + 1#64) l)).2.flush.1) x.1 :: dkR b (k.write k.load.nx (encW (k.load.n + 1#64) l)).2.flush.2 x.2) w2) := by
  subst h24
  refine enter (n := 56) Tryd.func39 rfl rfl rfl hA ?_
  refine seq ?_
  refine region ?_
  refine sq rfl (o_alloc (zs := [U64 0#64, .slice none 0 0]) zr_73 rfl (fun b4 => ?_))
  refine st (g_assign rfl) rfl ?_
  refine done ?_
  refine th_n ?_
  refine seq ?_
  refine region ?_
  refine st (g_move rfl) rfl ?_
  refine sq rfl (o_call Tryd.func52 rfl rfl rfl (.cons (.there (.here)) (.cons (.there (.here)) (.cons (.there (.here)) (.cons (.there (.here)) .nil)))) (fun w hw hA => f52_spec b k hk r hro w (by assumption) (Gl.ofOld (A := dkR b k r) hG hw (.cons (.there (.here)) (.cons (.there (.here)) (.cons (.there (.here)) (.cons (.there (.here)) .nil)))))) rfl (fun y hy => ?_))
  refine st (g_move rfl) rfl ?_
  refine st (g_extract rfl rfl) rfl ?_
  refine st (g_extract rfl rfl) rfl ?_
  refine st (g_extract rfl rfl) rfl ?_
  refine sq rfl (o_alloc (zs := [U64 0#64, .slice none 0 0]) zr_73 rfl (fun b6 => ?_))
  refine sq rfl (o_storeA (cs' := ldv k.load y) sz_73 rfl rfl rfl (by simp [ldv]; exact ⟨rfl, rfl⟩) .here (Nat.le_of_ble_eq_true rfl) rfl ?_)
  refine st (g_assign rfl) rfl ?_
  refine st (g_assign rfl) rfl ?_
  refine done ?_
  refine th_n ?_
  refine seq ?_
  refine seq ?_
  refine region ?_
  refine st (g_move rfl) rfl ?_
  refine st (g_F rfl rfl rfl (by simpa using hw0)) rfl ?_
  refine done ?_
  refine th_n ?_
  refine condF rfl ?_
  refine skip ?_
  refine th_n ?_
  refine seq ?_
  refine seq ?_
  refine region ?_
  refine st (g_move rfl) rfl ?_
  refine st (g_len el_23 rfl) rfl ?_
  refine st (g_F rfl rfl rfl (by omega)) rfl ?_
  refine st (g_move rfl) rfl ?_
  refine gt rfl ?_
  refine st (g_fieldAddr fo_73_0 rfl rfl) rfl ?_
  refine gt rfl ?_
  refine st (g_load (v := U64 k.load.n) sc_34 rfl (Cell.own .here rfl)) rfl ?_
  refine gt rfl ?_
  refine st (g_F rfl rfl rfl (u64_nm hmx)) rfl ?_
  refine st (g_pickF rfl rfl) rfl ?_
  refine done ?_
  refine th_n ?_
  refine condF rfl ?_
  refine skip ?_
  refine th_n ?_
  refine seq ?_
  refine regionL ⟨[_], [], []⟩ mixed (by decide +kernel) (.cons .here .nil) .nil ?_
  refine An'.q 0 [] rfl (by decide +kernel) rfl rfl (g_fieldAddr fo_73_0 rfl rfl) rfl ?_
  refine An'.q 1 [] rfl (by decide +kernel) rfl rfl (g_load sc_34 rfl (Cell.own .here rfl)) rfl ?_
  refine An'.q 2 [] rfl (by decide +kernel) rfl rfl (g_add64 (b := 1#64) rfl rfl) rfl ?_
  refine An'.q 3 [] rfl (by decide +kernel) rfl rfl (g_move rfl) rfl ?_
  refine An'.allG [4, 6] (by decide +kernel) (by simp) (fun i hi => ?_)
  simp only [List.mem_cons, List.not_mem_nil, or_false] at hi
  rcases hi with rfl | rfl
  · refine ⟨_, rfl, rfl, ?_⟩
    refine o_call Tryd.func69 rfl rfl rfl .nil (fun w hw hA => f69_spec p 24 c l hl hpn (by decide) w (RdS.ofOld (A := []) hr hw .nil).c) rfl (fun z hz => ?_)
    refine An'.on0 (.cons (.there (.here)) .nil) .nil rfl ?_
    refine An'.q 5 [] rfl (by decide +kernel) rfl rfl (g_build rfl (bu_73 _ _ rfl)) rfl ?_
    refine An'.oneG 6 (by decide +kernel) rfl rfl ?_
    refine o_alloc (zs := [U64 0#64, .slice none 0 0]) zr_73 rfl (fun b9 => ?_)
    refine An'.on0 (.cons (.there (.there (.here))) .nil) .nil rfl ?_
    refine An'.oneG 7 (by decide +kernel) rfl rfl ?_
    refine o_storeA (cs' := [U64 (k.load.n + 1#64), slv 24 z]) sz_73 rfl rfl rfl (by simp [Value.oneCell']) .here (Nat.le_of_ble_eq_true rfl) rfl ?_
    refine An'.on0 (.cons (.there (.there (.here))) .nil) .nil rfl ?_
    refine An'.fin (by decide +kernel) ?_
    refine th_n ?_
    refine seq ?_
    refine region ?_
    refine st (g_loadA (vs := [U64 (k.load.n + 1#64), slv 24 z]) ag_73 rfl rfl (Cells.part .here rfl)) rfl ?_
    refine sq rfl (o_call Tryd.func45 rfl rfl rfl .nil (fun w hw hA => f45_good (k.load.n + 1#64) z.1 24 z.2 l hl hz.2.1 hz.2.2 (max_succ hmx) rfl w (RdC.ofVec (hw.get (.there (.here)))) (Gl.ofOld (A := []) hG hw .nil)) rfl (fun u hu => ?_))
    refine st (g_move rfl) rfl ?_
    refine st (g_extract rfl rfl) rfl ?_
    refine st (g_extract rfl rfl) rfl ?_
    refine st (g_assign rfl) rfl ?_
    refine st (g_assign rfl) rfl ?_
    refine done ?_
    refine th_n ?_
    refine seq ?_
    refine seq ?_
    refine region ?_
    refine st (g_move rfl) rfl ?_
    refine st (g_T rfl rfl rfl (by decide)) rfl ?_
    refine done ?_
    refine th_n ?_
    refine condT rfl ?_
    refine region ?_
    refine st (g_move rfl) rfl ?_
    refine st (g_move rfl) rfl ?_
    refine st (g_move rfl) rfl ?_
    refine sq rfl (o_call Tryd.func53 rfl rfl rfl (.cons (.there (.there (.there (.there (.there (.here)))))) (.cons (.there (.there (.there (.there (.there (.here)))))) (.cons (.there (.there (.there (.there (.there (.here)))))) (.cons (.there (.there (.there (.there (.there (.here)))))) .nil)))) (fun w hw hA => f53_spec b k hk r hro k.load.nx u.1 64 u.2 (encW (k.load.n + 1#64) l) (encW_length _ hl) w (by assumption) (RdS.ofVec hw (.cons (.there (.there (.there (.there (.there (.here)))))) (.cons (.there (.there (.there (.there (.there (.here)))))) (.cons (.there (.there (.there (.there (.there (.here)))))) (.cons (.there (.there (.there (.there (.there (.here)))))) .nil)))) .here)) rfl (fun r2 hr2 => ?_))
    refine st (g_assign rfl) rfl ?_
    refine done ?_
    refine th_n ?_
    refine seq ?_
    refine seq ?_
    refine region ?_
    refine st (g_move rfl) rfl ?_
    refine st (g_T rfl rfl rfl (by simpa using h1)) rfl ?_
    refine done ?_
    refine th_n ?_
    refine condT rfl ?_
    refine region ?_
    refine st (g_move rfl) rfl ?_
    refine sq rfl (o_call Tryd.func81 rfl rfl rfl (.cons .here (.cons .here (.cons .here (.cons .here .nil)))) (fun w hw hA => f81_spec b (k.write k.load.nx (encW (k.load.n + 1#64) l)).2 (k.write_ok hk k.load.nx (encW (k.load.n + 1#64) l)) r2 hr2 w (by assumption)) rfl (fun r3 hr3 => ?_))
    refine st (g_assign rfl) rfl ?_
    refine done ?_
    refine th_n ?_
    refine seq ?_
    refine seq ?_
    refine region ?_
    refine st (g_move rfl) rfl ?_
    refine st (g_T rfl rfl rfl (by simpa using h2)) rfl ?_
    refine done ?_
    refine th_n ?_
    refine condT rfl ?_
    refine seq ?_
    refine region ?_
    refine st (g_build rfl bu_73z) rfl ?_
    refine st (g_move rfl) rfl ?_
    refine sq rfl (o_storeA (cs' := [U64 0#64, .slice none 0 0]) sz_73 rfl rfl rfl (by simp [Value.oneCell']) (.there (.there (.there (.there (.there (.there (.there (.there (.there (.here)))))))))) (Nat.le_of_ble_eq_true rfl) rfl ?_)
    refine st (g_assign rfl) rfl ?_
    refine done ?_
    refine th_n ?_
    refine ret ?_
    refine th_r ?_
    exact retG rfl (fun a w2 ha hw2 => ⟨resc2 ha rfl rfl rfl ag_73 rfl (hw2.get .here), ((none, 0), r3), ⟨⟨fun _ => rfl, Nat.le_refl _⟩, hr3⟩, rfl, new0_vec (Sat.left (hw2.split (.cons (.there (.here)) (.cons (.there (.here)) (.cons (.there (.here)) (.cons (.there (.here)) .nil)))))) ⟨rfl, .inl ⟨rfl, rfl⟩⟩⟩)
  · refine ⟨_, rfl, rfl, ?_⟩
    refine o_alloc (zs := [U64 0#64, .slice none 0 0]) zr_73 rfl (fun b9 => ?_)
    refine An'.on0 (.cons (.there (.here)) .nil) .nil rfl ?_
    refine An'.oneG 4 (by decide +kernel) rfl rfl ?_
    refine o_call Tryd.func69 rfl rfl rfl .nil (fun w hw hA => f69_spec p 24 c l hl hpn (by decide) w (RdS.ofOld (A := []) hr hw .nil).c) rfl (fun z hz => ?_)
    refine An'.on0 (.cons (.there (.there (.here))) .nil) .nil rfl ?_
    refine An'.q 5 [] rfl (by decide +kernel) rfl rfl (g_build rfl (bu_73 _ _ rfl)) rfl ?_
    refine An'.oneG 7 (by decide +kernel) rfl rfl ?_
    refine o_storeA (cs' := [U64 (k.load.n + 1#64), slv 24 z]) sz_73 rfl rfl rfl (by simp [Value.oneCell']) (.there (.here)) (Nat.le_of_ble_eq_true rfl) rfl ?_
    refine An'.on0 (.cons (.there (.there (.here))) .nil) .nil rfl ?_
    refine An'.fin (by decide +kernel) ?_
    refine th_n ?_
    refine seq ?_
    refine region ?_
    refine st (g_loadA (vs := [U64 (k.load.n + 1#64), slv 24 z]) ag_73 rfl rfl (Cells.part .here rfl)) rfl ?_
    refine sq rfl (o_call Tryd.func45 rfl rfl rfl .nil (fun w hw hA => f45_good (k.load.n + 1#64) z.1 24 z.2 l hl hz.2.1 hz.2.2 (max_succ hmx) rfl w (RdC.ofVec (hw.get (.there (.here)))) (Gl.ofOld (A := []) hG hw .nil)) rfl (fun u hu => ?_))
    refine st (g_move rfl) rfl ?_
    refine st (g_extract rfl rfl) rfl ?_
    refine st (g_extract rfl rfl) rfl ?_
    refine st (g_assign rfl) rfl ?_
    refine st (g_assign rfl) rfl ?_
    refine done ?_
    refine th_n ?_
    refine seq ?_
    refine seq ?_
    refine region ?_
    refine st (g_move rfl) rfl ?_
    refine st (g_T rfl rfl rfl (by decide)) rfl ?_
    refine done ?_
    refine th_n ?_
    refine condT rfl ?_
    refine region ?_
    refine st (g_move rfl) rfl ?_
    refine st (g_move rfl) rfl ?_
    refine st (g_move rfl) rfl ?_
    refine sq rfl (o_call Tryd.func53 rfl rfl rfl (.cons (.there (.there (.there (.there (.there (.here)))))) (.cons (.there (.there (.there (.there (.there (.here)))))) (.cons (.there (.there (.there (.there (.there (.here)))))) (.cons (.there (.there (.there (.there (.there (.here)))))) .nil)))) (fun w hw hA => f53_spec b k hk r hro k.load.nx u.1 64 u.2 (encW (k.load.n + 1#64) l) (encW_length _ hl) w (by assumption) (RdS.ofVec hw (.cons (.there (.there (.there (.there (.there (.here)))))) (.cons (.there (.there (.there (.there (.there (.here)))))) (.cons (.there (.there (.there (.there (.there (.here)))))) (.cons (.there (.there (.there (.there (.there (.here)))))) .nil)))) .here)) rfl (fun r2 hr2 => ?_))
    refine st (g_assign rfl) rfl ?_
    refine done ?_
    refine th_n ?_
    refine seq ?_
    refine seq ?_
    refine region ?_
    refine st (g_move rfl) rfl ?_
    refine st (g_T rfl rfl rfl (by simpa using h1)) rfl ?_
    refine done ?_
    refine th_n ?_
    refine condT rfl ?_
    refine region ?_
    refine st (g_move rfl) rfl ?_
    refine sq rfl (o_call Tryd.func81 rfl rfl rfl (.cons .here (.cons .here (.cons .here (.cons .here .nil)))) (fun w hw hA => f81_spec b (k.write k.load.nx (encW (k.load.n + 1#64) l)).2 (k.write_ok hk k.load.nx (encW (k.load.n + 1#64) l)) r2 hr2 w (by assumption)) rfl (fun r3 hr3 => ?_))
    refine st (g_assign rfl) rfl ?_
    refine done ?_
    refine th_n ?_
    refine seq ?_
    refine seq ?_
    refine region ?_
    refine st (g_move rfl) rfl ?_
    refine st (g_T rfl rfl rfl (by simpa using h2)) rfl ?_
    refine done ?_
    refine th_n ?_
    refine condT rfl ?_
    refine seq ?_
    refine region ?_
    refine st (g_build rfl bu_73z) rfl ?_
    refine st (g_move rfl) rfl ?_
    refine sq rfl (o_storeA (cs' := [U64 0#64, .slice none 0 0]) sz_73 rfl rfl rfl (by simp [Value.oneCell']) (.there (.there (.there (.there (.there (.there (.there (.there (.there (.here)))))))))) (Nat.le_of_ble_eq_true rfl) rfl ?_)
    refine st (g_assign rfl) rfl ?_
    refine done ?_
    refine th_n ?_
    refine ret ?_
    refine th_r ?_
    exact retG rfl (fun a w2 ha hw2 => ⟨resc2 ha rfl rfl rfl ag_73 rfl (hw2.get .here), ((none, 0), r3), ⟨⟨fun _ => rfl, Nat.le_refl _⟩, hr3⟩, rfl, new0_vec (Sat.left (hw2.split (.cons (.there (.here)) (.cons (.there (.here)) (.cons (.there (.here)) (.cons (.there (.here)) .nil)))))) ⟨rfl, .inl ⟨rfl, rfl⟩⟩⟩)

theorem f39_f (b : Nat) (k : Dk) (hk : k.ok) (r : Rp) (hro : r.ok k) (p : Option Addr) (n c : Nat) (l : List UInt8) (hl : l.length = n) (hpn : p = none → n = 0 ∧ c = 0) (hnc : n ≤ c) (w : World) (hA : Sat w (fps (dkR b k r)) (dkR b k r) w) (hG : Gl w (fps (dkR b k r))) (hr : RdS w (fps (dkR b k r)) p (l.map B8)) (hw0 : k.load.w = 0) (h24 : n = 24) (hmx : ¬ k.load.n = 18446744073709551615#64) (h1 : (k.write k.load.nx (encW (k.load.n + 1#64) l)).1 = 0) (h2 : (k.write k.load.nx (encW (k.load.n + 1#64) l)).2.flush.1 = 0) : Calls Tryd.prog 39 [.pointer (some ⟨b, 0, none⟩), .slice p n c].toArray w (fun en w2 => ∃ x : (Option Addr × Nat) × Rp, (ldOk (Ld.mk (k.load.n + 1#64) l 0 0 0) x.1 ∧ x.2.ok (k.write k.load.nx (encW (k.load.n + 1#64) l)).2.flush.2) ∧ en = .returned (.tuple #[.agg (ldv (Ld.mk (k.load.n + 1#64) l 0 0 0) x.1).toArray, I64 (Ld.mk (k.load.n + 1#64) l 0 0 0).w]) ∧ Sat w (fps (dkR b k r)) (ldR (Ld.mk (k.load.n + 1#64) l 0 0 0) x.1 :: dkR b (k.write k.load.nx (encW (k.load.n + 1#64) l)).2.flush.2 x.2) w2) := by
  subst h24
  refine enter (n := 56) Tryd.func39 rfl rfl rfl hA ?_
  refine seq ?_
  refine region ?_
  refine sq rfl (o_alloc (zs := [U64 0#64, .slice none 0 0]) zr_73 rfl (fun b4 => ?_))
  refine st (g_assign rfl) rfl ?_
  refine done ?_
  refine th_n ?_
  refine seq ?_
  refine region ?_
  refine st (g_move rfl) rfl ?_
  refine sq rfl (o_call Tryd.func52 rfl rfl rfl (.cons (.there (.here)) (.cons (.there (.here)) (.cons (.there (.here)) (.cons (.there (.here)) .nil)))) (fun w hw hA => f52_spec b k hk r hro w (by assumption) (Gl.ofOld (A := dkR b k r) hG hw (.cons (.there (.here)) (.cons (.there (.here)) (.cons (.there (.here)) (.cons (.there (.here)) .nil)))))) rfl (fun y hy => ?_))
  refine st (g_move rfl) rfl ?_
  refine st (g_extract rfl rfl) rfl ?_
  refine st (g_extract rfl rfl) rfl ?_
  refine st (g_extract rfl rfl) rfl ?_
  refine sq rfl (o_alloc (zs := [U64 0#64, .slice none 0 0]) zr_73 rfl (fun b6 => ?_))
  refine sq rfl (o_storeA (cs' := ldv k.load y) sz_73 rfl rfl rfl (by simp [ldv]; exact ⟨rfl, rfl⟩) .here (Nat.le_of_ble_eq_true rfl) rfl ?_)
  refine st (g_assign rfl) rfl ?_
  refine st (g_assign rfl) rfl ?_
  refine done ?_
  refine th_n ?_
  refine seq ?_
  refine seq ?_
  refine region ?_
  refine st (g_move rfl) rfl ?_
  refine st (g_F rfl rfl rfl (by simpa using hw0)) rfl ?_
  refine done ?_
  refine th_n ?_
  refine condF rfl ?_
  refine skip ?_
  refine th_n ?_
  refine seq ?_
  refine seq ?_
  refine region ?_
  refine st (g_move rfl) rfl ?_
  refine st (g_len el_23 rfl) rfl ?_
  refine st (g_F rfl rfl rfl (by omega)) rfl ?_
  refine st (g_move rfl) rfl ?_
  refine gt rfl ?_
  refine st (g_fieldAddr fo_73_0 rfl rfl) rfl ?_
  refine gt rfl ?_
  refine st (g_load (v := U64 k.load.n) sc_34 rfl (Cell.own .here rfl)) rfl ?_
  refine gt rfl ?_
  refine st (g_F rfl rfl rfl (u64_nm hmx)) rfl ?_
  refine st (g_pickF rfl rfl) rfl ?_
  refine done ?_
  refine th_n ?_
  refine condF rfl ?_
  refine skip ?_
  refine th_n ?_
  refine seq ?_
  refine regionL ⟨[_], [], []⟩ mixed (by decide +kernel) (.cons .here .nil) .nil ?_
  refine An'.q 0 [] rfl (by decide +kernel) rfl rfl (g_fieldAddr fo_73_0 rfl rfl) rfl ?_
  refine An'.q 1 [] rfl (by decide +kernel) rfl rfl (g_load sc_34 rfl (Cell.own .here rfl)) rfl ?_
  refine An'.q 2 [] rfl (by decide +kernel) rfl rfl (g_add64 (b := 1#64) rfl rfl) rfl ?_
  refine An'.q 3 [] rfl (by decide +kernel) rfl rfl (g_move rfl) rfl ?_
  refine An'.allG [4, 6] (by decide +kernel) (by simp) (fun i hi => ?_)
  simp only [List.mem_cons, List.not_mem_nil, or_false] at hi
  rcases hi with rfl | rfl
  · refine ⟨_, rfl, rfl, ?_⟩
    refine o_call Tryd.func69 rfl rfl rfl .nil (fun w hw hA => f69_spec p 24 c l hl hpn (by decide) w (RdS.ofOld (A := []) hr hw .nil).c) rfl (fun z hz => ?_)
    refine An'.on0 (.cons (.there (.here)) .nil) .nil rfl ?_
    refine An'.q 5 [] rfl (by decide +kernel) rfl rfl (g_build rfl (bu_73 _ _ rfl)) rfl ?_
    refine An'.oneG 6 (by decide +kernel) rfl rfl ?_
    refine o_alloc (zs := [U64 0#64, .slice none 0 0]) zr_73 rfl (fun b9 => ?_)
    refine An'.on0 (.cons (.there (.there (.here))) .nil) .nil rfl ?_
    refine An'.oneG 7 (by decide +kernel) rfl rfl ?_
    refine o_storeA (cs' := [U64 (k.load.n + 1#64), slv 24 z]) sz_73 rfl rfl rfl (by simp [Value.oneCell']) .here (Nat.le_of_ble_eq_true rfl) rfl ?_
    refine An'.on0 (.cons (.there (.there (.here))) .nil) .nil rfl ?_
    refine An'.fin (by decide +kernel) ?_
    refine th_n ?_
    refine seq ?_
    refine region ?_
    refine st (g_loadA (vs := [U64 (k.load.n + 1#64), slv 24 z]) ag_73 rfl rfl (Cells.part .here rfl)) rfl ?_
    refine sq rfl (o_call Tryd.func45 rfl rfl rfl .nil (fun w hw hA => f45_good (k.load.n + 1#64) z.1 24 z.2 l hl hz.2.1 hz.2.2 (max_succ hmx) rfl w (RdC.ofVec (hw.get (.there (.here)))) (Gl.ofOld (A := []) hG hw .nil)) rfl (fun u hu => ?_))
    refine st (g_move rfl) rfl ?_
    refine st (g_extract rfl rfl) rfl ?_
    refine st (g_extract rfl rfl) rfl ?_
    refine st (g_assign rfl) rfl ?_
    refine st (g_assign rfl) rfl ?_
    refine done ?_
    refine th_n ?_
    refine seq ?_
    refine seq ?_
    refine region ?_
    refine st (g_move rfl) rfl ?_
    refine st (g_T rfl rfl rfl (by decide)) rfl ?_
    refine done ?_
    refine th_n ?_
    refine condT rfl ?_
    refine region ?_
    refine st (g_move rfl) rfl ?_
    refine st (g_move rfl) rfl ?_
    refine st (g_move rfl) rfl ?_
    refine sq rfl (o_call Tryd.func53 rfl rfl rfl (.cons (.there (.there (.there (.there (.there (.here)))))) (.cons (.there (.there (.there (.there (.there (.here)))))) (.cons (.there (.there (.there (.there (.there (.here)))))) (.cons (.there (.there (.there (.there (.there (.here)))))) .nil)))) (fun w hw hA => f53_spec b k hk r hro k.load.nx u.1 64 u.2 (encW (k.load.n + 1#64) l) (encW_length _ hl) w (by assumption) (RdS.ofVec hw (.cons (.there (.there (.there (.there (.there (.here)))))) (.cons (.there (.there (.there (.there (.there (.here)))))) (.cons (.there (.there (.there (.there (.there (.here)))))) (.cons (.there (.there (.there (.there (.there (.here)))))) .nil)))) .here)) rfl (fun r2 hr2 => ?_))
    refine st (g_assign rfl) rfl ?_
    refine done ?_
    refine th_n ?_
    refine seq ?_
    refine seq ?_
    refine region ?_
    refine st (g_move rfl) rfl ?_
    refine st (g_T rfl rfl rfl (by simpa using h1)) rfl ?_
    refine done ?_
    refine th_n ?_
    refine condT rfl ?_
    refine region ?_
    refine st (g_move rfl) rfl ?_
    refine sq rfl (o_call Tryd.func81 rfl rfl rfl (.cons .here (.cons .here (.cons .here (.cons .here .nil)))) (fun w hw hA => f81_spec b (k.write k.load.nx (encW (k.load.n + 1#64) l)).2 (k.write_ok hk k.load.nx (encW (k.load.n + 1#64) l)) r2 hr2 w (by assumption)) rfl (fun r3 hr3 => ?_))
    refine st (g_assign rfl) rfl ?_
    refine done ?_
    refine th_n ?_
    refine seq ?_
    refine seq ?_
    refine region ?_
    refine st (g_move rfl) rfl ?_
    refine st (g_F rfl rfl rfl (by simpa using h2)) rfl ?_
    refine done ?_
    refine th_n ?_
    refine condF rfl ?_
    refine skip ?_
    refine th_n ?_
    refine seq ?_
    refine region ?_
    refine st (g_loadA (vs := [U64 (k.load.n + 1#64), slv 24 z]) ag_73 rfl rfl (Cells.part (.there (.there (.there (.there (.there (.here)))))) rfl)) rfl ?_
    refine sq rfl (o_storeA (cs' := [U64 (k.load.n + 1#64), slv 24 z]) sz_73 rfl rfl rfl (by simp [Value.oneCell']) (.there (.there (.there (.there (.there (.there (.there (.there (.there (.here)))))))))) (Nat.le_of_ble_eq_true rfl) rfl ?_)
    refine st (g_assign rfl) rfl ?_
    refine done ?_
    refine th_n ?_
    refine ret ?_
    exact retG rfl (fun a w2 ha hw2 => ⟨resc2 ha rfl rfl rfl ag_73 rfl (hw2.get .here), (z, r3), ⟨⟨hz.2.1, by show l.length ≤ z.2; omega⟩, hr3⟩, (by simp only [ldv, hl]), by simp only [ldR, hl]; exact Sat.left (hw2.split (.cons (.there (.there (.there (.there (.there (.there (.there (.here)))))))) (.cons (.there (.here)) (.cons (.there (.here)) (.cons (.there (.here)) (.cons (.there (.here)) .nil))))))⟩)
  · refine ⟨_, rfl, rfl, ?_⟩
    refine o_alloc (zs := [U64 0#64, .slice none 0 0]) zr_73 rfl (fun b9 => ?_)
    refine An'.on0 (.cons (.there (.here)) .nil) .nil rfl ?_
    refine An'.oneG 4 (by decide +kernel) rfl rfl ?_
    refine o_call Tryd.func69 rfl rfl rfl .nil (fun w hw hA => f69_spec p 24 c l hl hpn (by decide) w (RdS.ofOld (A := []) hr hw .nil).c) rfl (fun z hz => ?_)
    refine An'.on0 (.cons (.there (.there (.here))) .nil) .nil rfl ?_
    refine An'.q 5 [] rfl (by decide +kernel) rfl rfl (g_build rfl (bu_73 _ _ rfl)) rfl ?_
    refine An'.oneG 7 (by decide +kernel) rfl rfl ?_
    refine o_storeA (cs' := [U64 (k.load.n + 1#64), slv 24 z]) sz_73 rfl rfl rfl (by simp [Value.oneCell']) (.there (.here)) (Nat.le_of_ble_eq_true rfl) rfl ?_
    refine An'.on0 (.cons (.there (.there (.here))) .nil) .nil rfl ?_
    refine An'.fin (by decide +kernel) ?_
    refine th_n ?_
    refine seq ?_
    refine region ?_
    refine st (g_loadA (vs := [U64 (k.load.n + 1#64), slv 24 z]) ag_73 rfl rfl (Cells.part .here rfl)) rfl ?_
    refine sq rfl (o_call Tryd.func45 rfl rfl rfl .nil (fun w hw hA => f45_good (k.load.n + 1#64) z.1 24 z.2 l hl hz.2.1 hz.2.2 (max_succ hmx) rfl w (RdC.ofVec (hw.get (.there (.here)))) (Gl.ofOld (A := []) hG hw .nil)) rfl (fun u hu => ?_))
    refine st (g_move rfl) rfl ?_
    refine st (g_extract rfl rfl) rfl ?_
    refine st (g_extract rfl rfl) rfl ?_
    refine st (g_assign rfl) rfl ?_
    refine st (g_assign rfl) rfl ?_
    refine done ?_
    refine th_n ?_
    refine seq ?_
    refine seq ?_
    refine region ?_
    refine st (g_move rfl) rfl ?_
    refine st (g_T rfl rfl rfl (by decide)) rfl ?_
    refine done ?_
    refine th_n ?_
    refine condT rfl ?_
    refine region ?_
    refine st (g_move rfl) rfl ?_
    refine st (g_move rfl) rfl ?_
    refine st (g_move rfl) rfl ?_
    refine sq rfl (o_call Tryd.func53 rfl rfl rfl (.cons (.there (.there (.there (.there (.there (.here)))))) (.cons (.there (.there (.there (.there (.there (.here)))))) (.cons (.there (.there (.there (.there (.there (.here)))))) (.cons (.there (.there (.there (.there (.there (.here)))))) .nil)))) (fun w hw hA => f53_spec b k hk r hro k.load.nx u.1 64 u.2 (encW (k.load.n + 1#64) l) (encW_length _ hl) w (by assumption) (RdS.ofVec hw (.cons (.there (.there (.there (.there (.there (.here)))))) (.cons (.there (.there (.there (.there (.there (.here)))))) (.cons (.there (.there (.there (.there (.there (.here)))))) (.cons (.there (.there (.there (.there (.there (.here)))))) .nil)))) .here)) rfl (fun r2 hr2 => ?_))
    refine st (g_assign rfl) rfl ?_
    refine done ?_
    refine th_n ?_
    refine seq ?_
    refine seq ?_
    refine region ?_
    refine st (g_move rfl) rfl ?_
    refine st (g_T rfl rfl rfl (by simpa using h1)) rfl ?_
    refine done ?_
    refine th_n ?_
    refine condT rfl ?_
    refine region ?_
    refine st (g_move rfl) rfl ?_
    refine sq rfl (o_call Tryd.func81 rfl rfl rfl (.cons .here (.cons .here (.cons .here (.cons .here .nil)))) (fun w hw hA => f81_spec b (k.write k.load.nx (encW (k.load.n + 1#64) l)).2 (k.write_ok hk k.load.nx (encW (k.load.n + 1#64) l)) r2 hr2 w (by assumption)) rfl (fun r3 hr3 => ?_))
    refine st (g_assign rfl) rfl ?_
    refine done ?_
    refine th_n ?_
    refine seq ?_
    refine seq ?_
    refine region ?_
    refine st (g_move rfl) rfl ?_
    refine st (g_F rfl rfl rfl (by simpa using h2)) rfl ?_
    refine done ?_
    refine th_n ?_
    refine condF rfl ?_
    refine skip ?_
    refine th_n ?_
    refine seq ?_
    refine region ?_
    refine st (g_loadA (vs := [U64 (k.load.n + 1#64), slv 24 z]) ag_73 rfl rfl (Cells.part (.there (.there (.there (.there (.there (.here)))))) rfl)) rfl ?_
    refine sq rfl (o_storeA (cs' := [U64 (k.load.n + 1#64), slv 24 z]) sz_73 rfl rfl rfl (by simp [Value.oneCell']) (.there (.there (.there (.there (.there (.there (.there (.there (.there (.here)))))))))) (Nat.le_of_ble_eq_true rfl) rfl ?_)
    refine st (g_assign rfl) rfl ?_
    refine done ?_
    refine th_n ?_
    refine ret ?_
    exact retG rfl (fun a w2 ha hw2 => ⟨resc2 ha rfl rfl rfl ag_73 rfl (hw2.get .here), (z, r3), ⟨⟨hz.2.1, by show l.length ≤ z.2; omega⟩, hr3⟩, (by simp only [ldv, hl]), by simp only [ldR, hl]; exact Sat.left (hw2.split (.cons (.there (.there (.there (.there (.there (.there (.there (.here)))))))) (.cons (.there (.here)) (.cons (.there (.here)) (.cons (.there (.here)) (.cons (.there (.here)) .nil))))))⟩)

theorem f39_spec (b : Nat) (k : Dk) (hk : k.ok) (r : Rp) (hro : r.ok k) (p : Option Addr) (n c : Nat) (l : List UInt8) (hl : l.length = n) (hpn : p = none → n = 0 ∧ c = 0) (hnc : n ≤ c) (w : World) (hA : Sat w (fps (dkR b k r)) (dkR b k r) w) (hG : Gl w (fps (dkR b k r))) (hr : RdS w (fps (dkR b k r)) p (l.map B8)) : Calls Tryd.prog 39 [.pointer (some ⟨b, 0, none⟩), .slice p n c].toArray w (fun en w2 => ∃ x : (Option Addr × Nat) × Rp, (ldOk (k.save l).1 x.1 ∧ x.2.ok (k.save l).2) ∧ en = .returned (.tuple #[.agg (ldv (k.save l).1 x.1).toArray, I64 (k.save l).1.w]) ∧ Sat w (fps (dkR b k r)) (ldR (k.save l).1 x.1 :: dkR b (k.save l).2 x.2) w2) := by
  by_cases hw0 : k.load.w = 0
  · by_cases h24 : n = 24
    · by_cases hmx : k.load.n = 18446744073709551615#64
      · have e : k.save l = (Ld.err 180, k) := by unfold Dk.save; rw [if_neg (by simpa using hw0), if_pos (.inr hmx)]
        rw [e]; exact f39_c b k hk r hro p n c l hl hpn hnc w hA hG hr hw0 h24 hmx
      · have hln : ¬ (l.length ≠ 24 ∨ k.load.n = 18446744073709551615#64) := by rintro (h | h); omega; exact hmx h
        by_cases h1 : (k.write k.load.nx (encW (k.load.n + 1#64) l)).1 = 0
        · by_cases h2 : (k.write k.load.nx (encW (k.load.n + 1#64) l)).2.flush.1 = 0
          · have e : k.save l = (Ld.mk (k.load.n + 1#64) l 0 0 0, (k.write k.load.nx (encW (k.load.n + 1#64) l)).2.flush.2) := by unfold Dk.save; rw [if_neg (by simpa using hw0), if_neg hln]; simp only [h1, h2, ne_eq, not_true_eq_false, if_false]
            rw [e]; exact f39_f b k hk r hro p n c l hl hpn hnc w hA hG hr hw0 h24 hmx h1 h2
          · have e : k.save l = (Ld.err (k.write k.load.nx (encW (k.load.n + 1#64) l)).2.flush.1, (k.write k.load.nx (encW (k.load.n + 1#64) l)).2.flush.2) := by unfold Dk.save; rw [if_neg (by simpa using hw0), if_neg hln]; simp only [h1, h2, ne_eq, not_true_eq_false, if_false, not_false_eq_true, if_true]
            rw [e]; exact f39_e b k hk r hro p n c l hl hpn hnc w hA hG hr hw0 h24 hmx h1 h2
        · have e : k.save l = (Ld.err (k.write k.load.nx (encW (k.load.n + 1#64) l)).1, (k.write k.load.nx (encW (k.load.n + 1#64) l)).2) := by unfold Dk.save; rw [if_neg (by simpa using hw0), if_neg hln]; simp only [h1, ne_eq, not_false_eq_true, if_true]
          rw [e]; exact f39_d b k hk r hro p n c l hl hpn hnc w hA hG hr hw0 h24 hmx h1
    · have e : k.save l = (Ld.err 180, k) := by unfold Dk.save; rw [if_neg (by simpa using hw0), if_pos (.inl (by omega))]
      rw [e]; exact f39_b b k hk r hro p n c l hl hpn hnc w hA hG hr hw0 h24
  · have e : k.save l = (Ld.err k.load.w, k) := by unfold Dk.save; rw [if_pos hw0]
    rw [e]; exact f39_a b k hk r hro p n c l hl hpn hnc w hA hG hr hw0

end Go.Proofs.YtokhediaibdkjaaDoor

/-! From S8 -/
/- The walks of the law's data, all. (printed by gen1.py) -/
namespace Go.Proofs.YtokhediaibdkjaaDoor
open Go.Pm Go.RowKit
set_option maxRecDepth 100000
end Go.Proofs.YtokhediaibdkjaaDoor

/-! From S9 -/
/- The walk of the law's all. (printed by gen1.py) -/
namespace Go.Proofs.YtokhediaibdkjaaDoor
open Go.Pm Go.RowKit
set_option maxRecDepth 100000
end Go.Proofs.YtokhediaibdkjaaDoor

/-! From SA -/
/- The walk of the law's loads. (printed by gen1.py) -/
namespace Go.Proofs.YtokhediaibdkjaaDoor
open Go.Pm Go.RowKit
set_option maxRecDepth 100000
end Go.Proofs.YtokhediaibdkjaaDoor

/-! From SB -/
/- Law18's alive: the facts. (printed by gen1.py) -/
namespace Go.Proofs.YtokhediaibdkjaaDoor
open Go.Pm Go.RowKit
set_option maxRecDepth 100000
end Go.Proofs.YtokhediaibdkjaaDoor

/-! From SC -/
/- The walk of law18's alive. (printed by gen1.py) -/
namespace Go.Proofs.YtokhediaibdkjaaDoor
open Go.Pm Go.RowKit
set_option maxRecDepth 100000
theorem Dk.save_ok {k : Dk} (hk : k.ok) (l : List UInt8) : (k.save l).2.ok := by
  unfold Dk.save
  split
  · exact hk
  · split
    · exact hk
    · have hw := k.write_ok hk k.load.nx (encW (k.load.n + 1#64) l)
      dsimp only
      split
      · exact hw
      · split
        · exact Dk.flush_ok hw
        · exact Dk.flush_ok hw
end Go.Proofs.YtokhediaibdkjaaDoor

/-! From P1 -/
/- Plain facts: eight bytes and their number; a sector and its record. -/
namespace Go.Proofs.YtokhediaibdkjaaDoor
open Go.Pm Go.RowKit
set_option maxRecDepth 100000

/-- Bytes' number, as a fold. -/
def foldW (l : List UInt8) (n : BitVec 64) : BitVec 64 := l.foldl (fun n x => (n <<< 8) ||| BitVec.ofNat 64 x.toNat) n
theorem iter_whole (t : List UInt8) : ∀ i, i ≤ t.length → iter (wholeStep t) i 0#64 = foldW (t.take i) 0#64
  | 0, _ => by rw [List.take_zero]; rfl
  | i + 1, h => by
    show wholeStep t i (iter (wholeStep t) i 0#64) = _
    rw [iter_whole t i (by omega), take_one (getD_get (d := (0 : UInt8)) (by omega)), foldW, foldW, List.foldl_append]
    rfl
theorem foldW_lead : ∀ l : List UInt8, foldW (l.drop (lead l)) 0#64 = foldW l 0#64
  | [] => rfl
  | x :: l => by
    simp only [lead]
    split
    · rename_i h
      subst h
      rw [List.drop_succ_cons, foldW_lead l]
      rfl
    · rfl
theorem wholeW_fold (l : List UInt8) : wholeW l = foldW l 0#64 := by
  have h := lead_le l
  rw [wholeW, iter_whole _ _ (by rw [List.length_drop]; omega), List.take_of_length_le (by rw [List.length_drop]; omega), foldW_lead]
theorem step_nat {n : BitVec 64} {b : Nat} (hb : b < 256) (hn : n.toNat < 72057594037927936) : ((n <<< 8) ||| BitVec.ofNat 64 b).toNat = n.toNat * 256 + b := by
  have h1 : n.toNat <<< 8 < 18446744073709551616 := by rw [Nat.shiftLeft_eq]; omega
  rw [BitVec.toNat_or, BitVec.toNat_shiftLeft, BitVec.toNat_ofNat, Nat.mod_eq_of_lt h1, Nat.mod_eq_of_lt (show b < 2 ^ 64 by omega), ← Nat.shiftLeft_add_eq_or_of_lt (show b < 2 ^ 8 by omega), Nat.shiftLeft_eq]
theorem byteK_nat (n : BitVec 64) (k : Nat) : (byteK n k).toNat = n.toNat / 2 ^ (8 * k) % 256 := by
  rw [byteK, UInt8.toNat_ofNat', BitVec.toNat_ushiftRight, Nat.shiftRight_eq_div_pow]
theorem step_byte (n : BitVec 64) (k : Nat) : ((n >>> (8 * (k + 1))) <<< 8) ||| BitVec.ofNat 64 (byteK n k).toNat = n >>> (8 * k) := by
  have hn := n.isLt
  have e0 : n.toNat / 2 ^ (8 * (k + 1)) = n.toNat / 2 ^ (8 * k) / 256 := by
    rw [show 8 * (k + 1) = 8 * k + 8 by omega, Nat.pow_add, Nat.div_div_eq_div_mul]
  have e1 : (n >>> (8 * (k + 1))).toNat = n.toNat / 2 ^ (8 * k) / 256 := by
    rw [BitVec.toNat_ushiftRight, Nat.shiftRight_eq_div_pow, e0]
  have h2 : n.toNat / 2 ^ (8 * k) ≤ n.toNat := Nat.div_le_self _ _
  apply BitVec.eq_of_toNat_eq
  rw [step_nat (byteK n k).toNat_lt (by rw [e1]; omega), e1, byteK_nat, BitVec.toNat_ushiftRight, Nat.shiftRight_eq_div_pow]
  omega
theorem wholeW_be8 (n : BitVec 64) : wholeW (be8 n) = n := by
  rw [wholeW_fold]
  have e8 : (0#64 : BitVec 64) = n >>> (8 * (7 + 1)) := by
    apply BitVec.eq_of_toNat_eq
    rw [shr_64]
    rfl
  have h : foldW (be8 n) (n >>> (8 * (7 + 1))) = n >>> (8 * 0) := by
    simp only [foldW, be8, List.foldl_cons, List.foldl_nil, step_byte]
  rw [← e8] at h
  rw [h]
  simp
theorem be8_inj {n m : BitVec 64} (h : be8 n = be8 m) : n = m := by rw [← wholeW_be8 n, h, wholeW_be8]

/-! ### A sector's parts -/
theorem w8_enc (n : BitVec 64) (d : List UInt8) : w8 (encW n d) = be8 n := by
  simp [w8, encW, frontW, headB, be8]
theorem d24_enc (n : BitVec 64) {d : List UInt8} (h : d.length = 24) : d24 (encW n d) = d := by
  simp only [d24, encW, frontW, headB, be8, List.append_assoc, List.cons_append, List.nil_append, List.drop_succ_cons, List.drop_zero]
  rw [List.take_append_of_le_length (by omega), List.take_of_length_le (by omega)]
theorem decW_enc {n : BitVec 64} (h0 : n ≠ 0#64) {d : List UInt8} (h : d.length = 24) : decW (encW n d) = some (n, d) := by
  have e : wholeW (w8 (encW n d)) = n := by rw [w8_enc, wholeW_be8]
  rw [decW_some (encW_length n h) (by rw [e]; exact h0) (by rw [e, d24_enc n h]), e, d24_enc n h]
theorem decW_spec {l d : List UInt8} {m : BitVec 64} (h : decW l = some (m, d)) : l = encW m d ∧ m ≠ 0#64 ∧ d.length = 24 ∧ l.length = 64 := by
  have hd := decW_len h
  unfold decW at h
  split at h
  · rename_i hc
    simp only [Option.some.injEq, Prod.mk.injEq] at h
    obtain ⟨rfl, rfl⟩ := h
    exact ⟨hc.2.2.symm, hc.2.1, hd, hc.1⟩
  · cases h
/-- All ahead of the tail. -/
def bodyW (n : BitVec 64) (d : List UInt8) : List UInt8 := frontW n d ++ (hashOf 256 (frontW n d)).take 16
theorem bodyW_length (n : BitVec 64) {d : List UInt8} (h : d.length = 24) : (bodyW n d).length = 52 := by
  rw [bodyW, List.length_append, frontW_length n h, List.length_take, hash256_length]; decide
theorem encW_body (n : BitVec 64) (d : List UInt8) : encW n d = bodyW n d ++ be8 n ++ List.replicate 4 0 := rfl
/-! ### The tail, byte by byte -/
theorem used {p q : Prop} (_ : p) (h : q) : q := h
theorem decR_good {l : List UInt8} (h : (decR l).2.2 = 0) : (decR l).1 ≠ 0#64 ∧ (decR l).2.1.length = 24 ∧ encW (decR l).1 (decR l).2.1 = l ∧ l.length = 64 := by
  unfold decR at h ⊢
  cases hd : decW l with
  | none => rw [hd] at h; exact absurd h (by decide)
  | some x =>
    obtain ⟨m, d⟩ := x
    obtain ⟨h1, h2, h3, h4⟩ := decW_spec hd
    exact ⟨h2, h3, h1.symm, h4⟩
end Go.Proofs.YtokhediaibdkjaaDoor
