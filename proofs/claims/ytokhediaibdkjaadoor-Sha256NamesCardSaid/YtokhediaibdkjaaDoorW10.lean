/- A state by the bytes that it took; the walk of Of. (printed by gen1.py) -/
import Derived.Test.YtokhediaibdkjaaDoorW9
namespace Go.Proofs.YtokhediaibdkjaaDoor
open Go.Pm Go.RowKit
set_option maxRecDepth 100000
theorem iter_add {α : Type} (f : Nat → α → α) (m : Nat) (s : α) : ∀ k, iter f (m + k) s = iter (fun j => f (m + j)) k (iter f m s)
  | 0 => rfl
  | k + 1 => by show f (m + k) (iter f (m + k) s) = _; rw [iter_add f m s k]; rfl
theorem iter_congr {α : Type} {f g : Nat → α → α} {s : α} : ∀ n, (∀ i, i < n → f i = g i) → iter f n s = iter g n s
  | 0, _ => rfl
  | n + 1, h => by show f n (iter f n s) = g n (iter g n s); rw [iter_congr n (fun i hi => h i (by omega)), h n (by omega)]

/-- What a state is that took these bytes. -/
def shaH (fst : List (BitVec 32)) (all : List UInt8) : List (BitVec 32) := absorb all (all.length / 64) fst
def shaR (all : List UInt8) : List UInt8 := all.drop (64 * (all.length / 64))
def digest (size : Nat) (fst : List (BitVec 32)) (all : List UInt8) : List UInt8 := sumW size (shaH fst all) (shaR all) (BitVec.ofNat 64 all.length)
theorem shaR_length (all : List UInt8) : (shaR all).length = all.length - 64 * (all.length / 64) := by simp [shaR]
theorem shaR_lt (all : List UInt8) : (shaR all).length < 64 := by rw [shaR_length]; omega
theorem shaH_length {fst : List (BitVec 32)} {all : List UInt8} (h : fst.length = 8) : (shaH fst all).length = 8 := absorb_length h
theorem digest_length {size : Nat} {fst : List (BitVec 32)} {all : List UInt8} (h : size ≤ 32) : (digest size fst all).length = size := sumW_length h

theorem blk_low {all bs : List UInt8} {i : Nat} (hi : i < all.length / 64) : blkOf (all ++ bs) i = blkOf all i := by
  unfold blkOf
  rw [List.drop_append_of_le_length (by omega), List.take_append_of_le_length (by rw [List.length_drop]; omega)]
theorem blk_high (all bs : List UInt8) (j : Nat) : blkOf (all ++ bs) (all.length / 64 + j) = blkOf (shaR all ++ bs) j := by
  unfold blkOf shaR
  have h : all ++ bs = all.take (64 * (all.length / 64)) ++ (all.drop (64 * (all.length / 64)) ++ bs) := by rw [← List.append_assoc, List.take_append_drop]
  conv => lhs; rw [h]
  have hl : (all.take (64 * (all.length / 64))).length = 64 * (all.length / 64) := by rw [List.length_take]; omega
  rw [show 64 * (all.length / 64 + j) = (all.take (64 * (all.length / 64))).length + 64 * j by rw [hl]; omega, List.drop_length_add_append]
theorem blocks_append (all bs : List UInt8) : (all ++ bs).length / 64 = all.length / 64 + (shaR all ++ bs).length / 64 := by
  rw [List.length_append, List.length_append, shaR_length]; omega
theorem shaH_append (fst : List (BitVec 32)) (all bs : List UInt8) : absorb (shaR all ++ bs) ((shaR all ++ bs).length / 64) (shaH fst all) = shaH fst (all ++ bs) := by
  have e1 : shaH fst (all ++ bs) = iter (fun i h => turnW h (spreadW (blkOf (all ++ bs) i))) (all.length / 64 + (shaR all ++ bs).length / 64) fst := by
    show absorb (all ++ bs) ((all ++ bs).length / 64) fst = _
    rw [blocks_append all bs]; rfl
  rw [e1, iter_add]
  unfold shaH
  have h1 : iter (fun i h => turnW h (spreadW (blkOf (all ++ bs) i))) (all.length / 64) fst = absorb all (all.length / 64) fst := iter_congr _ fun i hi => by rw [blk_low hi]
  rw [h1]
  exact iter_congr _ fun j _ => by rw [blk_high]
theorem shaR_append (all bs : List UInt8) : (shaR all ++ bs).drop (64 * ((shaR all ++ bs).length / 64)) = shaR (all ++ bs) := by
  have e1 : shaR (all ++ bs) = (all ++ bs).drop (64 * (all.length / 64) + 64 * ((shaR all ++ bs).length / 64)) := by
    show (all ++ bs).drop (64 * ((all ++ bs).length / 64)) = _
    rw [blocks_append, Nat.mul_add]
  rw [e1, ← List.drop_drop]
  congr 1
  rw [List.drop_append_of_le_length (by omega)]; rfl

/-- A state that took these bytes. -/
abbrev stA (b size : Nat) (fst : List (BitVec 32)) (all : List UInt8) (x : Option Addr × Nat) : List Res := stRes b size (shaH fst all) (shaR all).length x (shaR all) (BitVec.ofNat 64 all.length)
abbrev stP (all : List UInt8) (x : Option Addr × Nat) : Prop := (x.1 = none → x.2 = 0) ∧ (shaR all).length ≤ x.2

theorem write_spec (b size : Nat) (hz : size ≠ 0) (fst : List (BitVec 32)) (h8 : fst.length = 8) (all : List UInt8) (x : Option Addr × Nat) (hx : stP all x) (p : Option Addr) (k c : Nat) (bs : List UInt8) (hb : bs.length = k) (hp : p = none → c = 0) (hkc : k ≤ c) (hm : k ≤ 70368744177000) (w : World)
    (hA : Sat w (fps (stA b size fst all x)) (stA b size fst all x) w) (hr : RdS w (fps (stA b size fst all x)) p (bs.map B8)) (hG : Gl w (fps (stA b size fst all x))) :
    Calls Tryd.prog 20 [.pointer (some ⟨b, 0, none⟩), .slice p k c].toArray w (fun en w2 => ∃ z : Option Addr × Nat, stP (all ++ bs) z ∧ en = .returned (.tuple #[]) ∧ Sat w (fps (stA b size fst all x)) (stA b size fst (all ++ bs) z) w2) := by
  have hlt := shaR_lt all
  have h := f20_spec b size (by omega) (shaH fst all) (shaH_length h8) (shaR all).length x (shaR all) rfl hx.1 hx.2 (BitVec.ofNat 64 all.length) p k c bs hb hp hkc (by rw [List.length_append]; omega) w hA hr hG
  have hl : (shaR all ++ bs).length - 64 * ((shaR all ++ bs).length / 64) = (shaR (all ++ bs)).length := by rw [← shaR_append, List.length_drop]
  have ht : BitVec.ofNat 64 all.length + BitVec.ofNat 64 k = BitVec.ofNat 64 (all ++ bs).length := by rw [List.length_append, hb, BitVec.ofNat_add]
  rw [shaH_append, shaR_append, hl, ht] at h
  exact h
theorem sum_spec (b size : Nat) (hz : size ≠ 0) (hz2 : size ≤ 32) (fst : List (BitVec 32)) (h8 : fst.length = 8) (all : List UInt8) (x : Option Addr × Nat) (hx : stP all x) (w : World)
    (hA : Sat w (fps (stA b size fst all x)) (stA b size fst all x) w) (hG : Gl w (fps (stA b size fst all x))) :
    Calls Tryd.prog 21 [.pointer (some ⟨b, 0, none⟩)].toArray w (fun en w2 => ∃ o : Nat × List Value, True ∧ en = .returned (.slice (some ⟨o.1, 0, none⟩) size size) ∧
      Sat w (fps (stA b size fst all x)) ([blk o.1 5 ((digest size fst all).map B8 ++ o.2)] ++ stA b size fst all x) w2) :=
  f21_spec b size hz hz2 (shaH fst all) (shaH_length h8) (shaR all).length x (shaR all) rfl (shaR_lt all) hx.1 hx.2 _ w hA hG
theorem copy_spec (b size : Nat) (hz : size ≠ 0) (fst : List (BitVec 32)) (all : List UInt8) (x : Option Addr × Nat) (hx : stP all x) (w : World) (hA : Sat w (fps (stA b size fst all x)) (stA b size fst all x) w) :
    Calls Tryd.prog 25 [.pointer (some ⟨b, 0, none⟩)].toArray w (fun en w2 => ∃ y : Nat × (Option Addr × Nat), stP all y.2 ∧ en = .returned (.pointer (some ⟨y.1, 0, none⟩)) ∧
      Sat w (fps (stA b size fst all x)) (stA y.1 size fst all y.2 ++ stA b size fst all x) w2) := by
  have hlt := shaR_lt all
  refine (f25_spec b size (shaH fst all) (BitVec.ofNat 64 all.length) (shaR all).length x (shaR all) (by omega) rfl (fun h => ⟨by have := hx.1 h; have := hx.2; omega, hx.1 h⟩) (by omega) w hA).mono ?_
  rintro en w2 ⟨y, hy, he, hs⟩
  refine ⟨y, ⟨fun h => (hy h).2, ?_⟩, he, hs⟩
  have hv : w2.ownsRow 0 5 1 (slv (shaR all).length y.2) (shaR all).length ((shaR all).map B8) := hs.holds (vec (slv (shaR all).length y.2) 5 1 (shaR all).length ((shaR all).map B8)) (by simp)
  exact le_of_vec hv
theorem new_spec (bits : Nat) (hbits : bits = 224 ∨ bits = 256) (w : World) (hG : Gl w []) : Calls Tryd.prog 19 [I64 bits].toArray w (fun en w2 => ∃ b : Nat, True ∧ en = .returned (.tuple #[.pointer (some ⟨b, 0, none⟩), I64 0]) ∧ Sat w (fps []) (stA b (bits / 8) (if bits = 224 then first224 else first256) [] (none, 0)) w2) := by
  rcases hbits with rfl | rfl
  · refine (f19_224 w hG).mono ?_
    rintro en w2 ⟨b, _, he, hs⟩
    exact ⟨b, trivial, he, (new0_vec (T := 5) (s := 1) hs ⟨rfl, .inl ⟨rfl, rfl⟩⟩).perm (List.Perm.swap _ _ _)⟩
  · refine (f19_256 w hG).mono ?_
    rintro en w2 ⟨b, _, he, hs⟩
    exact ⟨b, trivial, he, (new0_vec (T := 5) (s := 1) hs ⟨rfl, .inl ⟨rfl, rfl⟩⟩).perm (List.Perm.swap _ _ _)⟩
def fstOf (bits : Nat) : List (BitVec 32) := if bits = 224 then first224 else first256
theorem fstOf_length (bits : Nat) : (fstOf bits).length = 8 := by unfold fstOf; split <;> rfl
def hashOf (bits : Nat) (bs : List UInt8) : List UInt8 := digest (bits / 8) (fstOf bits) bs


theorem f17_spec (bits : Nat) (hbits : bits = 224 ∨ bits = 256) (p : Option Addr) (k c : Nat) (bs : List UInt8) (hb : bs.length = k) (hp : p = none → c = 0) (hkc : k ≤ c) (hm : k ≤ 70368744177000) (w : World) (hr : RdC w p (bs.map B8)) (hG : Gl w []) :
    Calls Tryd.prog 17 [I64 bits, .slice p k c].toArray w (fun en w2 => ∃ o : Nat × List Value, True ∧ en = .returned (.tuple #[.slice (some ⟨o.1, 0, none⟩) (bits / 8) (bits / 8), I64 0]) ∧ Sat w (fps []) [blk o.1 5 ((hashOf bits bs).map B8 ++ o.2)] w2) := by
  refine enter (n := 21) Tryd.func17 rfl rfl rfl (Sat.refl w) ?_
  refine seq ?_
  refine region ?_
  refine st (g_assign rfl) rfl ?_
  refine st (g_assign rfl) rfl ?_
  refine done ?_
  refine th_n ?_
  refine seq ?_
  refine region ?_
  refine st (g_move rfl) rfl ?_
  refine sq rfl (o_call Tryd.func19 rfl rfl rfl .nil (fun w hw hA => new_spec bits hbits w (Gl.ofOld (A := []) hG hw .nil)) rfl (fun b _ => ?_))
  refine st (g_move rfl) rfl ?_
  refine st (g_extract rfl rfl) rfl ?_
  refine st (g_extract rfl rfl) rfl ?_
  refine st (g_assign rfl) rfl ?_
  refine st (g_assign rfl) rfl ?_
  refine done ?_
  refine th_n ?_
  refine seq ?_
  refine seq ?_
  refine region ?_
  refine st (g_move rfl) rfl ?_
  refine st (g_F rfl rfl rfl (by decide)) rfl ?_
  refine done ?_
  refine th_n ?_
  refine condF rfl ?_
  refine skip ?_
  refine th_n ?_
  refine seq ?_
  refine region ?_
  refine st (g_move rfl) rfl ?_
  refine st (g_move rfl) rfl ?_
  refine sq rfl (o_call Tryd.func20 rfl rfl rfl (.cons .here (.cons .here .nil)) (fun w hw hA => write_spec b (bits / 8) (by omega) (fstOf bits) (fstOf_length bits) [] (none, 0) ⟨fun _ => rfl, Nat.zero_le _⟩ p k c bs hb hp hkc hm w hA (RdS.ofOld hr.s hw (.cons .here (.cons .here .nil))) (Gl.ofOld hG hw (.cons .here (.cons .here .nil)))) rfl (fun z hz => ?_))
  refine done ?_
  refine th_n ?_
  refine seq ?_
  refine region ?_
  refine st (g_move rfl) rfl ?_
  refine sq rfl (o_call Tryd.func21 rfl rfl rfl (.cons .here (.cons .here .nil)) (fun w hw hA => sum_spec b (bits / 8) (by omega) (by omega) (fstOf bits) (fstOf_length bits) bs z hz w hA (Gl.ofOld hG hw (.cons .here (.cons .here .nil)))) rfl (fun o _ => ?_))
  refine st (g_assign rfl) rfl ?_
  refine st (g_assign rfl) rfl ?_
  refine done ?_
  refine th_n ?_
  refine ret ?_
  exact ret2 rfl rfl rfl rfl (fun w2 hw2 => ⟨o, trivial, rfl, ((hw2.split (A := [blk o.1 5 ((hashOf bits bs).map B8 ++ o.2)]) (.cons .here .nil)).perm List.perm_append_comm).dropA _⟩)

theorem f17_bad (size : Int) (h1 : size ≠ 224) (h2 : size ≠ 256) (v : Value) (w : World) : Calls Tryd.prog 17 [I64 size, v].toArray w (fun en w2 => en = .returned (.tuple #[.slice none 0 0, I64 2]) ∧ Sat w [] [] w2) := by
  refine enter (n := 21) Tryd.func17 rfl rfl rfl (Sat.refl w) ?_
  refine seq ?_
  refine region ?_
  refine st (g_assign rfl) rfl ?_
  refine st (g_assign rfl) rfl ?_
  refine done ?_
  refine th_n ?_
  refine seq ?_
  refine region ?_
  refine st (g_move rfl) rfl ?_
  refine sq rfl (o_callP Tryd.func19 rfl rfl rfl (fun w hw => f19_bad size h1 h2 w) rfl ?_)
  refine st (g_move rfl) rfl ?_
  refine st (g_extract rfl rfl) rfl ?_
  refine st (g_extract rfl rfl) rfl ?_
  refine st (g_assign rfl) rfl ?_
  refine st (g_assign rfl) rfl ?_
  refine done ?_
  refine th_n ?_
  refine seq ?_
  refine seq ?_
  refine region ?_
  refine st (g_move rfl) rfl ?_
  refine st (g_T rfl rfl rfl (by decide)) rfl ?_
  refine done ?_
  refine th_n ?_
  refine condT rfl ?_
  refine seq ?_
  refine region ?_
  refine st (g_move rfl) rfl ?_
  refine st (g_assign rfl) rfl ?_
  refine st (g_assign rfl) rfl ?_
  refine done ?_
  refine th_n ?_
  refine ret ?_
  refine th_r ?_
  exact ret2 rfl rfl rfl rfl (fun w2 hw2 => ⟨rfl, hw2⟩)

theorem f20_nil (v : Value) (w : World) : Calls Tryd.prog 20 [.pointer none, v].toArray w (fun en w2 => en = .returned (.tuple #[]) ∧ Sat w [] [] w2) := by
  refine enterM (n := 49) Tryd.func20 rfl rfl rfl (Sat.refl w) ?_
  refine seq ?_
  refine region ?_
  refine sq rfl (o_box rfl rfl rfl (fun b2 => ?_))
  refine done ?_
  refine th_n ?_
  refine seq ?_
  refine seq ?_
  refine region ?_
  refine st (g_load sc_29 rfl (Cell.own .here (rfl))) rfl ?_
  refine sq rfl (o_callP Tryd.func65 rfl rfl rfl (fun w hw => f65_nil w) rfl ?_)
  refine done ?_
  refine th_n ?_
  refine condT rfl ?_
  refine ret ?_
  refine th_r ?_
  exact retM0 (vf := fun _ _ => .tuple #[]) rfl (fun a w2 _ hw2 => ⟨results_none rfl _ _ _, rfl, hw2.drop⟩)

theorem f20_zero (b : Nat) (v : Value) (w : World) (hc : w.cell? ⟨b, 0, none⟩ = some (I64 0)) : Calls Tryd.prog 20 [.pointer (some ⟨b, 0, none⟩), v].toArray w (fun en w2 => en = .returned (.tuple #[]) ∧ Sat w [] [] w2) := by
  refine enterM (n := 49) Tryd.func20 rfl rfl rfl (Sat.refl w) ?_
  refine seq ?_
  refine region ?_
  refine sq rfl (o_box rfl rfl rfl (fun b2 => ?_))
  refine done ?_
  refine th_n ?_
  refine seq ?_
  refine seq ?_
  refine region ?_
  refine st (g_load sc_29 rfl (Cell.own .here (rfl))) rfl ?_
  refine sq rfl (o_callP (v := .bool true) Tryd.func65 rfl rfl rfl (fun w hw => f65_spec b 0 w (hw.oldCell hc (by simp))) rfl ?_)
  refine done ?_
  refine th_n ?_
  refine condT rfl ?_
  refine ret ?_
  refine th_r ?_
  exact retM0 (vf := fun _ _ => .tuple #[]) rfl (fun a w2 _ hw2 => ⟨results_none rfl _ _ _, rfl, hw2.drop⟩)

theorem f21_nil (w : World) : Calls Tryd.prog 21 [.pointer none].toArray w (fun en w2 => en = .returned (.slice none 0 0) ∧ Sat w [] [] w2) := by
  refine enter (n := 74) Tryd.func21 rfl rfl rfl (Sat.refl w) ?_
  refine seq ?_
  refine region ?_
  refine st (g_assign rfl) rfl ?_
  refine done ?_
  refine th_n ?_
  refine seq ?_
  refine seq ?_
  refine region ?_
  refine st (g_move rfl) rfl ?_
  refine sq rfl (o_callP Tryd.func65 rfl rfl rfl (fun w hw => f65_nil w) rfl ?_)
  refine done ?_
  refine th_n ?_
  refine condT rfl ?_
  refine seq ?_
  refine region ?_
  refine st (g_assign rfl) rfl ?_
  refine done ?_
  refine th_n ?_
  refine ret ?_
  refine th_r ?_
  exact ret1 rfl rfl rfl (fun w2 hw2 => ⟨rfl, hw2⟩)

theorem f21_zero (b : Nat) (w : World) (hc : w.cell? ⟨b, 0, none⟩ = some (I64 0)) : Calls Tryd.prog 21 [.pointer (some ⟨b, 0, none⟩)].toArray w (fun en w2 => en = .returned (.slice none 0 0) ∧ Sat w [] [] w2) := by
  refine enter (n := 74) Tryd.func21 rfl rfl rfl (Sat.refl w) ?_
  refine seq ?_
  refine region ?_
  refine st (g_assign rfl) rfl ?_
  refine done ?_
  refine th_n ?_
  refine seq ?_
  refine seq ?_
  refine region ?_
  refine st (g_move rfl) rfl ?_
  refine sq rfl (o_callP (v := .bool true) Tryd.func65 rfl rfl rfl (fun w hw => f65_spec b 0 w (hw.oldCell hc (by simp))) rfl ?_)
  refine done ?_
  refine th_n ?_
  refine condT rfl ?_
  refine seq ?_
  refine region ?_
  refine st (g_assign rfl) rfl ?_
  refine done ?_
  refine th_n ?_
  refine ret ?_
  refine th_r ?_
  exact ret1 rfl rfl rfl (fun w2 hw2 => ⟨rfl, hw2⟩)

theorem f22_nil (w : World) : Calls Tryd.prog 22 [.pointer none].toArray w (fun en w2 => en = .returned (U64 0#64) ∧ Sat w [] [] w2) := by
  refine enter (n := 9) Tryd.func22 rfl rfl rfl (Sat.refl w) ?_
  refine seq ?_
  refine region ?_
  refine st (g_assign (v := U64 0#64) rfl) rfl ?_
  refine done ?_
  refine th_n ?_
  refine seq ?_
  refine seq ?_
  refine region ?_
  refine st (g_move rfl) rfl ?_
  refine sq rfl (o_callP Tryd.func65 rfl rfl rfl (fun w hw => f65_nil w) rfl ?_)
  refine done ?_
  refine th_n ?_
  refine condT rfl ?_
  refine seq ?_
  refine region ?_
  refine st (g_assign (v := U64 0#64) rfl) rfl ?_
  refine done ?_
  refine th_n ?_
  refine ret ?_
  refine th_r ?_
  exact ret1 rfl rfl rfl (fun w2 hw2 => ⟨rfl, hw2⟩)

theorem f22_zero (b : Nat) (w : World) (hc : w.cell? ⟨b, 0, none⟩ = some (I64 0)) : Calls Tryd.prog 22 [.pointer (some ⟨b, 0, none⟩)].toArray w (fun en w2 => en = .returned (U64 0#64) ∧ Sat w [] [] w2) := by
  refine enter (n := 9) Tryd.func22 rfl rfl rfl (Sat.refl w) ?_
  refine seq ?_
  refine region ?_
  refine st (g_assign (v := U64 0#64) rfl) rfl ?_
  refine done ?_
  refine th_n ?_
  refine seq ?_
  refine seq ?_
  refine region ?_
  refine st (g_move rfl) rfl ?_
  refine sq rfl (o_callP (v := .bool true) Tryd.func65 rfl rfl rfl (fun w hw => f65_spec b 0 w (hw.oldCell hc (by simp))) rfl ?_)
  refine done ?_
  refine th_n ?_
  refine condT rfl ?_
  refine seq ?_
  refine region ?_
  refine st (g_assign (v := U64 0#64) rfl) rfl ?_
  refine done ?_
  refine th_n ?_
  refine ret ?_
  refine th_r ?_
  exact ret1 rfl rfl rfl (fun w2 hw2 => ⟨rfl, hw2⟩)

theorem f25_nil (w : World) : Calls Tryd.prog 25 [.pointer none].toArray w (fun en w2 => en = .returned (.pointer none) ∧ Sat w [] [] w2) := by
  refine enter (n := 15) Tryd.func25 rfl rfl rfl (Sat.refl w) ?_
  refine seq ?_
  refine region ?_
  refine st (g_assign rfl) rfl ?_
  refine done ?_
  refine th_n ?_
  refine seq ?_
  refine seq ?_
  refine region ?_
  refine st (g_move rfl) rfl ?_
  refine sq rfl (o_callP Tryd.func65 rfl rfl rfl (fun w hw => f65_nil w) rfl ?_)
  refine done ?_
  refine th_n ?_
  refine condT rfl ?_
  refine seq ?_
  refine region ?_
  refine st (g_assign rfl) rfl ?_
  refine done ?_
  refine th_n ?_
  refine ret ?_
  refine th_r ?_
  exact ret1 rfl rfl rfl (fun w2 hw2 => ⟨rfl, hw2⟩)

theorem f25_zero (b : Nat) (w : World) (hc : w.cell? ⟨b, 0, none⟩ = some (I64 0)) : Calls Tryd.prog 25 [.pointer (some ⟨b, 0, none⟩)].toArray w (fun en w2 => en = .returned (.pointer none) ∧ Sat w [] [] w2) := by
  refine enter (n := 15) Tryd.func25 rfl rfl rfl (Sat.refl w) ?_
  refine seq ?_
  refine region ?_
  refine st (g_assign rfl) rfl ?_
  refine done ?_
  refine th_n ?_
  refine seq ?_
  refine seq ?_
  refine region ?_
  refine st (g_move rfl) rfl ?_
  refine sq rfl (o_callP (v := .bool true) Tryd.func65 rfl rfl rfl (fun w hw => f65_spec b 0 w (hw.oldCell hc (by simp))) rfl ?_)
  refine done ?_
  refine th_n ?_
  refine condT rfl ?_
  refine seq ?_
  refine region ?_
  refine st (g_assign rfl) rfl ?_
  refine done ?_
  refine th_n ?_
  refine ret ?_
  refine th_r ?_
  exact ret1 rfl rfl rfl (fun w2 hw2 => ⟨rfl, hw2⟩)
end Go.Proofs.YtokhediaibdkjaaDoor
