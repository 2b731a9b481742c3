/- The proof's texts, merged: P2 P3 P4 P5 R1 R2 R3 R4 P6 E15 R5. -/
import Derived.Test.YtokhediaibdkjaaDoorMC
import Derived.Test.YtokhediaibdkjaaDoorMA
/-! From P2 -/
/- Plain facts: a disk on which only Save wrote, and its crashes. -/
namespace Go.Proofs.YtokhediaibdkjaaDoor
open Go.Pm Go.RowKit
set_option maxRecDepth 100000

abbrev NB (m : Nat) : BitVec 64 := BitVec.ofNat 64 m
theorem NB_nat {m : Nat} (h : m < 18446744073709551616) : (NB m).toNat = m := by rw [BitVec.toNat_ofNat]; exact Nat.mod_eq_of_lt h
theorem NB_succ (m : Nat) : NB m + 1#64 = NB (m + 1) := by
  apply BitVec.eq_of_toNat_eq; simp [BitVec.toNat_add, BitVec.toNat_ofNat]
theorem NB_ne {m : Nat} (h : m < 18446744073709551616) (h0 : m ≠ 0) : NB m ≠ 0#64 := fun e => h0 (by have := congrArg BitVec.toNat e; rw [NB_nat h] at this; simpa using this)
/-- A number's lowest byte. -/
def lowB (m : Nat) : UInt8 := byteK (NB m) 0
theorem lowB_nat {m : Nat} (h : m < 18446744073709551616) : (lowB m).toNat = m % 256 := by rw [lowB, byteK_nat, NB_nat h]; simp
theorem low_ne {m : Nat} (h : m + 1 < 18446744073709551616) : lowB (m - 1) ≠ lowB (m + 1) := fun e => by
  have := congrArg UInt8.toNat e
  rw [lowB_nat (by omega), lowB_nat h] at this
  omega

/-! ### What is torn -/
theorem torn_get {E T : List UInt8} {n i : Nat} (hE : E.length = 64) (hn : n ≤ 64) : (E.take n ++ T.drop n).getD i 0 = if i < n then E.getD i 0 else T.getD i 0 := by
  simp only [List.getD_eq_getElem?_getD, List.getElem?_append, List.length_take, hE, Nat.min_eq_left hn]
  split
  · rename_i h; rw [List.getElem?_take_of_lt h]
  · rename_i h; rw [List.getElem?_drop, show n + (i - n) = i by omega]
theorem torn_drop {E T : List UInt8} {n j : Nat} (hE : E.length = 64) (hn : n ≤ 64) (h : n ≤ j) : (E.take n ++ T.drop n).drop j = T.drop j := by
  rw [List.drop_append, List.drop_of_length_le (by rw [List.length_take]; omega), List.nil_append, List.drop_drop, List.length_take, hE, Nat.min_eq_left hn, show n + (j - n) = j by omega]
theorem torn_length {E T : List UInt8} {n : Nat} (hE : E.length = 64) (hT : T.length = 64) (hn : n ≤ 64) : (E.take n ++ T.drop n).length = 64 := by
  rw [List.length_append, List.length_take, List.length_drop]; omega
theorem torn_full {E T : List UInt8} {n : Nat} (h : 60 ≤ n) (he : E.drop 60 = T.drop 60) : E.take n ++ T.drop n = E := by
  have : T.drop n = E.drop n := by
    rw [show n = 60 + (n - 60) by omega, ← List.drop_drop, ← List.drop_drop, he]
  rw [this, List.take_append_drop]
theorem enc_11 (n : BitVec 64) (d : List UInt8) : (encW n d).getD 11 0 = byteK n 0 := rfl
theorem enc_tail (n : BitVec 64) {d : List UInt8} (h : d.length = 24) : (encW n d).drop 52 = be8 n ++ List.replicate 4 0 := by
  rw [encW_body, List.append_assoc, List.drop_append_of_le_length (by rw [bodyW_length n h]; exact Nat.le_refl _), List.drop_of_length_le (by rw [bodyW_length n h]; exact Nat.le_refl _), List.nil_append]
theorem enc_59 (n : BitVec 64) {d : List UInt8} (h : d.length = 24) : (encW n d).getD 59 0 = byteK n 0 := by
  have h1 := congrArg (fun l : List UInt8 => l.getD 7 0) (enc_tail n h)
  simp only [List.getD_eq_getElem?_getD, List.getElem?_drop] at h1 ⊢
  exact h1
theorem enc_60 (n : BitVec 64) {d : List UInt8} (h : d.length = 24) : (encW n d).drop 60 = List.replicate 4 0 := by
  rw [show (60 : Nat) = 52 + 8 by decide, ← List.drop_drop, enc_tail n h]
  rfl

/-- What lay in a sector ahead of what is torn. -/
def Base (m : Nat) (S : List UInt8) : Prop := (m ≤ 1 ∧ S = zero64) ∨ (2 ≤ m ∧ ∃ d0 : List UInt8, d0.length = 24 ∧ S = encW (NB (m - 1)) d0)
/-- A sector to be written with record m + 1, that may be torn. -/
def Mx (m : Nat) (T : List UInt8) : Prop := T.length = 64 ∧ T.getD 59 0 = lowB (m - 1) ∧ T.drop 60 = List.replicate 4 0 ∧ (T.getD 11 0 = lowB (m + 1) ∨ ∃ S, Base m S ∧ T.drop 11 = S.drop 11)
theorem mx_zero {m : Nat} (h : m ≤ 1) : Mx m zero64 := by
  refine ⟨rfl, ?_, rfl, .inr ⟨zero64, .inl ⟨h, rfl⟩, rfl⟩⟩
  rw [show m - 1 = 0 by omega]
  decide
theorem mx_enc {m : Nat} (h : 1 ≤ m) {d : List UInt8} (hd : d.length = 24) : Mx (m + 1) (encW (NB m) d) :=
  ⟨encW_length _ hd, by rw [enc_59 _ hd]; rfl, enc_60 _ hd, .inr ⟨_, .inr ⟨by omega, d, hd, rfl⟩, rfl⟩⟩
theorem mx_tear {m : Nat} {T : List UInt8} (h : Mx m T) {d : List UInt8} (hd : d.length = 24) {n : Nat} (hn : n < 60) : Mx m ((encW (NB (m + 1)) d).take n ++ T.drop n) := by
  obtain ⟨h1, h2, h3, h4⟩ := h
  have hE := encW_length (NB (m + 1)) hd
  refine ⟨torn_length hE h1 (by omega), ?_, ?_, ?_⟩
  · rw [torn_get hE (by omega), if_neg (by omega), h2]
  · rw [torn_drop hE (by omega) (by omega), h3]
  · by_cases h12 : 11 < n
    · left
      rw [torn_get hE (by omega), if_pos h12, enc_11]; rfl
    · rcases h4 with h4 | ⟨S, hS, h4⟩
      · left; rw [torn_get hE (by omega), if_neg h12, h4]
      · right; exact ⟨S, hS, by rw [torn_drop hE (by omega) (by omega), h4]⟩
theorem mx_full {m : Nat} {T : List UInt8} (h : Mx m T) {d : List UInt8} (hd : d.length = 24) {n : Nat} (hn : 60 ≤ n) : (encW (NB (m + 1)) d).take n ++ T.drop n = encW (NB (m + 1)) d :=
  torn_full hn (by rw [h.2.2.1, enc_60 _ hd])
theorem mx_dec {m : Nat} (hm : m + 1 < 18446744073709551616) {T : List UInt8} (h : Mx m T) {n : BitVec 64} {d : List UInt8} (hd : decW T = some (n, d)) : 2 ≤ m ∧ n = NB (m - 1) := by
  obtain ⟨h1, h2, h3, h4⟩ := h
  obtain ⟨he, hn0, hdl, _⟩ := decW_spec hd
  have e1 : byteK n 0 = lowB (m - 1) := by rw [← h2, he, enc_59 n hdl]
  rcases h4 with h4 | ⟨S, hS, h4⟩
  · exfalso
    rw [he, enc_11, e1] at h4
    exact low_ne hm h4
  · have e2 : (T.drop 52).take 8 = (S.drop 52).take 8 := by
      rw [show (52 : Nat) = 11 + 41 by decide, ← List.drop_drop, h4, List.drop_drop]
    rw [he, enc_tail n hdl] at e2
    rcases hS with ⟨_, rfl⟩ | ⟨h2m, d0, hd0, rfl⟩
    · exfalso
      have e3 : be8 n = be8 0#64 := e2
      exact hn0 (be8_inj e3)
    · rw [enc_tail _ hd0] at e2
      exact ⟨h2m, be8_inj e2⟩

/-! ### Two sectors -/
/-- The disk's sectors, whose record is (m, d): only Save wrote. -/
def Inv (m : Nat) (d : List UInt8) (st : List (List UInt8)) : Prop :=
  (m = 0 ∧ d = [] ∧ ∃ T, Mx 0 T ∧ st = [T, zero64]) ∨
  (m % 2 = 1 ∧ d.length = 24 ∧ ∃ T, Mx m T ∧ st = [encW (NB m) d, T]) ∨
  (m ≠ 0 ∧ m % 2 = 0 ∧ d.length = 24 ∧ ∃ T, Mx m T ∧ st = [T, encW (NB m) d])
theorem inv_next {m : Nat} {d : List UInt8} {st : List (List UInt8)} (h : Inv m d st) : st.length = 2 ∧ Mx m (st.getD (m % 2) []) := by
  rcases h with ⟨h0, _, T, hT, rfl⟩ | ⟨h1, _, T, hT, rfl⟩ | ⟨_, h1, _, T, hT, rfl⟩
  · subst h0; exact ⟨rfl, hT⟩
  · rw [h1]; exact ⟨rfl, hT⟩
  · rw [h1]; exact ⟨rfl, hT⟩
theorem inv_torn {m : Nat} {d : List UInt8} {st : List (List UInt8)} (h : Inv m d st) {d' : List UInt8} (hd : d'.length = 24) {n : Nat} (hn : n < 60) :
    Inv m d (st.set (m % 2) ((encW (NB (m + 1)) d').take n ++ (st.getD (m % 2) []).drop n)) := by
  rcases h with ⟨h0, h2, T, hT, rfl⟩ | ⟨h1, h2, T, hT, rfl⟩ | ⟨h0, h1, h2, T, hT, rfl⟩
  · subst h0; exact .inl ⟨rfl, h2, _, mx_tear hT hd hn, rfl⟩
  · rw [h1]; exact .inr (.inl ⟨h1, h2, _, mx_tear hT hd hn, rfl⟩)
  · rw [h1]; exact .inr (.inr ⟨h0, h1, h2, _, mx_tear hT hd hn, rfl⟩)
theorem inv_set {m : Nat} {d : List UInt8} {st : List (List UInt8)} (h : Inv m d st) {d' : List UInt8} (hd : d'.length = 24) : Inv (m + 1) d' (st.set (m % 2) (encW (NB (m + 1)) d')) := by
  rcases h with ⟨h0, h2, T, hT, rfl⟩ | ⟨h1, h2, T, hT, rfl⟩ | ⟨h0, h1, h2, T, hT, rfl⟩
  · subst h0; exact .inr (.inl ⟨rfl, hd, zero64, mx_zero (by decide), rfl⟩)
  · rw [h1]; exact .inr (.inr ⟨by omega, by omega, hd, _, mx_enc (by omega) h2, rfl⟩)
  · rw [h1]; exact .inr (.inl ⟨by omega, hd, _, mx_enc (by omega) h2, rfl⟩)
theorem inv_tear {m : Nat} {d : List UInt8} {st : List (List UInt8)} (h : Inv m d st) {d' : List UInt8} (hd : d'.length = 24) {n : Nat} (hn : 60 ≤ n) :
    Inv (m + 1) d' (st.set (m % 2) ((encW (NB (m + 1)) d').take n ++ (st.getD (m % 2) []).drop n)) := by
  rw [mx_full (inv_next h).2 hd hn]; exact inv_set h hd
/-! ### Load -/
theorem load_two {k : Dk} (hd : k.down = false) (hw : k.waits = []) {s0 s1 : List UInt8} (hs : k.stays = [s0, s1]) : k.load = k.ldStep 1 (k.ldStep 0 Ld.z) ∧ k.rd 0 = (0, s0) ∧ k.rd 1 = (0, s1) := by
  have r0 : k.rd 0 = (0, s0) := by
    rw [Dk.rd, if_neg (by rw [hd]; decide), if_pos (by rw [hs]; exact Nat.zero_lt_succ _), Dk.look, hw, hs]; rfl
  have r1 : k.rd 1 = (0, s1) := by
    rw [Dk.rd, if_neg (by rw [hd]; decide), if_pos (by rw [hs]; exact Nat.lt_succ_self _), Dk.look, hw, hs]; rfl
  have hg : k.go 0 = true := by rw [Dk.go, r0]; rfl
  have hl : k.ld = k.ldStep 1 (k.ldStep 0 Ld.z) := by rw [Dk.ld, if_pos hg]; rfl
  have hw0 : k.ld.w = 0 := by rw [hl, ldStep_w, r1]
  exact ⟨by rw [Dk.load, if_pos hw0, hl], r0, r1⟩
theorem step_none {k : Dk} {i : Nat} {s : Ld} {l : List UInt8} (hr : k.rd i = (0, l)) (h : decW l = none) : k.ldStep i s = { s with w := 0, a := i } := by
  rw [Dk.ldStep, hr, if_pos rfl]
  simp only [h]
theorem step_low {k : Dk} {i : Nat} {s : Ld} {l : List UInt8} (hr : k.rd i = (0, l)) {m : BitVec 64} {d : List UInt8} (h : decW l = some (m, d)) (hm : m ≤ s.n) : k.ldStep i s = { s with w := 0, a := i } := by
  rw [Dk.ldStep, hr, if_pos rfl]
  simp only [h, if_pos hm]
theorem step_new {k : Dk} {i : Nat} {s : Ld} {l : List UInt8} (hr : k.rd i = (0, l)) {m : BitVec 64} {d : List UInt8} (h : decW l = some (m, d)) (hm : ¬ m ≤ s.n) : k.ldStep i s = ⟨m, d, 1 - i, 0, i⟩ := by
  rw [Dk.ldStep, hr, if_pos rfl]
  simp only [h, if_neg hm]
theorem NB_le {a b : Nat} (ha : a < 18446744073709551616) (hb : b < 18446744073709551616) : NB a ≤ NB b ↔ a ≤ b := by rw [BitVec.le_def, NB_nat ha, NB_nat hb]
/-- The disk's record, and where it goes next. -/
theorem inv_load {k : Dk} (hd : k.down = false) (hw : k.waits = []) {m : Nat} {d : List UInt8} (h : Inv m d k.stays) (hm : m + 1 < 18446744073709551616) : k.load.n = NB m ∧ k.load.d = d ∧ k.load.nx = ((m % 2 : Nat) : Int) ∧ k.load.w = 0 := by
  rcases h with ⟨h0, h2, T, hT, hs⟩ | ⟨h1, h2, T, hT, hs⟩ | ⟨h0, h1, h2, T, hT, hs⟩
  · obtain ⟨e, r0, r1⟩ := load_two hd hw hs
    subst h0
    have d0 : decW T = none := by
      cases hc : decW T with
      | none => rfl
      | some x => obtain ⟨n, y⟩ := x; have := (mx_dec hm hT hc).1; omega
    have d1 : decW zero64 = none := decW_none (fun hh => hh.2.1 (by decide +kernel))
    rw [e, step_none r1 d1, step_none r0 d0]
    exact ⟨rfl, h2.symm, rfl, rfl⟩
  · obtain ⟨e, r0, r1⟩ := load_two hd hw hs
    have d0 := decW_enc (NB_ne (m := m) (by omega) (by omega)) h2
    have hn : ¬ NB m ≤ Ld.z.n := by
      show ¬ NB m ≤ NB 0
      rw [NB_le (by omega) (by omega)]; omega
    have e0 := step_new (s := Ld.z) r0 d0 hn
    have e1 : k.ldStep 1 (k.ldStep 0 Ld.z) = { k.ldStep 0 Ld.z with w := 0, a := ((1 : Nat) : Int) } := by
      cases hc : decW T with
      | none => exact step_none r1 hc
      | some x =>
        obtain ⟨n, y⟩ := x
        obtain ⟨_, rfl⟩ := mx_dec hm hT hc
        refine step_low r1 hc ?_
        rw [e0]
        exact (NB_le (by omega) (by omega)).2 (by omega)
    rw [e, e1, e0, h1]
    exact ⟨rfl, rfl, rfl, rfl⟩
  · obtain ⟨e, r0, r1⟩ := load_two hd hw hs
    have d1 := decW_enc (NB_ne (m := m) (by omega) h0) h2
    have e1 : k.ldStep 1 (k.ldStep 0 Ld.z) = ⟨NB m, d, 1 - ((1 : Nat) : Int), 0, ((1 : Nat) : Int)⟩ := by
      refine step_new r1 d1 ?_
      cases hc : decW T with
      | none =>
        rw [step_none r0 hc]
        show ¬ NB m ≤ NB 0
        rw [NB_le (by omega) (by omega)]; omega
      | some x =>
        obtain ⟨n, y⟩ := x
        obtain ⟨hm2, rfl⟩ := mx_dec hm hT hc
        rw [step_new r0 hc (by show ¬ NB (m - 1) ≤ NB 0; rw [NB_le (by omega) (by omega)]; omega)]
        show ¬ NB m ≤ NB (m - 1)
        rw [NB_le (by omega) (by omega)]; omega
    rw [e, e1, h1]
    exact ⟨rfl, rfl, rfl, rfl⟩
end Go.Proofs.YtokhediaibdkjaaDoor

/-! From P3 -/
/- Plain facts: what Save does to a disk on which only Save wrote. -/
namespace Go.Proofs.YtokhediaibdkjaaDoor
open Go.Pm Go.RowKit
set_option maxRecDepth 100000

structure Gd (k : Dk) (m : Nat) (d : List UInt8) : Prop where
  inv : Inv m d k.stays
  wt : k.waits = []

abbrev nextE (m : Nat) (d' : List UInt8) : List UInt8 := encW (NB (m + 1)) d'

theorem fall_one (c : List UInt8) (a : Nat) (E : List UInt8) (st : List (List UInt8)) : fallSt c [(a, E)] st = if keepN c 0 = 0 then st else st.set a (E.take (keepN c 0) ++ (st.getD a []).drop (keepN c 0)) := rfl
theorem inv_fall {m : Nat} {d : List UInt8} {st : List (List UInt8)} (h : Inv m d st) {d' : List UInt8} (hd : d'.length = 24) (c : List UInt8) :
    if 60 ≤ keepN c 0 then Inv (m + 1) d' (fallSt c [(m % 2, nextE m d')] st) else Inv m d (fallSt c [(m % 2, nextE m d')] st) := by
  rw [fall_one]
  split
  · rename_i h60
    rw [if_neg (by omega)]
    exact inv_tear h hd h60
  · rename_i h60
    by_cases h0 : keepN c 0 = 0
    · rw [if_pos h0]; exact h
    · rw [if_neg h0]; exact inv_torn h hd (by omega)

section
variable {k : Dk} {m : Nat} {d d' : List UInt8} (h : Gd k m d) (hd : k.down = false) (hm : m + 1 < 18446744073709551616) (h24 : d'.length = 24)
include h hd hm h24
theorem save_head : k.save d' = (let x := k.write ((m % 2 : Nat) : Int) (nextE m d'); if x.1 ≠ 0 then (Ld.err x.1, x.2) else if x.2.flush.1 ≠ 0 then (Ld.err x.2.flush.1, x.2.flush.2) else (⟨NB (m + 1), d', 0, 0, 0⟩, x.2.flush.2)) := by
  obtain ⟨e1, e2, e3, e4⟩ := inv_load hd h.wt h.inv hm
  have hmx : ¬ (d'.length ≠ 24 ∨ k.load.n = 18446744073709551615#64) := by
    rintro (h1 | h1)
    · exact h1 h24
    · rw [e1] at h1
      have := congrArg BitVec.toNat h1
      rw [NB_nat (by omega)] at this
      simp at this; omega
  unfold Dk.save
  rw [if_neg (by rw [e4]; decide), if_neg hmx, e1, e3, NB_succ]
theorem write_room (hr : 0 < k.room) : k.write ((m % 2 : Nat) : Int) (nextE m d') = (if (k.put (m % 2) (nextE m d')).step.1 then 171 else 0, (k.put (m % 2) (nextE m d')).step.2) := by
  refine used hm ?_
  have hl := (inv_next h.inv).1
  have hE : (nextE m d').length = 64 := encW_length (NB (m + 1)) h24
  rw [Dk.write, if_neg (by rw [hd]; decide), if_neg (by rw [hl]; omega), if_pos hr]
  rfl
theorem write_full (hr : k.room = 0) : k.write ((m % 2 : Nat) : Int) (nextE m d') = (if k.step.1 then 171 else 172, k.step.2) := by
  refine used hm ?_
  have hl := (inv_next h.inv).1
  have hE : (nextE m d').length = 64 := encW_length (NB (m + 1)) h24
  rw [Dk.write, if_neg (by rw [hd]; decide), if_neg (by rw [hl]; omega), if_neg (by omega)]
theorem save_A (hr : 0 < k.room) (hs : k.steps = 0 ∨ 2 < k.steps) : k.save d' = (⟨NB (m + 1), d', 0, 0, 0⟩, ⟨k.stays.set (m % 2) (nextE m d'), [], k.room - 1, false, k.steps - 2, k.choice⟩) := by
  have e0 : (k.put (m % 2) (nextE m d')).step = (false, ⟨k.stays, [(m % 2, nextE m d')], k.room - 1, false, k.steps - 1, k.choice⟩) := by
    rw [Dk.put, h.wt, hd]
    rcases hs with hs | hs
    · rw [Dk.step, if_pos hs]; simp [hs]
    · rw [Dk.step, if_neg (by show k.steps ≠ 0; omega), if_pos (by show k.steps - 1 > 0; omega)]; rfl
  rw [save_head h hd hm h24, write_room h hd hm h24 hr, e0]
  have e1 : (⟨k.stays, [(m % 2, nextE m d')], k.room - 1, false, k.steps - 1, k.choice⟩ : Dk).flush = (0, ⟨k.stays.set (m % 2) (nextE m d'), [], k.room - 1, false, k.steps - 2, k.choice⟩) := by
    have e2 : (⟨k.stays, [(m % 2, nextE m d')], k.room - 1, false, k.steps - 1, k.choice⟩ : Dk).step = (false, ⟨k.stays, [(m % 2, nextE m d')], k.room - 1, false, k.steps - 2, k.choice⟩) := by
      rcases hs with hs | hs
      · rw [Dk.step, if_pos (by show k.steps - 1 = 0; omega)]; simp [hs]
      · rw [Dk.step, if_neg (by show k.steps - 1 ≠ 0; omega), if_pos (by show k.steps - 1 - 1 > 0; omega)]; rfl
    rw [Dk.flush, e2]; rfl
  simp [e1]
theorem save_B (hr : 0 < k.room) (hs : k.steps = 1 ∨ k.steps = 2) : k.save d' = (Ld.err 171, ⟨fallSt k.choice [(m % 2, nextE m d')] k.stays, [], k.room - 1, true, 0, []⟩) := by
  rw [save_head h hd hm h24, write_room h hd hm h24 hr]
  rcases hs with hs | hs
  · have e0 : (k.put (m % 2) (nextE m d')).step = (true, ⟨fallSt k.choice [(m % 2, nextE m d')] k.stays, [], k.room - 1, true, 0, []⟩) := by
      rw [Dk.put, h.wt, hd, Dk.step, if_neg (by show k.steps ≠ 0; omega), if_neg (by show ¬ k.steps - 1 > 0; omega)]; rfl
    rw [e0]; simp
  · have e0 : (k.put (m % 2) (nextE m d')).step = (false, ⟨k.stays, [(m % 2, nextE m d')], k.room - 1, false, k.steps - 1, k.choice⟩) := by
      rw [Dk.put, h.wt, hd, Dk.step, if_neg (by show k.steps ≠ 0; omega), if_pos (by show k.steps - 1 > 0; omega)]; rfl
    rw [e0]
    have e1 : (⟨k.stays, [(m % 2, nextE m d')], k.room - 1, false, k.steps - 1, k.choice⟩ : Dk).flush = (171, ⟨fallSt k.choice [(m % 2, nextE m d')] k.stays, [], k.room - 1, true, 0, []⟩) := by
      have e2 : (⟨k.stays, [(m % 2, nextE m d')], k.room - 1, false, k.steps - 1, k.choice⟩ : Dk).step = (true, ⟨fallSt k.choice [(m % 2, nextE m d')] k.stays, [], k.room - 1, true, 0, []⟩) := by
        rw [Dk.step, if_neg (by show k.steps - 1 ≠ 0; omega), if_neg (by show ¬ k.steps - 1 - 1 > 0; omega)]; rfl
      rw [Dk.flush, e2]; rfl
    simp [e1]
theorem save_C (hr : k.room = 0) (hs : k.steps = 1) : k.save d' = (Ld.err 171, ⟨k.stays, [], k.room, true, 0, []⟩) := by
  have e0 : k.step = (true, ⟨k.stays, [], k.room, true, 0, []⟩) := by
    rw [Dk.step, if_neg (by omega), if_neg (by omega), Dk.fall, h.wt]; rfl
  rw [save_head h hd hm h24, write_full h hd hm h24 hr, e0]; simp
theorem save_D (hr : k.room = 0) (hs : k.steps ≠ 1) : k.save d' = (Ld.err 172, ⟨k.stays, [], k.room, false, k.steps - 1, k.choice⟩) := by
  have e0 : k.step = (false, ⟨k.stays, [], k.room, false, k.steps - 1, k.choice⟩) := by
    obtain ⟨ks, kw, kr, kd, kst, kc⟩ := k
    have hw := h.wt
    simp only at hw hd hs
    subst hw hd
    rcases Nat.eq_zero_or_pos kst with hs0 | hs0
    · rw [Dk.step, if_pos (by exact hs0)]; simp [hs0]
    · rw [Dk.step, if_neg (by show kst ≠ 0; omega), if_pos (by show kst - 1 > 0; omega)]
  rw [save_head h hd hm h24, write_full h hd hm h24 hr, e0]; simp
end
end Go.Proofs.YtokhediaibdkjaaDoor

/-! From P4 -/
/- Plain facts: the saves and the crash of SlotCrash; calls over a disk that is known. -/
namespace Go.Proofs.YtokhediaibdkjaaDoor
open Go.Pm Go.RowKit
set_option maxRecDepth 100000

theorem Gd.arm {k : Dk} {m : Nat} {d : List UInt8} (h : Gd k m d) (n : Nat) (c : List UInt8) : Gd { k with steps := n, choice := c } m d := ⟨h.inv, h.wt⟩

/-! ### Calls over a disk that is known -/
section
variable (b : Nat) (k : Dk) (r : Rp)
theorem f39_as (p : Option Addr) (n c : Nat) (l : List UInt8) (hl : l.length = n) (hpn : p = none → n = 0 ∧ c = 0) (hnc : n ≤ c) {L : Ld} {k' : Dk} (e : k.save l = (L, k')) (w : World) (hA : Sat w (fps (dkR b k r)) (dkR b k r) w) (hG : Gl w (fps (dkR b k r))) (hr : RdS w (fps (dkR b k r)) p (l.map B8)) (hk : k.ok) (hro : r.ok k) :
    Calls Tryd.prog 39 [.pointer (some ⟨b, 0, none⟩), .slice p n c].toArray w (fun en w2 => ∃ x : (Option Addr × Nat) × Rp, (ldOk L x.1 ∧ x.2.ok k') ∧ en = .returned (.tuple #[.agg (ldv L x.1).toArray, I64 L.w]) ∧ Sat w (fps (dkR b k r)) (ldR L x.1 :: dkR b k' x.2) w2) := by
  have h := f39_spec b k hk r hro p n c l hl hpn hnc w hA hG hr
  rw [e] at h
  exact h
end

/-! ### SlotCrash -/
end Go.Proofs.YtokhediaibdkjaaDoor

/-! From P5 -/
/- The walk of ref18.Same. (printed by gen1.py) -/
namespace Go.Proofs.YtokhediaibdkjaaDoor
open Go.Pm Go.RowKit
set_option maxRecDepth 100000
end Go.Proofs.YtokhediaibdkjaaDoor

/-! From R1 -/
/- The walk of diary.numbers. (printed by gen1.py) -/
namespace Go.Proofs.YtokhediaibdkjaaDoor
open Go.Pm Go.RowKit
set_option maxRecDepth 100000
theorem un_113 : Tryd.prog.underlying 113 = some (.slice 2) := by kernel_rfl
theorem bt_2 : (Tryd.prog.info? 2).map (·.bytes) = some 8 := by kernel_rfl
/-- A record's three numbers, and the most that each may be. -/
def rdB (d : List UInt8) (i : Nat) : List UInt8 := (d.drop (8 * i)).take 8
def rdN (d : List UInt8) (i : Nat) : BitVec 64 := wholeW (rdB d i)
def mostL : List (BitVec 64) := [9223372036854775807#64, 253402300799999#64, 0#64]
def mostN (i : Nat) : BitVec 64 := mostL.getD i 0#64
def rdGo (d : List UInt8) (i : Nat) : Bool := decide ((rdN d i).toNat ≤ (mostN i).toNat)
/-- A record's serial and time; false: they are none. -/
def readW (d : List UInt8) : Int × Int × Bool := if rdGo d 0 = true ∧ rdGo d 1 = true ∧ rdGo d 2 = true then (((rdN d 0).toNat : Int), ((rdN d 1).toNat : Int), true) else (0, 0, false)
theorem rdB_length {d : List UInt8} (h : d.length = 24) {i : Nat} (hi : i < 3) : (rdB d i).length = 8 := by rw [rdB, List.length_take, List.length_drop, h]; omega
theorem cut3_ok (p : Option Addr) (c : Nat) (l : List UInt8) (hp : p = none → c = 0) (hnc : 24 ≤ c) (hl : l.length = 24) (pz : Option Addr) (cz : Nat) (w : World) (hr : RdC w p (l.map B8)) (hrz : RdC w pz [I64 8, I64 8, I64 8]) :
    Calls Tryd.prog 83 [.slice p 24 c, .slice pz 3 cz].toArray w (fun en w2 => ∃ x : (Option Addr × Nat) × (Nat → Option Addr × Nat), ((x.1.1 = none → x.1.2 = 0) ∧ ∀ j, ((x.2 j).1 = none → (x.2 j).2 = 0) ∧ (j < 3 → 8 ≤ (x.2 j).2)) ∧ en = .returned (.tuple #[slv 3 x.1, I64 0]) ∧
      Sat w (fps []) [vec (slv 3 x.1) 23 1 3 [slv 8 (x.2 0), slv 8 (x.2 1), slv 8 (x.2 2)], vec (slv 8 (x.2 0)) 5 1 8 ((rdB l 0).map B8), vec (slv 8 (x.2 1)) 5 1 8 ((rdB l 1).map B8), vec (slv 8 (x.2 2)) 5 1 8 ((rdB l 2).map B8)] w2) := by
  have h := f83_spec p c l hp (by omega) (by omega) pz cz [8, 8, 8] (by decide) (by decide) w hr hrz
  rw [hl] at h
  refine h.mono ?_
  rintro en w2 (⟨_, ds, o, hdl, hdo, ho, hdm, he, hs⟩ | ⟨hne, _⟩)
  · match ds, hdl with
    | [d2, d1, d0], _ =>
      obtain ⟨n0, l0, y0⟩ := d0
      obtain ⟨n1, l1, y1⟩ := d1
      obtain ⟨n2, l2, y2⟩ := d2
      have hdm' : [(n0, l0), (n1, l1), (n2, l2)] = [(8, rdB l 0), (8, rdB l 1), (8, rdB l 2)] := hdm
      simp only [List.cons.injEq, Prod.mk.injEq, and_true] at hdm'
      obtain ⟨⟨rfl, rfl⟩, ⟨rfl, rfl⟩, rfl, rfl⟩ := hdm'
      have o0 := hdo _ (List.mem_cons_of_mem _ (List.mem_cons_of_mem _ (List.mem_cons_self ..)))
      have o1 := hdo _ (List.mem_cons_of_mem _ (List.mem_cons_self ..))
      have o2 := hdo _ (List.mem_cons_self ..)
      refine ⟨(o, fun j => if j = 0 then y0 else if j = 1 then y1 else if j = 2 then y2 else (none, 0)), ⟨ho, fun j => ?_⟩, he, Sat.left (hs.split (A := [_, _, _, _]) (.cons .here (.cons (.there (.there .here)) (.cons (.there .here) (.cons .here .nil)))))⟩
      match j with
      | 0 => exact ⟨o0.2.1, fun _ => o0.2.2⟩
      | 1 => exact ⟨o1.2.1, fun _ => o1.2.2⟩
      | 2 => exact ⟨o2.2.1, fun _ => o2.2.2⟩
      | j + 3 => exact ⟨fun _ => rfl, fun h => absurd h (by omega)⟩
  · exact absurd (show ([8, 8, 8] : List Nat).sum = 24 from rfl) hne
theorem get3 {α : Type} (f : Nat → α) {i : Nat} (h : i < 3) : [f 0, f 1, f 2][i]? = some (f i) := by
  match i, h with
  | 0, _ => rfl
  | 1, _ => rfl
  | 2, _ => rfl
theorem all3 {P : Nat → Prop} (h0 : P 0) (h1 : P 1) (h2 : P 2) {i : Nat} (h : i < 3) : P i := by
  match i, h with
  | 0, _ => exact h0
  | 1, _ => exact h1
  | 2, _ => exact h2


theorem f113_spec {σ : Type} (lp bd : Nat) (p : Option Addr) (c : Nat) (d : List UInt8) (hd : d.length = 24) (hp : p = none → c = 0) (hc : 24 ≤ c) (J : Nat → σ → Prop) (LP L1 L2 : σ → Res) (L3 : Res) (go : Nat → Bool) (s0 : σ) (hJ : J 0 s0) (w : World) (hA : Sat w (fps [LP s0, blk bd 23 [.slice p 24 c], L1 s0, L2 s0, L3]) [LP s0, blk bd 23 [.slice p 24 c], L1 s0, L2 s0, L3] w) (hr : RdS w (fps [LP s0, blk bd 23 [.slice p 24 c], L1 s0, L2 s0, L3]) p (d.map B8))
    (hY : ∀ i s, i < 3 → (∀ j, j < i → go j = true) → J i s → ∀ w', Sat w (fps [LP s0, blk bd 23 [.slice p 24 c], L1 s0, L2 s0, L3]) [LP s, blk bd 23 [.slice p 24 c], L1 s, L2 s, L3] w' → Sat w' (fps [LP s, blk bd 23 [.slice p 24 c], L1 s, L2 s, L3]) [LP s, blk bd 23 [.slice p 24 c], L1 s, L2 s, L3] w' → YieldCall Tryd.prog lp [U64 (rdN d i), U64 (mostN i)] w' (fun b2 w2 => ∃ s2, (b2 = go i ∧ J (i + 1) s2) ∧ Sat w' (fps [LP s, blk bd 23 [.slice p 24 c], L1 s, L2 s, L3]) [LP s2, blk bd 23 [.slice p 24 c], L1 s2, L2 s2, L3] w2)) :
    Calls Tryd.prog 113 [.func (.yield lp) #[] #[], .pointer (some ⟨bd, 0, none⟩)].toArray w (fun en w2 => en = .returned (.tuple #[]) ∧ ∃ (e : Nat) (s2 : σ), (e ≤ 3 ∧ (e = 3 ∨ (1 ≤ e ∧ go (e - 1) = false)) ∧ (∀ j, j + 1 < e → go j = true) ∧ J e s2) ∧ Sat w (fps [LP s0, blk bd 23 [.slice p 24 c], L1 s0, L2 s0, L3]) [LP s2, blk bd 23 [.slice p 24 c], L1 s2, L2 s2, L3] w2) := by
  refine used hd (used hp (used hc (used hJ (used hA (used hr (used hY (?_)))))))
  refine enter (n := 44) Tryd.func113 rfl rfl rfl hA ?_
  refine seq ?_
  refine region ?_
  refine st (g_load (v := .slice p 24 c) sc_23 rfl (Cell.own (.there (.here)) rfl)) rfl ?_
  refine sq rfl (o_buildSlice1 (vs := [I64 8, I64 8, I64 8]) un_115 zr_3 sz_3 (by decide) (by decide) rfl rfl rfl (by simp [Value.oneCell']) rfl (fun b10 => ?_))
  refine sq rfl (o_call Tryd.func83 rfl rfl rfl .nil (fun w hw hA => cut3_ok p c d hp hc hd (some ⟨b10, 0, none⟩) 3 w (RdS.ofOld (A := []) hr hw .nil).c (RdC.ofBlk hw .here rfl)) rfl (fun o ho => ?_))
  refine At.up2 (fun w hw => (show 3 ≤ o.1.2 from by
    rcases (hw.get .here).2 with ⟨_, h0⟩ | ⟨g, cap, cur, he, _, _, h3, _⟩
    · cases h0
    · simp only [slv, Value.slice.injEq, true_and] at he; omega)) (fun hcap3 => ?_)
  have hcap : 0 < o.1.2 := by omega
  refine st (g_move rfl) rfl ?_
  refine st (g_extract rfl rfl) rfl ?_
  refine st (g_extract rfl rfl) rfl ?_
  refine st (g_assign rfl) rfl ?_
  refine st (g_assign rfl) rfl ?_
  refine done ?_
  refine th_n ?_
  refine seq ?_
  refine region ?_
  refine st (g_move rfl) rfl ?_
  refine st (g_len el_22 rfl) rfl ?_
  refine st (g_move rfl) rfl ?_
  refine done ?_
  refine th_n ?_
  refine block ?_
  refine loop (α := Nat × σ) (fun x => x.1 ≤ 3 ∧ J x.1 x.2 ∧ (∀ j, j < x.1 → go j = true)) (fun x => [(0, .func (.yield lp) #[] #[]), (3, slv 3 o.1), (4, I64 0), (15, I64 3), (16, I64 (x.1 : Nat))]) (fun x => [vec (slv 3 o.1) 23 1 3 [slv 8 (o.2 0), slv 8 (o.2 1), slv 8 (o.2 2)], vec (slv 8 (o.2 0)) 5 1 8 ((rdB d 0).map B8), vec (slv 8 (o.2 1)) 5 1 8 ((rdB d 1).map B8), vec (slv 8 (o.2 2)) 5 1 8 ((rdB d 2).map B8), LP x.2, blk bd 23 [.slice p 24 c], L1 x.2, L2 x.2, L3]) (fun x => 3 - x.1) (0, s0) ⟨Nat.zero_le _, hJ, fun j h => absurd h (Nat.not_lt_zero j)⟩ ⟨rfl, rfl, rfl, rfl, rfl, trivial⟩ (.cons .here (.cons .here (.cons .here (.cons .here (.cons (.there (.here)) (.cons (.there (.here)) (.cons (.there (.here)) (.cons (.there (.here)) (.cons (.there (.here)) .nil))))))))) (fun x hI => ?_)
  refine seq ?_
  refine region ?_
  refine st (g_bin rfl rfl rfl) rfl ?_
  refine done ?_
  refine th_n ?_
  refine seq ?_
  refine condS rfl (fun h17 => ?_) (fun h17 => ?_)
  · try simp only [decide_eq_true_eq] at h17
    have hi : x.1 < 3 := by omega
    have hos : o.1.1.isSome = true := by
      cases h : o.1.1 with
      | none => have := ho.1 h; exact absurd this (Nat.ne_of_gt hcap)
      | some a => rfl
    refine skip ?_
    refine th_n ?_
    refine seq ?_
    refine block ?_
    refine seq ?_
    refine region ?_
    refine st (g_move rfl) rfl ?_
    refine st (g_assign rfl) rfl ?_
    refine done ?_
    refine th_n ?_
    refine seq ?_
    refine region ?_
    refine st (g_move rfl) rfl ?_
    refine st (g_move rfl) rfl ?_
    refine st (g_indexP (m := x.1) el_22 rfl rfl (hos) (by omega) (by omega) (by omega)) rfl ?_
    refine st (g_load (v := slv 8 (o.2 x.1)) sc_23 rfl (Cell.rd (RdA.vec .here) (get3 (fun j => slv 8 (o.2 j)) hi))) rfl ?_
    refine sq rfl (o_callP Tryd.func84 rfl rfl rfl (fun w hw => f84_of (o.2 x.1).1 8 (o.2 x.1).2 (rdB d x.1) (rdB_length hd hi) (ho.2 x.1).1 ((ho.2 x.1).2 hi) (Nat.le_refl _) w (all3 (P := fun j => RdC w (o.2 j).1 ((rdB d j).map B8)) (RdC.ofVec (hw.get (.there (.here)))) (RdC.ofVec (hw.get (.there (.there (.here))))) (RdC.ofVec (hw.get (.there (.there (.there (.here)))))) hi)) rfl ?_)
    refine st (g_move rfl) rfl ?_
    refine st (g_extract rfl rfl) rfl ?_
    refine st (g_extract rfl rfl) rfl ?_
    refine st (g_assign rfl) rfl ?_
    refine st (g_assign rfl) rfl ?_
    refine done ?_
    refine th_n ?_
    refine seq ?_
    refine region ?_
    refine st (g_move rfl) rfl ?_
    refine st (g_F rfl rfl rfl (fun h => h rfl)) rfl ?_
    refine st (g_move rfl) rfl ?_
    refine gt rfl ?_
    refine st (g_move rfl) rfl ?_
    refine gt rfl ?_
    refine st (g_F rfl rfl rfl (fun h => h rfl)) rfl ?_
    refine st (g_pickF rfl rfl) rfl ?_
    refine st (g_move rfl) rfl ?_
    refine gt rfl ?_
    refine st (g_move rfl) rfl ?_
    refine gt rfl ?_
    refine st (g_move rfl) rfl ?_
    refine gt rfl ?_
    refine sq rfl (o_buildSlice1 (vs := mostL.map U64) un_187 zr_34 sz_34 (by decide) (by decide) rfl rfl rfl (by decide) rfl (fun b36 => ?_))
    refine gt rfl ?_
    refine st (g_move rfl) rfl ?_
    refine gt rfl ?_
    refine st (g_indexS (m := x.1) el_187 rfl rfl (by omega) (by omega) (by omega)) rfl ?_
    refine gt rfl ?_
    refine st (g_load (v := U64 (mostN x.1)) sc_34 rfl (Cell.own .here (get3 (fun j => U64 (mostN j)) hi))) rfl ?_
    refine gt rfl ?_
    refine sq rfl (o_yield (vs := [U64 (rdN d x.1), U64 (mostN x.1)]) (β := σ) (I := fun s2 b2 => b2 = go x.1 ∧ J (x.1 + 1) s2) (A' := fun s2 => [LP s2, blk bd 23 [.slice p 24 c], L1 s2, L2 s2, L3]) rfl rfl (.cons (.there (.there (.there (.there (.there (.here)))))) (.cons (.there (.there (.there (.there (.there (.here)))))) (.cons (.there (.there (.there (.there (.there (.here)))))) (.cons (.there (.there (.there (.there (.there (.here)))))) (.cons (.there (.there (.there (.there (.there (.here)))))) .nil))))) (fun w' hw' hA' => hY x.1 x.2 hi hI.2.2 hI.2.1 w' (Sat.left (hw'.split (A := [LP x.2, blk bd 23 [.slice p 24 c], L1 x.2, L2 x.2, L3]) (.cons (.there (.there (.there (.there (.there (.here)))))) (.cons (.there (.there (.there (.there (.there (.here)))))) (.cons (.there (.there (.there (.there (.there (.here)))))) (.cons (.there (.there (.there (.there (.there (.here)))))) (.cons (.there (.there (.there (.there (.there (.here)))))) .nil))))))) hA') rfl (fun s2 b2 hs2 => ?_))
    refine gt rfl ?_
    refine st (g_not rfl) rfl ?_
    refine st (g_pickF rfl rfl) rfl ?_
    refine done ?_
    refine th_n ?_
    refine condS rfl (fun h42 => ?_) (fun h42 => ?_)
    · try simp only [decide_eq_true_eq] at h42
      have hgf : go x.1 = false := by rw [← hs2.1]; simpa using h42
      refine ret ?_
      refine ib_r ?_
      refine th_r ?_
      refine th_r ?_
      refine ib_r ?_
      exact ret0 rfl rfl (fun w2 hw2 => ⟨rfl, x.1 + 1, s2, ⟨by omega, .inr ⟨by omega, by simpa using hgf⟩, fun j hj => hI.2.2 j (by omega), hs2.2⟩, Sat.left (hw2.split (.cons .here (.cons .here (.cons .here (.cons .here (.cons .here .nil))))))⟩)
    · try simp only [decide_eq_false_iff_not] at h42
      have hgt : go x.1 = true := by rw [← hs2.1]; simpa using h42
      have hgo2 : ∀ j, j < x.1 + 1 → go j = true := fun j hj => by
        rcases Nat.lt_or_ge j x.1 with h1 | h1
        · exact hI.2.2 j h1
        · rw [show j = x.1 by omega]; exact hgt
      refine skip ?_
      refine ib_n ?_
      refine th_n ?_
      refine region ?_
      refine st (g_iadd (c := ((x.1 + 1 : Nat) : Int)) rfl rfl (by omega) (by omega) (by omega)) rfl ?_
      refine st (g_move rfl) rfl ?_
      refine done ?_
      refine th_n ?_
      exact again (x.1 + 1, s2) ⟨by show x.1 + 1 ≤ 3; omega, hs2.2, hgo2⟩ (by show 3 - (x.1 + 1) < 3 - x.1; omega) ⟨rfl, rfl, rfl, rfl, rfl, trivial⟩ (.cons (.there (.there (.there (.there (.there (.there (.here))))))) (.cons (.there (.there (.there (.there (.there (.there (.here))))))) (.cons (.there (.there (.there (.there (.there (.there (.here))))))) (.cons (.there (.there (.there (.there (.there (.there (.here))))))) (.cons .here (.cons .here (.cons .here (.cons .here (.cons .here .nil)))))))))
  · try simp only [decide_eq_false_iff_not] at h17
    have hx3 : x.1 = 3 := by omega
    refine exitc ?_
    refine th_x ?_
    refine th_x ?_
    refine ib_x ?_
    exact ret0n rfl rfl (fun w2 hw2 => ⟨rfl, x.1, x.2, ⟨hI.1, .inl hx3, fun j hj => hI.2.2 j (by omega), hI.2.1⟩, Sat.left (hw2.split (.cons (.there (.there (.there (.there (.here))))) (.cons (.there (.there (.there (.there (.here))))) (.cons (.there (.there (.there (.there (.here))))) (.cons (.there (.there (.there (.there (.here))))) (.cons (.there (.there (.there (.there (.here))))) .nil))))))⟩)

theorem f106_spec (p : Option Addr) (n c : Nat) (w : World) : Calls Tryd.prog 106 [.slice p n c].toArray w (fun en w2 => ∃ y : Nat, True ∧ en = .returned (.func (.func 113) #[] [.pointer (some ⟨y, 0, none⟩)].toArray) ∧ Sat w (fps []) [blk y 23 [.slice p n c]] w2) := by
  refine enter (n := 4) Tryd.func106 rfl rfl rfl (Sat.refl w) ?_
  refine seq ?_
  refine region ?_
  refine sq rfl (o_box (cs := [.slice p n c]) rfl rfl rfl (fun b1 => ?_))
  refine st (g_assign rfl) rfl ?_
  refine done ?_
  refine th_n ?_
  refine seq ?_
  refine region ?_
  refine st (g_makeFunc rfl rfl) rfl ?_
  refine st (g_assign rfl) rfl ?_
  refine done ?_
  refine th_n ?_
  refine ret ?_
  exact ret1 rfl rfl rfl (fun w2 hw2 => ⟨b1, trivial, rfl, hw2⟩)
end Go.Proofs.YtokhediaibdkjaaDoor

/-! From R2 -/
/- The walk of diary.read. (printed by gen1.py) -/
namespace Go.Proofs.YtokhediaibdkjaaDoor
open Go.Pm Go.RowKit
set_option maxRecDepth 100000
/-- Is it told behind e numbers that they are none? How many are kept? -/
def rdBad (d : List UInt8) (e : Nat) : Bool := decide (1 ≤ e) && !rdGo d (e - 1)
def rdCnt (d : List UInt8) (e : Nat) : Nat := if rdBad d e = true then e - 1 else e
def numL (d : List UInt8) (n : Nat) : List Value := (List.range n).map fun j => I64 ((rdN d j).toNat : Int)
theorem numL_succ (d : List UInt8) (n : Nat) : numL d n ++ [I64 ((rdN d n).toNat : Int)] = numL d (n + 1) := by rw [numL, numL, List.range_succ, List.map_append]; rfl
theorem rdBad_no {d : List UInt8} {i : Nat} (h : ∀ j, j < i → rdGo d j = true) : rdBad d i = false := by
  unfold rdBad
  rcases Nat.eq_zero_or_pos i with h0 | h0
  · subst h0; rfl
  · rw [h (i - 1) (by omega)]; simp
theorem rdBad_yes {d : List UInt8} {i : Nat} (h : rdGo d i = false) : rdBad d (i + 1) = true := by
  unfold rdBad; rw [show i + 1 - 1 = i by omega, h]; simp
theorem rdCnt_no {d : List UInt8} {i : Nat} (h : rdBad d i = false) : rdCnt d i = i := by rw [rdCnt, if_neg (by rw [h]; decide)]
theorem rdCnt_yes {d : List UInt8} {i : Nat} (h : rdBad d i = true) : rdCnt d i = i - 1 := by rw [rdCnt, if_pos h]
/-- What is known of the end. -/
def rdEnd (d : List UInt8) (x : Nat × (Option Addr × Nat)) : Prop := x.1 ≤ 3 ∧ (x.1 = 3 ∨ (1 ≤ x.1 ∧ rdGo d (x.1 - 1) = false)) ∧ (∀ j, j + 1 < x.1 → rdGo d j = true) ∧ (x.2.1 = none → x.2.2 = 0) ∧ rdCnt d x.1 ≤ x.2.2
theorem rdEnd_all {d : List UInt8} {x : Nat × (Option Addr × Nat)} (h : rdEnd d x) (hb : rdBad d x.1 = false) : x.1 = 3 ∧ readW d = (((rdN d 0).toNat : Int), ((rdN d 1).toNat : Int), true) := by
  obtain ⟨h1, h2, h3, _⟩ := h
  have h4 : ¬ (1 ≤ x.1 ∧ rdGo d (x.1 - 1) = false) := fun ⟨a, b⟩ => by
    unfold rdBad at hb; rw [b] at hb; simp at hb; omega
  have h5 : x.1 = 3 := by rcases h2 with h2 | h2; exact h2; exact absurd h2 h4
  have g2 : rdGo d 2 = true := by
    cases hg : rdGo d 2 with
    | true => rfl
    | false => exact absurd ⟨by omega, by rw [h5]; exact hg⟩ h4
  exact ⟨h5, by rw [readW, if_pos ⟨h3 0 (by omega), h3 1 (by omega), g2⟩]⟩
theorem rdEnd_none {d : List UInt8} {x : Nat × (Option Addr × Nat)} (h : rdEnd d x) (hb : rdBad d x.1 = true) : rdCnt d x.1 < 3 ∧ readW d = (0, 0, false) := by
  obtain ⟨h1, _, _, _⟩ := h
  have hc := rdCnt_yes hb
  have h2 : 1 ≤ x.1 ∧ rdGo d (x.1 - 1) = false := by
    unfold rdBad at hb; simpa using hb
  refine ⟨by omega, ?_⟩
  rw [readW, if_neg]
  rintro ⟨g0, g1, g2⟩
  have : x.1 - 1 = 0 ∨ x.1 - 1 = 1 ∨ x.1 - 1 = 2 := by omega
  rcases this with e | e | e <;> rw [e] at h2 <;> simp_all
theorem most_fit (i : Nat) : (mostN i).toNat ≤ 9223372036854775807 := by
  match i with
  | 0 => decide
  | 1 => decide
  | 2 => decide
  | i + 3 => show (0#64 : BitVec 64).toNat ≤ _; decide


theorem f82_spec (p : Option Addr) (c : Nat) (d : List UInt8) (hd : d.length = 24) (hp : p = none → c = 0) (hc : 24 ≤ c) (w : World) (hr : RdC w p (d.map B8)) :
    Calls Tryd.prog 82 [.slice p 24 c].toArray w (fun en w2 => en = .returned (.tuple #[I64 (readW d).1, I64 (readW d).2.1, .bool (readW d).2.2]) ∧ Sat w [] [] w2) := by
  refine used hd (used hp (used hc (used hr (?_))))
  refine enterM (n := 29) Tryd.func82 rfl rfl rfl (Sat.refl w) ?_
  refine seq ?_
  refine region ?_
  refine st (g_assign rfl) rfl ?_
  refine st (g_assign rfl) rfl ?_
  refine st (g_assign rfl) rfl ?_
  refine done ?_
  refine th_n ?_
  refine scope ?_
  refine seq ?_
  refine region ?_
  refine sq rfl (o_alloc (zs := [.slice none 0 0]) zr_113 rfl (fun b5 => ?_))
  refine done ?_
  refine th_n ?_
  refine seq ?_
  refine label ?_
  refine th_n ?_
  refine seq ?_
  refine seq ?_
  refine region ?_
  refine st (g_move rfl) rfl ?_
  refine sq rfl (o_call Tryd.func106 rfl rfl rfl .nil (fun w hw hA => f106_spec p 24 c w) rfl (fun bd _ => ?_))
  refine done ?_
  refine th_n ?_
  refine block ?_
  skip
  refine At.up (fun w hw => new0_vec (T := 2) (s := 1) hw ⟨rfl, .inl ⟨rfl, rfl⟩⟩) ?_
  refine At.weaken (e' := [(2, I64 0), (3, I64 0), (4, .bool false), (5, .pointer (some ⟨b5, 0, none⟩)), (9, .func (.func 113) #[] [.pointer (some ⟨bd, 0, none⟩)].toArray)]) (Rs' := [blk bd 23 [.slice p 24 c], blk b5 113 [slv (rdCnt d ((0, (none, 0)) : Nat × (Option Addr × Nat)).1) ((0, (none, 0)) : Nat × (Option Addr × Nat)).2], vec (slv (rdCnt d ((0, (none, 0)) : Nat × (Option Addr × Nat)).1) ((0, (none, 0)) : Nat × (Option Addr × Nat)).2) 2 1 (rdCnt d ((0, (none, 0)) : Nat × (Option Addr × Nat)).1) (numL d (rdCnt d ((0, (none, 0)) : Nat × (Option Addr × Nat)).1))]) ?_ ⟨rfl, rfl, rfl, rfl, rfl, trivial⟩ (.cons (.there (.here)) (.cons (.there (.here)) (.cons .here .nil)))
  refine rangeF (β := Nat × (Option Addr × Nat)) (I := rdEnd d) (stt := fun x => if rdBad d x.1 = true then .done else .ready) (pend := fun x => if rdBad d x.1 = true then some (.exit 0) else none) (RR := fun x => [blk bd 23 [.slice p 24 c], blk b5 113 [slv (rdCnt d x.1) x.2], vec (slv (rdCnt d x.1) x.2) 2 1 (rdCnt d x.1) (numL d (rdCnt d x.1))]) rfl Tryd.func113 rfl rfl ?_ (fun _ _ => by split <;> nofun) ?_ ?_
  · intro a fn D lp w1 hOk hS
    have hS1 := hS.split (A := [objR lp _, blk bd 23 [.slice p 24 c], blk b5 113 [slv (rdCnt d ((0, (none, 0)) : Nat × (Option Addr × Nat)).1) ((0, (none, 0)) : Nat × (Option Addr × Nat)).2], vec (slv (rdCnt d ((0, (none, 0)) : Nat × (Option Addr × Nat)).1) ((0, (none, 0)) : Nat × (Option Addr × Nat)).2) 2 1 (rdCnt d ((0, (none, 0)) : Nat × (Option Addr × Nat)).1) (numL d (rdCnt d ((0, (none, 0)) : Nat × (Option Addr × Nat)).1)), objR D (.deferred (some []))]) (.cons .here (.cons (.there (.here)) (.cons (.there (.here)) (.cons (.there (.here)) (.cons .here .nil)))))
    have hr1 := RdS.ofOld (A := [objR lp _, blk bd 23 [.slice p 24 c], blk b5 113 [slv (rdCnt d ((0, (none, 0)) : Nat × (Option Addr × Nat)).1) ((0, (none, 0)) : Nat × (Option Addr × Nat)).2], vec (slv (rdCnt d ((0, (none, 0)) : Nat × (Option Addr × Nat)).1) ((0, (none, 0)) : Nat × (Option Addr × Nat)).2) 2 1 (rdCnt d ((0, (none, 0)) : Nat × (Option Addr × Nat)).1) (numL d (rdCnt d ((0, (none, 0)) : Nat × (Option Addr × Nat)).1)), objR D (.deferred (some []))]) hr.s hS (.cons .here (.cons (.there (.here)) (.cons (.there (.here)) (.cons (.there (.here)) (.cons .here .nil)))))
    refine (f113_spec (σ := Nat × (Option Addr × Nat)) lp bd p c d hd hp hc (fun i s => s.1 = i ∧ (s.2.1 = none → s.2.2 = 0) ∧ rdCnt d s.1 ≤ s.2.2) (fun s => objR lp (.loop ⟨if rdBad d s.1 = true then .done else .ready, if rdBad d s.1 = true then some (.exit 0) else none, fn, a.tmps, _, _, _, D⟩)) (fun s => blk b5 113 [slv (rdCnt d s.1) s.2]) (fun s => vec (slv (rdCnt d s.1) s.2) 2 1 (rdCnt d s.1) (numL d (rdCnt d s.1))) (objR D (.deferred (some []))) (rdGo d) (0, (none, 0)) ⟨rfl, fun _ => rfl, Nat.le_refl _⟩ w1 hS1.hand hr1 ?_).mono ?_
    · rintro i ⟨i', ys⟩ hi hg ⟨hii, hys0, hys⟩ w3 h3 hA3
      simp only at hii
      subst hii
      have hb0 := rdBad_no hg
      have hc0 := rdCnt_no hb0
      have hmf := most_fit i'
      rw [hc0] at hys
      simp only [hb0, hc0, Bool.false_eq_true, if_false] at h3 hA3 hys0 ⊢
      refine yield_walk (n := 29) (ds := []) (e := [(2, I64 0), (3, I64 0), (4, .bool false), (5, .pointer (some ⟨b5, 0, none⟩)), (9, .func (.func 113) #[] [.pointer (some ⟨bd, 0, none⟩)].toArray)]) hA3 ⟨hOk.size, rfl, hOk.get⟩ rfl (by decide) ?_
      refine seq ?_
      refine region ?_
      refine st (g_assign rfl) rfl ?_
      refine done ?_
      refine th_n ?_
      refine region ?_
      refine st (g_assign rfl) rfl ?_
      refine done ?_
      refine th_n ?_
      refine begin_round .here rfl ?_
      refine block ?_
      refine seq ?_
      refine seq ?_
      refine region ?_
      refine st (g_move rfl) rfl ?_
      refine st (g_move rfl) rfl ?_
      refine st (g_bin rfl rfl rfl) rfl ?_
      refine done ?_
      refine th_n ?_
      refine condS rfl (fun h14 => ?_) (fun h14 => ?_)
      · try simp only [decide_eq_true_eq] at h14
        have hgo : rdGo d i' = false := decide_eq_false (by omega)
        have hb1 : rdBad d (i' + 1) = true := rdBad_yes hgo
        have hc1 : rdCnt d (i' + 1) = i' := by rw [rdCnt_yes hb1]; omega
        refine exitc ?_
        refine th_x ?_
        refine ib_y rfl ?_
        exact round_exit .here (fun w4 h4 => ⟨(i' + 1, ys), ⟨hgo.symm, rfl, hys0, by rw [hc1]; exact hys⟩, by
          simp only [hb1, hc1, ↓reduceIte]
          exact Sat.left (h4.split (.cons .here (.cons .here (.cons .here (.cons .here (.cons .here .nil))))))⟩)
      · try simp only [decide_eq_false_iff_not] at h14
        have hgo : rdGo d i' = true := decide_eq_true (by omega)
        have hb1 : rdBad d (i' + 1) = false := rdBad_no (fun j hj => by
          rcases Nat.lt_or_ge j i' with h | h
          · exact hg j h
          · rw [show j = i' by omega]; exact hgo)
        have hc1 : rdCnt d (i' + 1) = i' + 1 := rdCnt_no hb1
        refine skip ?_
        refine th_n ?_
        refine region ?_
        refine st (g_load (v := slv (i') ys) sc_113 rfl (Cell.own (.there (.there (.here))) rfl)) rfl ?_
        refine st (g_move rfl) rfl ?_
        refine st (g_toI (c := ((rdN d i').toNat : Int)) it_34 it_2 rfl (by omega) (by omega) (by omega)) rfl ?_
        refine sq rfl (o_buildSlice1 (vs := [I64 ((rdN d i').toNat : Int)]) un_113 zr_2 sz_2 (by decide) (by decide) rfl rfl rfl (by simp [Value.oneCell']) rfl (fun b18 => ?_))
        refine sq rfl (o_append (n := i') (m := 1) (news := [I64 ((rdN d i').toNat : Int)]) un_113 zr_2 sz_2 rfl bt_2 (by decide) rfl rfl (.there (.there (.there (.there (.here))))) rfl (RdA.own .here (by simp)) (by simp [Value.oneCell']) (by simp) (by simp only [maxLen]; omega) (by omega) rfl (fun q cap hq hq1 hq0 => ?_))
        rw [numL_succ]
        refine sq rfl (o_store (cs' := [slv (i' + 1) (q, cap)]) sz_113 rfl rfl rfl (.there (.there (.there (.there (.here))))) (Nat.le_of_ble_eq_true rfl) rfl ?_)
        refine done ?_
        refine ib_n ?_
        exact round_on (.there (.there (.there (.here)))) (fun w4 h4 => ⟨(i' + 1, (q, cap)), ⟨hgo.symm, rfl, hq0, by rw [hc1]; exact hq1⟩, by
          simp only [hb1, hc1, ↓reduceIte, Bool.false_eq_true]
          exact Sat.left (h4.split (.cons .here (.cons (.there (.there (.there (.here)))) (.cons .here (.cons .here (.cons (.there (.here)) .nil))))))⟩)
    · rintro en w2 ⟨he, e, ⟨e', ys⟩, ⟨he1, he2, he3, hii, hys0, hys⟩, hs2⟩
      simp only at hii
      subst hii
      exact ⟨⟨_, he⟩, (e', ys), ⟨he1, he2, he3, hys0, hys⟩, Sat.app0 ((hS1.join hs2).split (.cons .here (.cons (.there (.there (.there (.here)))) (.cons .here (.cons .here (.cons .here .nil))))))⟩
  · rintro D ⟨xe, xy⟩ hx hp0
    have hb : rdBad d xe = false := by cases h : rdBad d xe with
      | false => rfl
      | true => rw [h] at hp0; cases hp0
    obtain ⟨h3e, hrw⟩ := rdEnd_all hx hb
    simp only at h3e
    subst h3e
    have hc3 : rdCnt d 3 = 3 := rdCnt_no hb
    have hcap : 3 ≤ xy.2 := by have := hx.2.2.2.2; rw [hc3] at this; exact this
    have hxs : xy.1.isSome = true := by
      cases h : xy.1 with
      | none => have h0 : xy.2 = 0 := hx.2.2.2.1 h; omega
      | some a => rfl
    simp only [hc3]
    refine ib_n ?_
    refine th_n ?_
    refine seq ?_
    refine seq ?_
    refine region ?_
    refine st (g_load (v := slv (3) xy) sc_113 rfl (Cell.own (.there (.there (.here))) rfl)) rfl ?_
    refine st (g_len el_113 rfl) rfl ?_
    refine st (g_F rfl rfl rfl (by decide)) rfl ?_
    refine done ?_
    refine th_n ?_
    refine condF rfl ?_
    refine skip ?_
    refine th_n ?_
    refine seq ?_
    refine regionQ mixed (by decide +kernel) (by decide +kernel) ?_
    refine Dr.st (g_load (v := slv (3) xy) sc_113 rfl (Cell.own (.there (.there (.here))) rfl)) rfl ?_
    refine Dr.st (g_indexP el_113 rfl rfl (hxs) (by omega) (by omega) rfl) rfl ?_
    refine Dr.st (g_load (v := I64 ((rdN d 0).toNat : Int)) sc_2 rfl (Cell.rd (RdA.vec (.there (.there (.there (.here))))) rfl)) rfl ?_
    refine Dr.st (g_load (v := slv (3) xy) sc_113 rfl (Cell.own (.there (.there (.here))) rfl)) rfl ?_
    refine Dr.st (g_indexP el_113 rfl rfl (hxs) (by omega) (by omega) rfl) rfl ?_
    refine Dr.st (g_load (v := I64 ((rdN d 1).toNat : Int)) sc_2 rfl (Cell.rd (RdA.vec (.there (.there (.there (.here))))) rfl)) rfl ?_
    refine Dr.st (g_assign rfl) rfl ?_
    refine Dr.st (g_assign rfl) rfl ?_
    refine Dr.st (g_assign rfl) rfl ?_
    refine Dr.nil ?_
    refine th_n ?_
    refine ret ?_
    refine ng_r ?_
    exact retM1 (vf := fun _ _ => .tuple #[I64 (readW d).1, I64 (readW d).2.1, .bool (readW d).2.2]) rfl .here (fun a w2 ha hw2 => ⟨by rw [hrw]; exact res3 ha rfl rfl rfl rfl, rfl, hw2.clear⟩)
  · rintro D ⟨xe, xy⟩ cc hx hp0
    have hb : rdBad d xe = true := by cases h : rdBad d xe with
      | true => rfl
      | false => rw [h] at hp0; cases hp0
    rw [if_pos hb] at hp0
    cases hp0
    obtain ⟨h3e, hrw⟩ := rdEnd_none hx hb
    simp only at h3e
    refine exitc ?_
    refine ib_x ?_
    refine th_n ?_
    refine seq ?_
    refine seq ?_
    refine region ?_
    refine st (g_load (v := slv (rdCnt d xe) xy) sc_113 rfl (Cell.own (.there (.there (.here))) rfl)) rfl ?_
    refine st (g_len el_113 rfl) rfl ?_
    refine st (g_T rfl rfl rfl (by omega)) rfl ?_
    refine done ?_
    refine th_n ?_
    refine condT rfl ?_
    refine seq ?_
    refine region ?_
    refine st (g_assign rfl) rfl ?_
    refine st (g_assign rfl) rfl ?_
    refine st (g_assign rfl) rfl ?_
    refine done ?_
    refine th_n ?_
    refine ret ?_
    refine th_r ?_
    refine ng_r ?_
    exact retM1 (vf := fun _ _ => .tuple #[I64 (readW d).1, I64 (readW d).2.1, .bool (readW d).2.2]) rfl .here (fun a w2 ha hw2 => ⟨by rw [hrw]; exact res3 ha rfl rfl rfl rfl, rfl, hw2.clear⟩)
end Go.Proofs.YtokhediaibdkjaaDoor

/-! From R3 -/
/- The walk of diary.Open. (printed by gen1.py) -/
namespace Go.Proofs.YtokhediaibdkjaaDoor
open Go.Pm Go.RowKit
set_option maxRecDepth 100000
theorem f82_as (p : Option Addr) (n c : Nat) (d : List UInt8) (hd : d.length = n) (h24 : n = 24) (hp : p = none → c = 0) (hc : n ≤ c) {s t : Int} {f : Bool} (h : readW d = (s, t, f)) (w : World) (hr : RdC w p (d.map B8)) :
    Calls Tryd.prog 82 [.slice p n c].toArray w (fun en w2 => en = .returned (.tuple #[I64 s, I64 t, .bool f]) ∧ Sat w [] [] w2) := by
  subst h24
  have h1 := f82_spec p c d hd hp hc w hr
  rw [h] at h1
  exact h1
theorem bu_112 (v : Value) (h : v.oneCell' = true) (n : Int) : Tryd.prog.built 112 [(0, v), (1, I64 n)] = some [v, I64 n, I64 0].toArray := by
  have h1 : Tryd.prog.built 112 [(0, v), (1, I64 n)] = Instr.fill (fun i => ([(0, 1), (1, 1), (2, 1)] : List (Nat × Nat)).toArray[i]?) #[.pointer none, .int .i64 0, .int .i64 0] [(0, v), (1, I64 n)] := by kernel_rfl
  rw [h1, fill_cons1 (off := 0) rfl h (by simp), fill_cons1 (off := 1) rfl rfl (by simp)]; rfl
/-- A diary: where it lies, its disk, its serial and time. -/
abbrev dyC (b : Nat) (s t : Int) : List Value := [.pointer (some ⟨b, 0, none⟩), I64 s, I64 t]
abbrev dyB (x b : Nat) (s t : Int) : Res := blk x 112 (dyC b s t)
/-- What Open answers: the error, the serial, the time. -/
def Dk.open (k : Dk) (first : Int) : Int × Int × Int :=
  if first < 0 then (191, 0, 0) else if k.load.w ≠ 0 then (k.load.w, 0, 0) else if k.load.n = 0#64 then (0, first, 0)
  else if (readW k.load.d).2.2 = true then (0, (readW k.load.d).1, (readW k.load.d).2.1) else (191, 0, 0)
def ld24 (s : Ld) : Prop := s.n ≠ 0#64 → s.d.length = 24
theorem ldStep_24 (k : Dk) (i : Nat) {s : Ld} (h : ld24 s) : ld24 (k.ldStep i s) := by
  unfold Dk.ldStep
  split
  · cases hd : decW (k.rd i).2 with
    | none => exact h
    | some x =>
      obtain ⟨m, d⟩ := x
      show ld24 (if m ≤ s.n then { s with w := 0, a := i } else ⟨m, d, 1 - i, 0, i⟩)
      split
      · exact h
      · exact fun _ => decW_len hd
  · exact h
theorem load_24 (k : Dk) : ld24 k.load := by
  have hz : ld24 Ld.z := fun h => absurd rfl h
  have h : ∀ i, ld24 (k.lds i) := fun i => iter_inv (I := ld24) (fun n s hs => ldStep_24 k n hs) i _ hz
  have hl : ld24 k.ld := h _
  unfold Dk.load
  split
  · exact hl
  · exact hz


theorem f42_neg (b : Nat) (k : Dk) (hk : k.ok) (r : Rp) (hro : r.ok k) (first : Int) (h0 : first < 0) (w : World) (hA : Sat w (fps (dkR b k r)) (dkR b k r) w) (hG : Gl w (fps (dkR b k r))) : Calls Tryd.prog 42 [.pointer (some ⟨b, 0, none⟩), I64 first].toArray w (fun en w2 => ∃ _x : Unit, True ∧ en = .returned (.tuple #[.pointer none, I64 191]) ∧ Sat w (fps (dkR b k r)) (dkR b k r) w2) := by
  refine used hk (used hro (used h0 (used hA (used hG (?_)))))
  refine enter (n := 46) Tryd.func42 rfl rfl rfl hA ?_
  refine seq ?_
  refine region ?_
  refine st (g_assign rfl) rfl ?_
  refine st (g_assign rfl) rfl ?_
  refine done ?_
  refine th_n ?_
  refine seq ?_
  refine seq ?_
  refine region ?_
  refine st (g_move rfl) rfl ?_
  refine st (g_T rfl rfl rfl (by omega)) rfl ?_
  refine done ?_
  refine th_n ?_
  refine condT rfl ?_
  refine seq ?_
  refine region ?_
  refine st (g_assign rfl) rfl ?_
  refine st (g_assign rfl) rfl ?_
  refine done ?_
  refine th_n ?_
  refine ret ?_
  refine th_r ?_
  exact ret2 rfl rfl rfl rfl (fun w2 hw2 => ⟨(), trivial, rfl, Sat.left (hw2.split (.cons .here (.cons .here (.cons .here (.cons .here .nil)))))⟩)

theorem f42_err (b : Nat) (k : Dk) (hk : k.ok) (r : Rp) (hro : r.ok k) (first : Int) (h0 : ¬ first < 0) (hw0 : k.load.w ≠ 0) (w : World) (hA : Sat w (fps (dkR b k r)) (dkR b k r) w) (hG : Gl w (fps (dkR b k r))) : Calls Tryd.prog 42 [.pointer (some ⟨b, 0, none⟩), I64 first].toArray w (fun en w2 => ∃ _x : Unit, True ∧ en = .returned (.tuple #[.pointer none, I64 k.load.w]) ∧ Sat w (fps (dkR b k r)) (dkR b k r) w2) := by
  refine used hk (used hro (used h0 (used hw0 (used hA (used hG (?_))))))
  refine enter (n := 46) Tryd.func42 rfl rfl rfl hA ?_
  refine seq ?_
  refine region ?_
  refine st (g_assign rfl) rfl ?_
  refine st (g_assign rfl) rfl ?_
  refine done ?_
  refine th_n ?_
  refine seq ?_
  refine seq ?_
  refine region ?_
  refine st (g_move rfl) rfl ?_
  refine st (g_F rfl rfl rfl (by omega)) rfl ?_
  refine done ?_
  refine th_n ?_
  refine condF rfl ?_
  refine skip ?_
  refine th_n ?_
  refine seq ?_
  refine region ?_
  refine st (g_move rfl) rfl ?_
  refine sq rfl (o_call Tryd.func52 rfl rfl rfl (.cons .here (.cons .here (.cons .here (.cons .here .nil)))) (fun w hw hA => f52_spec b k hk r hro w (by assumption) (Gl.ofOld (A := dkR b k r) hG hw (.cons .here (.cons .here (.cons .here (.cons .here .nil)))))) rfl (fun y hy => ?_))
  refine st (g_move rfl) rfl ?_
  refine st (g_extract rfl rfl) rfl ?_
  refine st (g_extract rfl rfl) rfl ?_
  refine st (g_extract rfl rfl) rfl ?_
  refine sq rfl (o_alloc (zs := [U64 0#64, .slice none 0 0]) zr_73 rfl (fun b6 => ?_))
  refine sq rfl (o_storeA (cs' := ldv k.load y) sz_73 rfl rfl rfl (by simp [ldv]; exact ⟨rfl, rfl⟩) .here (Nat.le_of_ble_eq_true rfl) rfl ?_)
  refine st (g_assign rfl) rfl ?_
  refine st (g_assign rfl) rfl ?_
  refine done ?_
  refine th_n ?_
  refine seq ?_
  refine seq ?_
  refine region ?_
  refine st (g_move rfl) rfl ?_
  refine st (g_T rfl rfl rfl (by simpa using hw0)) rfl ?_
  refine done ?_
  refine th_n ?_
  refine condT rfl ?_
  refine seq ?_
  refine region ?_
  refine st (g_move rfl) rfl ?_
  refine st (g_assign rfl) rfl ?_
  refine st (g_assign rfl) rfl ?_
  refine done ?_
  refine th_n ?_
  refine ret ?_
  refine th_r ?_
  exact ret2 rfl rfl rfl rfl (fun w2 hw2 => ⟨(), trivial, rfl, Sat.left (hw2.split (.cons (.there (.there (.here))) (.cons (.there (.there (.here))) (.cons (.there (.there (.here))) (.cons (.there (.there (.here))) .nil)))))⟩)

theorem f42_zero (b : Nat) (k : Dk) (hk : k.ok) (r : Rp) (hro : r.ok k) (first : Int) (h0 : ¬ first < 0) (hw0 : k.load.w = 0) (hn0 : k.load.n = 0#64) (w : World) (hA : Sat w (fps (dkR b k r)) (dkR b k r) w) (hG : Gl w (fps (dkR b k r))) : Calls Tryd.prog 42 [.pointer (some ⟨b, 0, none⟩), I64 first].toArray w (fun en w2 => ∃ x : Nat, True ∧ en = .returned (.tuple #[.pointer (some ⟨x, 0, none⟩), I64 0]) ∧ Sat w (fps (dkR b k r)) (dyB x b first 0 :: dkR b k r) w2) := by
  refine used hk (used hro (used h0 (used hw0 (used hn0 (used hA (used hG (?_)))))))
  refine enter (n := 46) Tryd.func42 rfl rfl rfl hA ?_
  refine seq ?_
  refine region ?_
  refine st (g_assign rfl) rfl ?_
  refine st (g_assign rfl) rfl ?_
  refine done ?_
  refine th_n ?_
  refine seq ?_
  refine seq ?_
  refine region ?_
  refine st (g_move rfl) rfl ?_
  refine st (g_F rfl rfl rfl (by omega)) rfl ?_
  refine done ?_
  refine th_n ?_
  refine condF rfl ?_
  refine skip ?_
  refine th_n ?_
  refine seq ?_
  refine region ?_
  refine st (g_move rfl) rfl ?_
  refine sq rfl (o_call Tryd.func52 rfl rfl rfl (.cons .here (.cons .here (.cons .here (.cons .here .nil)))) (fun w hw hA => f52_spec b k hk r hro w (by assumption) (Gl.ofOld (A := dkR b k r) hG hw (.cons .here (.cons .here (.cons .here (.cons .here .nil)))))) rfl (fun y hy => ?_))
  refine st (g_move rfl) rfl ?_
  refine st (g_extract rfl rfl) rfl ?_
  refine st (g_extract rfl rfl) rfl ?_
  refine st (g_extract rfl rfl) rfl ?_
  refine sq rfl (o_alloc (zs := [U64 0#64, .slice none 0 0]) zr_73 rfl (fun b6 => ?_))
  refine sq rfl (o_storeA (cs' := ldv k.load y) sz_73 rfl rfl rfl (by simp [ldv]; exact ⟨rfl, rfl⟩) .here (Nat.le_of_ble_eq_true rfl) rfl ?_)
  refine st (g_assign rfl) rfl ?_
  refine st (g_assign rfl) rfl ?_
  refine done ?_
  refine th_n ?_
  refine seq ?_
  refine seq ?_
  refine region ?_
  refine st (g_move rfl) rfl ?_
  refine st (g_F rfl rfl rfl (by simpa using hw0)) rfl ?_
  refine done ?_
  refine th_n ?_
  refine condF rfl ?_
  refine skip ?_
  refine th_n ?_
  refine seq ?_
  refine region ?_
  refine st (g_move rfl) rfl ?_
  refine st (g_move rfl) rfl ?_
  refine st (g_build rfl (bu_112 _ rfl _)) rfl ?_
  refine sq rfl (o_box (cs := dyC b first 0) rfl rfl rfl (fun b25 => ?_))
  refine st (g_assign rfl) rfl ?_
  refine done ?_
  refine th_n ?_
  refine seq ?_
  refine seq ?_
  refine region ?_
  refine st (g_fieldAddr fo_73_0 rfl rfl) rfl ?_
  refine st (g_load (v := U64 k.load.n) sc_34 rfl (Cell.own (.there (.here)) rfl)) rfl ?_
  refine st (g_T rfl rfl rfl (by rw [hn0]; rfl)) rfl ?_
  refine done ?_
  refine th_n ?_
  refine condT rfl ?_
  refine seq ?_
  refine region ?_
  refine st (g_move rfl) rfl ?_
  refine st (g_assign rfl) rfl ?_
  refine st (g_assign rfl) rfl ?_
  refine done ?_
  refine th_n ?_
  refine ret ?_
  refine th_r ?_
  exact ret2 rfl rfl rfl rfl (fun w2 hw2 => ⟨b25, trivial, rfl, Sat.left (hw2.split (.cons .here (.cons (.there (.there (.here))) (.cons (.there (.there (.here))) (.cons (.there (.there (.here))) (.cons (.there (.there (.here))) .nil))))))⟩)

theorem f42_rec (b : Nat) (k : Dk) (hk : k.ok) (r : Rp) (hro : r.ok k) (first : Int) (h0 : ¬ first < 0) (hw0 : k.load.w = 0) (hn0 : k.load.n ≠ 0#64) {s t : Int} (hrd : readW k.load.d = (s, t, true)) (w : World) (hA : Sat w (fps (dkR b k r)) (dkR b k r) w) (hG : Gl w (fps (dkR b k r))) : Calls Tryd.prog 42 [.pointer (some ⟨b, 0, none⟩), I64 first].toArray w (fun en w2 => ∃ x : Nat, True ∧ en = .returned (.tuple #[.pointer (some ⟨x, 0, none⟩), I64 0]) ∧ Sat w (fps (dkR b k r)) (dyB x b s t :: dkR b k r) w2) := by
  refine used hk (used hro (used h0 (used hw0 (used hn0 (used hrd (used hA (used hG (?_))))))))
  refine enter (n := 46) Tryd.func42 rfl rfl rfl hA ?_
  refine seq ?_
  refine region ?_
  refine st (g_assign rfl) rfl ?_
  refine st (g_assign rfl) rfl ?_
  refine done ?_
  refine th_n ?_
  refine seq ?_
  refine seq ?_
  refine region ?_
  refine st (g_move rfl) rfl ?_
  refine st (g_F rfl rfl rfl (by omega)) rfl ?_
  refine done ?_
  refine th_n ?_
  refine condF rfl ?_
  refine skip ?_
  refine th_n ?_
  refine seq ?_
  refine region ?_
  refine st (g_move rfl) rfl ?_
  refine sq rfl (o_call Tryd.func52 rfl rfl rfl (.cons .here (.cons .here (.cons .here (.cons .here .nil)))) (fun w hw hA => f52_spec b k hk r hro w (by assumption) (Gl.ofOld (A := dkR b k r) hG hw (.cons .here (.cons .here (.cons .here (.cons .here .nil)))))) rfl (fun y hy => ?_))
  refine st (g_move rfl) rfl ?_
  refine st (g_extract rfl rfl) rfl ?_
  refine st (g_extract rfl rfl) rfl ?_
  refine st (g_extract rfl rfl) rfl ?_
  refine sq rfl (o_alloc (zs := [U64 0#64, .slice none 0 0]) zr_73 rfl (fun b6 => ?_))
  refine sq rfl (o_storeA (cs' := ldv k.load y) sz_73 rfl rfl rfl (by simp [ldv]; exact ⟨rfl, rfl⟩) .here (Nat.le_of_ble_eq_true rfl) rfl ?_)
  refine st (g_assign rfl) rfl ?_
  refine st (g_assign rfl) rfl ?_
  refine done ?_
  refine th_n ?_
  refine seq ?_
  refine seq ?_
  refine region ?_
  refine st (g_move rfl) rfl ?_
  refine st (g_F rfl rfl rfl (by simpa using hw0)) rfl ?_
  refine done ?_
  refine th_n ?_
  refine condF rfl ?_
  refine skip ?_
  refine th_n ?_
  refine seq ?_
  refine region ?_
  refine st (g_move rfl) rfl ?_
  refine st (g_move rfl) rfl ?_
  refine st (g_build rfl (bu_112 _ rfl _)) rfl ?_
  refine sq rfl (o_box (cs := dyC b first 0) rfl rfl rfl (fun b25 => ?_))
  refine st (g_assign rfl) rfl ?_
  refine done ?_
  refine th_n ?_
  refine seq ?_
  refine seq ?_
  refine region ?_
  refine st (g_fieldAddr fo_73_0 rfl rfl) rfl ?_
  refine st (g_load (v := U64 k.load.n) sc_34 rfl (Cell.own (.there (.here)) rfl)) rfl ?_
  refine st (g_F rfl rfl rfl (u64_ne hn0)) rfl ?_
  refine done ?_
  refine th_n ?_
  refine condF rfl ?_
  refine skip ?_
  refine th_n ?_
  refine seq ?_
  refine region ?_
  refine st (g_assign rfl) rfl ?_
  refine done ?_
  refine th_n ?_
  refine seq ?_
  refine seq ?_
  refine region ?_
  refine st (g_move rfl) rfl ?_
  refine st (g_move rfl) rfl ?_
  refine st (g_fieldAddr fo_73_1 rfl rfl) rfl ?_
  refine st (g_load (v := slv k.load.d.length y) sc_23 rfl (Cell.own (.there (.here)) rfl)) rfl ?_
  refine sq rfl (o_callP Tryd.func82 rfl rfl rfl (fun w hw => f82_as y.1 _ y.2 k.load.d rfl (load_24 k hn0) hy.1 hy.2 hrd w (RdC.ofVec (hw.get (.there (.there (.here)))))) rfl ?_)
  refine st (g_move rfl) rfl ?_
  refine st (g_extract rfl rfl) rfl ?_
  refine st (g_extract rfl rfl) rfl ?_
  refine st (g_extract rfl rfl) rfl ?_
  refine st (g_nilCheck rfl) rfl ?_
  refine st (g_fieldAddr fo_112_1 rfl rfl) rfl ?_
  refine sq rfl (o_store (cs' := dyC b s 0) sz_2 rfl rfl rfl .here (Nat.le_of_ble_eq_true rfl) rfl ?_)
  refine st (g_nilCheck rfl) rfl ?_
  refine st (g_fieldAddr fo_112_2 rfl rfl) rfl ?_
  refine sq rfl (o_store (cs' := dyC b s t) sz_2 rfl rfl rfl .here (Nat.le_of_ble_eq_true rfl) rfl ?_)
  refine st (g_assign rfl) rfl ?_
  refine done ?_
  refine th_n ?_
  refine seq ?_
  refine region ?_
  refine st (g_move rfl) rfl ?_
  refine st (g_not rfl) rfl ?_
  refine done ?_
  refine th_n ?_
  refine condF rfl ?_
  refine skip ?_
  refine th_n ?_
  refine seq ?_
  refine region ?_
  refine st (g_move rfl) rfl ?_
  refine st (g_assign rfl) rfl ?_
  refine st (g_assign rfl) rfl ?_
  refine done ?_
  refine th_n ?_
  refine ret ?_
  exact ret2 rfl rfl rfl rfl (fun w2 hw2 => ⟨b25, trivial, rfl, Sat.left (hw2.split (.cons .here (.cons (.there (.there (.here))) (.cons (.there (.there (.here))) (.cons (.there (.there (.here))) (.cons (.there (.there (.here))) .nil))))))⟩)

theorem f42_bad (b : Nat) (k : Dk) (hk : k.ok) (r : Rp) (hro : r.ok k) (first : Int) (h0 : ¬ first < 0) (hw0 : k.load.w = 0) (hn0 : k.load.n ≠ 0#64) {s t : Int} (hrd : readW k.load.d = (s, t, false)) (w : World) (hA : Sat w (fps (dkR b k r)) (dkR b k r) w) (hG : Gl w (fps (dkR b k r))) : Calls Tryd.prog 42 [.pointer (some ⟨b, 0, none⟩), I64 first].toArray w (fun en w2 => ∃ _x : Unit, True ∧ en = .returned (.tuple #[.pointer none, I64 191]) ∧ Sat w (fps (dkR b k r)) (dkR b k r) w2) := by
  refine used hk (used hro (used h0 (used hw0 (used hn0 (used hrd (used hA (used hG (?_))))))))
  refine enter (n := 46) Tryd.func42 rfl rfl rfl hA ?_
  refine seq ?_
  refine region ?_
  refine st (g_assign rfl) rfl ?_
  refine st (g_assign rfl) rfl ?_
  refine done ?_
  refine th_n ?_
  refine seq ?_
  refine seq ?_
  refine region ?_
  refine st (g_move rfl) rfl ?_
  refine st (g_F rfl rfl rfl (by omega)) rfl ?_
  refine done ?_
  refine th_n ?_
  refine condF rfl ?_
  refine skip ?_
  refine th_n ?_
  refine seq ?_
  refine region ?_
  refine st (g_move rfl) rfl ?_
  refine sq rfl (o_call Tryd.func52 rfl rfl rfl (.cons .here (.cons .here (.cons .here (.cons .here .nil)))) (fun w hw hA => f52_spec b k hk r hro w (by assumption) (Gl.ofOld (A := dkR b k r) hG hw (.cons .here (.cons .here (.cons .here (.cons .here .nil)))))) rfl (fun y hy => ?_))
  refine st (g_move rfl) rfl ?_
  refine st (g_extract rfl rfl) rfl ?_
  refine st (g_extract rfl rfl) rfl ?_
  refine st (g_extract rfl rfl) rfl ?_
  refine sq rfl (o_alloc (zs := [U64 0#64, .slice none 0 0]) zr_73 rfl (fun b6 => ?_))
  refine sq rfl (o_storeA (cs' := ldv k.load y) sz_73 rfl rfl rfl (by simp [ldv]; exact ⟨rfl, rfl⟩) .here (Nat.le_of_ble_eq_true rfl) rfl ?_)
  refine st (g_assign rfl) rfl ?_
  refine st (g_assign rfl) rfl ?_
  refine done ?_
  refine th_n ?_
  refine seq ?_
  refine seq ?_
  refine region ?_
  refine st (g_move rfl) rfl ?_
  refine st (g_F rfl rfl rfl (by simpa using hw0)) rfl ?_
  refine done ?_
  refine th_n ?_
  refine condF rfl ?_
  refine skip ?_
  refine th_n ?_
  refine seq ?_
  refine region ?_
  refine st (g_move rfl) rfl ?_
  refine st (g_move rfl) rfl ?_
  refine st (g_build rfl (bu_112 _ rfl _)) rfl ?_
  refine sq rfl (o_box (cs := dyC b first 0) rfl rfl rfl (fun b25 => ?_))
  refine st (g_assign rfl) rfl ?_
  refine done ?_
  refine th_n ?_
  refine seq ?_
  refine seq ?_
  refine region ?_
  refine st (g_fieldAddr fo_73_0 rfl rfl) rfl ?_
  refine st (g_load (v := U64 k.load.n) sc_34 rfl (Cell.own (.there (.here)) rfl)) rfl ?_
  refine st (g_F rfl rfl rfl (u64_ne hn0)) rfl ?_
  refine done ?_
  refine th_n ?_
  refine condF rfl ?_
  refine skip ?_
  refine th_n ?_
  refine seq ?_
  refine region ?_
  refine st (g_assign rfl) rfl ?_
  refine done ?_
  refine th_n ?_
  refine seq ?_
  refine seq ?_
  refine region ?_
  refine st (g_move rfl) rfl ?_
  refine st (g_move rfl) rfl ?_
  refine st (g_fieldAddr fo_73_1 rfl rfl) rfl ?_
  refine st (g_load (v := slv k.load.d.length y) sc_23 rfl (Cell.own (.there (.here)) rfl)) rfl ?_
  refine sq rfl (o_callP Tryd.func82 rfl rfl rfl (fun w hw => f82_as y.1 _ y.2 k.load.d rfl (load_24 k hn0) hy.1 hy.2 hrd w (RdC.ofVec (hw.get (.there (.there (.here)))))) rfl ?_)
  refine st (g_move rfl) rfl ?_
  refine st (g_extract rfl rfl) rfl ?_
  refine st (g_extract rfl rfl) rfl ?_
  refine st (g_extract rfl rfl) rfl ?_
  refine st (g_nilCheck rfl) rfl ?_
  refine st (g_fieldAddr fo_112_1 rfl rfl) rfl ?_
  refine sq rfl (o_store (cs' := dyC b s 0) sz_2 rfl rfl rfl .here (Nat.le_of_ble_eq_true rfl) rfl ?_)
  refine st (g_nilCheck rfl) rfl ?_
  refine st (g_fieldAddr fo_112_2 rfl rfl) rfl ?_
  refine sq rfl (o_store (cs' := dyC b s t) sz_2 rfl rfl rfl .here (Nat.le_of_ble_eq_true rfl) rfl ?_)
  refine st (g_assign rfl) rfl ?_
  refine done ?_
  refine th_n ?_
  refine seq ?_
  refine region ?_
  refine st (g_move rfl) rfl ?_
  refine st (g_not rfl) rfl ?_
  refine done ?_
  refine th_n ?_
  refine condT rfl ?_
  refine seq ?_
  refine region ?_
  refine st (g_assign rfl) rfl ?_
  refine st (g_assign rfl) rfl ?_
  refine done ?_
  refine th_n ?_
  refine ret ?_
  refine th_r ?_
  exact ret2 rfl rfl rfl rfl (fun w2 hw2 => ⟨(), trivial, rfl, Sat.left (hw2.split (.cons (.there (.there (.there (.here)))) (.cons (.there (.there (.there (.here)))) (.cons (.there (.there (.there (.here)))) (.cons (.there (.there (.there (.here)))) .nil)))))⟩)

theorem open_cases (k : Dk) (first : Int) : (first < 0 ∧ k.open first = (191, 0, 0)) ∨ (¬ first < 0 ∧ k.load.w ≠ 0 ∧ k.open first = (k.load.w, 0, 0)) ∨ (¬ first < 0 ∧ k.load.w = 0 ∧ k.load.n = 0#64 ∧ k.open first = (0, first, 0)) ∨
    (¬ first < 0 ∧ k.load.w = 0 ∧ k.load.n ≠ 0#64 ∧ ∃ s t, readW k.load.d = (s, t, true) ∧ k.open first = (0, s, t)) ∨ (¬ first < 0 ∧ k.load.w = 0 ∧ k.load.n ≠ 0#64 ∧ ∃ s t, readW k.load.d = (s, t, false) ∧ k.open first = (191, 0, 0)) := by
  by_cases h0 : first < 0
  · exact .inl ⟨h0, by rw [Dk.open, if_pos h0]⟩
  · by_cases h1 : k.load.w = 0
    · by_cases h2 : k.load.n = 0#64
      · exact .inr (.inr (.inl ⟨h0, h1, h2, by rw [Dk.open, if_neg h0, if_neg (by simpa using h1), if_pos h2]⟩))
      · have e : k.open first = if (readW k.load.d).2.2 = true then (0, (readW k.load.d).1, (readW k.load.d).2.1) else (191, 0, 0) := by rw [Dk.open, if_neg h0, if_neg (by simpa using h1), if_neg h2]
        rw [e]
        obtain ⟨z, hz⟩ : ∃ z, z = readW k.load.d := ⟨_, rfl⟩
        rw [← hz]
        obtain ⟨s, t, f⟩ := z
        cases f with
        | true => exact .inr (.inr (.inr (.inl ⟨h0, h1, h2, s, t, rfl, if_pos rfl⟩)))
        | false => exact .inr (.inr (.inr (.inr ⟨h0, h1, h2, s, t, rfl, if_neg (show ¬ false = true by decide)⟩)))
    · exact .inr (.inl ⟨h0, h1, by rw [Dk.open, if_neg h0, if_pos h1]⟩)
theorem f42_ok (b : Nat) (k : Dk) (hk : k.ok) (r : Rp) (hro : r.ok k) (first : Int) {s t : Int} (h : k.open first = (0, s, t)) (w : World) (hA : Sat w (fps (dkR b k r)) (dkR b k r) w) (hG : Gl w (fps (dkR b k r))) : Calls Tryd.prog 42 [.pointer (some ⟨b, 0, none⟩), I64 first].toArray w (fun en w2 => ∃ x : Nat, True ∧ en = .returned (.tuple #[.pointer (some ⟨x, 0, none⟩), I64 0]) ∧ Sat w (fps (dkR b k r)) (dyB x b s t :: dkR b k r) w2) := by
  rcases open_cases k first with ⟨_, e⟩ | ⟨_, h1, e⟩ | ⟨h0, h1, h2, e⟩ | ⟨h0, h1, h2, s', t', hr, e⟩ | ⟨_, _, _, _, _, _, e⟩
  · rw [e] at h; cases h
  · rw [e] at h; exact absurd (congrArg Prod.fst h) h1
  · rw [e] at h; cases h; exact f42_zero b k hk r hro first h0 h1 h2 w hA hG
  · rw [e] at h; cases h; exact f42_rec b k hk r hro first h0 h1 h2 hr w hA hG
  · rw [e] at h; cases h
theorem f42_no (b : Nat) (k : Dk) (hk : k.ok) (r : Rp) (hro : r.ok k) (first : Int) {e s t : Int} (h : k.open first = (e, s, t)) (he : e ≠ 0) (w : World) (hA : Sat w (fps (dkR b k r)) (dkR b k r) w) (hG : Gl w (fps (dkR b k r))) : Calls Tryd.prog 42 [.pointer (some ⟨b, 0, none⟩), I64 first].toArray w (fun en w2 => ∃ _x : Unit, True ∧ en = .returned (.tuple #[.pointer none, I64 e]) ∧ Sat w (fps (dkR b k r)) (dkR b k r) w2) := by
  rcases open_cases k first with ⟨h0, e'⟩ | ⟨h0, h1, e'⟩ | ⟨h0, h1, h2, e'⟩ | ⟨h0, h1, h2, s', t', hr, e'⟩ | ⟨h0, h1, h2, s', t', hr, e'⟩
  · rw [e'] at h; cases h; exact f42_neg b k hk r hro first h0 w hA hG
  · rw [e'] at h; cases h; exact f42_err b k hk r hro first h0 h1 w hA hG
  · rw [e'] at h; cases h; exact absurd rfl he
  · rw [e'] at h; cases h; exact absurd rfl he
  · rw [e'] at h; cases h; exact f42_bad b k hk r hro first h0 h1 h2 hr w hA hG

end Go.Proofs.YtokhediaibdkjaaDoor

/-! From R4 -/
/- The walks of diary.Last, Reserve. (printed by gen1.py) -/
namespace Go.Proofs.YtokhediaibdkjaaDoor
open Go.Pm Go.RowKit
set_option maxRecDepth 100000
/-- A record's data. -/
def recD (s t : Int) : List UInt8 := be8 (BitVec.ofInt 64 s) ++ be8 (BitVec.ofInt 64 t) ++ List.replicate 8 0
theorem recD_length (s t : Int) : (recD s t).length = 24 := rfl
def later (t time : Int) : Int := if t < time then time else t
/-- What Reserve answers (serial, time, error); the disk and the diary behind it. -/
def Dk.resv (k : Dk) (s t time : Int) : (Int × Int × Int) × Dk × (Int × Int) :=
  if time < 0 ∨ time > 253402300799999 then ((0, 0, 191), k, (s, t))
  else if s = 9223372036854775807 then ((0, 0, 190), k, (s, t))
  else if (k.save (recD (s + 1) (later t time))).1.w ≠ 0 then ((0, 0, (k.save (recD (s + 1) (later t time))).1.w), (k.save (recD (s + 1) (later t time))).2, (s, t))
  else ((s + 1, later t time, 0), (k.save (recD (s + 1) (later t time))).2, (s + 1, later t time))


theorem f40_spec (x b : Nat) (s t : Int) (w : World) (hA : Sat w (fps [dyB x b s t]) [dyB x b s t] w) : Calls Tryd.prog 40 [.pointer (some ⟨x, 0, none⟩)].toArray w (fun en w2 => ∃ _x : Unit, True ∧ en = .returned (.tuple #[I64 s, I64 t]) ∧ Sat w (fps [dyB x b s t]) [dyB x b s t] w2) := by
  refine enter (n := 14) Tryd.func40 rfl rfl rfl hA ?_
  refine seq ?_
  refine region ?_
  refine st (g_assign rfl) rfl ?_
  refine st (g_assign rfl) rfl ?_
  refine done ?_
  refine th_n ?_
  refine seq ?_
  refine seq ?_
  refine region ?_
  refine st (g_move rfl) rfl ?_
  refine st (g_eqNil pt_54 rfl rfl) rfl ?_
  refine done ?_
  refine th_n ?_
  refine condF rfl ?_
  refine skip ?_
  refine th_n ?_
  refine seq ?_
  refine regionQ mixed (by decide +kernel) (by decide +kernel) ?_
  refine Dr.st (g_move rfl) rfl ?_
  refine Dr.st (g_nilCheck rfl) rfl ?_
  refine Dr.st (g_fieldAddr fo_112_1 rfl rfl) rfl ?_
  refine Dr.st (g_load sc_2 rfl (Cell.own .here rfl)) rfl ?_
  refine Dr.st (g_move rfl) rfl ?_
  refine Dr.st (g_nilCheck rfl) rfl ?_
  refine Dr.st (g_fieldAddr fo_112_2 rfl rfl) rfl ?_
  refine Dr.st (g_load sc_2 rfl (Cell.own .here rfl)) rfl ?_
  refine Dr.st (g_assign rfl) rfl ?_
  refine Dr.st (g_assign rfl) rfl ?_
  refine Dr.nil ?_
  refine th_n ?_
  refine ret ?_
  exact ret2 rfl rfl rfl rfl (fun w2 hw2 => ⟨(), trivial, rfl, hw2⟩)

theorem f40_nil (w : World) : Calls Tryd.prog 40 [.pointer none].toArray w (fun en w2 => en = .returned (.tuple #[I64 0, I64 0]) ∧ Sat w [] [] w2) := by
  refine enter (n := 14) Tryd.func40 rfl rfl rfl (Sat.refl w) ?_
  refine seq ?_
  refine region ?_
  refine st (g_assign rfl) rfl ?_
  refine st (g_assign rfl) rfl ?_
  refine done ?_
  refine th_n ?_
  refine seq ?_
  refine seq ?_
  refine region ?_
  refine st (g_move rfl) rfl ?_
  refine st (g_eqNil pt_54 rfl rfl) rfl ?_
  refine done ?_
  refine th_n ?_
  refine condT rfl ?_
  refine seq ?_
  refine region ?_
  refine st (g_assign rfl) rfl ?_
  refine st (g_assign rfl) rfl ?_
  refine done ?_
  refine th_n ?_
  refine ret ?_
  refine th_r ?_
  exact ret2 rfl rfl rfl rfl (fun w2 hw2 => ⟨rfl, hw2⟩)

theorem f31_low (x b : Nat) (k : Dk) (hk : k.ok) (r : Rp) (hro : r.ok k) (s t time : Int) (hs : 0 ≤ s) (hs2 : s ≤ 9223372036854775807) (ht : 0 ≤ t) (ht2 : t ≤ 253402300799999) (h1 : time < 0) (w : World) (hA : Sat w (fps (dyB x b s t :: dkR b k r)) (dyB x b s t :: dkR b k r) w) (hG : Gl w (fps (dyB x b s t :: dkR b k r))) : Calls Tryd.prog 31 [.pointer (some ⟨x, 0, none⟩), I64 time].toArray w (fun en w2 => ∃ r2 : Rp, r2.ok k ∧ en = .returned (.tuple #[I64 0, I64 0, I64 191]) ∧ Sat w (fps (dyB x b s t :: dkR b k r)) (dyB x b s t :: dkR b k r2) w2) := by
  refine used hk (used hro (used hs (used hs2 (used ht (used ht2 (used h1 (used hA (used hG (?_)))))))))
  refine enter (n := 83) Tryd.func31 rfl rfl rfl hA ?_
  refine seq ?_
  refine region ?_
  refine st (g_assign rfl) rfl ?_
  refine st (g_assign rfl) rfl ?_
  refine st (g_assign rfl) rfl ?_
  refine done ?_
  refine th_n ?_
  refine seq ?_
  refine block ?_
  refine seq ?_
  refine region ?_
  refine st (g_move rfl) rfl ?_
  refine st (g_eqNil pt_54 rfl rfl) rfl ?_
  refine st (g_move rfl) rfl ?_
  refine gt rfl ?_
  refine st (g_move rfl) rfl ?_
  refine gt rfl ?_
  refine st (g_nilCheck rfl) rfl ?_
  refine gt rfl ?_
  refine st (g_fieldAddr fo_112_0 rfl rfl) rfl ?_
  refine gt rfl ?_
  refine st (g_load sc_48 rfl (Cell.own .here (rfl))) rfl ?_
  refine gt rfl ?_
  refine st (g_eqNil pt_48 rfl rfl) rfl ?_
  refine st (g_pickF rfl rfl) rfl ?_
  refine st (g_assign rfl) rfl ?_
  refine done ?_
  refine th_n ?_
  refine condF rfl ?_
  refine seq ?_
  refine region ?_
  refine st (g_move rfl) rfl ?_
  refine st (g_T rfl rfl rfl (by omega)) rfl ?_
  refine st (g_move rfl) rfl ?_
  refine gf rfl rfl ?_
  refine gf rfl rfl ?_
  refine st (g_pickT rfl rfl) rfl ?_
  refine st (g_assign rfl) rfl ?_
  refine done ?_
  refine th_n ?_
  refine condT rfl ?_
  refine seq ?_
  refine region ?_
  refine st (g_assign rfl) rfl ?_
  refine st (g_assign rfl) rfl ?_
  refine st (g_assign rfl) rfl ?_
  refine done ?_
  refine th_n ?_
  refine ret ?_
  refine ib_r ?_
  refine th_r ?_
  exact ret3 rfl rfl rfl rfl rfl (fun w2 hw2 => ⟨r, hro, rfl, Sat.left (hw2.split (.cons .here (.cons .here (.cons .here (.cons .here (.cons .here .nil))))))⟩)

theorem f31_high (x b : Nat) (k : Dk) (hk : k.ok) (r : Rp) (hro : r.ok k) (s t time : Int) (hs : 0 ≤ s) (hs2 : s ≤ 9223372036854775807) (ht : 0 ≤ t) (ht2 : t ≤ 253402300799999) (h1 : ¬ time < 0) (h2 : time > 253402300799999) (w : World) (hA : Sat w (fps (dyB x b s t :: dkR b k r)) (dyB x b s t :: dkR b k r) w) (hG : Gl w (fps (dyB x b s t :: dkR b k r))) : Calls Tryd.prog 31 [.pointer (some ⟨x, 0, none⟩), I64 time].toArray w (fun en w2 => ∃ r2 : Rp, r2.ok k ∧ en = .returned (.tuple #[I64 0, I64 0, I64 191]) ∧ Sat w (fps (dyB x b s t :: dkR b k r)) (dyB x b s t :: dkR b k r2) w2) := by
  refine used hk (used hro (used hs (used hs2 (used ht (used ht2 (used h1 (used h2 (used hA (used hG (?_))))))))))
  refine enter (n := 83) Tryd.func31 rfl rfl rfl hA ?_
  refine seq ?_
  refine region ?_
  refine st (g_assign rfl) rfl ?_
  refine st (g_assign rfl) rfl ?_
  refine st (g_assign rfl) rfl ?_
  refine done ?_
  refine th_n ?_
  refine seq ?_
  refine block ?_
  refine seq ?_
  refine region ?_
  refine st (g_move rfl) rfl ?_
  refine st (g_eqNil pt_54 rfl rfl) rfl ?_
  refine st (g_move rfl) rfl ?_
  refine gt rfl ?_
  refine st (g_move rfl) rfl ?_
  refine gt rfl ?_
  refine st (g_nilCheck rfl) rfl ?_
  refine gt rfl ?_
  refine st (g_fieldAddr fo_112_0 rfl rfl) rfl ?_
  refine gt rfl ?_
  refine st (g_load sc_48 rfl (Cell.own .here (rfl))) rfl ?_
  refine gt rfl ?_
  refine st (g_eqNil pt_48 rfl rfl) rfl ?_
  refine st (g_pickF rfl rfl) rfl ?_
  refine st (g_assign rfl) rfl ?_
  refine done ?_
  refine th_n ?_
  refine condF rfl ?_
  refine seq ?_
  refine region ?_
  refine st (g_move rfl) rfl ?_
  refine st (g_F rfl rfl rfl (by omega)) rfl ?_
  refine st (g_move rfl) rfl ?_
  refine gt rfl ?_
  refine st (g_move rfl) rfl ?_
  refine gt rfl ?_
  refine st (g_T rfl rfl rfl (by omega)) rfl ?_
  refine st (g_pickF rfl rfl) rfl ?_
  refine st (g_assign rfl) rfl ?_
  refine done ?_
  refine th_n ?_
  refine condT rfl ?_
  refine seq ?_
  refine region ?_
  refine st (g_assign rfl) rfl ?_
  refine st (g_assign rfl) rfl ?_
  refine st (g_assign rfl) rfl ?_
  refine done ?_
  refine th_n ?_
  refine ret ?_
  refine ib_r ?_
  refine th_r ?_
  exact ret3 rfl rfl rfl rfl rfl (fun w2 hw2 => ⟨r, hro, rfl, Sat.left (hw2.split (.cons .here (.cons .here (.cons .here (.cons .here (.cons .here .nil))))))⟩)

theorem f31_max (x b : Nat) (k : Dk) (hk : k.ok) (r : Rp) (hro : r.ok k) (s t time : Int) (hs : 0 ≤ s) (hs2 : s ≤ 9223372036854775807) (ht : 0 ≤ t) (ht2 : t ≤ 253402300799999) (h1 : ¬ time < 0) (h2 : ¬ time > 253402300799999) (h3 : s = 9223372036854775807) (w : World) (hA : Sat w (fps (dyB x b s t :: dkR b k r)) (dyB x b s t :: dkR b k r) w) (hG : Gl w (fps (dyB x b s t :: dkR b k r))) : Calls Tryd.prog 31 [.pointer (some ⟨x, 0, none⟩), I64 time].toArray w (fun en w2 => ∃ r2 : Rp, r2.ok k ∧ en = .returned (.tuple #[I64 0, I64 0, I64 190]) ∧ Sat w (fps (dyB x b s t :: dkR b k r)) (dyB x b s t :: dkR b k r2) w2) := by
  refine used hk (used hro (used hs (used hs2 (used ht (used ht2 (used h1 (used h2 (used h3 (used hA (used hG (?_)))))))))))
  refine enter (n := 83) Tryd.func31 rfl rfl rfl hA ?_
  refine seq ?_
  refine region ?_
  refine st (g_assign rfl) rfl ?_
  refine st (g_assign rfl) rfl ?_
  refine st (g_assign rfl) rfl ?_
  refine done ?_
  refine th_n ?_
  refine seq ?_
  refine block ?_
  refine seq ?_
  refine region ?_
  refine st (g_move rfl) rfl ?_
  refine st (g_eqNil pt_54 rfl rfl) rfl ?_
  refine st (g_move rfl) rfl ?_
  refine gt rfl ?_
  refine st (g_move rfl) rfl ?_
  refine gt rfl ?_
  refine st (g_nilCheck rfl) rfl ?_
  refine gt rfl ?_
  refine st (g_fieldAddr fo_112_0 rfl rfl) rfl ?_
  refine gt rfl ?_
  refine st (g_load sc_48 rfl (Cell.own .here (rfl))) rfl ?_
  refine gt rfl ?_
  refine st (g_eqNil pt_48 rfl rfl) rfl ?_
  refine st (g_pickF rfl rfl) rfl ?_
  refine st (g_assign rfl) rfl ?_
  refine done ?_
  refine th_n ?_
  refine condF rfl ?_
  refine seq ?_
  refine region ?_
  refine st (g_move rfl) rfl ?_
  refine st (g_F rfl rfl rfl (by omega)) rfl ?_
  refine st (g_move rfl) rfl ?_
  refine gt rfl ?_
  refine st (g_move rfl) rfl ?_
  refine gt rfl ?_
  refine st (g_F rfl rfl rfl (by omega)) rfl ?_
  refine st (g_pickF rfl rfl) rfl ?_
  refine st (g_assign rfl) rfl ?_
  refine done ?_
  refine th_n ?_
  refine condF rfl ?_
  refine seq ?_
  refine region ?_
  refine st (g_move rfl) rfl ?_
  refine st (g_nilCheck rfl) rfl ?_
  refine st (g_fieldAddr fo_112_1 rfl rfl) rfl ?_
  refine st (g_load sc_2 rfl (Cell.own .here rfl)) rfl ?_
  refine st (g_T rfl rfl rfl (by omega)) rfl ?_
  refine st (g_assign rfl) rfl ?_
  refine done ?_
  refine th_n ?_
  refine condT rfl ?_
  refine seq ?_
  refine region ?_
  refine st (g_assign rfl) rfl ?_
  refine st (g_assign rfl) rfl ?_
  refine st (g_assign rfl) rfl ?_
  refine done ?_
  refine th_n ?_
  refine ret ?_
  refine ib_r ?_
  refine th_r ?_
  exact ret3 rfl rfl rfl rfl rfl (fun w2 hw2 => ⟨r, hro, rfl, Sat.left (hw2.split (.cons .here (.cons .here (.cons .here (.cons .here (.cons .here .nil))))))⟩)

theorem f31_err (x b : Nat) (k : Dk) (hk : k.ok) (r : Rp) (hro : r.ok k) (s t time : Int) (hs : 0 ≤ s) (hs2 : s ≤ 9223372036854775807) (ht : 0 ≤ t) (ht2 : t ≤ 253402300799999) (h1 : ¬ time < 0) (h2 : ¬ time > 253402300799999) (h3 : ¬ s = 9223372036854775807) (h4 : (k.save (recD (s + 1) (later t time))).1.w ≠ 0) (w : World) (hA : Sat w (fps (dyB x b s t :: dkR b k r)) (dyB x b s t :: dkR b k r) w) (hG : Gl w (fps (dyB x b s t :: dkR b k r))) : Calls Tryd.prog 31 [.pointer (some ⟨x, 0, none⟩), I64 time].toArray w (fun en w2 => ∃ r2 : Rp, r2.ok (k.save (recD (s + 1) (later t time))).2 ∧ en = .returned (.tuple #[I64 0, I64 0, I64 (k.save (recD (s + 1) (later t time))).1.w]) ∧ Sat w (fps (dyB x b s t :: dkR b k r)) (dyB x b s t :: dkR b (k.save (recD (s + 1) (later t time))).2 r2) w2) := by
  refine used hk (used hro (used hs (used hs2 (used ht (used ht2 (used h1 (used h2 (used h3 (used h4 (used hA (used hG (?_))))))))))))
  refine enter (n := 83) Tryd.func31 rfl rfl rfl hA ?_
  refine seq ?_
  refine region ?_
  refine st (g_assign rfl) rfl ?_
  refine st (g_assign rfl) rfl ?_
  refine st (g_assign rfl) rfl ?_
  refine done ?_
  refine th_n ?_
  refine seq ?_
  refine block ?_
  refine seq ?_
  refine region ?_
  refine st (g_move rfl) rfl ?_
  refine st (g_eqNil pt_54 rfl rfl) rfl ?_
  refine st (g_move rfl) rfl ?_
  refine gt rfl ?_
  refine st (g_move rfl) rfl ?_
  refine gt rfl ?_
  refine st (g_nilCheck rfl) rfl ?_
  refine gt rfl ?_
  refine st (g_fieldAddr fo_112_0 rfl rfl) rfl ?_
  refine gt rfl ?_
  refine st (g_load sc_48 rfl (Cell.own .here (rfl))) rfl ?_
  refine gt rfl ?_
  refine st (g_eqNil pt_48 rfl rfl) rfl ?_
  refine st (g_pickF rfl rfl) rfl ?_
  refine st (g_assign rfl) rfl ?_
  refine done ?_
  refine th_n ?_
  refine condF rfl ?_
  refine seq ?_
  refine region ?_
  refine st (g_move rfl) rfl ?_
  refine st (g_F rfl rfl rfl (by omega)) rfl ?_
  refine st (g_move rfl) rfl ?_
  refine gt rfl ?_
  refine st (g_move rfl) rfl ?_
  refine gt rfl ?_
  refine st (g_F rfl rfl rfl (by omega)) rfl ?_
  refine st (g_pickF rfl rfl) rfl ?_
  refine st (g_assign rfl) rfl ?_
  refine done ?_
  refine th_n ?_
  refine condF rfl ?_
  refine seq ?_
  refine region ?_
  refine st (g_move rfl) rfl ?_
  refine st (g_nilCheck rfl) rfl ?_
  refine st (g_fieldAddr fo_112_1 rfl rfl) rfl ?_
  refine st (g_load sc_2 rfl (Cell.own .here rfl)) rfl ?_
  refine st (g_F rfl rfl rfl (by omega)) rfl ?_
  refine st (g_assign rfl) rfl ?_
  refine done ?_
  refine th_n ?_
  refine condF rfl ?_
  refine skip ?_
  refine ib_n ?_
  refine th_n ?_
  refine seq ?_
  refine regionQ mixed (by decide +kernel) (by decide +kernel) ?_
  refine Dr.st (g_move rfl) rfl ?_
  refine Dr.st (g_nilCheck rfl) rfl ?_
  refine Dr.st (g_fieldAddr fo_112_1 rfl rfl) rfl ?_
  refine Dr.st (g_load sc_2 rfl (Cell.own .here rfl)) rfl ?_
  refine Dr.st (g_iadd (c := (s + 1)) rfl rfl (by omega) (by omega) (by omega)) rfl ?_
  refine Dr.st (g_move rfl) rfl ?_
  refine Dr.st (g_nilCheck rfl) rfl ?_
  refine Dr.st (g_fieldAddr fo_112_2 rfl rfl) rfl ?_
  refine Dr.st (g_load sc_2 rfl (Cell.own .here rfl)) rfl ?_
  refine Dr.st (g_move rfl) rfl ?_
  refine Dr.st (g_max (c := (later t time)) rfl rfl (rfl)) rfl ?_
  refine Dr.st (g_assign rfl) rfl ?_
  refine Dr.st (g_assign rfl) rfl ?_
  refine Dr.nil ?_
  refine th_n ?_
  refine seq ?_
  refine region ?_
  refine st (g_move rfl) rfl ?_
  refine st (g_to64i it_2 it_34 rfl) rfl ?_
  refine sq rfl (o_call Tryd.func72 rfl rfl rfl .nil (fun w hw hA => f72_spec (BitVec.ofInt 64 (s + 1)) w) rfl (fun g1 _ => ?_))
  refine st (g_move rfl) rfl ?_
  refine st (g_extract rfl rfl) rfl ?_
  refine st (g_extract rfl rfl) rfl ?_
  refine st (g_assign rfl) rfl ?_
  refine st (g_assign rfl) rfl ?_
  refine done ?_
  refine th_n ?_
  refine seq ?_
  refine region ?_
  refine st (g_move rfl) rfl ?_
  refine st (g_to64i it_2 it_34 rfl) rfl ?_
  refine sq rfl (o_call Tryd.func72 rfl rfl rfl .nil (fun w hw hA => f72_spec (BitVec.ofInt 64 (later t time)) w) rfl (fun g2 _ => ?_))
  refine st (g_move rfl) rfl ?_
  refine st (g_extract rfl rfl) rfl ?_
  refine st (g_extract rfl rfl) rfl ?_
  refine st (g_assign rfl) rfl ?_
  refine st (g_assign rfl) rfl ?_
  refine done ?_
  refine th_n ?_
  refine seq ?_
  refine seq ?_
  refine regionL ⟨[_], [], []⟩ mixed (by decide +kernel) (.cons (.there (.there (.here))) .nil) .nil ?_
  refine An'.q 0 [] rfl (by decide +kernel) rfl rfl (g_move rfl) rfl ?_
  refine An'.q 1 [] rfl (by decide +kernel) rfl rfl (g_nilCheck rfl) rfl ?_
  refine An'.q 2 [] rfl (by decide +kernel) rfl rfl (g_fieldAddr fo_112_0 rfl rfl) rfl ?_
  refine An'.q 3 [] rfl (by decide +kernel) rfl rfl (g_load sc_48 rfl (Cell.own .here (rfl))) rfl ?_
  refine An'.q 4 [] rfl (by decide +kernel) rfl rfl (g_move rfl) rfl ?_
  refine An'.q 5 [] rfl (by decide +kernel) rfl rfl (g_move rfl) rfl ?_
  refine An'.oneG 6 (by decide +kernel) rfl rfl ?_
  refine o_make (s := 1) (zv := B8 0) un_23 zr_5 sz_5 bt_5 (by decide) rfl rfl (by decide) (by decide) (by decide) rfl (fun b64 => ?_)
  refine An'.on0 (.cons (.there (.there (.there (.here)))) .nil) .nil rfl ?_
  refine An'.oneG 7 (by decide +kernel) rfl rfl ?_
  refine o_buildSlice1 (vs := [.slice (some ⟨g1, 0, none⟩) 8 8, .slice (some ⟨g2, 0, none⟩) 8 8, .slice (some ⟨b64, 0, none⟩) 8 8]) un_22 zr_23 sz_23 (by decide) (by decide) rfl rfl rfl (by simp [Value.oneCell']) rfl (fun b65 => ?_)
  refine An'.on0 (.cons (.there (.there (.there (.there (.here))))) .nil) .nil rfl ?_
  refine An'.oneG 8 (by decide +kernel) rfl rfl ?_
  refine o_call Tryd.func73 rfl rfl rfl .nil (fun w hw hA => f73_of (some ⟨b65, 0, none⟩) 3 [⟨some ⟨g1, 0, none⟩, 8, 8, be8 (BitVec.ofInt 64 (s + 1))⟩, ⟨some ⟨g2, 0, none⟩, 8, 8, be8 (BitVec.ofInt 64 (later t time))⟩, ⟨some ⟨b64, 0, none⟩, 8, 8, List.replicate 8 0⟩] 24 (recD (s + 1) (later t time)) rfl (by simp [cat, recD]) (by decide) (Nat.le_of_ble_eq_true rfl) w (by intro s hs; simp only [List.mem_cons, List.not_mem_nil, or_false] at hs; rcases hs with rfl | rfl | rfl; exact sl_blk (rest := []) hw (by rw [List.append_nil]; exact (.there (.there (.there (.here))))) rfl (Nat.le_refl _); exact sl_blk (rest := []) hw (by rw [List.append_nil]; exact (.there (.there (.here)))) rfl (Nat.le_refl _); exact sl_blk (rest := []) hw (by rw [List.append_nil]; exact (.there (.here))) rfl (Nat.le_refl _)) (RdC.ofBlk hw .here rfl)) rfl (fun x1 hx1 => ?_)
  refine An'.on0 (.cons (.there (.there (.there (.there (.there (.here)))))) .nil) .nil rfl ?_
  refine An'.oneG 9 (by decide +kernel) rfl rfl ?_
  refine o_call Tryd.func39 rfl rfl rfl (.cons (.there (.there (.there (.there (.there (.there (.here))))))) (.cons (.there (.there (.there (.there (.there (.there (.here))))))) (.cons (.there (.there (.there (.there (.there (.there (.here))))))) (.cons (.there (.there (.there (.there (.there (.there (.here))))))) .nil)))) (fun w hw hA => f39_spec b k hk r hro x1.1 24 x1.2 (recD (s + 1) (later t time)) rfl (fun h => by have := hx1.1 h; omega) hx1.2 w (by assumption) (Gl.ofOld (A := dkR b k r) hG hw (.cons (.there (.there (.there (.there (.there (.there (.here))))))) (.cons (.there (.there (.there (.there (.there (.there (.here))))))) (.cons (.there (.there (.there (.there (.there (.there (.here))))))) (.cons (.there (.there (.there (.there (.there (.there (.here))))))) .nil))))) (RdS.ofVec hw (.cons (.there (.there (.there (.there (.there (.there (.here))))))) (.cons (.there (.there (.there (.there (.there (.there (.here))))))) (.cons (.there (.there (.there (.there (.there (.there (.here))))))) (.cons (.there (.there (.there (.there (.there (.there (.here))))))) .nil)))) .here)) rfl (fun ⟨y2, r2⟩ hx2 => ?_)
  refine An'.on0 (.cons (.there (.there (.there (.there (.there (.there (.there (.there (.there (.there (.here))))))))))) .nil) .nil rfl ?_
  refine An'.q 10 [] rfl (by decide +kernel) rfl rfl (g_move rfl) rfl ?_
  refine An'.q 11 [] rfl (by decide +kernel) rfl rfl (g_extract rfl rfl) rfl ?_
  refine An'.q 12 [] rfl (by decide +kernel) rfl rfl (g_extract rfl rfl) rfl ?_
  refine An'.q 13 [] rfl (by decide +kernel) rfl rfl (g_assign rfl) rfl ?_
  refine An'.fin (by decide +kernel) ?_
  refine th_n ?_
  refine seq ?_
  refine region ?_
  refine st (g_move rfl) rfl ?_
  refine st (g_T rfl rfl rfl (by simpa using h4)) rfl ?_
  refine done ?_
  refine th_n ?_
  refine condT rfl ?_
  refine seq ?_
  refine region ?_
  refine st (g_move rfl) rfl ?_
  refine st (g_assign rfl) rfl ?_
  refine st (g_assign rfl) rfl ?_
  refine st (g_assign rfl) rfl ?_
  refine done ?_
  refine th_n ?_
  refine ret ?_
  refine th_r ?_
  exact ret3 rfl rfl rfl rfl rfl (fun w2 hw2 => ⟨r2, hx2.2, rfl, Sat.left (hw2.split (.cons (.there (.there (.there (.there (.there (.there (.there (.there (.there (.there (.here))))))))))) (.cons (.there (.here)) (.cons (.there (.here)) (.cons (.there (.here)) (.cons (.there (.here)) .nil))))))⟩)

theorem f31_good (x b : Nat) (k : Dk) (hk : k.ok) (r : Rp) (hro : r.ok k) (s t time : Int) (hs : 0 ≤ s) (hs2 : s ≤ 9223372036854775807) (ht : 0 ≤ t) (ht2 : t ≤ 253402300799999) (h1 : ¬ time < 0) (h2 : ¬ time > 253402300799999) (h3 : ¬ s = 9223372036854775807) (h4 : (k.save (recD (s + 1) (later t time))).1.w = 0) (w : World) (hA : Sat w (fps (dyB x b s t :: dkR b k r)) (dyB x b s t :: dkR b k r) w) (hG : Gl w (fps (dyB x b s t :: dkR b k r))) : Calls Tryd.prog 31 [.pointer (some ⟨x, 0, none⟩), I64 time].toArray w (fun en w2 => ∃ r2 : Rp, r2.ok (k.save (recD (s + 1) (later t time))).2 ∧ en = .returned (.tuple #[I64 (s + 1), I64 (later t time), I64 0]) ∧ Sat w (fps (dyB x b s t :: dkR b k r)) (dyB x b (s + 1) (later t time) :: dkR b (k.save (recD (s + 1) (later t time))).2 r2) w2) := by
  refine used hk (used hro (used hs (used hs2 (used ht (used ht2 (used h1 (used h2 (used h3 (used h4 (used hA (used hG (?_))))))))))))
  refine enter (n := 83) Tryd.func31 rfl rfl rfl hA ?_
  refine seq ?_
  refine region ?_
  refine st (g_assign rfl) rfl ?_
  refine st (g_assign rfl) rfl ?_
  refine st (g_assign rfl) rfl ?_
  refine done ?_
  refine th_n ?_
  refine seq ?_
  refine block ?_
  refine seq ?_
  refine region ?_
  refine st (g_move rfl) rfl ?_
  refine st (g_eqNil pt_54 rfl rfl) rfl ?_
  refine st (g_move rfl) rfl ?_
  refine gt rfl ?_
  refine st (g_move rfl) rfl ?_
  refine gt rfl ?_
  refine st (g_nilCheck rfl) rfl ?_
  refine gt rfl ?_
  refine st (g_fieldAddr fo_112_0 rfl rfl) rfl ?_
  refine gt rfl ?_
  refine st (g_load sc_48 rfl (Cell.own .here (rfl))) rfl ?_
  refine gt rfl ?_
  refine st (g_eqNil pt_48 rfl rfl) rfl ?_
  refine st (g_pickF rfl rfl) rfl ?_
  refine st (g_assign rfl) rfl ?_
  refine done ?_
  refine th_n ?_
  refine condF rfl ?_
  refine seq ?_
  refine region ?_
  refine st (g_move rfl) rfl ?_
  refine st (g_F rfl rfl rfl (by omega)) rfl ?_
  refine st (g_move rfl) rfl ?_
  refine gt rfl ?_
  refine st (g_move rfl) rfl ?_
  refine gt rfl ?_
  refine st (g_F rfl rfl rfl (by omega)) rfl ?_
  refine st (g_pickF rfl rfl) rfl ?_
  refine st (g_assign rfl) rfl ?_
  refine done ?_
  refine th_n ?_
  refine condF rfl ?_
  refine seq ?_
  refine region ?_
  refine st (g_move rfl) rfl ?_
  refine st (g_nilCheck rfl) rfl ?_
  refine st (g_fieldAddr fo_112_1 rfl rfl) rfl ?_
  refine st (g_load sc_2 rfl (Cell.own .here rfl)) rfl ?_
  refine st (g_F rfl rfl rfl (by omega)) rfl ?_
  refine st (g_assign rfl) rfl ?_
  refine done ?_
  refine th_n ?_
  refine condF rfl ?_
  refine skip ?_
  refine ib_n ?_
  refine th_n ?_
  refine seq ?_
  refine regionQ mixed (by decide +kernel) (by decide +kernel) ?_
  refine Dr.st (g_move rfl) rfl ?_
  refine Dr.st (g_nilCheck rfl) rfl ?_
  refine Dr.st (g_fieldAddr fo_112_1 rfl rfl) rfl ?_
  refine Dr.st (g_load sc_2 rfl (Cell.own .here rfl)) rfl ?_
  refine Dr.st (g_iadd (c := (s + 1)) rfl rfl (by omega) (by omega) (by omega)) rfl ?_
  refine Dr.st (g_move rfl) rfl ?_
  refine Dr.st (g_nilCheck rfl) rfl ?_
  refine Dr.st (g_fieldAddr fo_112_2 rfl rfl) rfl ?_
  refine Dr.st (g_load sc_2 rfl (Cell.own .here rfl)) rfl ?_
  refine Dr.st (g_move rfl) rfl ?_
  refine Dr.st (g_max (c := (later t time)) rfl rfl (rfl)) rfl ?_
  refine Dr.st (g_assign rfl) rfl ?_
  refine Dr.st (g_assign rfl) rfl ?_
  refine Dr.nil ?_
  refine th_n ?_
  refine seq ?_
  refine region ?_
  refine st (g_move rfl) rfl ?_
  refine st (g_to64i it_2 it_34 rfl) rfl ?_
  refine sq rfl (o_call Tryd.func72 rfl rfl rfl .nil (fun w hw hA => f72_spec (BitVec.ofInt 64 (s + 1)) w) rfl (fun g1 _ => ?_))
  refine st (g_move rfl) rfl ?_
  refine st (g_extract rfl rfl) rfl ?_
  refine st (g_extract rfl rfl) rfl ?_
  refine st (g_assign rfl) rfl ?_
  refine st (g_assign rfl) rfl ?_
  refine done ?_
  refine th_n ?_
  refine seq ?_
  refine region ?_
  refine st (g_move rfl) rfl ?_
  refine st (g_to64i it_2 it_34 rfl) rfl ?_
  refine sq rfl (o_call Tryd.func72 rfl rfl rfl .nil (fun w hw hA => f72_spec (BitVec.ofInt 64 (later t time)) w) rfl (fun g2 _ => ?_))
  refine st (g_move rfl) rfl ?_
  refine st (g_extract rfl rfl) rfl ?_
  refine st (g_extract rfl rfl) rfl ?_
  refine st (g_assign rfl) rfl ?_
  refine st (g_assign rfl) rfl ?_
  refine done ?_
  refine th_n ?_
  refine seq ?_
  refine seq ?_
  refine regionL ⟨[_], [], []⟩ mixed (by decide +kernel) (.cons (.there (.there (.here))) .nil) .nil ?_
  refine An'.q 0 [] rfl (by decide +kernel) rfl rfl (g_move rfl) rfl ?_
  refine An'.q 1 [] rfl (by decide +kernel) rfl rfl (g_nilCheck rfl) rfl ?_
  refine An'.q 2 [] rfl (by decide +kernel) rfl rfl (g_fieldAddr fo_112_0 rfl rfl) rfl ?_
  refine An'.q 3 [] rfl (by decide +kernel) rfl rfl (g_load sc_48 rfl (Cell.own .here (rfl))) rfl ?_
  refine An'.q 4 [] rfl (by decide +kernel) rfl rfl (g_move rfl) rfl ?_
  refine An'.q 5 [] rfl (by decide +kernel) rfl rfl (g_move rfl) rfl ?_
  refine An'.oneG 6 (by decide +kernel) rfl rfl ?_
  refine o_make (s := 1) (zv := B8 0) un_23 zr_5 sz_5 bt_5 (by decide) rfl rfl (by decide) (by decide) (by decide) rfl (fun b64 => ?_)
  refine An'.on0 (.cons (.there (.there (.there (.here)))) .nil) .nil rfl ?_
  refine An'.oneG 7 (by decide +kernel) rfl rfl ?_
  refine o_buildSlice1 (vs := [.slice (some ⟨g1, 0, none⟩) 8 8, .slice (some ⟨g2, 0, none⟩) 8 8, .slice (some ⟨b64, 0, none⟩) 8 8]) un_22 zr_23 sz_23 (by decide) (by decide) rfl rfl rfl (by simp [Value.oneCell']) rfl (fun b65 => ?_)
  refine An'.on0 (.cons (.there (.there (.there (.there (.here))))) .nil) .nil rfl ?_
  refine An'.oneG 8 (by decide +kernel) rfl rfl ?_
  refine o_call Tryd.func73 rfl rfl rfl .nil (fun w hw hA => f73_of (some ⟨b65, 0, none⟩) 3 [⟨some ⟨g1, 0, none⟩, 8, 8, be8 (BitVec.ofInt 64 (s + 1))⟩, ⟨some ⟨g2, 0, none⟩, 8, 8, be8 (BitVec.ofInt 64 (later t time))⟩, ⟨some ⟨b64, 0, none⟩, 8, 8, List.replicate 8 0⟩] 24 (recD (s + 1) (later t time)) rfl (by simp [cat, recD]) (by decide) (Nat.le_of_ble_eq_true rfl) w (by intro s hs; simp only [List.mem_cons, List.not_mem_nil, or_false] at hs; rcases hs with rfl | rfl | rfl; exact sl_blk (rest := []) hw (by rw [List.append_nil]; exact (.there (.there (.there (.here))))) rfl (Nat.le_refl _); exact sl_blk (rest := []) hw (by rw [List.append_nil]; exact (.there (.there (.here)))) rfl (Nat.le_refl _); exact sl_blk (rest := []) hw (by rw [List.append_nil]; exact (.there (.here))) rfl (Nat.le_refl _)) (RdC.ofBlk hw .here rfl)) rfl (fun x1 hx1 => ?_)
  refine An'.on0 (.cons (.there (.there (.there (.there (.there (.here)))))) .nil) .nil rfl ?_
  refine An'.oneG 9 (by decide +kernel) rfl rfl ?_
  refine o_call Tryd.func39 rfl rfl rfl (.cons (.there (.there (.there (.there (.there (.there (.here))))))) (.cons (.there (.there (.there (.there (.there (.there (.here))))))) (.cons (.there (.there (.there (.there (.there (.there (.here))))))) (.cons (.there (.there (.there (.there (.there (.there (.here))))))) .nil)))) (fun w hw hA => f39_spec b k hk r hro x1.1 24 x1.2 (recD (s + 1) (later t time)) rfl (fun h => by have := hx1.1 h; omega) hx1.2 w (by assumption) (Gl.ofOld (A := dkR b k r) hG hw (.cons (.there (.there (.there (.there (.there (.there (.here))))))) (.cons (.there (.there (.there (.there (.there (.there (.here))))))) (.cons (.there (.there (.there (.there (.there (.there (.here))))))) (.cons (.there (.there (.there (.there (.there (.there (.here))))))) .nil))))) (RdS.ofVec hw (.cons (.there (.there (.there (.there (.there (.there (.here))))))) (.cons (.there (.there (.there (.there (.there (.there (.here))))))) (.cons (.there (.there (.there (.there (.there (.there (.here))))))) (.cons (.there (.there (.there (.there (.there (.there (.here))))))) .nil)))) .here)) rfl (fun ⟨y2, r2⟩ hx2 => ?_)
  refine An'.on0 (.cons (.there (.there (.there (.there (.there (.there (.there (.there (.there (.there (.here))))))))))) .nil) .nil rfl ?_
  refine An'.q 10 [] rfl (by decide +kernel) rfl rfl (g_move rfl) rfl ?_
  refine An'.q 11 [] rfl (by decide +kernel) rfl rfl (g_extract rfl rfl) rfl ?_
  refine An'.q 12 [] rfl (by decide +kernel) rfl rfl (g_extract rfl rfl) rfl ?_
  refine An'.q 13 [] rfl (by decide +kernel) rfl rfl (g_assign rfl) rfl ?_
  refine An'.fin (by decide +kernel) ?_
  refine th_n ?_
  refine seq ?_
  refine region ?_
  refine st (g_move rfl) rfl ?_
  refine st (g_F rfl rfl rfl (by simpa using h4)) rfl ?_
  refine done ?_
  refine th_n ?_
  refine condF rfl ?_
  refine skip ?_
  refine th_n ?_
  refine seq ?_
  refine region ?_
  refine st (g_move rfl) rfl ?_
  refine st (g_move rfl) rfl ?_
  refine st (g_move rfl) rfl ?_
  refine st (g_move rfl) rfl ?_
  refine st (g_nilCheck rfl) rfl ?_
  refine st (g_fieldAddr fo_112_1 rfl rfl) rfl ?_
  refine sq rfl (o_store (cs' := dyC b (s + 1) t) sz_2 rfl rfl rfl (.there (.there (.there (.there (.there (.there (.there (.there (.there (.there (.here))))))))))) (Nat.le_of_ble_eq_true rfl) rfl ?_)
  refine st (g_nilCheck rfl) rfl ?_
  refine st (g_fieldAddr fo_112_2 rfl rfl) rfl ?_
  refine sq rfl (o_store (cs' := dyC b (s + 1) (later t time)) sz_2 rfl rfl rfl .here (Nat.le_of_ble_eq_true rfl) rfl ?_)
  refine done ?_
  refine th_n ?_
  refine seq ?_
  refine region ?_
  refine st (g_move rfl) rfl ?_
  refine st (g_move rfl) rfl ?_
  refine st (g_assign rfl) rfl ?_
  refine st (g_assign rfl) rfl ?_
  refine st (g_assign rfl) rfl ?_
  refine done ?_
  refine th_n ?_
  refine ret ?_
  exact ret3 rfl rfl rfl rfl rfl (fun w2 hw2 => ⟨r2, hx2.2, rfl, Sat.left (hw2.split (.cons .here (.cons (.there (.here)) (.cons (.there (.here)) (.cons (.there (.here)) (.cons (.there (.here)) .nil))))))⟩)

theorem f31_spec (x b : Nat) (k : Dk) (hk : k.ok) (r : Rp) (hro : r.ok k) (s t time : Int) (hs : 0 ≤ s) (hs2 : s ≤ 9223372036854775807) (ht : 0 ≤ t) (ht2 : t ≤ 253402300799999) {a c e : Int} {k2 : Dk} {s2 t2 : Int} (hz : k.resv s t time = ((a, c, e), k2, (s2, t2))) (w : World) (hA : Sat w (fps (dyB x b s t :: dkR b k r)) (dyB x b s t :: dkR b k r) w) (hG : Gl w (fps (dyB x b s t :: dkR b k r))) : Calls Tryd.prog 31 [.pointer (some ⟨x, 0, none⟩), I64 time].toArray w (fun en w2 => ∃ r2 : Rp, r2.ok k2 ∧ en = .returned (.tuple #[I64 a, I64 c, I64 e]) ∧ Sat w (fps (dyB x b s t :: dkR b k r)) (dyB x b s2 t2 :: dkR b k2 r2) w2) := by
  unfold Dk.resv at hz
  by_cases h1 : time < 0
  · rw [if_pos (.inl h1)] at hz; cases hz
    exact f31_low x b k hk r hro s t time hs hs2 ht ht2 h1 w hA hG
  · by_cases h2 : time > 253402300799999
    · rw [if_pos (.inr h2)] at hz; cases hz
      exact f31_high x b k hk r hro s t time hs hs2 ht ht2 h1 h2 w hA hG
    · rw [if_neg (by omega)] at hz
      by_cases h3 : s = 9223372036854775807
      · rw [if_pos h3] at hz; cases hz
        exact f31_max x b k hk r hro s t time hs hs2 ht ht2 h1 h2 h3 w hA hG
      · rw [if_neg h3] at hz
        by_cases h4 : (k.save (recD (s + 1) (later t time))).1.w = 0
        · rw [if_neg (by simpa using h4)] at hz; cases hz
          exact f31_good x b k hk r hro s t time hs hs2 ht ht2 h1 h2 h3 h4 w hA hG
        · rw [if_pos h4] at hz; cases hz
          exact f31_err x b k hk r hro s t time hs hs2 ht ht2 h1 h2 h3 h4 w hA hG


theorem f31_nil (time : Int) (w : World) : Calls Tryd.prog 31 [.pointer none, I64 time].toArray w (fun en w2 => en = .returned (.tuple #[I64 0, I64 0, I64 1]) ∧ Sat w [] [] w2) := by
  refine enter (n := 83) Tryd.func31 rfl rfl rfl (Sat.refl w) ?_
  refine seq ?_
  refine region ?_
  refine st (g_assign rfl) rfl ?_
  refine st (g_assign rfl) rfl ?_
  refine st (g_assign rfl) rfl ?_
  refine done ?_
  refine th_n ?_
  refine seq ?_
  refine block ?_
  refine seq ?_
  refine region ?_
  refine st (g_move rfl) rfl ?_
  refine st (g_eqNil pt_54 rfl rfl) rfl ?_
  refine st (g_move rfl) rfl ?_
  refine gf rfl rfl ?_
  refine gf rfl rfl ?_
  refine gf rfl rfl ?_
  refine gf rfl rfl ?_
  refine gf rfl rfl ?_
  refine st (g_pickT rfl rfl) rfl ?_
  refine st (g_assign rfl) rfl ?_
  refine done ?_
  refine th_n ?_
  refine condT rfl ?_
  refine seq ?_
  refine region ?_
  refine st (g_assign rfl) rfl ?_
  refine st (g_assign rfl) rfl ?_
  refine st (g_assign rfl) rfl ?_
  refine done ?_
  refine th_n ?_
  refine ret ?_
  refine ib_r ?_
  refine th_r ?_
  exact ret3 rfl rfl rfl rfl rfl (fun w2 hw2 => ⟨rfl, hw2⟩)

end Go.Proofs.YtokhediaibdkjaaDoor

/-! From P6 -/
/- Plain facts: a diary over a disk on which only it wrote. -/
namespace Go.Proofs.YtokhediaibdkjaaDoor
open Go.Pm Go.RowKit
set_option maxRecDepth 100000

/-- The disk of a diary that was first opened with 'first', of m records, whose serial and time are s and t. -/
structure Dg (first : Int) (k : Dk) (m : Nat) (s t : Int) : Prop where
  gd : Gd k m (if m = 0 then [] else recD s t)
  z : m = 0 → s = first ∧ t = 0
  s0 : 0 ≤ s
  s1 : s ≤ 9223372036854775807
  t0 : 0 ≤ t
  t1 : t ≤ 253402300799999
theorem Dg.arm {first : Int} {k : Dk} {m : Nat} {s t : Int} (h : Dg first k m s t) (n : Nat) (c : List UInt8) : Dg first { k with steps := n, choice := c } m s t := ⟨h.gd.arm n c, h.z, h.s0, h.s1, h.t0, h.t1⟩
theorem Dg.armed {first : Int} {k : Dk} {m : Nat} {s t : Int} (h : Dg first k m s t) (n : Int) (c : List UInt8) : Dg first (k.armed n c).2 m s t ∧ (k.armed n c).2.down = k.down := by
  unfold Dk.armed
  split
  · exact ⟨h, rfl⟩
  · exact ⟨h.arm n.toNat c, rfl⟩
theorem Dg.crash {first : Int} {k : Dk} {m : Nat} {s t : Int} (h : Dg first k m s t) (c : List UInt8) : Dg first (k.crash c).2 m s t ∧ (k.crash c).2.down = true := by
  unfold Dk.crash
  split
  · rename_i hd; exact ⟨h, hd⟩
  · refine ⟨⟨⟨?_, rfl⟩, h.z, h.s0, h.s1, h.t0, h.t1⟩, rfl⟩
    show Inv m _ (fallSt c k.waits k.stays)
    rw [h.gd.wt]; exact h.gd.inv
theorem later_ge (t time : Int) : t ≤ later t time ∧ time ≤ later t time := by unfold later; split <;> omega
theorem later_le {t time : Int} (h1 : t ≤ 253402300799999) (h2 : time ≤ 253402300799999) : later t time ≤ 253402300799999 := by unfold later; split <;> omega
/-- What reserving does: it tells the next serial, and the disk has it; or it tells nothing: and the disk is as it was, or, if it went down, one serial on. -/
def Told (first : Int) (m : Nat) (s t time : Int) (z : (Int × Int × Int) × Dk × (Int × Int)) : Prop :=
  (z.1 = (s + 1, later t time, 0) ∧ z.2.2 = (s + 1, later t time) ∧ z.2.1.down = false ∧ Dg first z.2.1 (m + 1) (s + 1) (later t time) ∧ time ≤ 253402300799999) ∨
  (z.1.1 = 0 ∧ z.1.2.1 = 0 ∧ z.1.2.2 ≠ 0 ∧ z.2.2 = (s, t) ∧ (z.2.1.down = true ↔ z.1.2.2 = 171) ∧ ∃ m' S T, m' ≤ m + 1 ∧ Dg first z.2.1 m' S T ∧ ((S = s ∧ T = t) ∨ (z.2.1.down = true ∧ S = s + 1 ∧ t ≤ T)))
theorem resv_no {k k' : Dk} {L : Ld} {s t time : Int} (h1 : ¬ (time < 0 ∨ time > 253402300799999)) (h2 : ¬ s = 9223372036854775807) (e : k.save (recD (s + 1) (later t time)) = (L, k')) (hw : L.w ≠ 0) : k.resv s t time = ((0, 0, L.w), k', (s, t)) := by
  unfold Dk.resv
  rw [if_neg h1, if_neg h2, e, if_pos hw]
theorem resv_yes {k k' : Dk} {L : Ld} {s t time : Int} (h1 : ¬ (time < 0 ∨ time > 253402300799999)) (h2 : ¬ s = 9223372036854775807) (e : k.save (recD (s + 1) (later t time)) = (L, k')) (hw : L.w = 0) : k.resv s t time = ((s + 1, later t time, 0), k', (s + 1, later t time)) := by
  unfold Dk.resv
  rw [if_neg h1, if_neg h2, e, if_neg (by simpa using hw)]
theorem told {first : Int} {k : Dk} {m : Nat} {s t : Int} (h : Dg first k m s t) (hd : k.down = false) (hm : m + 1 < 18446744073709551616) (time : Int) : Told first m s t time (k.resv s t time) := by
  have same : ∀ e : Int, e ≠ 0 → e ≠ 171 → Told first m s t time ((0, 0, e), k, (s, t)) := fun e h1 h2 =>
    .inr ⟨rfl, rfl, h1, rfl, ⟨fun a => absurd (hd.symm.trans a) (by decide), fun a => absurd a h2⟩, m, s, t, by omega, h, .inl ⟨rfl, rfl⟩⟩
  by_cases h1 : time < 0 ∨ time > 253402300799999
  · rw [show k.resv s t time = ((0, 0, 191), k, (s, t)) by unfold Dk.resv; rw [if_pos h1]]; exact same 191 (by decide) (by decide)
  · by_cases h2 : s = 9223372036854775807
    · rw [show k.resv s t time = ((0, 0, 190), k, (s, t)) by unfold Dk.resv; rw [if_neg h1, if_pos h2]]; exact same 190 (by decide) (by decide)
    · skip
      have hl := recD_length (s + 1) (later t time)
      have tg := later_ge t time
      have tl := later_le (t := t) (time := time) h.t1 (by omega)
      have new : ∀ k' : Dk, Gd k' (m + 1) (recD (s + 1) (later t time)) → Dg first k' (m + 1) (s + 1) (later t time) := fun k' g =>
        ⟨by rw [if_neg (Nat.succ_ne_zero m)]; exact g, fun e => absurd e (Nat.succ_ne_zero m), by have := h.s0; omega, by have := h.s1; omega, by have := h.t0; omega, tl⟩
      have old : ∀ k' : Dk, Gd k' m (if m = 0 then [] else recD s t) → Dg first k' m s t := fun k' g => ⟨g, h.z, h.s0, h.s1, h.t0, h.t1⟩
      by_cases hr : 0 < k.room
      · by_cases hs : k.steps = 0 ∨ 2 < k.steps
        · rw [resv_yes h1 h2 (save_A h.gd hd hm hl hr hs) rfl]
          exact .inl ⟨rfl, rfl, rfl, new _ ⟨inv_set h.gd.inv hl, rfl⟩, by omega⟩
        · rw [resv_no h1 h2 (save_B h.gd hd hm hl hr (by omega)) (show (171 : Int) ≠ 0 by decide)]
          refine .inr ⟨rfl, rfl, by show (171 : Int) ≠ 0; decide, rfl, ⟨fun _ => rfl, fun _ => rfl⟩, ?_⟩
          have hf := inv_fall h.gd.inv hl k.choice
          split at hf
          · exact ⟨m + 1, s + 1, later t time, Nat.le_refl _, new _ ⟨hf, rfl⟩, .inr ⟨rfl, rfl, tg.1⟩⟩
          · exact ⟨m, s, t, by omega, old _ ⟨hf, rfl⟩, .inl ⟨rfl, rfl⟩⟩
      · by_cases hs : k.steps = 1
        · rw [resv_no h1 h2 (save_C h.gd hd hm hl (by omega) hs) (show (171 : Int) ≠ 0 by decide)]
          exact .inr ⟨rfl, rfl, by show (171 : Int) ≠ 0; decide, rfl, ⟨fun _ => rfl, fun _ => rfl⟩, m, s, t, by omega, old _ ⟨h.gd.inv, rfl⟩, .inl ⟨rfl, rfl⟩⟩
        · rw [resv_no h1 h2 (save_D h.gd hd hm hl (by omega) hs) (show (172 : Int) ≠ 0 by decide)]
          exact .inr ⟨rfl, rfl, by show (172 : Int) ≠ 0; decide, rfl, ⟨fun a => (by cases a), fun a => absurd a (by show ¬ (172 : Int) = 171; decide)⟩, m, s, t, by omega, old _ ⟨h.gd.inv, rfl⟩, .inl ⟨rfl, rfl⟩⟩
theorem Dk.resv_ok {k : Dk} (hk : k.ok) (s t time : Int) : (k.resv s t time).2.1.ok := by
  unfold Dk.resv
  split
  · exact hk
  · split
    · exact hk
    · split
      · exact Dk.save_ok hk _
      · exact Dk.save_ok hk _
end Go.Proofs.YtokhediaibdkjaaDoor

/-! From E15 -/
/- The engine, part 15: operations whose guard was itself passed over. -/
namespace Go.Pm
open Go.RowKit
/-- The guard's own operation was passed over. -/
def guardU (ops : Array Oper) (e : Env) (o : Oper) : Bool :=
  match o.guard with
  | none => false
  | some (j, _) =>
    match (ops[j]?).bind (·.dst) with
    | some d => match e.get d with
      | some (.tuple _) => true
      | _ => false
    | none => false
theorem guardU_spec {ops : Array Oper} {e : Env} {o : Oper} {a : Act} {n ds} (ha : Ok n ds e a) (h : guardU ops e o = true) : Region.wanted o (yielded ops a.tmps) = false := by
  unfold guardU at h
  unfold Region.wanted
  split at h
  · cases h
  · rename_i j want hg
    simp only [hg]
    split at h
    · rename_i d hd
      split at h
      · rename_i c hc
        have := ha.get d _ hc
        simp [yielded, hd, this]
      · cases h
    · cases h
section
variable {cx : Cx} {e : Env} {Rs : List Res} {r : Option Nat} {P : Program} {Q : Exit → Act → World → Prop}
theorem gfu {ops : Array Oper} {rest : List Oper} {d : Nat} {op : Op} {t : TypeId} {ps : String} {af : Array Edge} {g : Nat × Bool} (hg : guardU ops e { dst := some d, op, type := t, pos := ps, after := af, guard := some g } = true)
    (hd : Nat.blt d cx.n = true) (h : At cx ((d, undef) :: e) Rs (wpListIn (FR r) 0 P ops Q rest)) :
    At cx e Rs (wpListIn (FR r) 0 P ops Q ({ dst := some d, op, type := t, pos := ps, after := af, guard := some g } :: rest)) := by
  intro a w ha hw
  have hwant := guardU_spec ha hg
  unfold wpListIn
  rw [if_neg (by rw [hwant]; simp)]
  exact ⟨fun _ _ => trivial, h _ w (ha.put hd undef) hw⟩
theorem Dr.gfu {ops : Array Oper} {K : Act → World → Prop} {rest : List Oper} {d : Nat} {op : Op} {t : TypeId} {ps : String} {af : Array Edge} {g : Nat × Bool} (hg : guardU ops e { dst := some d, op, type := t, pos := ps, after := af, guard := some g } = true)
    (hd : Nat.blt d cx.n = true) (h : Dr cx ((d, undef) :: e) Rs P ops K rest) : Dr cx e Rs P ops K ({ dst := some d, op, type := t, pos := ps, after := af, guard := some g } :: rest) := by
  intro a ha
  have hwant := guardU_spec ha hg
  refine ⟨fun _ _ _ _ => trivial, ?_⟩
  rw [if_neg (by rw [hwant]; simp)]
  exact h _ (ha.put hd undef)
variable {ops : Array Oper} {g : Rg} {K : Act → World → Prop}
end
end Go.Pm

/-! From R5 -/
/- The walks of law19's gives, alive. (printed by gen1.py) -/
namespace Go.Proofs.YtokhediaibdkjaaDoor
open Go.Pm Go.RowKit
set_option maxRecDepth 100000
end Go.Proofs.YtokhediaibdkjaaDoor
