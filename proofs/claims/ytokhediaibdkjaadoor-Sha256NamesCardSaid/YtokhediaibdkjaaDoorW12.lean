/- The walks of law04.hash, alive, state. (printed by gen1.py) -/
import Derived.Test.YtokhediaibdkjaaDoorW11
namespace Go.Proofs.YtokhediaibdkjaaDoor
open Go.Pm Go.RowKit
set_option maxRecDepth 100000
theorem un_9 : Tryd.prog.underlying 9 = some .string := by kernel_rfl


theorem f23_spec (bits : Nat) (hbits : bits = 224 ∨ bits = 256) (s want : ByteArray) (hs : s.size ≤ 70368744177000) (h : hexL (hashOf bits s.data.toList) = want.data.toList) (w : World) (hG : Gl w []) :
    Calls Tryd.prog 23 [I64 bits, .string s, .string want].toArray w (fun en w2 => en = .returned (.bool true) ∧ Sat w [] [] w2) := by
  refine enter (n := 24) Tryd.func23 rfl rfl rfl (Sat.refl w) ?_
  refine seq ?_
  refine region ?_
  refine st (g_assign rfl) rfl ?_
  refine done ?_
  refine th_n ?_
  refine seq ?_
  refine region ?_
  refine st (g_move rfl) rfl ?_
  refine st (g_move rfl) rfl ?_
  refine sq rfl (o_bytes un_9 un_23 un_5 rfl rfl (fun b12 cap12 rest12 fr12 hcap12 => ?_))
  refine sq rfl (o_call Tryd.func17 rfl rfl rfl .nil (fun w hw hA => f17_spec bits hbits _ _ _ s.data.toList rfl (by simp) hcap12 hs w (RdA.ownF (cx := ⟨0, [], _, _⟩) .here (fun j v hj => by rw [List.getElem?_append_left (by have := (List.getElem?_eq_some_iff.1 hj).1; omega), Nat.zero_add]; exact hj) w hw) (Gl.ofOld (A := []) hG hw .nil)) rfl (fun o _ => ?_))
  refine st (g_move rfl) rfl ?_
  refine st (g_extract rfl rfl) rfl ?_
  refine st (g_extract rfl rfl) rfl ?_
  refine st (g_assign rfl) rfl ?_
  refine st (g_assign rfl) rfl ?_
  refine done ?_
  refine th_n ?_
  refine seq ?_
  refine region ?_
  refine st (g_move rfl) rfl ?_
  refine st (g_T rfl rfl rfl (rfl)) rfl ?_
  refine st (g_move rfl) rfl ?_
  refine gt rfl ?_
  refine st (g_move rfl) rfl ?_
  refine gt rfl ?_
  refine sq rfl (o_call Tryd.func70 rfl rfl rfl .nil (fun w hw hA => f70_spec _ _ _ (hashOf bits s.data.toList) (digest_length (by omega)) (by omega) (by intro h0; have h1 := digest_length (size := bits / 8) (fst := fstOf bits) (all := s.data.toList) (by omega); rw [show digest (bits / 8) (fstOf bits) s.data.toList = [] from h0] at h1; simp at h1; omega) w (RdA.own (cx := ⟨0, [], _, _⟩) .here (fun j v hj => by rw [Nat.zero_add, List.getElem?_append_left (List.getElem?_eq_some_iff.1 hj).1]; exact hj) w hw)) rfl (fun _ _ => ?_))
  refine gt rfl ?_
  refine st (g_move rfl) rfl ?_
  refine gt rfl ?_
  refine st (g_eqST rfl rfl (by simpa using h)) rfl ?_
  refine st (g_pickT rfl rfl) rfl ?_
  refine st (g_assign rfl) rfl ?_
  refine done ?_
  refine th_n ?_
  refine ret ?_
  exact ret1 rfl rfl rfl (fun w2 hw2 => ⟨rfl, hw2.clear⟩)

theorem abc256 : hexL (hashOf 256 [97, 98, 99]) = [98, 97, 55, 56, 49, 54, 98, 102, 56, 102, 48, 49, 99, 102, 101, 97, 52, 49, 52, 49, 52, 48, 100, 101, 53, 100, 97, 101, 50, 50, 50, 51, 98, 48, 48, 51, 54, 49, 97, 51, 57, 54, 49, 55, 55, 97, 57, 99, 98, 52, 49, 48, 102, 102, 54, 49, 102, 50, 48, 48, 49, 53, 97, 100] := by decide +kernel
theorem abc224 : hexL (hashOf 224 [97, 98, 99]) = [50, 51, 48, 57, 55, 100, 50, 50, 51, 52, 48, 53, 100, 56, 50, 50, 56, 54, 52, 50, 97, 52, 55, 55, 98, 100, 97, 50, 53, 53, 98, 51, 50, 97, 97, 100, 98, 99, 101, 52, 98, 100, 97, 48, 98, 51, 102, 55, 101, 51, 54, 99, 57, 100, 97, 55] := by decide +kernel


theorem f24_spec (w : World) (hG : Gl w []) : Calls Tryd.prog 24 [].toArray w (fun en w2 => en = .returned (.bool true) ∧ Sat w [] [] w2) := by
  refine enter (n := 5) Tryd.func24 rfl rfl rfl (Sat.refl w) ?_
  refine seq ?_
  refine region ?_
  refine st (g_assign rfl) rfl ?_
  refine done ?_
  refine th_n ?_
  refine seq ?_
  refine region ?_
  refine sq rfl (o_callP Tryd.func23 rfl rfl rfl (fun w hw => f23_spec 256 (.inr rfl) ⟨#[97, 98, 99]⟩ ⟨#[98, 97, 55, 56, 49, 54, 98, 102, 56, 102, 48, 49, 99, 102, 101, 97, 52, 49, 52, 49, 52, 48, 100, 101, 53, 100, 97, 101, 50, 50, 50, 51, 98, 48, 48, 51, 54, 49, 97, 51, 57, 54, 49, 55, 55, 97, 57, 99, 98, 52, 49, 48, 102, 102, 54, 49, 102, 50, 48, 48, 49, 53, 97, 100]⟩ (by decide) abc256 w (Gl.ofOld (A := []) hG hw .nil)) rfl ?_)
  refine st (g_move rfl) rfl ?_
  refine gt rfl ?_
  refine sq rfl (o_callP Tryd.func23 rfl rfl rfl (fun w hw => f23_spec 224 (.inl rfl) ⟨#[97, 98, 99]⟩ ⟨#[50, 51, 48, 57, 55, 100, 50, 50, 51, 52, 48, 53, 100, 56, 50, 50, 56, 54, 52, 50, 97, 52, 55, 55, 98, 100, 97, 50, 53, 53, 98, 51, 50, 97, 97, 100, 98, 99, 101, 52, 98, 100, 97, 48, 98, 51, 102, 55, 101, 51, 54, 99, 57, 100, 97, 55]⟩ (by decide) abc224 w (Gl.ofOld (A := []) hG hw .nil)) rfl ?_)
  refine st (g_pickT rfl rfl) rfl ?_
  refine st (g_assign rfl) rfl ?_
  refine done ?_
  refine th_n ?_
  refine ret ?_
  exact ret1 rfl rfl rfl (fun w2 hw2 => ⟨rfl, hw2⟩)

theorem adv_none {p : Option Addr} {c k s : Nat} (h : adv p c k s = none) : p = none := by
  unfold adv at h
  split at h
  · exact h
  · cases p with
    | none => rfl
    | some a => simp at h


theorem f26_256 (p : Option Addr) (n c : Nat) (bs : List UInt8) (hb : bs.length = n) (hp : p = none → c = 0) (hnc : n ≤ c) (hn : n ≤ 1000000) (p2 : Option Addr) (n2 c2 : Nat) (cs : List UInt8) (hcs : cs.length = n2) (hn2 : n2 ≤ 1000000) (ask : Bool) (w : World)
    (hr : RdC w p (bs.map B8)) (hr2 : RdC w p2 (cs.map B8)) (hG : Gl w []) : Calls Tryd.prog 26 [.bool true, .slice p n c, .slice p2 n2 c2, .bool ask].toArray w (fun en w2 => ∃ y : Nat × (Option Addr × Nat), stP bs y.2 ∧ en = .returned (.pointer (some ⟨y.1, 0, none⟩)) ∧ Sat w (fps []) (stA y.1 32 first256 bs y.2) w2) := by
  refine enter (n := 51) Tryd.func26 rfl rfl rfl (Sat.refl w) ?_
  refine seq ?_
  refine region ?_
  refine st (g_assign rfl) rfl ?_
  refine done ?_
  refine th_n ?_
  refine seq ?_
  refine region ?_
  refine st (g_assign rfl) rfl ?_
  refine done ?_
  refine th_n ?_
  refine seq ?_
  refine seq ?_
  refine region ?_
  refine st (g_move rfl) rfl ?_
  refine done ?_
  refine th_n ?_
  refine condT rfl ?_
  refine region ?_
  refine st (g_assign rfl) rfl ?_
  refine done ?_
  refine th_n ?_
  refine seq ?_
  refine region ?_
  refine st (g_move rfl) rfl ?_
  refine sq rfl (o_call Tryd.func19 rfl rfl rfl .nil (fun w hw hA => new_spec 256 (.inr rfl) w (Gl.ofOld (A := []) hG hw .nil)) rfl (fun b _ => ?_))
  refine st (g_move rfl) rfl ?_
  refine st (g_extract rfl rfl) rfl ?_
  refine st (g_extract rfl rfl) rfl ?_
  refine st (g_assign rfl) rfl ?_
  refine st (g_assign rfl) rfl ?_
  refine done ?_
  refine th_n ?_
  refine seq ?_
  refine seq ?_
  refine region ?_
  refine st (g_move rfl) rfl ?_
  refine st (g_F rfl rfl rfl (by decide)) rfl ?_
  refine done ?_
  refine th_n ?_
  refine condF rfl ?_
  refine skip ?_
  refine th_n ?_
  refine seq ?_
  refine seq ?_
  refine region ?_
  refine st (g_move rfl) rfl ?_
  refine st (g_len el_23 rfl) rfl ?_
  refine st (g_move rfl) rfl ?_
  refine done ?_
  refine th_n ?_
  refine block ?_
  refine loop (α := Nat × Nat × (Option Addr × Nat) × (Option Addr × Nat)) (fun ⟨i, m, q, z⟩ => i ≤ n2 ∧ m ≤ n ∧ (q.1 = none → q.2 = 0) ∧ n - m ≤ q.2 ∧ RdS w [] q.1 ((bs.drop m).map B8) ∧ stP (bs.take m) z) (fun ⟨i, m, q, z⟩ => [(1, .slice q.1 (n - m) q.2), (2, .slice p2 n2 c2), (3, .bool ask), (10, .pointer (some ⟨b, 0, none⟩)), (22, .slice p2 n2 c2), (23, I64 (n2 : Nat)), (24, I64 (i : Nat))]) (fun ⟨i, m, q, z⟩ => stA b 32 first256 (bs.take m) z) (fun ⟨i, m, q, z⟩ => n2 - i) (0, 0, (p, c), (none, 0)) ⟨Nat.zero_le _, Nat.zero_le _, hp, hnc, hr.s, ⟨fun _ => rfl, by simp [shaR]⟩⟩ ⟨rfl, rfl, rfl, rfl, rfl, rfl, rfl, trivial⟩ (.cons .here (.cons .here .nil)) (fun ⟨i, m, q, z⟩ ⟨hI, hm, hq0, hqc, hrq, hz⟩ => ?_)
  refine seq ?_
  refine region ?_
  refine st (g_bin rfl rfl rfl) rfl ?_
  refine done ?_
  refine th_n ?_
  refine seq ?_
  refine condS rfl (fun h25 => ?_) (fun h25 => ?_)
  · try simp only [decide_eq_true_eq, decide_eq_false_iff_not] at h25
    have hi : i < n2 := by omega
    have hp2 : p2.isSome = true := hr2.some (by intro h; simp at h; subst h; simp at hcs; omega)
    have hbl : (cs.getD i 0).toNat < 256 := UInt8.toNat_lt _
    obtain ⟨k, hk⟩ : ∃ k, k = min (cs.getD i 0).toNat (n - m) := ⟨_, rfl⟩
    have hkn : k ≤ n - m := by omega
    have hmk : bs.take (m + k) = bs.take m ++ (bs.drop m).take k := by rw [List.take_add]
    refine skip ?_
    refine th_n ?_
    refine seq ?_
    refine block ?_
    refine seq ?_
    refine region ?_
    refine st (g_move rfl) rfl ?_
    refine st (g_assign rfl) rfl ?_
    refine done ?_
    refine th_n ?_
    refine seq ?_
    refine region ?_
    refine st (g_move rfl) rfl ?_
    refine st (g_move rfl) rfl ?_
    refine st (g_indexP (m := i) el_23 rfl rfl (hp2) (by omega) (by omega) (by omega)) rfl ?_
    refine st (g_load (v := B8 (cs.getD i 0)) sc_5 rfl (Cell.rd (RdA.of hr2.s) (get_B8 (by omega) (by omega)))) rfl ?_
    refine st (g_toI it_5 it_3 rfl rfl (by omega) (by omega)) rfl ?_
    refine st (g_move rfl) rfl ?_
    refine st (g_len el_23 rfl) rfl ?_
    refine st (g_min (c := (k : Int)) rfl rfl (by omega)) rfl ?_
    refine st (g_assign rfl) rfl ?_
    refine done ?_
    refine th_n ?_
    refine seq ?_
    refine region ?_
    refine st (g_move rfl) rfl ?_
    refine st (g_move rfl) rfl ?_
    refine st (g_move rfl) rfl ?_
    refine st (g_slice (l := 0) (h := (k : Int)) (m := (q.2 : Int)) (p' := q.1) (n' := k) (c' := q.2) el_23 rfl rfl rfl rfl (by simp) (by decide) (by omega) (by omega) (by omega) (adv_zero _ _ _) (by omega) (by omega)) rfl ?_
    refine sq rfl (o_call Tryd.func20 rfl rfl rfl (.cons .here (.cons .here .nil)) (fun w hw hA => write_spec b 32 (by decide) first256 rfl (bs.take m) z hz q.1 k q.2 ((bs.drop m).take k) (by rw [List.length_take, List.length_drop]; omega) hq0 (by omega) (by omega) w hA (RdS.ofOld (A := stA b 32 first256 (bs.take m) z) (by have h0 := hrq.take k; rw [← List.map_take] at h0; exact h0) hw (.cons .here (.cons .here .nil))) (Gl.ofOld hG hw (.cons .here (.cons .here .nil)))) rfl (fun z2 hz2 => ?_))
    refine done ?_
    refine th_n ?_
    refine seq ?_
    refine region ?_
    refine st (g_move rfl) rfl ?_
    refine st (g_move rfl) rfl ?_
    refine st (g_slice (l := (k : Int)) (h := ((n - m : Nat) : Int)) (m := (q.2 : Int)) (p' := adv q.1 q.2 k 1) (n' := n - m - k) (c' := q.2 - k) el_23 rfl rfl rfl rfl (by simp) (by omega) (by omega) (by omega) (by omega) rfl (by omega) (by omega)) rfl ?_
    refine st (g_assign rfl) rfl ?_
    refine done ?_
    refine th_n ?_
    refine seq ?_
    refine region ?_
    refine st (g_move rfl) rfl ?_
    refine done ?_
    refine th_n ?_
    refine condS rfl (fun hask => ?_) (fun hask => ?_)
    · try simp only [decide_eq_true_eq, decide_eq_false_iff_not] at hask
      refine region ?_
      refine st (g_move rfl) rfl ?_
      refine sq rfl (o_call Tryd.func21 rfl rfl rfl (.cons .here (.cons .here .nil)) (fun w hw hA => sum_spec b 32 (by decide) (by decide) first256 rfl _ z2 hz2 w hA (Gl.ofOld hG hw (.cons .here (.cons .here .nil)))) rfl (fun o _ => ?_))
      refine done ?_
      refine ib_n ?_
      refine th_n ?_
      refine region ?_
      refine st (g_iadd rfl rfl rfl (by omega) (by omega)) rfl ?_
      refine st (g_move rfl) rfl ?_
      refine done ?_
      refine th_n ?_
      have hmk2 : bs.take (m + k) = bs.take m ++ (bs.drop m).take k := hmk
      rw [← hmk2]
      exact again (i + 1, m + k, (adv q.1 q.2 k 1, q.2 - k), z2) ⟨by omega, by omega, fun h => by have := hq0 (adv_none h); omega, by show _ - _ ≤ _ - _; omega, by have h0 := hrq.adv (c := q.2) (k := k) (s := 1) (fun he => by rw [List.length_map, List.length_drop]; omega); rw [← List.map_drop, List.drop_drop, Nat.mul_one] at h0; exact h0, by show stP (bs.take (m + k)) z2; rw [hmk]; exact hz2⟩ (by show _ < _; simp only; omega) ⟨congrArg (fun t => some (Value.slice (adv q.1 q.2 k 1) t (q.2 - k))) (show n - m - k = n - (m + k) by omega), rfl, rfl, rfl, rfl, rfl, rfl, trivial⟩ (.cons (.there (.here)) (.cons (.there (.here)) .nil))
    · try simp only [decide_eq_true_eq, decide_eq_false_iff_not] at hask
      refine skip ?_
      refine ib_n ?_
      refine th_n ?_
      refine region ?_
      refine st (g_iadd rfl rfl rfl (by omega) (by omega)) rfl ?_
      refine st (g_move rfl) rfl ?_
      refine done ?_
      refine th_n ?_
      have hmk2 : bs.take (m + k) = bs.take m ++ (bs.drop m).take k := hmk
      rw [← hmk2]
      exact again (i + 1, m + k, (adv q.1 q.2 k 1, q.2 - k), z2) ⟨by omega, by omega, fun h => by have := hq0 (adv_none h); omega, by show _ - _ ≤ _ - _; omega, by have h0 := hrq.adv (c := q.2) (k := k) (s := 1) (fun he => by rw [List.length_map, List.length_drop]; omega); rw [← List.map_drop, List.drop_drop, Nat.mul_one] at h0; exact h0, by show stP (bs.take (m + k)) z2; rw [hmk]; exact hz2⟩ (by show _ < _; simp only; omega) ⟨congrArg (fun t => some (Value.slice (adv q.1 q.2 k 1) t (q.2 - k))) (show n - m - k = n - (m + k) by omega), rfl, rfl, rfl, rfl, rfl, rfl, trivial⟩ (.cons .here (.cons .here .nil))
  · try simp only [decide_eq_true_eq, decide_eq_false_iff_not] at h25
    have hie : i = n2 := by omega
    refine exitc ?_
    refine th_x ?_
    refine th_x ?_
    refine ib_x ?_
    refine th_n ?_
    refine seq ?_
    refine region ?_
    refine st (g_move rfl) rfl ?_
    refine st (g_move rfl) rfl ?_
    refine sq rfl (o_call Tryd.func20 rfl rfl rfl (.cons .here (.cons .here .nil)) (fun w hw hA => write_spec b 32 (by decide) first256 rfl (bs.take m) z hz q.1 (n - m) q.2 (bs.drop m) (by rw [List.length_drop]; omega) hq0 (by omega) (by omega) w hA (RdS.ofOld hrq hw (.cons .here (.cons .here .nil))) (Gl.ofOld hG hw (.cons .here (.cons .here .nil)))) rfl (fun z2 hz2 => ?_))
    refine done ?_
    refine th_n ?_
    refine seq ?_
    refine region ?_
    refine st (g_move rfl) rfl ?_
    refine st (g_assign rfl) rfl ?_
    refine done ?_
    refine th_n ?_
    refine ret ?_
    exact ret1 rfl rfl rfl (fun w2 hw2 => ⟨(b, z2), by rw [List.take_append_drop] at hz2; exact hz2, rfl, by rw [List.take_append_drop] at hw2; exact hw2⟩)

theorem f26_224 (p : Option Addr) (n c : Nat) (bs : List UInt8) (hb : bs.length = n) (hp : p = none → c = 0) (hnc : n ≤ c) (hn : n ≤ 1000000) (p2 : Option Addr) (n2 c2 : Nat) (cs : List UInt8) (hcs : cs.length = n2) (hn2 : n2 ≤ 1000000) (ask : Bool) (w : World)
    (hr : RdC w p (bs.map B8)) (hr2 : RdC w p2 (cs.map B8)) (hG : Gl w []) : Calls Tryd.prog 26 [.bool false, .slice p n c, .slice p2 n2 c2, .bool ask].toArray w (fun en w2 => ∃ y : Nat × (Option Addr × Nat), stP bs y.2 ∧ en = .returned (.pointer (some ⟨y.1, 0, none⟩)) ∧ Sat w (fps []) (stA y.1 28 first224 bs y.2) w2) := by
  refine enter (n := 51) Tryd.func26 rfl rfl rfl (Sat.refl w) ?_
  refine seq ?_
  refine region ?_
  refine st (g_assign rfl) rfl ?_
  refine done ?_
  refine th_n ?_
  refine seq ?_
  refine region ?_
  refine st (g_assign rfl) rfl ?_
  refine done ?_
  refine th_n ?_
  refine seq ?_
  refine seq ?_
  refine region ?_
  refine st (g_move rfl) rfl ?_
  refine done ?_
  refine th_n ?_
  refine condF rfl ?_
  refine skip ?_
  refine th_n ?_
  refine seq ?_
  refine region ?_
  refine st (g_move rfl) rfl ?_
  refine sq rfl (o_call Tryd.func19 rfl rfl rfl .nil (fun w hw hA => new_spec 224 (.inl rfl) w (Gl.ofOld (A := []) hG hw .nil)) rfl (fun b _ => ?_))
  refine st (g_move rfl) rfl ?_
  refine st (g_extract rfl rfl) rfl ?_
  refine st (g_extract rfl rfl) rfl ?_
  refine st (g_assign rfl) rfl ?_
  refine st (g_assign rfl) rfl ?_
  refine done ?_
  refine th_n ?_
  refine seq ?_
  refine seq ?_
  refine region ?_
  refine st (g_move rfl) rfl ?_
  refine st (g_F rfl rfl rfl (by decide)) rfl ?_
  refine done ?_
  refine th_n ?_
  refine condF rfl ?_
  refine skip ?_
  refine th_n ?_
  refine seq ?_
  refine seq ?_
  refine region ?_
  refine st (g_move rfl) rfl ?_
  refine st (g_len el_23 rfl) rfl ?_
  refine st (g_move rfl) rfl ?_
  refine done ?_
  refine th_n ?_
  refine block ?_
  refine loop (α := Nat × Nat × (Option Addr × Nat) × (Option Addr × Nat)) (fun ⟨i, m, q, z⟩ => i ≤ n2 ∧ m ≤ n ∧ (q.1 = none → q.2 = 0) ∧ n - m ≤ q.2 ∧ RdS w [] q.1 ((bs.drop m).map B8) ∧ stP (bs.take m) z) (fun ⟨i, m, q, z⟩ => [(1, .slice q.1 (n - m) q.2), (2, .slice p2 n2 c2), (3, .bool ask), (10, .pointer (some ⟨b, 0, none⟩)), (22, .slice p2 n2 c2), (23, I64 (n2 : Nat)), (24, I64 (i : Nat))]) (fun ⟨i, m, q, z⟩ => stA b 28 first224 (bs.take m) z) (fun ⟨i, m, q, z⟩ => n2 - i) (0, 0, (p, c), (none, 0)) ⟨Nat.zero_le _, Nat.zero_le _, hp, hnc, hr.s, ⟨fun _ => rfl, by simp [shaR]⟩⟩ ⟨rfl, rfl, rfl, rfl, rfl, rfl, rfl, trivial⟩ (.cons .here (.cons .here .nil)) (fun ⟨i, m, q, z⟩ ⟨hI, hm, hq0, hqc, hrq, hz⟩ => ?_)
  refine seq ?_
  refine region ?_
  refine st (g_bin rfl rfl rfl) rfl ?_
  refine done ?_
  refine th_n ?_
  refine seq ?_
  refine condS rfl (fun h25 => ?_) (fun h25 => ?_)
  · try simp only [decide_eq_true_eq, decide_eq_false_iff_not] at h25
    have hi : i < n2 := by omega
    have hp2 : p2.isSome = true := hr2.some (by intro h; simp at h; subst h; simp at hcs; omega)
    have hbl : (cs.getD i 0).toNat < 256 := UInt8.toNat_lt _
    obtain ⟨k, hk⟩ : ∃ k, k = min (cs.getD i 0).toNat (n - m) := ⟨_, rfl⟩
    have hkn : k ≤ n - m := by omega
    have hmk : bs.take (m + k) = bs.take m ++ (bs.drop m).take k := by rw [List.take_add]
    refine skip ?_
    refine th_n ?_
    refine seq ?_
    refine block ?_
    refine seq ?_
    refine region ?_
    refine st (g_move rfl) rfl ?_
    refine st (g_assign rfl) rfl ?_
    refine done ?_
    refine th_n ?_
    refine seq ?_
    refine region ?_
    refine st (g_move rfl) rfl ?_
    refine st (g_move rfl) rfl ?_
    refine st (g_indexP (m := i) el_23 rfl rfl (hp2) (by omega) (by omega) (by omega)) rfl ?_
    refine st (g_load (v := B8 (cs.getD i 0)) sc_5 rfl (Cell.rd (RdA.of hr2.s) (get_B8 (by omega) (by omega)))) rfl ?_
    refine st (g_toI it_5 it_3 rfl rfl (by omega) (by omega)) rfl ?_
    refine st (g_move rfl) rfl ?_
    refine st (g_len el_23 rfl) rfl ?_
    refine st (g_min (c := (k : Int)) rfl rfl (by omega)) rfl ?_
    refine st (g_assign rfl) rfl ?_
    refine done ?_
    refine th_n ?_
    refine seq ?_
    refine region ?_
    refine st (g_move rfl) rfl ?_
    refine st (g_move rfl) rfl ?_
    refine st (g_move rfl) rfl ?_
    refine st (g_slice (l := 0) (h := (k : Int)) (m := (q.2 : Int)) (p' := q.1) (n' := k) (c' := q.2) el_23 rfl rfl rfl rfl (by simp) (by decide) (by omega) (by omega) (by omega) (adv_zero _ _ _) (by omega) (by omega)) rfl ?_
    refine sq rfl (o_call Tryd.func20 rfl rfl rfl (.cons .here (.cons .here .nil)) (fun w hw hA => write_spec b 28 (by decide) first224 rfl (bs.take m) z hz q.1 k q.2 ((bs.drop m).take k) (by rw [List.length_take, List.length_drop]; omega) hq0 (by omega) (by omega) w hA (RdS.ofOld (A := stA b 28 first224 (bs.take m) z) (by have h0 := hrq.take k; rw [← List.map_take] at h0; exact h0) hw (.cons .here (.cons .here .nil))) (Gl.ofOld hG hw (.cons .here (.cons .here .nil)))) rfl (fun z2 hz2 => ?_))
    refine done ?_
    refine th_n ?_
    refine seq ?_
    refine region ?_
    refine st (g_move rfl) rfl ?_
    refine st (g_move rfl) rfl ?_
    refine st (g_slice (l := (k : Int)) (h := ((n - m : Nat) : Int)) (m := (q.2 : Int)) (p' := adv q.1 q.2 k 1) (n' := n - m - k) (c' := q.2 - k) el_23 rfl rfl rfl rfl (by simp) (by omega) (by omega) (by omega) (by omega) rfl (by omega) (by omega)) rfl ?_
    refine st (g_assign rfl) rfl ?_
    refine done ?_
    refine th_n ?_
    refine seq ?_
    refine region ?_
    refine st (g_move rfl) rfl ?_
    refine done ?_
    refine th_n ?_
    refine condS rfl (fun hask => ?_) (fun hask => ?_)
    · try simp only [decide_eq_true_eq, decide_eq_false_iff_not] at hask
      refine region ?_
      refine st (g_move rfl) rfl ?_
      refine sq rfl (o_call Tryd.func21 rfl rfl rfl (.cons .here (.cons .here .nil)) (fun w hw hA => sum_spec b 28 (by decide) (by decide) first224 rfl _ z2 hz2 w hA (Gl.ofOld hG hw (.cons .here (.cons .here .nil)))) rfl (fun o _ => ?_))
      refine done ?_
      refine ib_n ?_
      refine th_n ?_
      refine region ?_
      refine st (g_iadd rfl rfl rfl (by omega) (by omega)) rfl ?_
      refine st (g_move rfl) rfl ?_
      refine done ?_
      refine th_n ?_
      have hmk2 : bs.take (m + k) = bs.take m ++ (bs.drop m).take k := hmk
      rw [← hmk2]
      exact again (i + 1, m + k, (adv q.1 q.2 k 1, q.2 - k), z2) ⟨by omega, by omega, fun h => by have := hq0 (adv_none h); omega, by show _ - _ ≤ _ - _; omega, by have h0 := hrq.adv (c := q.2) (k := k) (s := 1) (fun he => by rw [List.length_map, List.length_drop]; omega); rw [← List.map_drop, List.drop_drop, Nat.mul_one] at h0; exact h0, by show stP (bs.take (m + k)) z2; rw [hmk]; exact hz2⟩ (by show _ < _; simp only; omega) ⟨congrArg (fun t => some (Value.slice (adv q.1 q.2 k 1) t (q.2 - k))) (show n - m - k = n - (m + k) by omega), rfl, rfl, rfl, rfl, rfl, rfl, trivial⟩ (.cons (.there (.here)) (.cons (.there (.here)) .nil))
    · try simp only [decide_eq_true_eq, decide_eq_false_iff_not] at hask
      refine skip ?_
      refine ib_n ?_
      refine th_n ?_
      refine region ?_
      refine st (g_iadd rfl rfl rfl (by omega) (by omega)) rfl ?_
      refine st (g_move rfl) rfl ?_
      refine done ?_
      refine th_n ?_
      have hmk2 : bs.take (m + k) = bs.take m ++ (bs.drop m).take k := hmk
      rw [← hmk2]
      exact again (i + 1, m + k, (adv q.1 q.2 k 1, q.2 - k), z2) ⟨by omega, by omega, fun h => by have := hq0 (adv_none h); omega, by show _ - _ ≤ _ - _; omega, by have h0 := hrq.adv (c := q.2) (k := k) (s := 1) (fun he => by rw [List.length_map, List.length_drop]; omega); rw [← List.map_drop, List.drop_drop, Nat.mul_one] at h0; exact h0, by show stP (bs.take (m + k)) z2; rw [hmk]; exact hz2⟩ (by show _ < _; simp only; omega) ⟨congrArg (fun t => some (Value.slice (adv q.1 q.2 k 1) t (q.2 - k))) (show n - m - k = n - (m + k) by omega), rfl, rfl, rfl, rfl, rfl, rfl, trivial⟩ (.cons .here (.cons .here .nil))
  · try simp only [decide_eq_true_eq, decide_eq_false_iff_not] at h25
    have hie : i = n2 := by omega
    refine exitc ?_
    refine th_x ?_
    refine th_x ?_
    refine ib_x ?_
    refine th_n ?_
    refine seq ?_
    refine region ?_
    refine st (g_move rfl) rfl ?_
    refine st (g_move rfl) rfl ?_
    refine sq rfl (o_call Tryd.func20 rfl rfl rfl (.cons .here (.cons .here .nil)) (fun w hw hA => write_spec b 28 (by decide) first224 rfl (bs.take m) z hz q.1 (n - m) q.2 (bs.drop m) (by rw [List.length_drop]; omega) hq0 (by omega) (by omega) w hA (RdS.ofOld hrq hw (.cons .here (.cons .here .nil))) (Gl.ofOld hG hw (.cons .here (.cons .here .nil)))) rfl (fun z2 hz2 => ?_))
    refine done ?_
    refine th_n ?_
    refine seq ?_
    refine region ?_
    refine st (g_move rfl) rfl ?_
    refine st (g_assign rfl) rfl ?_
    refine done ?_
    refine th_n ?_
    refine ret ?_
    exact ret1 rfl rfl rfl (fun w2 hw2 => ⟨(b, z2), by rw [List.take_append_drop] at hz2; exact hz2, rfl, by rw [List.take_append_drop] at hw2; exact hw2⟩)
end Go.Proofs.YtokhediaibdkjaaDoor
