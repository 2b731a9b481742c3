/- The walk of Sum. (printed by gen1.py) -/
import Derived.Test.YtokhediaibdkjaaDoorW8
namespace Go.Proofs.YtokhediaibdkjaaDoor
open Go.Pm Go.RowKit
set_option maxRecDepth 100000
/-- The bytes behind what was left over. -/
def lenB (taken : BitVec 64) (i : Nat) : UInt8 := UInt8.ofNat ((8#64 * taken) >>> (8 * (7 - i))).toNat
def padPre (n : Nat) : List UInt8 := 128 :: List.replicate ((119 - n) % 64) 0
def padL (n : Nat) (taken : BitVec 64) : List UInt8 := padPre n ++ (List.range 8).map (lenB taken)
def w4 (x : BitVec 32) : List UInt8 := [UInt8.ofNat (x >>> 24).toNat, UInt8.ofNat (x >>> 16).toNat, UInt8.ofNat (x >>> 8).toNat, UInt8.ofNat x.toNat]
def outB (hs : List (BitVec 32)) (i : Nat) : List UInt8 := (List.range i).flatMap fun j => w4 (hs.getD j 0#32)
def sumH (hs : List (BitVec 32)) (l : List UInt8) (taken : BitVec 64) : List (BitVec 32) := absorb (l ++ padL l.length taken) ((l ++ padL l.length taken).length / 64) hs
def sumW (size : Nat) (hs : List (BitVec 32)) (l : List UInt8) (taken : BitVec 64) : List UInt8 := (outB (sumH hs l taken) 8).take size
theorem outB_length (hs : List (BitVec 32)) (i : Nat) : (outB hs i).length = 4 * i := by
  induction i with
  | zero => rfl
  | succ i ih => simp only [outB, List.range_succ, List.flatMap_append, List.length_append] at ih ⊢; rw [ih]; simp [w4]; omega
theorem outB_succ (hs : List (BitVec 32)) (i : Nat) : outB hs (i + 1) = outB hs i ++ w4 (hs.getD i 0#32) := by simp [outB, List.range_succ]
theorem sumW_length {size : Nat} {hs : List (BitVec 32)} {l : List UInt8} {taken : BitVec 64} (h : size ≤ 32) : (sumW size hs l taken).length = size := by simp [sumW, outB_length]; omega
theorem pad_succ (n : Nat) (taken : BitVec 64) (i : Nat) : padPre n ++ (List.range (i + 1)).map (lenB taken) = (padPre n ++ (List.range i).map (lenB taken)) ++ [lenB taken i] := by simp [List.range_succ]
theorem padPre_length (n : Nat) : (padPre n).length = 1 + (119 - n) % 64 := by simp [padPre]; omega
section
variable {cx : Cx} {e : Env} {Rs : List Res} {K : Act → World → Prop}
theorem blk_of_vec {a : Addr} {E s n cap : Nat} {xs : List Value} {B : List Res} (hk : Pick (vec (.slice (some a) n cap) E s n xs) Rs B) (h : ∀ g rest, a = ⟨g, 0, none⟩ → (xs ++ rest).length = cap * s → At cx e (blk g E (xs ++ rest) :: B) K) : At cx e Rs K := by
  intro act w ha hw
  have hw' := hw.pick hk
  have hv : w.ownsRow 0 E s (.slice (some a) n cap) n xs := hw'.holds (vec (.slice (some a) n cap) E s n xs) (by simp)
  rcases hv.2 with ⟨he, _⟩ | ⟨g, cap', cur, he, h1, h2, h3, h4, h5, h6⟩
  · simp at he
  · simp only [Value.slice.injEq, true_and, Option.some.injEq] at he
    obtain ⟨rfl, rfl⟩ := he
    have hc : xs ++ cur.toList.drop (n * s) = cur.toList := by rw [← h6]; exact List.take_append_drop _ _
    refine h g (cur.toList.drop (n * s)) rfl (by rw [hc]; simpa using h5) act w ha ?_
    exact hw'.upd (R' := blk g E (xs ++ cur.toList.drop (n * s))) rfl rfl rfl rfl rfl (fun _ _ => rfl) (by show w.heap[g]? = _; rw [hc]; simpa using h2)
end


theorem le_of_vec {w : World} {T n : Nat} {y : Option Addr × Nat} {xs : List Value} (h : w.ownsRow 0 T 1 (slv n y) n xs) : n ≤ y.2 := by
  rcases h.2 with ⟨he, h0⟩ | ⟨g, cap, cur, he, _, _, hle, _⟩
  · omega
  · simp only [slv, Value.slice.injEq, true_and] at he; rw [he.2]; exact hle


theorem f21_spec (b : Nat) (size : Nat) (hz : size ≠ 0) (hz2 : size ≤ 32) (hs : List (BitVec 32)) (h8 : hs.length = 8) (n : Nat) (x : Option Addr × Nat) (l : List UInt8) (hl : l.length = n) (hn : n < 64) (hx : x.1 = none → x.2 = 0) (hxn : n ≤ x.2) (taken : BitVec 64) (w : World)
    (hA : Sat w (fps (stRes b size hs n x l taken)) (stRes b size hs n x l taken) w) (hG : Gl w (fps (stRes b size hs n x l taken))) :
    Calls Tryd.prog 21 [.pointer (some ⟨b, 0, none⟩)].toArray w (fun en w2 => ∃ o : Nat × List Value, True ∧ en = .returned (.slice (some ⟨o.1, 0, none⟩) size size) ∧
      Sat w (fps (stRes b size hs n x l taken)) ([blk o.1 5 ((sumW size hs l taken).map B8 ++ o.2)] ++ stRes b size hs n x l taken) w2) := by
  subst hl
  have hpre := padPre_length l.length
  refine enter (n := 74) Tryd.func21 rfl rfl rfl hA ?_
  refine seq ?_
  refine region ?_
  refine st (g_assign rfl) rfl ?_
  refine done ?_
  refine th_n ?_
  refine seq ?_
  refine seq ?_
  refine region ?_
  refine st (g_move rfl) rfl ?_
  refine sq rfl (o_callP Tryd.func65 rfl rfl rfl (fun w hw => f65_no b size (by omega) w (RdC.cell (j := 0) (RdC.ofBlk hw .here rfl (vs := stCells size hs (slv l.length x) taken)) rfl)) rfl ?_)
  refine done ?_
  refine th_n ?_
  refine condF rfl ?_
  refine skip ?_
  refine th_n ?_
  refine seq ?_
  refine region ?_
  refine sq rfl (o_buildSlice1 (vs := [B8 128]) un_23 zr_5 sz_5 (by decide) (by decide) rfl rfl rfl (by simp [Value.oneCell']) rfl (fun b11 => ?_))
  refine st (g_move rfl) rfl ?_
  refine st (g_nilCheck rfl) rfl ?_
  refine st (g_fieldAddr fo_41_2 rfl rfl) rfl ?_
  refine st (g_load (v := slv l.length x) sc_23 rfl (Cell.own (.there .here) rfl)) rfl ?_
  refine st (g_len el_23 rfl) rfl ?_
  refine st (g_isub (c := 119 - (l.length : Int)) rfl rfl (by omega) (by omega) (by omega)) rfl ?_
  refine st (g_irem (c := (((119 - l.length) % 64 : Nat) : Int)) rfl rfl (by omega) (by omega) (by omega)) rfl ?_
  refine vec_of_blk (n := 1) (s := 1) .here rfl (by decide) ?_
  refine sq rfl (o_appendZ (n := 1) (k := (119 - l.length) % 64) (xs := [B8 128]) un_23 un_3 zr_5 sz_5 bt_5 rfl rfl .here (by simp only [maxLen]; omega) (by omega) rfl (fun q cap hq hc hq0 => ?_))
  refine st (g_assign rfl) rfl ?_
  refine done ?_
  refine th_n ?_
  refine seq ?_
  refine seq ?_
  refine region ?_
  refine st (g_move rfl) rfl ?_
  refine done ?_
  refine th_n ?_
  refine block ?_
  have hpe : List.map B8 (padPre l.length ++ (List.range 0).map (lenB taken)) = [B8 128] ++ List.replicate ((119 - l.length) % 64) (.int .u8 0) := by simp [padPre]
  rw [← hpe, ← hpre]
  refine loop (α := Nat × (Option Addr × Nat)) (fun ⟨i, y⟩ => i ≤ 8 ∧ (y.1 = none → y.2 = 0) ∧ (padPre l.length).length + i ≤ y.2) (fun ⟨i, y⟩ => [(0, .pointer (some ⟨b, 0, none⟩)), (3, slv ((padPre l.length).length + i) y), (20, I64 (i : Nat))]) (fun ⟨i, y⟩ => [vec (slv ((padPre l.length).length + i) y) 5 1 ((padPre l.length).length + i) ((padPre l.length ++ (List.range i).map (lenB taken)).map B8), blk b 41 (stCells size hs (slv l.length x) taken), vec (slv l.length x) 5 1 l.length (l.map B8)]) (fun ⟨i, y⟩ => 8 - i) (0, (q, cap)) ⟨Nat.zero_le _, hq0, by omega⟩ ⟨rfl, rfl, rfl, trivial⟩ (.cons .here (.cons .here (.cons .here .nil))) (fun ⟨i, y⟩ ⟨hI, hy1, hy2⟩ => ?_)
  refine seq ?_
  refine region ?_
  refine st (g_bin rfl rfl rfl) rfl ?_
  refine done ?_
  refine th_n ?_
  refine seq ?_
  refine condS rfl (fun h21 => ?_) (fun h21 => ?_)
  · try simp only [decide_eq_true_eq, decide_eq_false_iff_not] at h21
    have hi : i < 8 := by omega
    refine skip ?_
    refine th_n ?_
    refine seq ?_
    refine block ?_
    refine seq ?_
    refine region ?_
    refine st (g_move rfl) rfl ?_
    refine st (g_assign rfl) rfl ?_
    refine done ?_
    refine th_n ?_
    refine region ?_
    refine st (g_move rfl) rfl ?_
    refine st (g_move rfl) rfl ?_
    refine st (g_nilCheck rfl) rfl ?_
    refine st (g_fieldAddr fo_41_3 rfl rfl) rfl ?_
    refine st (g_load sc_34 rfl (Cell.own (.there (.here)) rfl)) rfl ?_
    refine st (g_mul64 (a := 8#64) rfl rfl) rfl ?_
    refine st (g_move rfl) rfl ?_
    refine st (g_isub (c := 7 - (i : Int)) rfl rfl (by omega) (by omega) (by omega)) rfl ?_
    refine st (g_imul (c := 8 * (7 - (i : Int))) rfl rfl (by omega) (by omega) (by omega)) rfl ?_
    refine st (g_shr64 (n := 8 * (7 - i)) rfl rfl (by omega)) rfl ?_
    refine st (g_to8 it_34 it_5 rfl rfl) rfl ?_
    refine sq rfl (o_buildSlice1 (vs := [B8 (lenB taken i)]) un_23 zr_5 sz_5 (by decide) (by decide) rfl rfl rfl (by simp [Value.oneCell']) rfl (fun b34 => ?_))
    refine sq rfl (o_append (n := (padPre l.length).length + i) (m := 1) (news := [lenB taken i].map B8) un_23 zr_5 sz_5 rfl bt_5 (by decide) rfl rfl (.there (.here)) rfl (RdA.own .here (by simp)) oneB8 (by simp) (by simp only [maxLen]; omega) (by omega) rfl (fun q2 cap2 hq2 hc2 hq02 => ?_))
    refine st (g_assign rfl) rfl ?_
    refine done ?_
    refine ib_n ?_
    refine th_n ?_
    refine region ?_
    refine st (g_iadd rfl rfl rfl (by omega) (by omega)) rfl ?_
    refine st (g_move rfl) rfl ?_
    refine done ?_
    refine th_n ?_
    rw [← List.map_append, ← pad_succ]
    exact again (i + 1, (q2, cap2)) ⟨by omega, hq02, by omega⟩ (by show _ < _; simp only; omega) ⟨rfl, rfl, rfl, trivial⟩ (.cons .here (.cons (.there (.here)) (.cons (.there (.here)) .nil)))
  · try simp only [decide_eq_true_eq, decide_eq_false_iff_not] at h21
    have hie : i = 8 := by omega
    subst hie
    refine exitc ?_
    refine th_x ?_
    refine th_x ?_
    refine ib_x ?_
    refine th_n ?_
    refine seq ?_
    refine region ?_
    refine st (g_move rfl) rfl ?_
    refine sq rfl (o_call Tryd.func25 rfl rfl rfl (.cons (.there (.here)) (.cons (.there (.here)) .nil)) (fun w hw hA => f25_spec b size hs taken l.length x l (by omega) rfl (fun h => ⟨by have := hx h; omega, hx h⟩) (by omega) w hA) rfl (fun ⟨b2, y2⟩ hy2n => ?_))
    refine st (g_assign rfl) rfl ?_
    refine done ?_
    refine th_n ?_
    refine seq ?_
    refine region ?_
    refine st (g_move rfl) rfl ?_
    refine st (g_move rfl) rfl ?_
    refine sq rfl (o_call Tryd.func20 rfl rfl rfl (.cons .here (.cons .here .nil)) (fun w hw hA => f20_spec b2 size (by omega) hs h8 l.length y2 l rfl (fun h => (hy2n h).2) (le_of_vec (hw.get (.there .here))) taken y.1 ((padPre l.length).length + 8) y.2 (padL l.length taken) (by simp [padL]) hy1 hy2 (by simp [padL]; omega) w hA (by unfold padL; exact RdS.ofVec hw (.cons .here (.cons .here .nil)) (.there (.there .here))) (Gl.ofOld hG hw (.cons .here (.cons .here .nil)))) rfl (fun z hz3 => ?_))
    refine done ?_
    refine th_n ?_
    refine seq ?_
    refine region ?_
    refine st (g_assign rfl) rfl ?_
    refine done ?_
    refine th_n ?_
    refine seq ?_
    refine seq ?_
    refine region ?_
    refine st (g_move rfl) rfl ?_
    refine st (g_nilCheck rfl) rfl ?_
    refine st (g_fieldAddr fo_41_1 rfl rfl) rfl ?_
    refine At.up (fun w hw => new0_vec (T := 5) (s := 1) hw ⟨rfl, .inl ⟨rfl, rfl⟩⟩) ?_
    refine st (g_loadA (vs := hs8 (sumH hs l taken)) ag_39 rfl rfl (Cells.part (.there .here) rfl)) rfl ?_
    refine st (g_move rfl) rfl ?_
    refine done ?_
    refine th_n ?_
    refine block ?_
    
    refine loop (α := Nat × (Option Addr × Nat)) (fun ⟨i, y⟩ => i ≤ 8 ∧ (y.1 = none → y.2 = 0) ∧ 4 * i ≤ y.2) (fun ⟨i, y⟩ => [(0, .pointer (some ⟨b, 0, none⟩)), (6, slv (4 * i) y), (45, .agg (hs8 (sumH hs l taken)).toArray), (46, I64 (i : Nat))]) (fun ⟨i, y⟩ => [vec (slv (4 * i) y) 5 1 (4 * i) ((outB (sumH hs l taken) i).map B8), blk b 41 (stCells size hs (slv l.length x) taken), vec (slv l.length x) 5 1 l.length (l.map B8)]) (fun ⟨i, y⟩ => 8 - i) (0, (none, 0)) ⟨Nat.zero_le _, fun _ => rfl, Nat.zero_le _⟩ ⟨rfl, rfl, rfl, rfl, trivial⟩ (.cons .here (.cons (.there (.there (.here))) (.cons (.there (.there (.here))) .nil))) (fun ⟨i, y⟩ ⟨hI, hy1, hy2⟩ => ?_)
    refine seq ?_
    refine region ?_
    refine st (g_bin rfl rfl rfl) rfl ?_
    refine done ?_
    refine th_n ?_
    refine seq ?_
    refine condS rfl (fun h47 => ?_) (fun h47 => ?_)
    · try simp only [decide_eq_true_eq, decide_eq_false_iff_not] at h47
      have hi : i < 8 := by omega
      refine skip ?_
      refine th_n ?_
      refine seq ?_
      refine block ?_
      refine seq ?_
      refine region ?_
      refine st (g_idxA (v := U32 ((sumH hs l taken).getD i 0#32)) ar_39 (fun el h => by rw [un_39] at h; cases h; exact sc_38) rfl rfl (by omega) (by omega) (by rw [List.getElem?_toArray]; exact get_hs8 (by omega) hi)) rfl ?_
      refine st (g_assign rfl) rfl ?_
      refine done ?_
      refine th_n ?_
      refine region ?_
      refine st (g_move rfl) rfl ?_
      refine st (g_move rfl) rfl ?_
      refine st (g_shr32 (n := 24) rfl rfl rfl) rfl ?_
      refine st (g_to8 it_38 it_5 rfl rfl) rfl ?_
      refine st (g_move rfl) rfl ?_
      refine st (g_shr32 (n := 16) rfl rfl rfl) rfl ?_
      refine st (g_to8 it_38 it_5 rfl rfl) rfl ?_
      refine st (g_move rfl) rfl ?_
      refine st (g_shr32 (n := 8) rfl rfl rfl) rfl ?_
      refine st (g_to8 it_38 it_5 rfl rfl) rfl ?_
      refine st (g_move rfl) rfl ?_
      refine st (g_to8 it_38 it_5 rfl rfl) rfl ?_
      refine sq rfl (o_buildSlice1 (vs := (w4 ((sumH hs l taken).getD i 0#32)).map B8) un_23 zr_5 sz_5 (by decide) (by decide) rfl rfl rfl oneB8 rfl (fun b61 => ?_))
      refine sq rfl (o_append (n := 4 * i) (m := 4) (news := (w4 ((sumH hs l taken).getD i 0#32)).map B8) un_23 zr_5 sz_5 rfl bt_5 (by decide) rfl rfl (.there (.here)) rfl (RdA.own .here (by simp)) oneB8 (by simp) (by simp only [maxLen]; omega) (by omega) rfl (fun q2 cap2 hq2 hc2 hq02 => ?_))
      refine st (g_assign rfl) rfl ?_
      refine done ?_
      refine ib_n ?_
      refine th_n ?_
      refine region ?_
      refine st (g_iadd rfl rfl rfl (by omega) (by omega)) rfl ?_
      refine st (g_move rfl) rfl ?_
      refine done ?_
      refine th_n ?_
      rw [← List.map_append, ← outB_succ]
      exact again (i + 1, (q2, cap2)) ⟨by omega, hq02, by omega⟩ (by show _ < _; simp only; omega) ⟨rfl, rfl, rfl, rfl, trivial⟩ (.cons .here (.cons (.there (.here)) (.cons (.there (.here)) .nil)))
    · try simp only [decide_eq_true_eq, decide_eq_false_iff_not] at h47
      have hie : i = 8 := by omega
      subst hie
      refine exitc ?_
      refine th_x ?_
      refine th_x ?_
      refine ib_x ?_
      refine th_n ?_
      refine seq ?_
      have hys : ∃ a, y.1 = some a := by
        cases h : y.1 with
        | none => have := hy1 h; omega
        | some a => exact ⟨a, rfl⟩
      obtain ⟨y1, y2c⟩ := y
      obtain ⟨a, rfl⟩ := hys
      refine blk_of_vec .here (fun gb rest0 hga _ => ?_)
      subst hga
      have hout : (outB (sumH hs l taken) 8).map B8 ++ rest0 = (sumW size hs l taken).map B8 ++ (((outB (sumH hs l taken) 8).drop size).map B8 ++ rest0) := by
        rw [← List.append_assoc, ← List.map_append]; simp only [sumW, List.take_append_drop]
      rw [hout]
      obtain ⟨rest, hrest⟩ : ∃ rest, rest = ((outB (sumH hs l taken) 8).drop size).map B8 ++ rest0 := ⟨_, rfl⟩
      rw [← hrest]
      dsimp only at hy2
      refine regionQ mixed (by decide +kernel) (by decide +kernel) ?_
      refine Dr.st (g_move rfl) rfl ?_
      refine Dr.st (g_move rfl) rfl ?_
      refine Dr.st (g_nilCheck rfl) rfl ?_
      refine Dr.st (g_fieldAddr fo_41_0 rfl rfl) rfl ?_
      refine Dr.st (g_load sc_3 rfl (Cell.own (.there (.here)) rfl)) rfl ?_
      refine Dr.st (g_move rfl) rfl ?_
      refine Dr.st (g_nilCheck rfl) rfl ?_
      refine Dr.st (g_fieldAddr fo_41_0 rfl rfl) rfl ?_
      refine Dr.st (g_load sc_3 rfl (Cell.own (.there (.here)) rfl)) rfl ?_
      refine Dr.st (g_slice (l := 0) (h := (size : Int)) (m := (size : Int)) (p' := some ⟨gb, 0, none⟩) (n' := size) (c' := size) el_23 rfl rfl rfl rfl (by simp) (by decide) (by omega) (by omega) (by omega) (by simp) (by simp) (by simp)) rfl ?_
      refine Dr.st (g_assign rfl) rfl ?_
      refine Dr.nil ?_
      refine th_n ?_
      refine ret ?_
      exact ret1 rfl rfl rfl (fun w2 hw2 => ⟨(gb, rest), trivial, rfl, ((hw2.split (.cons .here (.cons .here (.cons .here .nil)))).perm List.perm_append_comm).dropA _⟩)
end Go.Proofs.YtokhediaibdkjaaDoor
