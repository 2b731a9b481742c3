/- The walk of spread. (printed by gen1.py) -/
import Derived.Test.YtokhediaibdkjaaDoorE10
import Derived.Test.YtokhediaibdkjaaDoorW1
namespace Go.Proofs.YtokhediaibdkjaaDoor
open Go.Pm Go.RowKit
set_option maxRecDepth 100000
/-- Four bytes, the first the highest. -/
def be4 (bs : List UInt8) (i : Nat) : BitVec 32 :=
  (((BitVec.ofNat 32 (bs.getD (4 * i) 0).toNat <<< 24) ||| (BitVec.ofNat 32 (bs.getD (4 * i + 1) 0).toNat <<< 16)) ||| (BitVec.ofNat 32 (bs.getD (4 * i + 2) 0).toNat <<< 8)) ||| BitVec.ofNat 32 (bs.getD (4 * i + 3) 0).toNat
def mix (ws : List (BitVec 32)) (i : Nat) : BitVec 32 :=
  ((ws.getD (i - 16) 0#32 + ws.getD (i - 7) 0#32) + turned (ws.getD (i - 15) 0#32) 7 18 (ws.getD (i - 15) 0#32 >>> 3)) + turned (ws.getD (i - 2) 0#32) 17 19 (ws.getD (i - 2) 0#32 >>> 10)
def spStep (bs : List UInt8) (i : Nat) (ws : List (BitVec 32)) : List (BitVec 32) := if i < 16 then ws.set i (be4 bs i) else ws.set i (mix ws i)
def z64 : List (BitVec 32) := List.replicate 64 0#32
theorem z64_length : z64.length = 64 := rfl
def spreadW (bs : List UInt8) : List (BitVec 32) := iter (spStep bs) 64 z64
theorem spStep_length (bs : List UInt8) (i : Nat) (ws : List (BitVec 32)) : (spStep bs i ws).length = ws.length := by unfold spStep; split <;> simp
theorem spStep_lt {bs : List UInt8} {i : Nat} {ws : List (BitVec 32)} (h : i < 16) : ws.set i (be4 bs i) = spStep bs i ws := by unfold spStep; rw [if_pos h]
theorem spStep_ge {bs : List UInt8} {i : Nat} {ws : List (BitVec 32)} (h : ¬ i < 16) : ws.set i (mix ws i) = spStep bs i ws := by unfold spStep; rw [if_neg h]
theorem spIter_length (bs : List UInt8) (n : Nat) : (iter (spStep bs) n z64).length = 64 :=
  iter_inv (I := fun ws : List (BitVec 32) => ws.length = 64) (fun i ws h => by rw [spStep_length]; exact h) n _ z64_length
theorem get_U32 {ws : List (BitVec 32)} {j k : Nat} (hk : k = j) (h : j < ws.length) : (ws.map U32)[k]? = some (U32 (ws.getD j 0#32)) := by
  subst hk; simp [h]
theorem get_B8 {bs : List UInt8} {j k : Nat} (hk : k = j) (h : j < bs.length) : (bs.map B8)[k]? = some (B8 (bs.getD j 0)) := by
  subst hk; simp [h]
theorem set_U32 (ws : List (BitVec 32)) (i : Nat) (v : BitVec 32) : (ws.map U32).set i (U32 v) = (ws.set i v).map U32 := by rw [List.map_set]
theorem oneU32 {ws : List (BitVec 32)} : ∀ v ∈ ws.map U32, v.oneCell' = true := by intro v hv; obtain ⟨x, _, rfl⟩ := List.mem_map.1 hv; rfl
theorem oneB8 {bs : List UInt8} : ∀ v ∈ bs.map B8, v.oneCell' = true := by intro v hv; obtain ⟨x, _, rfl⟩ := List.mem_map.1 hv; rfl

theorem f97_spec (p : Option Addr) (c : Nat) (bs : List UInt8) (hb : bs.length = 64) (w : World) (hr : RdC w p (bs.map B8)) : Calls Tryd.prog 97 [.slice p 64 c].toArray w (fun en w2 => en = .returned (.agg ((spreadW bs).map U32).toArray) ∧ Sat w [] [] w2) := by
  have hp : p.isSome = true := hr.some (by intro h; simp at h; subst h; simp at hb)
  refine enter (n := 80) Tryd.func97 rfl rfl rfl (Sat.refl w) ?_
  refine seq ?_
  refine region ?_
  refine sq rfl (o_alloc (zs := z64.map U32) zr_118 rfl (fun b2 => ?_))
  refine done ?_
  refine th_n ?_
  refine seq ?_
  refine seq ?_
  refine region ?_
  refine st (g_move rfl) rfl ?_
  refine done ?_
  refine th_n ?_
  refine block ?_
  refine loop (α := Nat) (fun i => i ≤ 64) (fun i => [(0, .slice p 64 c), (2, .pointer (some ⟨b2, 0, none⟩)), (6, I64 (i : Int))]) (fun i => [blk b2 118 ((iter (spStep bs) i z64).map U32)]) (fun i => 64 - i) 0 (by omega) ⟨rfl, rfl, rfl, trivial⟩ (.cons .here .nil) (fun i hI => ?_)
  refine seq ?_
  refine region ?_
  refine st (g_bin rfl rfl rfl) rfl ?_
  refine done ?_
  refine th_n ?_
  refine seq ?_
  refine condS rfl (fun hlt => ?_) (fun hlt => ?_)
  · simp only [decide_eq_true_eq, decide_eq_false_iff_not] at hlt
    have hi : i < 64 := by omega
    have hlen := spIter_length bs i
    refine skip ?_
    refine th_n ?_
    refine seq ?_
    refine block ?_
    refine seq ?_
    refine region ?_
    refine st (g_move rfl) rfl ?_
    refine st (g_assign rfl) rfl ?_
    refine done ?_
    refine th_n ?_
    refine seq ?_
    refine seq ?_
    refine region ?_
    refine st (g_move rfl) rfl ?_
    refine st (g_move rfl) rfl ?_
    refine st (g_len el_23 rfl) rfl ?_
    refine st (g_iquo rfl rfl (by omega) (by omega) (by omega) rfl) rfl ?_
    refine st (g_bin rfl rfl rfl) rfl ?_
    refine done ?_
    refine th_n ?_
    refine condS rfl (fun h16 => ?_) (fun h16 => ?_)
    · simp only [decide_eq_true_eq, decide_eq_false_iff_not] at h16
      have hi16 : i < 16 := by omega
      refine seq ?_
      refine regionX mixed (by decide +kernel) ?_
      refine Dr.st (g_move rfl) rfl ?_
      refine Dr.st (g_move rfl) rfl ?_
      refine Dr.st (g_move rfl) rfl ?_
      refine Dr.st (g_imul rfl rfl rfl (by omega) (by omega)) rfl ?_
      refine Dr.st (g_indexP (m := 4 * i) el_23 rfl rfl (hp) (by omega) (by omega) (by omega)) rfl ?_
      refine Dr.st (g_load sc_5 rfl (Cell.rd (RdA.old hr (by simp)) (get_B8 (j := 4 * i) (by omega) (by omega)))) rfl ?_
      refine Dr.st (g_to32 it_5 it_38 rfl rfl) rfl ?_
      refine Dr.st (g_shl32 (n := 24) rfl rfl rfl) rfl ?_
      refine Dr.st (g_move rfl) rfl ?_
      refine Dr.st (g_move rfl) rfl ?_
      refine Dr.st (g_imul rfl rfl rfl (by omega) (by omega)) rfl ?_
      refine Dr.st (g_iadd rfl rfl rfl (by omega) (by omega)) rfl ?_
      refine Dr.st (g_indexP (m := 4 * i + 1) el_23 rfl rfl (hp) (by omega) (by omega) (by omega)) rfl ?_
      refine Dr.st (g_load sc_5 rfl (Cell.rd (RdA.old hr (by simp)) (get_B8 (j := 4 * i + 1) (by omega) (by omega)))) rfl ?_
      refine Dr.st (g_to32 it_5 it_38 rfl rfl) rfl ?_
      refine Dr.st (g_shl32 (n := 16) rfl rfl rfl) rfl ?_
      refine Dr.st (g_or32 rfl rfl) rfl ?_
      refine Dr.st (g_move rfl) rfl ?_
      refine Dr.st (g_move rfl) rfl ?_
      refine Dr.st (g_imul rfl rfl rfl (by omega) (by omega)) rfl ?_
      refine Dr.st (g_iadd rfl rfl rfl (by omega) (by omega)) rfl ?_
      refine Dr.st (g_indexP (m := 4 * i + 2) el_23 rfl rfl (hp) (by omega) (by omega) (by omega)) rfl ?_
      refine Dr.st (g_load sc_5 rfl (Cell.rd (RdA.old hr (by simp)) (get_B8 (j := 4 * i + 2) (by omega) (by omega)))) rfl ?_
      refine Dr.st (g_to32 it_5 it_38 rfl rfl) rfl ?_
      refine Dr.st (g_shl32 (n := 8) rfl rfl rfl) rfl ?_
      refine Dr.st (g_or32 rfl rfl) rfl ?_
      refine Dr.st (g_move rfl) rfl ?_
      refine Dr.st (g_move rfl) rfl ?_
      refine Dr.st (g_imul rfl rfl rfl (by omega) (by omega)) rfl ?_
      refine Dr.st (g_iadd rfl rfl rfl (by omega) (by omega)) rfl ?_
      refine Dr.st (g_indexP (m := 4 * i + 3) el_23 rfl rfl (hp) (by omega) (by omega) (by omega)) rfl ?_
      refine Dr.st (g_load sc_5 rfl (Cell.rd (RdA.old hr (by simp)) (get_B8 (j := 4 * i + 3) (by omega) (by omega)))) rfl ?_
      refine Dr.st (g_to32 it_5 it_38 rfl rfl) rfl ?_
      refine Dr.st (g_or32 rfl rfl) rfl ?_
      refine Dr.st (g_indexA (m := i) ar_118 rfl rfl (by omega) (by omega) (by omega)) rfl ?_
      refine Dr.last ?_
      refine o_store (cs' := (iter (spStep bs) (i + 1) z64).map U32) sz_38 rfl rfl rfl .here (by simp; omega) ((set_U32 _ _ _).trans (congrArg (List.map U32) (spStep_lt hi16))) ?_
      refine th_n ?_
      refine exitc ?_
      refine th_x ?_
      refine ib_x ?_
      refine th_n ?_
      refine region ?_
      refine st (g_iadd rfl rfl rfl (by omega) (by omega)) rfl ?_
      refine st (g_move rfl) rfl ?_
      refine done ?_
      refine th_n ?_
      exact again (i + 1) (by omega) (by omega) ⟨rfl, rfl, rfl, trivial⟩ (.cons .here .nil)
    · simp only [decide_eq_true_eq, decide_eq_false_iff_not] at h16
      have hi16 : ¬ i < 16 := by omega
      refine skip ?_
      refine th_n ?_
      refine seq ?_
      refine regionQ mixed (by decide +kernel) (by decide +kernel) ?_
      refine Dr.st (g_move rfl) rfl ?_
      refine Dr.st (g_isub rfl rfl rfl (by omega) (by omega)) rfl ?_
      refine Dr.st (g_indexA (m := i - 15) ar_118 rfl rfl (by omega) (by omega) (by omega)) rfl ?_
      refine Dr.st (g_load sc_38 rfl (Cell.own .here (get_U32 (j := i - 15) (by omega) (by omega)))) rfl ?_
      refine Dr.st (g_move rfl) rfl ?_
      refine Dr.st (g_isub rfl rfl rfl (by omega) (by omega)) rfl ?_
      refine Dr.st (g_indexA (m := i - 2) ar_118 rfl rfl (by omega) (by omega) (by omega)) rfl ?_
      refine Dr.st (g_load sc_38 rfl (Cell.own .here (get_U32 (j := i - 2) (by omega) (by omega)))) rfl ?_
      refine Dr.st (g_assign rfl) rfl ?_
      refine Dr.st (g_assign rfl) rfl ?_
      refine Dr.nil ?_
      refine th_n ?_
      refine regionX mixed (by decide +kernel) ?_
      refine Dr.st (g_move rfl) rfl ?_
      refine Dr.st (g_move rfl) rfl ?_
      refine Dr.st (g_isub rfl rfl rfl (by omega) (by omega)) rfl ?_
      refine Dr.st (g_indexA (m := i - 16) ar_118 rfl rfl (by omega) (by omega) (by omega)) rfl ?_
      refine Dr.st (g_load sc_38 rfl (Cell.own .here (get_U32 (j := i - 16) (by omega) (by omega)))) rfl ?_
      refine Dr.st (g_move rfl) rfl ?_
      refine Dr.st (g_isub rfl rfl rfl (by omega) (by omega)) rfl ?_
      refine Dr.st (g_indexA (m := i - 7) ar_118 rfl rfl (by omega) (by omega) (by omega)) rfl ?_
      refine Dr.st (g_load sc_38 rfl (Cell.own .here (get_U32 (j := i - 7) (by omega) (by omega)))) rfl ?_
      refine Dr.st (g_add32 rfl rfl) rfl ?_
      refine Dr.st (g_move rfl) rfl ?_
      refine Dr.st (g_move rfl) rfl ?_
      refine Dr.st (g_shr32 (n := 3) rfl rfl rfl) rfl ?_
      refine Dr.call (v := _) Tryd.func98 rfl rfl rfl (fun w hw => f98_spec _ _ 7 18 (by decide) (by decide) (by decide) (by decide) w) rfl ?_
      refine Dr.st (g_add32 rfl rfl) rfl ?_
      refine Dr.st (g_move rfl) rfl ?_
      refine Dr.st (g_move rfl) rfl ?_
      refine Dr.st (g_shr32 (n := 10) rfl rfl rfl) rfl ?_
      refine Dr.call (v := _) Tryd.func98 rfl rfl rfl (fun w hw => f98_spec _ _ 17 19 (by decide) (by decide) (by decide) (by decide) w) rfl ?_
      refine Dr.st (g_add32 rfl rfl) rfl ?_
      refine Dr.st (g_indexA (m := i) ar_118 rfl rfl (by omega) (by omega) (by omega)) rfl ?_
      refine Dr.last ?_
      refine o_store (cs' := (iter (spStep bs) (i + 1) z64).map U32) sz_38 rfl rfl rfl .here (by simp; omega) ((set_U32 _ _ _).trans (congrArg (List.map U32) (spStep_ge hi16))) ?_
      refine ib_n ?_
      refine th_n ?_
      refine region ?_
      refine st (g_iadd rfl rfl rfl (by omega) (by omega)) rfl ?_
      refine st (g_move rfl) rfl ?_
      refine done ?_
      refine th_n ?_
      exact again (i + 1) (by omega) (by omega) ⟨rfl, rfl, rfl, trivial⟩ (.cons .here .nil)
  · simp only [decide_eq_true_eq, decide_eq_false_iff_not] at hlt
    have hi64 : i = 64 := by omega
    subst hi64
    refine exitc ?_
    refine th_x ?_
    refine th_x ?_
    refine ib_x ?_
    refine th_n ?_
    refine seq ?_
    refine region ?_
    refine st (g_loadA (vs := (spreadW bs).map U32) ag_118 rfl (by simp [spreadW, spIter_length]) (Cells.own .here (by intro j v hj; simpa [spreadW] using hj))) rfl ?_
    refine sq rfl (o_storeA (cs' := (spreadW bs).map U32) sz_118 rfl rfl (by simp [spreadW, spIter_length]) oneU32 .here (by simp [spIter_length]) (by simp [setR, spreadW]) ?_)
    refine done ?_
    refine th_n ?_
    refine ret ?_
    exact retG rfl (fun a w2 ha hw2 => ⟨resc1 ha rfl rfl ag_118 (by simp [spreadW, spIter_length]) (hw2.get .here), rfl, hw2.drop⟩)
end Go.Proofs.YtokhediaibdkjaaDoor
