/- The walks of New, Len, Copy. (printed by gen1.py) -/
import Derived.Test.YtokhediaibdkjaaDoorW5
namespace Go.Proofs.YtokhediaibdkjaaDoor
open Go.Pm Go.RowKit
set_option maxRecDepth 100000
theorem f19_224 (w : World) (hG : Gl w []) : Calls Tryd.prog 19 [I64 224].toArray w (fun en w2 => ∃ b : Nat, True ∧ en = .returned (.tuple #[.pointer (some ⟨b, 0, none⟩), I64 0]) ∧ Sat w (fps []) [blk b 41 (stCells 28 first224 (.slice none 0 0) 0#64)] w2) := by
  refine enter (n := 19) Tryd.func19 rfl rfl rfl (Sat.refl w) ?_
  refine seq ?_
  refine region ?_
  refine st (g_assign rfl) rfl ?_
  refine st (g_assign rfl) rfl ?_
  refine done ?_
  refine th_n ?_
  refine seq ?_
  refine seq ?_
  refine region ?_
  refine st (g_move rfl) rfl ?_
  refine st (g_F rfl rfl rfl (by decide)) rfl ?_
  refine st (g_move rfl) rfl ?_
  refine gf rfl rfl ?_
  refine gf rfl rfl ?_
  refine st (g_pickF rfl rfl) rfl ?_
  refine done ?_
  refine th_n ?_
  refine condF rfl ?_
  refine skip ?_
  refine th_n ?_
  refine seq ?_
  refine region ?_
  refine st (g_move rfl) rfl ?_
  refine st (g_iquo (c := 28) rfl rfl (by omega) (by omega) (by omega) (by omega)) rfl ?_
  refine st (g_move rfl) rfl ?_
  refine st (g_isub (c := 0) rfl rfl (by omega) (by omega) (by omega)) rfl ?_
  refine st (g_iquo (c := 0) rfl rfl (by omega) (by omega) (by omega) (by omega)) rfl ?_
  refine st (g_indexA (m := 0) ar_122 rfl rfl (by omega) (by omega) (by omega)) rfl ?_
  refine st (g_loadA (vs := hs8 first224) ag_39 rfl rfl (Cells.rd (RdA.of hG.1) rfl)) rfl ?_
  refine st (g_build rfl (bu_41 _ _ _ _ _ _ _ _ _)) rfl ?_
  refine sq rfl (o_box (cs := stCells 28 first224 (.slice none 0 0) 0#64) rfl rfl rfl (fun b18 => ?_))
  refine st (g_assign rfl) rfl ?_
  refine st (g_assign rfl) rfl ?_
  refine done ?_
  refine th_n ?_
  refine ret ?_
  exact ret2 rfl rfl rfl rfl (fun w2 hw2 => ⟨b18, trivial, rfl, hw2⟩)

theorem f19_256 (w : World) (hG : Gl w []) : Calls Tryd.prog 19 [I64 256].toArray w (fun en w2 => ∃ b : Nat, True ∧ en = .returned (.tuple #[.pointer (some ⟨b, 0, none⟩), I64 0]) ∧ Sat w (fps []) [blk b 41 (stCells 32 first256 (.slice none 0 0) 0#64)] w2) := by
  refine enter (n := 19) Tryd.func19 rfl rfl rfl (Sat.refl w) ?_
  refine seq ?_
  refine region ?_
  refine st (g_assign rfl) rfl ?_
  refine st (g_assign rfl) rfl ?_
  refine done ?_
  refine th_n ?_
  refine seq ?_
  refine seq ?_
  refine region ?_
  refine st (g_move rfl) rfl ?_
  refine st (g_T rfl rfl rfl (by decide)) rfl ?_
  refine st (g_move rfl) rfl ?_
  refine gt rfl ?_
  refine st (g_move rfl) rfl ?_
  refine gt rfl ?_
  refine st (g_F rfl rfl rfl (by decide)) rfl ?_
  refine st (g_pickT rfl rfl) rfl ?_
  refine done ?_
  refine th_n ?_
  refine condF rfl ?_
  refine skip ?_
  refine th_n ?_
  refine seq ?_
  refine region ?_
  refine st (g_move rfl) rfl ?_
  refine st (g_iquo (c := 32) rfl rfl (by omega) (by omega) (by omega) (by omega)) rfl ?_
  refine st (g_move rfl) rfl ?_
  refine st (g_isub (c := 32) rfl rfl (by omega) (by omega) (by omega)) rfl ?_
  refine st (g_iquo (c := 1) rfl rfl (by omega) (by omega) (by omega) (by omega)) rfl ?_
  refine st (g_indexA (m := 8) ar_122 rfl rfl (by omega) (by omega) (by omega)) rfl ?_
  refine st (g_loadA (vs := hs8 first256) ag_39 rfl rfl (Cells.rd (RdA.of hG.1) rfl)) rfl ?_
  refine st (g_build rfl (bu_41 _ _ _ _ _ _ _ _ _)) rfl ?_
  refine sq rfl (o_box (cs := stCells 32 first256 (.slice none 0 0) 0#64) rfl rfl rfl (fun b18 => ?_))
  refine st (g_assign rfl) rfl ?_
  refine st (g_assign rfl) rfl ?_
  refine done ?_
  refine th_n ?_
  refine ret ?_
  exact ret2 rfl rfl rfl rfl (fun w2 hw2 => ⟨b18, trivial, rfl, hw2⟩)

theorem f19_bad (size : Int) (h1 : size ≠ 224) (h2 : size ≠ 256) (w : World) : Calls Tryd.prog 19 [I64 size].toArray w (fun en w2 => en = .returned (.tuple #[.pointer none, I64 2]) ∧ Sat w [] [] w2) := by
  refine enter (n := 19) Tryd.func19 rfl rfl rfl (Sat.refl w) ?_
  refine seq ?_
  refine region ?_
  refine st (g_assign rfl) rfl ?_
  refine st (g_assign rfl) rfl ?_
  refine done ?_
  refine th_n ?_
  refine seq ?_
  refine seq ?_
  refine region ?_
  refine st (g_move rfl) rfl ?_
  refine st (g_T rfl rfl rfl (h1)) rfl ?_
  refine st (g_move rfl) rfl ?_
  refine gt rfl ?_
  refine st (g_move rfl) rfl ?_
  refine gt rfl ?_
  refine st (g_T rfl rfl rfl (h2)) rfl ?_
  refine st (g_pickT rfl rfl) rfl ?_
  refine done ?_
  refine th_n ?_
  refine condT rfl ?_
  refine seq ?_
  refine region ?_
  refine st (g_assign rfl) rfl ?_
  refine st (g_assign rfl) rfl ?_
  refine done ?_
  refine th_n ?_
  refine ret ?_
  refine th_r ?_
  exact ret2 rfl rfl rfl rfl (fun w2 hw2 => ⟨rfl, hw2⟩)

theorem f22_spec (b : Nat) (size : Int) (hs : List (BitVec 32)) (left : Value) (taken : BitVec 64) (hz : size ≠ 0) (w : World) (hc : RdC w (some ⟨b, 0, none⟩) (stCells size hs left taken)) : Calls Tryd.prog 22 [.pointer (some ⟨b, 0, none⟩)].toArray w (fun en w2 => en = .returned (U64 taken) ∧ Sat w [] [] w2) := by
  refine enter (n := 9) Tryd.func22 rfl rfl rfl (Sat.refl w) ?_
  refine seq ?_
  refine region ?_
  refine st (g_assign (v := U64 0#64) rfl) rfl ?_
  refine done ?_
  refine th_n ?_
  refine seq ?_
  refine seq ?_
  refine region ?_
  refine st (g_move rfl) rfl ?_
  refine sq rfl (o_callP Tryd.func65 rfl rfl rfl (fun w hw => f65_no b size hz w (RdC.cell (j := 0) (RdC.s hc |> fun h => (RdS.ofOld (A := []) h hw .nil).c) rfl)) rfl ?_)
  refine done ?_
  refine th_n ?_
  refine condF rfl ?_
  refine skip ?_
  refine th_n ?_
  refine seq ?_
  refine region ?_
  refine st (g_move rfl) rfl ?_
  refine st (g_nilCheck rfl) rfl ?_
  refine st (g_fieldAddr fo_41_3 rfl rfl) rfl ?_
  refine st (g_load sc_34 rfl (Cell.rd0 (RdA.of hc.s) rfl)) rfl ?_
  refine st (g_assign rfl) rfl ?_
  refine done ?_
  refine th_n ?_
  refine ret ?_
  exact ret1 rfl rfl rfl (fun w2 hw2 => ⟨rfl, hw2⟩)

theorem f25_spec (b : Nat) (size : Int) (hs : List (BitVec 32)) (taken : BitVec 64) (n : Nat) (x : Option Addr × Nat) (l : List UInt8) (hz : size ≠ 0) (hl : l.length = n) (hx : x.1 = none → n = 0 ∧ x.2 = 0) (hn : n ≤ 70368744177664) (w : World) (hA : Sat w (fps [blk b 41 (stCells size hs (slv n x) taken), vec (slv n x) 5 1 n (l.map B8)]) [blk b 41 (stCells size hs (slv n x) taken), vec (slv n x) 5 1 n (l.map B8)] w) :
    Calls Tryd.prog 25 [.pointer (some ⟨b, 0, none⟩)].toArray w (fun en w2 => ∃ y : Nat × (Option Addr × Nat), ((y.2.1 = none → n = 0 ∧ y.2.2 = 0)) ∧ en = .returned (.pointer (some ⟨y.1, 0, none⟩)) ∧
      Sat w (fps [blk b 41 (stCells size hs (slv n x) taken), vec (slv n x) 5 1 n (l.map B8)]) ([blk y.1 41 (stCells size hs (slv n y.2) taken), vec (slv n y.2) 5 1 n (l.map B8)] ++ [blk b 41 (stCells size hs (slv n x) taken), vec (slv n x) 5 1 n (l.map B8)]) w2) := by
  refine enter (n := 15) Tryd.func25 rfl rfl rfl hA ?_
  refine seq ?_
  refine region ?_
  refine st (g_assign rfl) rfl ?_
  refine done ?_
  refine th_n ?_
  refine seq ?_
  refine seq ?_
  refine region ?_
  refine st (g_move rfl) rfl ?_
  refine sq rfl (o_callP Tryd.func65 rfl rfl rfl (fun w hw => f65_no b size hz w (RdC.cell (j := 0) (RdC.ofBlk hw .here rfl (vs := stCells size hs (slv n x) taken)) rfl)) rfl ?_)
  refine done ?_
  refine th_n ?_
  refine condF rfl ?_
  refine skip ?_
  refine th_n ?_
  refine seq ?_
  refine region ?_
  refine st (g_move rfl) rfl ?_
  refine st (g_nilCheck rfl) rfl ?_
  refine st (g_loadA (vs := stCells size hs (slv n x) taken) ag_41 rfl rfl (Cells.part .here rfl)) rfl ?_
  refine sq rfl (o_alloc zr_41 rfl (fun b3 => ?_))
  refine sq rfl (o_storeA (cs' := stCells size hs (slv n x) taken) sz_41 rfl rfl rfl (by simp [stCells, Value.oneCell']) .here (Nat.le_of_ble_eq_true rfl) rfl ?_)
  refine done ?_
  refine th_n ?_
  refine seq ?_
  refine region ?_
  refine st (g_move rfl) rfl ?_
  refine st (g_nilCheck rfl) rfl ?_
  refine st (g_fieldAddr fo_41_2 rfl rfl) rfl ?_
  refine st (g_load (v := slv n x) sc_23 rfl (Cell.own (.there (.here)) rfl)) rfl ?_
  refine sq rfl (o_call Tryd.func69 rfl rfl rfl .nil (fun w hw hA => f69_spec x.1 n x.2 l hl hx hn w (RdC.ofVec (hw.get (.there (.there (.here)))))) rfl (fun y hy => ?_))
  refine st (g_fieldAddr fo_41_2 rfl rfl) rfl ?_
  refine sq rfl (o_store (cs' := stCells size hs (slv n y) taken) sz_23 rfl rfl rfl (.there (.here)) (Nat.le_of_ble_eq_true rfl) rfl ?_)
  refine done ?_
  refine th_n ?_
  refine seq ?_
  refine region ?_
  refine st (g_assign rfl) rfl ?_
  refine done ?_
  refine th_n ?_
  refine ret ?_
  exact ret1 rfl rfl rfl (fun w2 hw2 => ⟨(b3, y), fun h => ⟨(hx (hy.1.1 h)).1, hy.2.1 h⟩, rfl, hw2⟩)
end Go.Proofs.YtokhediaibdkjaaDoor
