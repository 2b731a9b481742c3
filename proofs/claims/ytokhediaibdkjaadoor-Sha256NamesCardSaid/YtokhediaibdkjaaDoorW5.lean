/- The walk of turn. (printed by gen1.py) -/
import Derived.Test.YtokhediaibdkjaaDoorW4
namespace Go.Proofs.YtokhediaibdkjaaDoor
open Go.Pm Go.RowKit
set_option maxRecDepth 100000
theorem f68_spec (b : Nat) (size : Int) (h0 : List (BitVec 32)) (left : Value) (hl1 : left.oneCell' = true) (taken : BitVec 64) (p : Option Addr) (c : Nat) (bs : List UInt8) (hb : bs.length = 64) (h8 : h0.length = 8) (w : World)
    (hA : Sat w (fps [blk b 41 (stCells size h0 left taken)]) [blk b 41 (stCells size h0 left taken)] w) (hr : RdS w (fps [blk b 41 (stCells size h0 left taken)]) p (bs.map B8)) (hG : Gl w (fps [blk b 41 (stCells size h0 left taken)])) :
    Calls Tryd.prog 68 [.pointer (some ⟨b, 0, none⟩), .slice p 64 c].toArray w (fun en w2 => ∃ _x : Unit, True ∧ en = .returned (.tuple #[]) ∧ Sat w (fps [blk b 41 (stCells size h0 left taken)]) [blk b 41 (stCells size (turnW h0 (spreadW bs)) left taken)] w2) := by
  have hK := hG.2
  refine enter (n := 98) Tryd.func68 rfl rfl rfl hA ?_
  refine seq ?_
  refine cut (α := Nat × Nat) (fun _ => True) (fun y => [(0, .pointer (some ⟨b, 0, none⟩)), (4, .pointer (some ⟨y.1, 0, none⟩)), (5, .pointer (some ⟨y.2, 0, none⟩))]) (fun y => [blk y.2 39 (hs8 h0), blk y.1 118 ((spreadW bs).map U32), blk b 41 (stCells size h0 left taken)]) ?_ ?_
  · refine regionL ⟨[_], [], []⟩ mixed (by decide +kernel) (.cons .here .nil) .nil ?_
    refine An'.q 0 [] rfl (by decide +kernel) rfl rfl (g_move rfl) rfl ?_
    refine An'.q 2 [] rfl (by decide +kernel) rfl rfl (g_move rfl) rfl ?_
    refine An'.q 3 [] rfl (by decide +kernel) rfl rfl (g_nilCheck rfl) rfl ?_
    refine An'.q 4 [] rfl (by decide +kernel) rfl rfl (g_fieldAddr fo_41_1 rfl rfl) rfl ?_
    refine An'.q 5 [] rfl (by decide +kernel) rfl rfl (g_loadA (vs := hs8 h0) ag_39 rfl rfl (Cells.part .here rfl)) rfl ?_
    refine An'.all [1, 6, 7] (by decide +kernel) (by simp) (fun i hi => ?_)
    simp only [List.mem_cons, List.not_mem_nil, or_false] at hi
    rcases hi with rfl | rfl | rfl
    · refine ⟨_, rfl, rfl, ?_⟩
      refine o_callP Tryd.func97 rfl rfl rfl (fun w hw => f97_spec p c bs hb w (RdS.c (S := []) (RdS.ofOld (A := []) hr hw .nil))) rfl ?_
      refine An'.on0 (.cons .here .nil) .nil rfl ?_
      refine An'.all [6, 7] (by decide +kernel) (by simp) (fun i hi => ?_)
      simp only [List.mem_cons, List.not_mem_nil, or_false] at hi
      rcases hi with rfl | rfl
      · refine ⟨_, rfl, rfl, ?_⟩
        refine o_alloc (zs := z64.map U32) zr_118 rfl (fun b4 => ?_)
        refine An'.on0 (.cons (.there (.here)) .nil) .nil rfl ?_
        refine An'.one 7 (by decide +kernel) rfl rfl ?_
        refine o_alloc (zs := hs8 [0#32, 0#32, 0#32, 0#32, 0#32, 0#32, 0#32, 0#32]) zr_39 rfl (fun b5 => ?_)
        refine An'.on0 (.cons (.there (.there (.here))) .nil) .nil rfl ?_
        refine An'.one 8 (by decide +kernel) rfl rfl ?_
        refine o_storeA (cs' := (spreadW bs).map U32) sz_118 rfl rfl (by rw [List.length_map, spreadW_length]) oneU32 (.there (.here)) (by rw [z64c]; exact Nat.le_refl _) (setR_all (by rw [z64c, List.length_map, spreadW_length])) ?_
        refine An'.on0 (.cons (.there (.there (.here))) .nil) .nil rfl ?_
        refine An'.one 9 (by decide +kernel) rfl rfl ?_
        refine o_storeA (cs' := hs8 h0) sz_39 rfl rfl rfl oneH8 (.there (.here)) (Nat.le_of_ble_eq_true rfl) rfl ?_
        refine An'.on0 (.cons (.there (.there (.here))) .nil) .nil rfl ?_
        refine An'.fin (by decide +kernel) ?_
        refine th_n ?_
        exact met (b4, b5) trivial ⟨rfl, rfl, rfl, trivial⟩ (.cons .here (.cons .here (.cons .here .nil)))
      · refine ⟨_, rfl, rfl, ?_⟩
        refine o_alloc (zs := hs8 [0#32, 0#32, 0#32, 0#32, 0#32, 0#32, 0#32, 0#32]) zr_39 rfl (fun b5 => ?_)
        refine An'.on0 (.cons (.there (.here)) .nil) .nil rfl ?_
        refine An'.one 6 (by decide +kernel) rfl rfl ?_
        refine o_alloc (zs := z64.map U32) zr_118 rfl (fun b4 => ?_)
        refine An'.on0 (.cons (.there (.there (.here))) .nil) .nil rfl ?_
        refine An'.one 8 (by decide +kernel) rfl rfl ?_
        refine o_storeA (cs' := (spreadW bs).map U32) sz_118 rfl rfl (by rw [List.length_map, spreadW_length]) oneU32 .here (by rw [z64c]; exact Nat.le_refl _) (setR_all (by rw [z64c, List.length_map, spreadW_length])) ?_
        refine An'.on0 (.cons (.there (.there (.here))) .nil) .nil rfl ?_
        refine An'.one 9 (by decide +kernel) rfl rfl ?_
        refine o_storeA (cs' := hs8 h0) sz_39 rfl rfl rfl oneH8 (.there (.here)) (Nat.le_of_ble_eq_true rfl) rfl ?_
        refine An'.on0 (.cons (.there (.there (.here))) .nil) .nil rfl ?_
        refine An'.fin (by decide +kernel) ?_
        refine th_n ?_
        exact met (b4, b5) trivial ⟨rfl, rfl, rfl, trivial⟩ (.cons .here (.cons .here (.cons .here .nil)))
    · refine ⟨_, rfl, rfl, ?_⟩
      refine o_alloc (zs := z64.map U32) zr_118 rfl (fun b4 => ?_)
      refine An'.on0 (.cons (.there (.here)) .nil) .nil rfl ?_
      refine An'.all [1, 7] (by decide +kernel) (by simp) (fun i hi => ?_)
      simp only [List.mem_cons, List.not_mem_nil, or_false] at hi
      rcases hi with rfl | rfl
      · refine ⟨_, rfl, rfl, ?_⟩
        refine o_callP Tryd.func97 rfl rfl rfl (fun w hw => f97_spec p c bs hb w (RdS.c (S := []) (RdS.ofOld (A := []) hr hw .nil))) rfl ?_
        refine An'.on0 (.cons (.there (.here)) .nil) .nil rfl ?_
        refine An'.one 7 (by decide +kernel) rfl rfl ?_
        refine o_alloc (zs := hs8 [0#32, 0#32, 0#32, 0#32, 0#32, 0#32, 0#32, 0#32]) zr_39 rfl (fun b5 => ?_)
        refine An'.on0 (.cons (.there (.there (.here))) .nil) .nil rfl ?_
        refine An'.one 8 (by decide +kernel) rfl rfl ?_
        refine o_storeA (cs' := (spreadW bs).map U32) sz_118 rfl rfl (by rw [List.length_map, spreadW_length]) oneU32 (.there (.here)) (by rw [z64c]; exact Nat.le_refl _) (setR_all (by rw [z64c, List.length_map, spreadW_length])) ?_
        refine An'.on0 (.cons (.there (.there (.here))) .nil) .nil rfl ?_
        refine An'.one 9 (by decide +kernel) rfl rfl ?_
        refine o_storeA (cs' := hs8 h0) sz_39 rfl rfl rfl oneH8 (.there (.here)) (Nat.le_of_ble_eq_true rfl) rfl ?_
        refine An'.on0 (.cons (.there (.there (.here))) .nil) .nil rfl ?_
        refine An'.fin (by decide +kernel) ?_
        refine th_n ?_
        exact met (b4, b5) trivial ⟨rfl, rfl, rfl, trivial⟩ (.cons .here (.cons .here (.cons .here .nil)))
      · refine ⟨_, rfl, rfl, ?_⟩
        refine o_alloc (zs := hs8 [0#32, 0#32, 0#32, 0#32, 0#32, 0#32, 0#32, 0#32]) zr_39 rfl (fun b5 => ?_)
        refine An'.on0 (.cons (.there (.there (.here))) .nil) .nil rfl ?_
        refine An'.one 1 (by decide +kernel) rfl rfl ?_
        refine o_callP Tryd.func97 rfl rfl rfl (fun w hw => f97_spec p c bs hb w (RdS.c (S := []) (RdS.ofOld (A := []) hr hw .nil))) rfl ?_
        refine An'.on0 (.cons (.there (.there (.here))) .nil) .nil rfl ?_
        refine An'.one 8 (by decide +kernel) rfl rfl ?_
        refine o_storeA (cs' := (spreadW bs).map U32) sz_118 rfl rfl (by rw [List.length_map, spreadW_length]) oneU32 (.there (.here)) (by rw [z64c]; exact Nat.le_refl _) (setR_all (by rw [z64c, List.length_map, spreadW_length])) ?_
        refine An'.on0 (.cons (.there (.there (.here))) .nil) .nil rfl ?_
        refine An'.one 9 (by decide +kernel) rfl rfl ?_
        refine o_storeA (cs' := hs8 h0) sz_39 rfl rfl rfl oneH8 (.there (.here)) (Nat.le_of_ble_eq_true rfl) rfl ?_
        refine An'.on0 (.cons (.there (.there (.here))) .nil) .nil rfl ?_
        refine An'.fin (by decide +kernel) ?_
        refine th_n ?_
        exact met (b4, b5) trivial ⟨rfl, rfl, rfl, trivial⟩ (.cons .here (.cons .here (.cons .here .nil)))
    · refine ⟨_, rfl, rfl, ?_⟩
      refine o_alloc (zs := hs8 [0#32, 0#32, 0#32, 0#32, 0#32, 0#32, 0#32, 0#32]) zr_39 rfl (fun b5 => ?_)
      refine An'.on0 (.cons (.there (.here)) .nil) .nil rfl ?_
      refine An'.all [1, 6] (by decide +kernel) (by simp) (fun i hi => ?_)
      simp only [List.mem_cons, List.not_mem_nil, or_false] at hi
      rcases hi with rfl | rfl
      · refine ⟨_, rfl, rfl, ?_⟩
        refine o_callP Tryd.func97 rfl rfl rfl (fun w hw => f97_spec p c bs hb w (RdS.c (S := []) (RdS.ofOld (A := []) hr hw .nil))) rfl ?_
        refine An'.on0 (.cons (.there (.here)) .nil) .nil rfl ?_
        refine An'.one 6 (by decide +kernel) rfl rfl ?_
        refine o_alloc (zs := z64.map U32) zr_118 rfl (fun b4 => ?_)
        refine An'.on0 (.cons (.there (.there (.here))) .nil) .nil rfl ?_
        refine An'.one 8 (by decide +kernel) rfl rfl ?_
        refine o_storeA (cs' := (spreadW bs).map U32) sz_118 rfl rfl (by rw [List.length_map, spreadW_length]) oneU32 .here (by rw [z64c]; exact Nat.le_refl _) (setR_all (by rw [z64c, List.length_map, spreadW_length])) ?_
        refine An'.on0 (.cons (.there (.there (.here))) .nil) .nil rfl ?_
        refine An'.one 9 (by decide +kernel) rfl rfl ?_
        refine o_storeA (cs' := hs8 h0) sz_39 rfl rfl rfl oneH8 (.there (.here)) (Nat.le_of_ble_eq_true rfl) rfl ?_
        refine An'.on0 (.cons (.there (.there (.here))) .nil) .nil rfl ?_
        refine An'.fin (by decide +kernel) ?_
        refine th_n ?_
        exact met (b4, b5) trivial ⟨rfl, rfl, rfl, trivial⟩ (.cons .here (.cons .here (.cons .here .nil)))
      · refine ⟨_, rfl, rfl, ?_⟩
        refine o_alloc (zs := z64.map U32) zr_118 rfl (fun b4 => ?_)
        refine An'.on0 (.cons (.there (.there (.here))) .nil) .nil rfl ?_
        refine An'.one 1 (by decide +kernel) rfl rfl ?_
        refine o_callP Tryd.func97 rfl rfl rfl (fun w hw => f97_spec p c bs hb w (RdS.c (S := []) (RdS.ofOld (A := []) hr hw .nil))) rfl ?_
        refine An'.on0 (.cons (.there (.there (.here))) .nil) .nil rfl ?_
        refine An'.one 8 (by decide +kernel) rfl rfl ?_
        refine o_storeA (cs' := (spreadW bs).map U32) sz_118 rfl rfl (by rw [List.length_map, spreadW_length]) oneU32 .here (by rw [z64c]; exact Nat.le_refl _) (setR_all (by rw [z64c, List.length_map, spreadW_length])) ?_
        refine An'.on0 (.cons (.there (.there (.here))) .nil) .nil rfl ?_
        refine An'.one 9 (by decide +kernel) rfl rfl ?_
        refine o_storeA (cs' := hs8 h0) sz_39 rfl rfl rfl oneH8 (.there (.here)) (Nat.le_of_ble_eq_true rfl) rfl ?_
        refine An'.on0 (.cons (.there (.there (.here))) .nil) .nil rfl ?_
        refine An'.fin (by decide +kernel) ?_
        refine th_n ?_
        exact met (b4, b5) trivial ⟨rfl, rfl, rfl, trivial⟩ (.cons .here (.cons .here (.cons .here .nil)))
  · intro ⟨b4, b5⟩ _
    refine seq ?_
    refine seq ?_
    refine region ?_
    refine st (g_move rfl) rfl ?_
    refine done ?_
    refine th_n ?_
    refine block ?_
    refine loop (α := Nat) (fun i => i ≤ 64) (fun i => [(0, .pointer (some ⟨b, 0, none⟩)), (4, .pointer (some ⟨b4, 0, none⟩)), (5, .pointer (some ⟨b5, 0, none⟩)), (18, I64 (i : Nat))]) (fun i => [blk b5 39 (hs8 (iter (tStep (spreadW bs)) i h0)), blk b4 118 ((spreadW bs).map U32), blk b 41 (stCells size h0 left taken)]) (fun i => 64 - i) 0 (Nat.zero_le _) ⟨rfl, rfl, rfl, rfl, trivial⟩ (.cons .here (.cons .here (.cons .here .nil))) (fun i hI => ?_)
    refine seq ?_
    refine region ?_
    refine st (g_bin rfl rfl rfl) rfl ?_
    refine done ?_
    refine th_n ?_
    refine seq ?_
    refine condS rfl (fun h19 => ?_) (fun h19 => ?_)
    · try simp only [decide_eq_true_eq, decide_eq_false_iff_not] at h19
      have hi : i < 64 := by omega
      have hwl : (spreadW bs).length = 64 := spreadW_length
      refine skip ?_
      refine th_n ?_
      refine seq ?_
      refine block ?_
      refine seq ?_
      refine region ?_
      refine st (g_move rfl) rfl ?_
      refine st (g_assign rfl) rfl ?_
      refine done ?_
      refine th_n ?_
      refine seq ?_
      refine regionQ mixed (by decide +kernel) (by decide +kernel) ?_
      refine Dr.st (g_indexA ar_39 rfl rfl (by decide) (by decide) rfl) rfl ?_
      refine Dr.st (g_load sc_38 rfl (Cell.own .here rfl)) rfl ?_
      refine Dr.st (g_indexA ar_39 rfl rfl (by decide) (by decide) rfl) rfl ?_
      refine Dr.st (g_load sc_38 rfl (Cell.own .here rfl)) rfl ?_
      refine Dr.st (g_assign rfl) rfl ?_
      refine Dr.st (g_assign rfl) rfl ?_
      refine Dr.nil ?_
      refine th_n ?_
      refine seq ?_
      refine regionQ mixed (by decide +kernel) (by decide +kernel) ?_
      refine Dr.st (g_indexA ar_39 rfl rfl (by decide) (by decide) rfl) rfl ?_
      refine Dr.st (g_load sc_38 rfl (Cell.own .here rfl)) rfl ?_
      refine Dr.st (g_move rfl) rfl ?_
      refine Dr.st (g_indexA (m := i) ar_118 rfl rfl (by omega) (by omega) (by omega)) rfl ?_
      refine Dr.st (g_load sc_38 rfl (Cell.rd0 (RdA.of hK) (get_U32 (ws := cubesL) (j := i) (by omega) (by show i < 64; exact hi)))) rfl ?_
      refine Dr.st (g_add32 rfl rfl) rfl ?_
      refine Dr.st (g_move rfl) rfl ?_
      refine Dr.st (g_indexA (m := i) ar_118 rfl rfl (by omega) (by omega) (by omega)) rfl ?_
      refine Dr.st (g_load sc_38 rfl (Cell.own (.there (.here)) (get_U32 (j := i) (by omega) (by omega)))) rfl ?_
      refine Dr.st (g_add32 rfl rfl) rfl ?_
      refine Dr.st (g_move rfl) rfl ?_
      refine Dr.st (g_move rfl) rfl ?_
      refine Dr.call (v := _) Tryd.func99 rfl rfl rfl (fun w hw => f99_spec _ (-25) w) rfl ?_
      refine Dr.call (v := _) Tryd.func98 rfl rfl rfl (fun w hw => f98_spec _ _ 6 11 (by decide) (by decide) (by decide) (by decide) w) rfl ?_
      refine Dr.st (g_add32 rfl rfl) rfl ?_
      refine Dr.st (g_indexA ar_39 rfl rfl (by decide) (by decide) rfl) rfl ?_
      refine Dr.st (g_load sc_38 rfl (Cell.own .here rfl)) rfl ?_
      refine Dr.st (g_move rfl) rfl ?_
      refine Dr.st (g_indexA ar_39 rfl rfl (by decide) (by decide) rfl) rfl ?_
      refine Dr.st (g_load sc_38 rfl (Cell.own .here rfl)) rfl ?_
      refine Dr.st (g_indexA ar_39 rfl rfl (by decide) (by decide) rfl) rfl ?_
      refine Dr.st (g_load sc_38 rfl (Cell.own .here rfl)) rfl ?_
      refine Dr.st (g_xor32 rfl rfl) rfl ?_
      refine Dr.st (g_and32 rfl rfl) rfl ?_
      refine Dr.st (g_xor32 rfl rfl) rfl ?_
      refine Dr.st (g_add32 rfl rfl) rfl ?_
      refine Dr.st (g_assign rfl) rfl ?_
      refine Dr.nil ?_
      refine th_n ?_
      refine seq ?_
      refine regionQ mixed (by decide +kernel) (by decide +kernel) ?_
      refine Dr.st (g_move rfl) rfl ?_
      refine Dr.st (g_move rfl) rfl ?_
      refine Dr.call (v := _) Tryd.func99 rfl rfl rfl (fun w hw => f99_spec _ (-22) w) rfl ?_
      refine Dr.call (v := _) Tryd.func98 rfl rfl rfl (fun w hw => f98_spec _ _ 2 13 (by decide) (by decide) (by decide) (by decide) w) rfl ?_
      refine Dr.st (g_move rfl) rfl ?_
      refine Dr.st (g_indexA ar_39 rfl rfl (by decide) (by decide) rfl) rfl ?_
      refine Dr.st (g_load sc_38 rfl (Cell.own .here rfl)) rfl ?_
      refine Dr.st (g_and32 rfl rfl) rfl ?_
      refine Dr.st (g_indexA ar_39 rfl rfl (by decide) (by decide) rfl) rfl ?_
      refine Dr.st (g_load sc_38 rfl (Cell.own .here rfl)) rfl ?_
      refine Dr.st (g_move rfl) rfl ?_
      refine Dr.st (g_indexA ar_39 rfl rfl (by decide) (by decide) rfl) rfl ?_
      refine Dr.st (g_load sc_38 rfl (Cell.own .here rfl)) rfl ?_
      refine Dr.st (g_or32 rfl rfl) rfl ?_
      refine Dr.st (g_and32 rfl rfl) rfl ?_
      refine Dr.st (g_or32 rfl rfl) rfl ?_
      refine Dr.st (g_add32 rfl rfl) rfl ?_
      refine Dr.st (g_assign rfl) rfl ?_
      refine Dr.nil ?_
      refine th_n ?_
      refine seq ?_
      refine regionL ⟨[], [], []⟩ mixed (by decide +kernel) .nil .nil ?_
      refine An'.q 0 [] rfl (by decide +kernel) rfl rfl (g_sliceA (l := 1) (h := 8) (p' := some ⟨b5, 1, none⟩) (n' := 7) (c' := 7) ar_39 rfl rfl rfl (by decide) (by decide) (by decide) rfl rfl rfl) rfl ?_
      refine An'.q 1 [] rfl (by decide +kernel) rfl rfl (g_sliceA (l := 0) (h := 7) (p' := some ⟨b5, 0, none⟩) (n' := 7) (c' := 8) ar_39 rfl rfl rfl (by decide) (by decide) (by decide) rfl rfl rfl) rfl ?_
      refine An'.one 2 (by decide +kernel) rfl rfl ?_
      refine o_copy (vs := (hs8 (iter (tStep (spreadW bs)) i h0)).take 7) (cs' := (hs8 (iter (tStep (spreadW bs)) i h0)).take 1 ++ (hs8 (iter (tStep (spreadW bs)) i h0)).take 7) un_165 sz_38 rfl rfl .here rfl (RdA.part (.here) rfl) oneH7 (Nat.le_of_ble_eq_true rfl) rfl rfl ?_
      refine An'.on0 .nil .nil rfl ?_
      refine An'.fin (by decide +kernel) ?_
      refine th_n ?_
      refine seq ?_
      refine region ?_
      refine st (g_indexA ar_39 rfl rfl (by decide) (by decide) rfl) rfl ?_
      refine st (g_load sc_38 rfl (Cell.own .here rfl)) rfl ?_
      refine st (g_move rfl) rfl ?_
      refine st (g_add32 rfl rfl) rfl ?_
      refine st (g_indexA ar_39 rfl rfl (by decide) (by decide) rfl) rfl ?_
      refine sq rfl (o_store sz_38 rfl rfl rfl .here (Nat.le_of_ble_eq_true rfl) rfl ?_)
      refine done ?_
      refine th_n ?_
      refine region ?_
      refine st (g_move rfl) rfl ?_
      refine st (g_move rfl) rfl ?_
      refine st (g_add32 rfl rfl) rfl ?_
      refine st (g_indexA ar_39 rfl rfl (by decide) (by decide) rfl) rfl ?_
      refine sq rfl (o_store sz_38 rfl rfl rfl .here (Nat.le_of_ble_eq_true rfl) rfl ?_)
      refine done ?_
      refine ib_n ?_
      refine th_n ?_
      refine region ?_
      refine st (g_iadd rfl rfl rfl (by omega) (by omega)) rfl ?_
      refine st (g_move rfl) rfl ?_
      refine done ?_
      refine th_n ?_
      exact again (i + 1) (by omega) (by omega) ⟨rfl, rfl, rfl, rfl, trivial⟩ (.cons .here (.cons .here (.cons .here .nil)))
    · try simp only [decide_eq_true_eq, decide_eq_false_iff_not] at h19
      have hie : i = 64 := by omega
      subst hie
      refine exitc ?_
      refine th_x ?_
      refine th_x ?_
      refine ib_x ?_
      refine th_n ?_
      refine seq ?_
      refine region ?_
      refine st (g_move rfl) rfl ?_
      refine done ?_
      refine th_n ?_
      refine block ?_
      refine loop (α := Nat) (fun i => i ≤ 8) (fun i => [(0, .pointer (some ⟨b, 0, none⟩)), (5, .pointer (some ⟨b5, 0, none⟩)), (81, I64 (i : Nat))]) (fun i => [blk b 41 (stCells size (iter (addStep (iter (tStep (spreadW bs)) 64 h0)) i h0) left taken), blk b5 39 (hs8 (iter (tStep (spreadW bs)) 64 h0))]) (fun i => 8 - i) 0 (Nat.zero_le _) ⟨rfl, rfl, rfl, trivial⟩ (.cons (.there (.there (.here))) (.cons .here .nil)) (fun i hI => ?_)
      refine seq ?_
      refine region ?_
      refine st (g_bin rfl rfl rfl) rfl ?_
      refine done ?_
      refine th_n ?_
      refine seq ?_
      refine condS rfl (fun h82 => ?_) (fun h82 => ?_)
      · try simp only [decide_eq_true_eq, decide_eq_false_iff_not] at h82
        have hi : i < 8 := by omega
        have hlen := addIter_length (iter (tStep (spreadW bs)) 64 h0) i h0 h8
        refine skip ?_
        refine th_n ?_
        refine seq ?_
        refine block ?_
        refine seq ?_
        refine region ?_
        refine st (g_move rfl) rfl ?_
        refine st (g_assign rfl) rfl ?_
        refine done ?_
        refine th_n ?_
        refine regionX mixed (by decide +kernel) ?_
        refine Dr.st (g_move rfl) rfl ?_
        refine Dr.st (g_move rfl) rfl ?_
        refine Dr.st (g_nilCheck rfl) rfl ?_
        refine Dr.st (g_fieldAddr fo_41_1 rfl rfl) rfl ?_
        refine Dr.st (g_indexA (m := 1 + i) ar_39 rfl rfl (by omega) (by omega) (by omega)) rfl ?_
        refine Dr.st (g_load sc_38 rfl (Cell.own .here (get_st (i := i) (by omega) hi))) rfl ?_
        refine Dr.st (g_move rfl) rfl ?_
        refine Dr.st (g_indexA (m := i) ar_39 rfl rfl (by omega) (by omega) (by omega)) rfl ?_
        refine Dr.st (g_load sc_38 rfl (Cell.own (.there (.here)) (get_hs8 (i := i) (by omega) hi))) rfl ?_
        refine Dr.st (g_add32 rfl rfl) rfl ?_
        refine Dr.st (g_nilCheck rfl) rfl ?_
        refine Dr.st (g_fieldAddr fo_41_1 rfl rfl) rfl ?_
        refine Dr.st (g_indexA (m := 1 + i) ar_39 rfl rfl (by omega) (by omega) (by omega)) rfl ?_
        refine Dr.last ?_
        refine o_store (cs' := stCells size (iter (addStep (iter (tStep (spreadW bs)) 64 h0)) (i + 1) h0) left taken) sz_38 rfl rfl rfl .here (by simp [stCells]; omega) ((set_st hlen rfl hi).trans rfl) ?_
        refine ib_n ?_
        refine th_n ?_
        refine region ?_
        refine st (g_iadd rfl rfl rfl (by omega) (by omega)) rfl ?_
        refine st (g_move rfl) rfl ?_
        refine done ?_
        refine th_n ?_
        exact again (i + 1) (by omega) (by omega) ⟨rfl, rfl, rfl, trivial⟩ (.cons .here (.cons .here .nil))
      · try simp only [decide_eq_true_eq, decide_eq_false_iff_not] at h82
        have hie : i = 8 := by omega
        subst hie
        refine exitc ?_
        refine th_x ?_
        refine th_x ?_
        refine ib_x ?_
        exact ret0n rfl rfl (fun w2 hw2 => ⟨(), trivial, rfl, (hw2.pick (.there .here)).drop⟩)
end Go.Proofs.YtokhediaibdkjaaDoor
