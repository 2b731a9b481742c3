/- The walk of Sha256Names. (printed by gen1.py) -/
import Derived.Test.YtokhediaibdkjaaDoorL5
namespace Go.Proofs.YtokhediaibdkjaaDoor
open Go.Pm Go.RowKit
set_option maxRecDepth 100000
theorem name256e : hexL (hashOf 256 []) = [101, 51, 98, 48, 99, 52, 52, 50, 57, 56, 102, 99, 49, 99, 49, 52, 57, 97, 102, 98, 102, 52, 99, 56, 57, 57, 54, 102, 98, 57, 50, 52, 50, 55, 97, 101, 52, 49, 101, 52, 54, 52, 57, 98, 57, 51, 52, 99, 97, 52, 57, 53, 57, 57, 49, 98, 55, 56, 53, 50, 98, 56, 53, 53] := by decide +kernel
theorem name256l : hexL (hashOf 256 [97, 98, 99, 100, 98, 99, 100, 101, 99, 100, 101, 102, 100, 101, 102, 103, 101, 102, 103, 104, 102, 103, 104, 105, 103, 104, 105, 106, 104, 105, 106, 107, 105, 106, 107, 108, 106, 107, 108, 109, 107, 108, 109, 110, 108, 109, 110, 111, 109, 110, 111, 112, 110, 111, 112, 113]) = [50, 52, 56, 100, 54, 97, 54, 49, 100, 50, 48, 54, 51, 56, 98, 56, 101, 53, 99, 48, 50, 54, 57, 51, 48, 99, 51, 101, 54, 48, 51, 57, 97, 51, 51, 99, 101, 52, 53, 57, 54, 52, 102, 102, 50, 49, 54, 55, 102, 54, 101, 99, 101, 100, 100, 52, 49, 57, 100, 98, 48, 54, 99, 49] := by decide +kernel
theorem name224e : hexL (hashOf 224 []) = [100, 49, 52, 97, 48, 50, 56, 99, 50, 97, 51, 97, 50, 98, 99, 57, 52, 55, 54, 49, 48, 50, 98, 98, 50, 56, 56, 50, 51, 52, 99, 52, 49, 53, 97, 50, 98, 48, 49, 102, 56, 50, 56, 101, 97, 54, 50, 97, 99, 53, 98, 51, 101, 52, 50, 102] := by decide +kernel
theorem name224l : hexL (hashOf 224 [97, 98, 99, 100, 98, 99, 100, 101, 99, 100, 101, 102, 100, 101, 102, 103, 101, 102, 103, 104, 102, 103, 104, 105, 103, 104, 105, 106, 104, 105, 106, 107, 105, 106, 107, 108, 106, 107, 108, 109, 107, 108, 109, 110, 108, 109, 110, 111, 109, 110, 111, 112, 110, 111, 112, 113]) = [55, 53, 51, 56, 56, 98, 49, 54, 53, 49, 50, 55, 55, 54, 99, 99, 53, 100, 98, 97, 53, 100, 97, 49, 102, 100, 56, 57, 48, 49, 53, 48, 98, 48, 99, 54, 52, 53, 53, 99, 98, 52, 102, 53, 56, 98, 49, 57, 53, 50, 53, 50, 50, 53, 50, 53] := by decide +kernel


theorem f4_spec (w : World) (hG : Gl w []) : Calls Tryd.prog 4 [].toArray w (fun en w2 => en = .returned (.bool true) ∧ Sat w [] [] w2) := by
  refine enter (n := 80) Tryd.func4 rfl rfl rfl (Sat.refl w) ?_
  refine seq ?_
  refine region ?_
  refine st (g_assign rfl) rfl ?_
  refine done ?_
  refine th_n ?_
  refine seq ?_
  refine region ?_
  refine sq rfl (o_callP Tryd.func23 rfl rfl rfl (fun w hw => f23_spec 256 (.inr rfl) ⟨#[]⟩ ⟨#[101, 51, 98, 48, 99, 52, 52, 50, 57, 56, 102, 99, 49, 99, 49, 52, 57, 97, 102, 98, 102, 52, 99, 56, 57, 57, 54, 102, 98, 57, 50, 52, 50, 55, 97, 101, 52, 49, 101, 52, 54, 52, 57, 98, 57, 51, 52, 99, 97, 52, 57, 53, 57, 57, 49, 98, 55, 56, 53, 50, 98, 56, 53, 53]⟩ (by decide) name256e w (Gl.ofOld (A := []) hG hw .nil)) rfl ?_)
  refine st (g_move rfl) rfl ?_
  refine gt rfl ?_
  refine sq rfl (o_callP Tryd.func23 rfl rfl rfl (fun w hw => f23_spec 256 (.inr rfl) ⟨#[97, 98, 99, 100, 98, 99, 100, 101, 99, 100, 101, 102, 100, 101, 102, 103, 101, 102, 103, 104, 102, 103, 104, 105, 103, 104, 105, 106, 104, 105, 106, 107, 105, 106, 107, 108, 106, 107, 108, 109, 107, 108, 109, 110, 108, 109, 110, 111, 109, 110, 111, 112, 110, 111, 112, 113]⟩ ⟨#[50, 52, 56, 100, 54, 97, 54, 49, 100, 50, 48, 54, 51, 56, 98, 56, 101, 53, 99, 48, 50, 54, 57, 51, 48, 99, 51, 101, 54, 48, 51, 57, 97, 51, 51, 99, 101, 52, 53, 57, 54, 52, 102, 102, 50, 49, 54, 55, 102, 54, 101, 99, 101, 100, 100, 52, 49, 57, 100, 98, 48, 54, 99, 49]⟩ (by decide) name256l w (Gl.ofOld (A := []) hG hw .nil)) rfl ?_)
  refine st (g_pickT rfl rfl) rfl ?_
  refine st (g_move rfl) rfl ?_
  refine gt rfl ?_
  refine sq rfl (o_callP Tryd.func23 rfl rfl rfl (fun w hw => f23_spec 224 (.inl rfl) ⟨#[]⟩ ⟨#[100, 49, 52, 97, 48, 50, 56, 99, 50, 97, 51, 97, 50, 98, 99, 57, 52, 55, 54, 49, 48, 50, 98, 98, 50, 56, 56, 50, 51, 52, 99, 52, 49, 53, 97, 50, 98, 48, 49, 102, 56, 50, 56, 101, 97, 54, 50, 97, 99, 53, 98, 51, 101, 52, 50, 102]⟩ (by decide) name224e w (Gl.ofOld (A := []) hG hw .nil)) rfl ?_)
  refine st (g_pickT rfl rfl) rfl ?_
  refine st (g_move rfl) rfl ?_
  refine gt rfl ?_
  refine sq rfl (o_callP Tryd.func23 rfl rfl rfl (fun w hw => f23_spec 224 (.inl rfl) ⟨#[97, 98, 99, 100, 98, 99, 100, 101, 99, 100, 101, 102, 100, 101, 102, 103, 101, 102, 103, 104, 102, 103, 104, 105, 103, 104, 105, 106, 104, 105, 106, 107, 105, 106, 107, 108, 106, 107, 108, 109, 107, 108, 109, 110, 108, 109, 110, 111, 109, 110, 111, 112, 110, 111, 112, 113]⟩ ⟨#[55, 53, 51, 56, 56, 98, 49, 54, 53, 49, 50, 55, 55, 54, 99, 99, 53, 100, 98, 97, 53, 100, 97, 49, 102, 100, 56, 57, 48, 49, 53, 48, 98, 48, 99, 54, 52, 53, 53, 99, 98, 52, 102, 53, 56, 98, 49, 57, 53, 50, 53, 50, 50, 53, 50, 53]⟩ (by decide) name224l w (Gl.ofOld (A := []) hG hw .nil)) rfl ?_)
  refine st (g_pickT rfl rfl) rfl ?_
  refine st (g_assign rfl) rfl ?_
  refine done ?_
  refine th_n ?_
  refine seq ?_
  refine region ?_
  refine sq rfl (o_callP Tryd.func19 rfl rfl rfl (fun w hw => f19_bad 512 (by decide) (by decide) w) rfl ?_)
  refine st (g_move rfl) rfl ?_
  refine st (g_extract rfl rfl) rfl ?_
  refine st (g_extract rfl rfl) rfl ?_
  refine st (g_assign rfl) rfl ?_
  refine st (g_assign rfl) rfl ?_
  refine done ?_
  refine th_n ?_
  refine seq ?_
  refine region ?_
  refine sq rfl (o_callP Tryd.func19 rfl rfl rfl (fun w hw => f19_bad 0 (by decide) (by decide) w) rfl ?_)
  refine st (g_move rfl) rfl ?_
  refine st (g_extract rfl rfl) rfl ?_
  refine st (g_extract rfl rfl) rfl ?_
  refine st (g_assign rfl) rfl ?_
  refine st (g_assign rfl) rfl ?_
  refine done ?_
  refine th_n ?_
  refine seq ?_
  refine region ?_
  refine sq rfl (o_callP Tryd.func17 rfl rfl rfl (fun w hw => f17_bad 225 (by decide) (by decide) _ w) rfl ?_)
  refine st (g_move rfl) rfl ?_
  refine st (g_extract rfl rfl) rfl ?_
  refine st (g_extract rfl rfl) rfl ?_
  refine st (g_assign rfl) rfl ?_
  refine st (g_assign rfl) rfl ?_
  refine done ?_
  refine th_n ?_
  refine seq ?_
  refine region ?_
  refine st (g_assign rfl) rfl ?_
  refine done ?_
  refine th_n ?_
  refine seq ?_
  refine region ?_
  refine sq rfl (o_alloc zr_41 rfl (fun b9 => ?_))
  refine done ?_
  refine th_n ?_
  refine seq ?_
  refine region ?_
  refine st (g_move rfl) rfl ?_
  refine sq rfl (o_buildSlice1 (vs := [B8 97]) un_23 zr_5 sz_5 (by decide) (by decide) rfl rfl rfl (by simp [Value.oneCell']) rfl (fun b33 => ?_))
  refine sq rfl (o_mark un_23 un_5 rfl .here rfl ?_)
  refine sq rfl (o_callP Tryd.func20 rfl rfl rfl (fun w hw => f20_nil _ w) rfl ?_)
  refine done ?_
  refine th_n ?_
  refine seq ?_
  refine region ?_
  refine sq rfl (o_buildSlice1 (vs := [B8 97]) un_23 zr_5 sz_5 (by decide) (by decide) rfl rfl rfl (by simp [Value.oneCell']) rfl (fun b36 => ?_))
  refine sq rfl (o_mark un_23 un_5 rfl .here rfl ?_)
  refine sq rfl (o_callP Tryd.func20 rfl rfl rfl (fun w hw => f20_zero b9 _ w (RdC.cell (j := 0) (RdC.ofBlk hw (.there (.there (.here))) (o := 0) (vs := [I64 0]) rfl) rfl)) rfl ?_)
  refine done ?_
  refine th_n ?_
  refine seq ?_
  refine region ?_
  refine sq rfl (o_callP Tryd.func24 rfl rfl rfl (fun w hw => f24_spec w (Gl.ofOld (A := []) hG hw .nil)) rfl ?_)
  refine st (g_move rfl) rfl ?_
  refine gt rfl ?_
  refine st (g_move rfl) rfl ?_
  refine st (g_pickT rfl rfl) rfl ?_
  refine st (g_move rfl) rfl ?_
  refine gt rfl ?_
  refine st (g_move rfl) rfl ?_
  refine gt rfl ?_
  refine st (g_T rfl rfl rfl (by decide)) rfl ?_
  refine st (g_pickT rfl rfl) rfl ?_
  refine st (g_move rfl) rfl ?_
  refine gt rfl ?_
  refine st (g_move rfl) rfl ?_
  refine gt rfl ?_
  refine st (g_T rfl rfl rfl (by decide)) rfl ?_
  refine st (g_pickT rfl rfl) rfl ?_
  refine st (g_move rfl) rfl ?_
  refine gt rfl ?_
  refine st (g_move rfl) rfl ?_
  refine gt rfl ?_
  refine st (g_T rfl rfl rfl (by decide)) rfl ?_
  refine st (g_pickT rfl rfl) rfl ?_
  refine st (g_move rfl) rfl ?_
  refine gt rfl ?_
  refine st (g_move rfl) rfl ?_
  refine gt rfl ?_
  refine sq rfl (o_callP Tryd.func21 rfl rfl rfl (fun w hw => f21_nil w) rfl ?_)
  refine gt rfl ?_
  refine st (g_len el_23 rfl) rfl ?_
  refine gt rfl ?_
  refine sq rfl (o_callP Tryd.func21 rfl rfl rfl (fun w hw => f21_zero b9 w (RdC.cell (j := 0) (RdC.ofBlk hw (.there (.there (.here))) (o := 0) (vs := [I64 0]) rfl) rfl)) rfl ?_)
  refine gt rfl ?_
  refine st (g_len el_23 rfl) rfl ?_
  refine gt rfl ?_
  refine st (g_iadd (c := 0) rfl rfl (by omega) (by omega) (by omega)) rfl ?_
  refine gt rfl ?_
  refine st (g_T rfl rfl rfl (rfl)) rfl ?_
  refine st (g_pickT rfl rfl) rfl ?_
  refine st (g_move rfl) rfl ?_
  refine gt rfl ?_
  refine st (g_move rfl) rfl ?_
  refine gt rfl ?_
  refine sq rfl (o_callP Tryd.func22 rfl rfl rfl (fun w hw => f22_nil w) rfl ?_)
  refine gt rfl ?_
  refine sq rfl (o_callP Tryd.func22 rfl rfl rfl (fun w hw => f22_zero b9 w (RdC.cell (j := 0) (RdC.ofBlk hw (.there (.there (.here))) (o := 0) (vs := [I64 0]) rfl) rfl)) rfl ?_)
  refine gt rfl ?_
  refine st (g_add64 rfl rfl) rfl ?_
  refine gt rfl ?_
  refine st (g_T rfl rfl rfl (rfl)) rfl ?_
  refine st (g_pickT rfl rfl) rfl ?_
  refine st (g_move rfl) rfl ?_
  refine gt rfl ?_
  refine st (g_move rfl) rfl ?_
  refine gt rfl ?_
  refine sq rfl (o_callP Tryd.func25 rfl rfl rfl (fun w hw => f25_nil w) rfl ?_)
  refine gt rfl ?_
  refine st (g_eqNil pt_29 rfl rfl) rfl ?_
  refine st (g_pickT rfl rfl) rfl ?_
  refine st (g_move rfl) rfl ?_
  refine gt rfl ?_
  refine sq rfl (o_callP Tryd.func25 rfl rfl rfl (fun w hw => f25_zero b9 w (RdC.cell (j := 0) (RdC.ofBlk hw (.there (.there (.here))) (o := 0) (vs := [I64 0]) rfl) rfl)) rfl ?_)
  refine gt rfl ?_
  refine st (g_eqNil pt_29 rfl rfl) rfl ?_
  refine st (g_pickT rfl rfl) rfl ?_
  refine st (g_assign rfl) rfl ?_
  refine done ?_
  refine th_n ?_
  refine ret ?_
  exact ret1 rfl rfl rfl (fun w2 hw2 => ⟨rfl, hw2.clear⟩)
end Go.Proofs.YtokhediaibdkjaaDoor
