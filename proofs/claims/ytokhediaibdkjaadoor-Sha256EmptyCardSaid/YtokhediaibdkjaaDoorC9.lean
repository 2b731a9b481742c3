/- The law Sha256Empty: its row and its card. (printed by genC.py) -/
import Derived.Test.YtokhediaibdkjaaDoorC0
import Derived.Test.YtokhediaibdkjaaDoorL9
namespace Go.Proofs.YtokhediaibdkjaaDoor
set_option maxRecDepth 100000
open Go.Pm Go.ChangeShapes Go.WideShapes Go.ChangeAt Go.RowKit

theorem sha256Empty_contract (H : Type) (enc : TypeId × Value → H) (W : World) (base : Nat) (args : Array Value) (ds gs : List (DataW H)) (before : List MemPlace)
    (hval : ∀ (j : Nat) t v, Tryd.f9.params[j]? = some t → args[j]? = some v → Value.okWide Tryd.prog W .any base t v)
    (hW : DataW.Whole enc Tryd.prog Tryd.f9.params.toList Rows.sha256EmptySpec.vars false W args.toList ds gs before) (hL : laidMetH Tryd.prog Rows.sha256EmptyRow.laid W) :
    Calls Tryd.prog 9 args W fun e W' => ∃ v, e = .returned v ∧ Rows.sha256EmptySpec.post enc Tryd.prog Tryd.f9 false true false false W args v W' := by
  have hG : Gl W [] := gl_of_laid (.head _) (.tail _ (.head _)) (show laidMet Tryd.prog Rows.sha256EmptyRow.laid W from hL)
  have hW' := hW
  obtain ⟨p, q, hA0, hV, rfl, hfz, hnd⟩ := hW
  have hAll : DataW.TrodAll enc Tryd.prog W 0 (fun _ => true) true Tryd.f9.params.toList args.toList ds p := hA0
  rw [Tryd.params9] at hAll hval
  obtain ⟨rfl, rfl⟩ := trodVars_none hV
  obtain ⟨vg, vs0, dg, ds0, pg0, q0, hv0, rfl, rfl, hg, hAll⟩ := trodAll_cons hAll
  obtain ⟨vA, vs1, dA, ds1, pA0, q1, hv1, rfl, rfl, hA, hAll⟩ := trodAll_cons hAll
  obtain ⟨vz, vs2, dz, ds2, pz0, q2, hv2, rfl, rfl, hz, hAll⟩ := trodAll_cons hAll
  obtain ⟨rfl, rfl, rfl⟩ := trodAll_nil hAll
  obtain rfl : args = #[vg, vA, vz] := by cases args; simp_all
  obtain ⟨g, rfl, rfl, rfl⟩ := open_bool un_4 (hval 0 4 _ rfl rfl) hg
  obtain ⟨pA, nA, cA, lA, rfl, hlA, hpA, hcA, hmA, hrA⟩ := open_bytes (hval 1 23 _ rfl rfl) hA
  obtain ⟨z, rfl, rfl, rfl, wfz⟩ := open_int un_86 (hval 2 86 _ rfl rfl) hz
  clear hA0
  refine Calls.mono (R := fun e W' => e = .returned (.bool true) ∧ Sat W [] [] W') ?_ ?_
  · have hz : 0 ≤ z ∧ z < 65536 := by
      simp [Lit.wf, IntKind.min, IntKind.max, IntKind.signed, IntKind.bits] at wfz
      omega
    obtain ⟨pl, rfl⟩ := Int.eq_ofNat_of_zero_le hz.1
    cases g
    · exact f9_224 pA nA cA lA hlA hpA hcA pl (by omega) W hrA hG
    · exact f9_256 pA nA cA lA hlA hpA hcA pl (by omega) W hrA hG
  · rintro e W' ⟨rfl, hs⟩
    exact ⟨_, rfl, law_post hW' (by kernel_rfl) rfl ⟨rfl, rfl, rfl⟩ (by rw [Tryd.params9]; decide +kernel) hs.below⟩

noncomputable def sha256Empty_world (os : Os) : World :=
  { World.holding Tryd.prog os ⟨#[], #[], []⟩ with heap := ((World.holding Tryd.prog os ⟨#[], #[], []⟩).heap.modify 0 (layTab ((first224 ++ first256).map U32))).modify 1 (layTab (cubesL.map U32)) }
theorem sha256Empty_laid (os : Os) : laidMet Tryd.prog Rows.sha256EmptyRow.laid ((sha256Empty_world os).forCall (fun _ _ => 0) ⟨#[], #[.bool false, .slice none 0 0, .int .u16 0], []⟩).memory :=
  laidMet_of_run' 8 (by kernel_rfl) (by kernel_rfl)
theorem sha256Empty_reads (os : Os) {H : Type} (enc : TypeId × Value → H) : ∃ places, DataW.whole enc Tryd.prog ((sha256Empty_world os).forCall (fun _ _ => 0) ⟨#[], #[.bool false, .slice none 0 0, .int .u16 0], []⟩).memory Tryd.f9.params.toList Rows.sha256EmptySpec.vars false (#[.bool false, .slice none 0 0, .int .u16 0] : Array Value).toList 8 = some ([.lit (.bool false), .nil, .lit (.int .u16 0)], [], places) :=
  ⟨[], by kernel_rfl⟩

theorem sha256Empty_lifted (os : Os) (started : os.Started) (H : Type) (enc : TypeId × Value → H) (F : Stop.Interp) :
    ReturnsInHanded {} Tryd.checked os 9 .any ((OpenSpec.ofChange Rows.sha256EmptySpec).preRow enc Tryd.prog Tryd.f9 Rows.sha256EmptyRow.domain false Rows.sha256EmptyRow.laid) (((OpenSpec.ofChange Rows.sha256EmptySpec).at F).post enc Tryd.prog Tryd.f9 false true false false) := by
  obtain ⟨places, hx⟩ := sha256Empty_reads os enc
  refine returnsInHanded_of_row (C := Tryd.checked) (s := OpenSpec.ofChange Rows.sha256EmptySpec) own started (by kernel_rfl) Tryd.func9
    (witness_row_at (enc := enc) (C := Tryd.checked) false (sha256Empty_world os) #[.bool false, .slice none 0 0, .int .u16 0] rfl (by kernel_rfl) (by kernel_rfl) (by kernel_rfl)
      (OpenSpec.preRow_of_cond 8 hx (by kernel_rfl) (fun k hk => by cases hk) (by kernel_rfl) (sha256Empty_laid os))) ?_
  intro W base args ds gs before hval hW _ _ _ hL _ _
  exact sha256Empty_contract H enc W base args ds gs before hval hW hL

theorem sha256Empty_said : Rows.Sha256EmptySaid :=
  OpenClaim.holds_of_cond 9 Tryd.f9 rfl rfl rfl rfl rfl rfl rfl ⟨rfl, rfl, rfl, rfl, rfl⟩ rfl rfl rfl rfl rfl (by kernel_rfl) Tryd.func9 (by kernel_rfl)
    (of_decide_eq_true (by kernel_rfl)) (by unfold Func.isWrapper; first | (rw [if_pos (by decide +kernel)]; kernel_rfl) | (rw [if_neg (by decide +kernel)]; exact ⟨rfl, rfl⟩))
    (fun os started H enc _ F => by rw [OpenClaim.pre_eq_preRow]; exact sha256Empty_lifted os started H enc F)

theorem sha256Empty_plain (f : FuncId) (fn : Func) (hf : Tryd.pinned.checked.prog.funcNamed "postmark/postmarklaw04.Sha256Empty" = some f) (hfn : Tryd.pinned.checked.prog.funcs[f]? = some fn) :
    false = Tryd.pinned.checked.prog.looks [] ∧ ∀ (j : Nat) t, fn.params[j]? = some t → Tryd.pinned.checked.prog.wantsStandIn t = false := by
  obtain rfl : f = 9 := Option.some.inj ((show Tryd.prog.funcNamed "postmark/postmarklaw04.Sha256Empty" = some 9 by kernel_rfl).symm.trans hf) |>.symm
  obtain rfl : fn = Tryd.f9 := (Option.some.inj (Tryd.func9.symm.trans hfn)).symm
  refine ⟨by kernel_rfl, fun j t ht => ?_⟩
  rw [Tryd.params9] at ht
  have h : ∀ u ∈ ([4, 23, 86] : List Nat), Tryd.prog.wantsStandIn u = false := by decide +kernel
  exact h t (by have := Array.mem_of_getElem? ht; simpa using this)

/-- The card. -/
theorem sha256Empty_card : Rows.Sha256EmptyCardSaid :=
  Claim7.holds_tied_plain_at .later [] _ _ _ _ sha256Empty_said (fun _ h => by cases h) (by kernel_rfl) (fun _ h => by cases h) sha256Empty_row_tie rfl ⟨rfl, rfl⟩ (by kernel_rfl) rfl sha256Empty_plain (by kernel_rfl)
end Go.Proofs.YtokhediaibdkjaaDoor
