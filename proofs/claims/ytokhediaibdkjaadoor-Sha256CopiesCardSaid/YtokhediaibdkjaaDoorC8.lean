/- The law Sha256Copies: its row and its card. (printed by genC.py) -/
import Derived.Test.YtokhediaibdkjaaDoorC0
import Derived.Test.YtokhediaibdkjaaDoorL8
namespace Go.Proofs.YtokhediaibdkjaaDoor
set_option maxRecDepth 100000
open Go.Pm Go.ChangeShapes Go.WideShapes Go.ChangeAt Go.RowKit

theorem sha256Copies_contract (H : Type) (enc : TypeId × Value → H) (W : World) (base : Nat) (args : Array Value) (ds gs : List (DataW H)) (before : List MemPlace)
    (hval : ∀ (j : Nat) t v, Tryd.f8.params[j]? = some t → args[j]? = some v → Value.okWide Tryd.prog W .any base t v)
    (hW : DataW.Whole enc Tryd.prog Tryd.f8.params.toList Rows.sha256CopiesSpec.vars false W args.toList ds gs before) (hL : laidMetH Tryd.prog Rows.sha256CopiesRow.laid W) :
    Calls Tryd.prog 8 args W fun e W' => ∃ v, e = .returned v ∧ Rows.sha256CopiesSpec.post enc Tryd.prog Tryd.f8 false true false false W args v W' := by
  have hG : Gl W [] := gl_of_laid (.head _) (.tail _ (.head _)) (show laidMet Tryd.prog Rows.sha256CopiesRow.laid W from hL)
  have hW' := hW
  obtain ⟨p, q, hA0, hV, rfl, hfz, hnd⟩ := hW
  have hAll : DataW.TrodAll enc Tryd.prog W 0 (fun _ => true) true Tryd.f8.params.toList args.toList ds p := hA0
  rw [Tryd.params8] at hAll hval
  obtain ⟨rfl, rfl⟩ := trodVars_none hV
  obtain ⟨vg, vs0, dg, ds0, pg0, q0, hv0, rfl, rfl, hg, hAll⟩ := trodAll_cons hAll
  obtain ⟨vA, vs1, dA, ds1, pA0, q1, hv1, rfl, rfl, hA, hAll⟩ := trodAll_cons hAll
  obtain ⟨vB, vs2, dB, ds2, pB0, q2, hv2, rfl, rfl, hB, hAll⟩ := trodAll_cons hAll
  obtain ⟨vC, vs3, dC, ds3, pC0, q3, hv3, rfl, rfl, hC, hAll⟩ := trodAll_cons hAll
  obtain ⟨rfl, rfl, rfl⟩ := trodAll_nil hAll
  obtain rfl : args = #[vg, vA, vB, vC] := by cases args; simp_all
  obtain ⟨g, rfl, rfl, rfl⟩ := open_bool un_4 (hval 0 4 _ rfl rfl) hg
  obtain ⟨pA, nA, cA, lA, rfl, hlA, hpA, hcA, hmA, hrA⟩ := open_bytes (hval 1 23 _ rfl rfl) hA
  obtain ⟨pB, nB, cB, lB, rfl, hlB, hpB, hcB, hmB, hrB⟩ := open_bytes (hval 2 23 _ rfl rfl) hB
  obtain ⟨pC, nC, cC, lC, rfl, hlC, hpC, hcC, hmC, hrC⟩ := open_bytes (hval 3 23 _ rfl rfl) hC
  clear hA0
  refine Calls.mono (R := fun e W' => e = .returned (.bool true) ∧ Sat W [] [] W') ?_ ?_
  · cases g
    · exact f8_224 pA nA cA lA hlA hpA hcA pB nB cB lB hlB hpB hcB pC nC cC lC hlC hpC hcC W hrA hrB hrC hG
    · exact f8_256 pA nA cA lA hlA hpA hcA pB nB cB lB hlB hpB hcB pC nC cC lC hlC hpC hcC W hrA hrB hrC hG
  · rintro e W' ⟨rfl, hs⟩
    exact ⟨_, rfl, law_post hW' (by kernel_rfl) rfl ⟨rfl, rfl, rfl⟩ (by rw [Tryd.params8]; decide +kernel) hs.below⟩

noncomputable def sha256Copies_world (os : Os) : World :=
  { World.holding Tryd.prog os ⟨#[], #[], []⟩ with heap := ((World.holding Tryd.prog os ⟨#[], #[], []⟩).heap.modify 0 (layTab ((first224 ++ first256).map U32))).modify 1 (layTab (cubesL.map U32)) }
theorem sha256Copies_laid (os : Os) : laidMet Tryd.prog Rows.sha256CopiesRow.laid ((sha256Copies_world os).forCall (fun _ _ => 0) ⟨#[], #[.bool false, .slice none 0 0, .slice none 0 0, .slice none 0 0], []⟩).memory :=
  laidMet_of_run' 8 (by kernel_rfl) (by kernel_rfl)
theorem sha256Copies_reads (os : Os) {H : Type} (enc : TypeId × Value → H) : ∃ places, DataW.whole enc Tryd.prog ((sha256Copies_world os).forCall (fun _ _ => 0) ⟨#[], #[.bool false, .slice none 0 0, .slice none 0 0, .slice none 0 0], []⟩).memory Tryd.f8.params.toList Rows.sha256CopiesSpec.vars false (#[.bool false, .slice none 0 0, .slice none 0 0, .slice none 0 0] : Array Value).toList 8 = some ([.lit (.bool false), .nil, .nil, .nil], [], places) :=
  ⟨[], by kernel_rfl⟩

theorem sha256Copies_lifted (os : Os) (started : os.Started) (H : Type) (enc : TypeId × Value → H) (F : Stop.Interp) :
    ReturnsInHanded {} Tryd.checked os 8 .any ((OpenSpec.ofChange Rows.sha256CopiesSpec).preRow enc Tryd.prog Tryd.f8 Rows.sha256CopiesRow.domain false Rows.sha256CopiesRow.laid) (((OpenSpec.ofChange Rows.sha256CopiesSpec).at F).post enc Tryd.prog Tryd.f8 false true false false) := by
  obtain ⟨places, hx⟩ := sha256Copies_reads os enc
  refine returnsInHanded_of_row (C := Tryd.checked) (s := OpenSpec.ofChange Rows.sha256CopiesSpec) own started (by kernel_rfl) Tryd.func8
    (witness_row_at (enc := enc) (C := Tryd.checked) false (sha256Copies_world os) #[.bool false, .slice none 0 0, .slice none 0 0, .slice none 0 0] rfl (by kernel_rfl) (by kernel_rfl) (by kernel_rfl)
      (OpenSpec.preRow_of_cond 8 hx (by kernel_rfl) (fun k hk => by cases hk) (by kernel_rfl) (sha256Copies_laid os))) ?_
  intro W base args ds gs before hval hW _ _ _ hL _ _
  exact sha256Copies_contract H enc W base args ds gs before hval hW hL

theorem sha256Copies_said : Rows.Sha256CopiesSaid :=
  OpenClaim.holds_of_cond 8 Tryd.f8 rfl rfl rfl rfl rfl rfl rfl ⟨rfl, rfl, rfl, rfl, rfl⟩ rfl rfl rfl rfl rfl (by kernel_rfl) Tryd.func8 (by kernel_rfl)
    (of_decide_eq_true (by kernel_rfl)) (by unfold Func.isWrapper; first | (rw [if_pos (by decide +kernel)]; kernel_rfl) | (rw [if_neg (by decide +kernel)]; exact ⟨rfl, rfl⟩))
    (fun os started H enc _ F => by rw [OpenClaim.pre_eq_preRow]; exact sha256Copies_lifted os started H enc F)

theorem sha256Copies_plain (f : FuncId) (fn : Func) (hf : Tryd.pinned.checked.prog.funcNamed "postmark/postmarklaw04.Sha256Copies" = some f) (hfn : Tryd.pinned.checked.prog.funcs[f]? = some fn) :
    false = Tryd.pinned.checked.prog.looks [] ∧ ∀ (j : Nat) t, fn.params[j]? = some t → Tryd.pinned.checked.prog.wantsStandIn t = false := by
  obtain rfl : f = 8 := Option.some.inj ((show Tryd.prog.funcNamed "postmark/postmarklaw04.Sha256Copies" = some 8 by kernel_rfl).symm.trans hf) |>.symm
  obtain rfl : fn = Tryd.f8 := (Option.some.inj (Tryd.func8.symm.trans hfn)).symm
  refine ⟨by kernel_rfl, fun j t ht => ?_⟩
  rw [Tryd.params8] at ht
  have h : ∀ u ∈ ([4, 23, 23, 23] : List Nat), Tryd.prog.wantsStandIn u = false := by decide +kernel
  exact h t (by have := Array.mem_of_getElem? ht; simpa using this)

/-- The card. -/
theorem sha256Copies_card : Rows.Sha256CopiesCardSaid :=
  Claim7.holds_tied_plain_at .later [] _ _ _ _ sha256Copies_said (fun _ h => by cases h) (by kernel_rfl) (fun _ h => by cases h) sha256Copies_row_tie rfl ⟨rfl, rfl⟩ (by kernel_rfl) rfl sha256Copies_plain (by kernel_rfl)
end Go.Proofs.YtokhediaibdkjaaDoor
