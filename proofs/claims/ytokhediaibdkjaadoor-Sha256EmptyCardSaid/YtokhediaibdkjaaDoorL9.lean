/- The walk of Sha256Empty. (printed by gen1.py) -/
import Derived.Test.YtokhediaibdkjaaDoorE13
import Derived.Test.YtokhediaibdkjaaDoorL5
namespace Go.Proofs.YtokhediaibdkjaaDoor
open Go.Pm Go.RowKit
set_option maxRecDepth 100000
theorem f9_256 (pA : Option Addr) (nA cA : Nat) (lA : List UInt8) (hlA : lA.length = nA) (hpA : pA = none → cA = 0) (hcA : nA ≤ cA) (pl : Nat) (hpl : pl < 65536) (w : World) (hrA : RdC w pA (lA.map B8)) (hG : Gl w []) : Calls Tryd.prog 9 [.bool true, .slice pA nA cA, .int .u16 (pl : Nat)].toArray w (fun en w2 => en = .returned (.bool true) ∧ Sat w [] [] w2) := by
  obtain ⟨k, hk⟩ : ∃ k, k = pl % (nA + 1) := ⟨_, rfl⟩
  have hk2 : k ≤ nA := by have := Nat.mod_lt pl (show 0 < nA + 1 by omega); omega
  have hk3 : (pl : Int) % ((nA : Int) + 1) = (k : Int) := by rw [hk]; simp
  refine enter (n := 71) Tryd.func9 rfl rfl rfl (Sat.refl w) ?_
  refine seq ?_
  refine region ?_
  refine st (g_assign rfl) rfl ?_
  refine done ?_
  refine th_n ?_
  refine seq ?_
  refine region ?_
  refine sq rfl (o_callP Tryd.func24 rfl rfl rfl (fun w hw => f24_spec w (Gl.ofOld (A := []) hG hw .nil)) rfl ?_)
  refine st (g_assign rfl) rfl ?_
  refine done ?_
  refine th_n ?_
  refine seq ?_
  refine seq ?_
  refine region ?_
  refine st (g_move rfl) rfl ?_
  refine st (g_len el_23 rfl) rfl ?_
  refine sp (g_bin rfl rfl rfl) rfl (fun h14 => ?_) (fun h14 => ?_)
  · refine st (g_move rfl) rfl ?_
    refine gf rfl rfl ?_
    refine gf rfl rfl ?_
    refine st (g_pickT rfl rfl) rfl ?_
    refine done ?_
    refine th_n ?_
    refine condT rfl ?_
    refine seq ?_
    refine region ?_
    refine st (g_move rfl) rfl ?_
    refine st (g_assign rfl) rfl ?_
    refine done ?_
    refine th_n ?_
    refine ret ?_
    refine th_r ?_
    exact ret1 rfl rfl rfl (fun w2 hw2 => ⟨rfl, hw2.clear⟩)
  · refine st (g_move rfl) rfl ?_
    refine gt rfl ?_
    refine st (g_move rfl) rfl ?_
    refine gt rfl ?_
    refine st (g_not rfl) rfl ?_
    refine st (g_pickF rfl rfl) rfl ?_
    refine done ?_
    refine th_n ?_
    refine condF rfl ?_
    refine skip ?_
    refine th_n ?_
    refine seq ?_
    refine region ?_
    refine st (g_move rfl) rfl ?_
    refine st (g_move rfl) rfl ?_
    refine sq rfl (o_call Tryd.func26 rfl rfl rfl .nil (fun w hw hA => f26_256 pA nA cA lA hlA hpA hcA (by omega) none 0 0 [] rfl (by decide) false w (RdS.c (S := []) (RdS.ofOld (A := []) hrA.s hw .nil)) (fun j u h => by simp at h) (Gl.ofOld (A := []) hG hw .nil)) rfl (fun ⟨b1, y1⟩ hy1 => ?_))
    refine st (g_assign rfl) rfl ?_
    refine done ?_
    refine th_n ?_
    refine seq ?_
    refine region ?_
    refine st (g_move rfl) rfl ?_
    refine sq rfl (o_call Tryd.func26 rfl rfl rfl .nil (fun w hw hA => f26_256 none 0 0 [] rfl (fun _ => rfl) (Nat.le_refl _) (by decide) none 0 0 [] rfl (by decide) false w (fun j u h => by simp at h) (fun j u h => by simp at h) (Gl.ofOld (A := []) hG hw .nil)) rfl (fun ⟨b2, y2⟩ hy2 => ?_))
    refine st (g_assign rfl) rfl ?_
    refine done ?_
    refine th_n ?_
    refine seq ?_
    refine seq ?_
    refine region ?_
    refine st (g_move rfl) rfl ?_
    refine st (g_eqNil pt_29 rfl rfl) rfl ?_
    refine st (g_move rfl) rfl ?_
    refine gt rfl ?_
    refine st (g_move rfl) rfl ?_
    refine gt rfl ?_
    refine st (g_eqNil pt_29 rfl rfl) rfl ?_
    refine st (g_pickF rfl rfl) rfl ?_
    refine done ?_
    refine th_n ?_
    refine condF rfl ?_
    refine skip ?_
    refine th_n ?_
    refine seq ?_
    refine region ?_
    refine st (g_move rfl) rfl ?_
    refine st (g_toI it_86 it_3 rfl rfl (by omega) (by omega)) rfl ?_
    refine st (g_move rfl) rfl ?_
    refine st (g_len el_23 rfl) rfl ?_
    refine st (g_iadd rfl rfl rfl (by omega) (by omega)) rfl ?_
    refine st (g_irem (c := (k : Int)) rfl rfl (by omega) (by omega) hk3) rfl ?_
    refine st (g_assign rfl) rfl ?_
    refine done ?_
    refine th_n ?_
    refine seq ?_
    refine region ?_
    refine st (g_move rfl) rfl ?_
    refine sq rfl (o_call Tryd.func20 rfl rfl rfl (.cons .here (.cons .here .nil)) (fun w hw hA => write_spec b2 32 (by decide) first256 rfl [] y2 hy2 none 0 0 [] rfl (fun _ => rfl) (Nat.le_refl _) (by omega) w hA RdS.nil (Gl.ofOld hG hw (.cons .here (.cons .here .nil)))) rfl (fun z1 hz1 => ?_))
    refine done ?_
    refine th_n ?_
    refine seq ?_
    refine region ?_
    refine st (g_move rfl) rfl ?_
    refine st (g_move rfl) rfl ?_
    refine st (g_move rfl) rfl ?_
    refine st (g_slice (l := 0) (h := (k : Int)) (m := (cA : Int)) (p' := pA) (n' := k) (c' := cA) el_23 rfl rfl rfl rfl (by simp) (by decide) (by omega) (by omega) (by omega) (adv_zero _ _ _) (by omega) (by omega)) rfl ?_
    refine sq rfl (o_call Tryd.func20 rfl rfl rfl (.cons .here (.cons .here .nil)) (fun w hw hA => write_spec b2 32 (by decide) first256 rfl _ z1 hz1 pA k cA (lA.take k) (by rw [List.length_take]; omega) hpA (by omega) (by omega) w hA (RdS.ofOld (by have h0 := hrA.s.take k; rw [← List.map_take] at h0; exact h0) hw (.cons .here (.cons .here .nil))) (Gl.ofOld hG hw (.cons .here (.cons .here .nil)))) rfl (fun z2 hz2 => ?_))
    refine done ?_
    refine th_n ?_
    refine seq ?_
    refine region ?_
    refine st (g_move rfl) rfl ?_
    refine sq rfl (o_buildSlice0 un_23 sz_5 rfl (fun b45 => ?_))
    refine sq rfl (o_call Tryd.func20 rfl rfl rfl (.cons (.there (.here)) (.cons (.there (.here)) .nil)) (fun w hw hA => write_spec b2 32 (by decide) first256 rfl _ z2 hz2 (some ⟨b45, 0, none⟩) 0 0 [] rfl (fun _ => rfl) (Nat.le_refl _) (by omega) w hA RdS.nil (Gl.ofOld hG hw (.cons (.there (.here)) (.cons (.there (.here)) .nil)))) rfl (fun z3 hz3 => ?_))
    refine done ?_
    refine th_n ?_
    refine seq ?_
    refine region ?_
    refine st (g_move rfl) rfl ?_
    refine st (g_move rfl) rfl ?_
    refine st (g_move rfl) rfl ?_
    refine st (g_slice (l := (k : Int)) (h := (nA : Int)) (m := (cA : Int)) (p' := adv pA cA k 1) (n' := nA - k) (c' := cA - k) el_23 rfl rfl rfl rfl (by simp) (by omega) (by omega) (by omega) (by omega) rfl (by omega) (by omega)) rfl ?_
    refine sq rfl (o_call Tryd.func20 rfl rfl rfl (.cons .here (.cons .here .nil)) (fun w hw hA => write_spec b2 32 (by decide) first256 rfl _ z3 hz3 (adv pA cA k 1) (nA - k) (cA - k) (lA.drop k) (by rw [List.length_drop]; omega) (fun h => by have := hpA (adv_none h); omega) (by omega) (by omega) w hA (RdS.ofOld (by have h0 := hrA.s.adv (c := cA) (k := k) (s := 1) (fun he => by rw [List.length_map]; omega); rw [Nat.mul_one, ← List.map_drop] at h0; exact h0) hw (.cons .here (.cons .here .nil))) (Gl.ofOld hG hw (.cons .here (.cons .here .nil)))) rfl (fun z4 hz4 => ?_))
    refine done ?_
    refine th_n ?_
    refine seq ?_
    refine region ?_
    refine st (g_move rfl) rfl ?_
    refine sq rfl (o_call Tryd.func20 rfl rfl rfl (.cons .here (.cons .here .nil)) (fun w hw hA => write_spec b2 32 (by decide) first256 rfl _ z4 hz4 none 0 0 [] rfl (fun _ => rfl) (Nat.le_refl _) (by omega) w hA RdS.nil (Gl.ofOld hG hw (.cons .here (.cons .here .nil)))) rfl (fun z5 hz5 => ?_))
    have hcat : [] ++ [] ++ lA.take k ++ [] ++ lA.drop k ++ [] = lA := by simp
    rw [hcat]
    rw [hcat] at hz5
    refine done ?_
    refine th_n ?_
    refine seq ?_
    refine regionL ⟨[], [], []⟩ mixed (by decide +kernel) .nil .nil ?_
    refine An'.q 0 [] rfl (by decide +kernel) rfl rfl (g_move rfl) rfl ?_
    refine An'.q 1 [] rfl (by decide +kernel) rfl rfl (g_move rfl) rfl ?_
    refine An'.q 2 [] rfl (by decide +kernel) rfl rfl (g_move rfl) rfl ?_
    refine An'.q 5 [] rfl (by decide +kernel) rfl rfl (g_move rfl) rfl ?_
    refine An'.oneG 3 (by decide +kernel) rfl rfl ?_
    refine o_call Tryd.func21 rfl rfl rfl (.cons (.there (.there (.there (.here)))) (.cons (.there (.there (.there (.here)))) .nil)) (fun w hw hA => sum_spec b1 32 (by decide) (by decide) first256 rfl lA y1 hy1 w hA (Gl.ofOld hG hw (.cons (.there (.there (.there (.here)))) (.cons (.there (.there (.there (.here)))) .nil)))) rfl (fun od1 _ => ?_)
    refine An'.on0 .nil .nil rfl ?_
    refine An'.allG [4, 6] (by decide +kernel) (by simp) (fun i hi => ?_)
    simp only [List.mem_cons, List.not_mem_nil, or_false] at hi
    rcases hi with rfl | rfl
    · refine ⟨_, rfl, rfl, ?_⟩
      refine gv (g_str (l := digest 32 first256 (lA)) by_23 str_9 rfl (digest_length (by decide)) (RdA.own .here rd_app)) rfl rfl ?_
      refine An'.on0 .nil .nil rfl ?_
      refine An'.oneG 6 (by decide +kernel) rfl rfl ?_
      refine o_call Tryd.func21 rfl rfl rfl (.cons (.there (.there (.there (.here)))) (.cons (.there (.there (.there (.here)))) .nil)) (fun w hw hA => sum_spec b2 32 (by decide) (by decide) first256 rfl lA z5 hz5 w hA (Gl.ofOld hG hw (.cons (.there (.there (.there (.here)))) (.cons (.there (.there (.there (.here)))) .nil)))) rfl (fun od2 _ => ?_)
      refine An'.on0 .nil .nil rfl ?_
      refine An'.oneG 7 (by decide +kernel) rfl rfl ?_
      refine gv (g_str (l := digest 32 first256 (lA)) by_23 str_9 rfl (digest_length (by decide)) (RdA.own .here rd_app)) rfl rfl ?_
      refine An'.on0 .nil .nil rfl ?_
      refine An'.q 8 [] rfl (by decide +kernel) rfl rfl (g_eqST rfl rfl (rfl)) rfl ?_
      refine An'.q 9 [] rfl (by decide +kernel) rfl rfl (g_pickT rfl rfl) rfl ?_
      refine An'.q 10 [] rfl (by decide +kernel) rfl rfl (g_move rfl) rfl ?_
      refine An'.q 11 [] rfl (by decide +kernel) rfl rfl (g_move rfl) rfl ?_
      refine An'.q 13 [] rfl (by decide +kernel) rfl rfl (g_move rfl) rfl ?_
      refine An'.oneG 12 (by decide +kernel) rfl rfl ?_
      refine o_callP Tryd.func22 rfl rfl rfl (fun w hw => len_spec b1 32 (by decide) first256 lA y1 w (RdC.ofBlk hw (.there (.there (.there (.there (.here))))) rfl)) rfl ?_
      refine An'.on0 .nil .nil rfl ?_
      refine An'.oneG 14 (by decide +kernel) rfl rfl ?_
      refine o_callP Tryd.func22 rfl rfl rfl (fun w hw => len_spec b2 32 (by decide) first256 lA z5 w (RdC.ofBlk hw (.there (.here)) rfl)) rfl ?_
      refine An'.on0 .nil .nil rfl ?_
      refine An'.q 15 [] rfl (by decide +kernel) rfl rfl (g_T rfl rfl rfl (rfl)) rfl ?_
      refine An'.q 16 [] rfl (by decide +kernel) rfl rfl (g_pickT rfl rfl) rfl ?_
      refine An'.q 17 [] rfl (by decide +kernel) rfl rfl (g_assign rfl) rfl ?_
      refine An'.fin (by decide +kernel) ?_
      refine th_n ?_
      refine ret ?_
      exact ret1 rfl rfl rfl (fun w2 hw2 => ⟨rfl, hw2.clear⟩)
    · refine ⟨_, rfl, rfl, ?_⟩
      refine o_call Tryd.func21 rfl rfl rfl (.cons (.there (.there (.there (.here)))) (.cons (.there (.there (.there (.here)))) .nil)) (fun w hw hA => sum_spec b2 32 (by decide) (by decide) first256 rfl lA z5 hz5 w hA (Gl.ofOld hG hw (.cons (.there (.there (.there (.here)))) (.cons (.there (.there (.there (.here)))) .nil)))) rfl (fun od2 _ => ?_)
      refine An'.on0 .nil .nil rfl ?_
      refine An'.allG [4, 7] (by decide +kernel) (by simp) (fun i hi => ?_)
      simp only [List.mem_cons, List.not_mem_nil, or_false] at hi
      rcases hi with rfl | rfl
      · refine ⟨_, rfl, rfl, ?_⟩
        refine gv (g_str (l := digest 32 first256 (lA)) by_23 str_9 rfl (digest_length (by decide)) (RdA.own (.there (.there (.there (.here)))) rd_app)) rfl rfl ?_
        refine An'.on0 .nil .nil rfl ?_
        refine An'.oneG 7 (by decide +kernel) rfl rfl ?_
        refine gv (g_str (l := digest 32 first256 (lA)) by_23 str_9 rfl (digest_length (by decide)) (RdA.own .here rd_app)) rfl rfl ?_
        refine An'.on0 .nil .nil rfl ?_
        refine An'.q 8 [] rfl (by decide +kernel) rfl rfl (g_eqST rfl rfl (rfl)) rfl ?_
        refine An'.q 9 [] rfl (by decide +kernel) rfl rfl (g_pickT rfl rfl) rfl ?_
        refine An'.q 10 [] rfl (by decide +kernel) rfl rfl (g_move rfl) rfl ?_
        refine An'.q 11 [] rfl (by decide +kernel) rfl rfl (g_move rfl) rfl ?_
        refine An'.q 13 [] rfl (by decide +kernel) rfl rfl (g_move rfl) rfl ?_
        refine An'.oneG 12 (by decide +kernel) rfl rfl ?_
        refine o_callP Tryd.func22 rfl rfl rfl (fun w hw => len_spec b1 32 (by decide) first256 lA y1 w (RdC.ofBlk hw (.there (.there (.there (.there (.here))))) rfl)) rfl ?_
        refine An'.on0 .nil .nil rfl ?_
        refine An'.oneG 14 (by decide +kernel) rfl rfl ?_
        refine o_callP Tryd.func22 rfl rfl rfl (fun w hw => len_spec b2 32 (by decide) first256 lA z5 w (RdC.ofBlk hw (.there (.here)) rfl)) rfl ?_
        refine An'.on0 .nil .nil rfl ?_
        refine An'.q 15 [] rfl (by decide +kernel) rfl rfl (g_T rfl rfl rfl (rfl)) rfl ?_
        refine An'.q 16 [] rfl (by decide +kernel) rfl rfl (g_pickT rfl rfl) rfl ?_
        refine An'.q 17 [] rfl (by decide +kernel) rfl rfl (g_assign rfl) rfl ?_
        refine An'.fin (by decide +kernel) ?_
        refine th_n ?_
        refine ret ?_
        exact ret1 rfl rfl rfl (fun w2 hw2 => ⟨rfl, hw2.clear⟩)
      · refine ⟨_, rfl, rfl, ?_⟩
        refine gv (g_str (l := digest 32 first256 (lA)) by_23 str_9 rfl (digest_length (by decide)) (RdA.own .here rd_app)) rfl rfl ?_
        refine An'.on0 .nil .nil rfl ?_
        refine An'.oneG 4 (by decide +kernel) rfl rfl ?_
        refine gv (g_str (l := digest 32 first256 (lA)) by_23 str_9 rfl (digest_length (by decide)) (RdA.own (.there (.there (.there (.here)))) rd_app)) rfl rfl ?_
        refine An'.on0 .nil .nil rfl ?_
        refine An'.q 8 [] rfl (by decide +kernel) rfl rfl (g_eqST rfl rfl (rfl)) rfl ?_
        refine An'.q 9 [] rfl (by decide +kernel) rfl rfl (g_pickT rfl rfl) rfl ?_
        refine An'.q 10 [] rfl (by decide +kernel) rfl rfl (g_move rfl) rfl ?_
        refine An'.q 11 [] rfl (by decide +kernel) rfl rfl (g_move rfl) rfl ?_
        refine An'.q 13 [] rfl (by decide +kernel) rfl rfl (g_move rfl) rfl ?_
        refine An'.oneG 12 (by decide +kernel) rfl rfl ?_
        refine o_callP Tryd.func22 rfl rfl rfl (fun w hw => len_spec b1 32 (by decide) first256 lA y1 w (RdC.ofBlk hw (.there (.there (.there (.there (.here))))) rfl)) rfl ?_
        refine An'.on0 .nil .nil rfl ?_
        refine An'.oneG 14 (by decide +kernel) rfl rfl ?_
        refine o_callP Tryd.func22 rfl rfl rfl (fun w hw => len_spec b2 32 (by decide) first256 lA z5 w (RdC.ofBlk hw (.there (.here)) rfl)) rfl ?_
        refine An'.on0 .nil .nil rfl ?_
        refine An'.q 15 [] rfl (by decide +kernel) rfl rfl (g_T rfl rfl rfl (rfl)) rfl ?_
        refine An'.q 16 [] rfl (by decide +kernel) rfl rfl (g_pickT rfl rfl) rfl ?_
        refine An'.q 17 [] rfl (by decide +kernel) rfl rfl (g_assign rfl) rfl ?_
        refine An'.fin (by decide +kernel) ?_
        refine th_n ?_
        refine ret ?_
        exact ret1 rfl rfl rfl (fun w2 hw2 => ⟨rfl, hw2.clear⟩)

theorem f9_224 (pA : Option Addr) (nA cA : Nat) (lA : List UInt8) (hlA : lA.length = nA) (hpA : pA = none → cA = 0) (hcA : nA ≤ cA) (pl : Nat) (hpl : pl < 65536) (w : World) (hrA : RdC w pA (lA.map B8)) (hG : Gl w []) : Calls Tryd.prog 9 [.bool false, .slice pA nA cA, .int .u16 (pl : Nat)].toArray w (fun en w2 => en = .returned (.bool true) ∧ Sat w [] [] w2) := by
  obtain ⟨k, hk⟩ : ∃ k, k = pl % (nA + 1) := ⟨_, rfl⟩
  have hk2 : k ≤ nA := by have := Nat.mod_lt pl (show 0 < nA + 1 by omega); omega
  have hk3 : (pl : Int) % ((nA : Int) + 1) = (k : Int) := by rw [hk]; simp
  refine enter (n := 71) Tryd.func9 rfl rfl rfl (Sat.refl w) ?_
  refine seq ?_
  refine region ?_
  refine st (g_assign rfl) rfl ?_
  refine done ?_
  refine th_n ?_
  refine seq ?_
  refine region ?_
  refine sq rfl (o_callP Tryd.func24 rfl rfl rfl (fun w hw => f24_spec w (Gl.ofOld (A := []) hG hw .nil)) rfl ?_)
  refine st (g_assign rfl) rfl ?_
  refine done ?_
  refine th_n ?_
  refine seq ?_
  refine seq ?_
  refine region ?_
  refine st (g_move rfl) rfl ?_
  refine st (g_len el_23 rfl) rfl ?_
  refine sp (g_bin rfl rfl rfl) rfl (fun h14 => ?_) (fun h14 => ?_)
  · refine st (g_move rfl) rfl ?_
    refine gf rfl rfl ?_
    refine gf rfl rfl ?_
    refine st (g_pickT rfl rfl) rfl ?_
    refine done ?_
    refine th_n ?_
    refine condT rfl ?_
    refine seq ?_
    refine region ?_
    refine st (g_move rfl) rfl ?_
    refine st (g_assign rfl) rfl ?_
    refine done ?_
    refine th_n ?_
    refine ret ?_
    refine th_r ?_
    exact ret1 rfl rfl rfl (fun w2 hw2 => ⟨rfl, hw2.clear⟩)
  · refine st (g_move rfl) rfl ?_
    refine gt rfl ?_
    refine st (g_move rfl) rfl ?_
    refine gt rfl ?_
    refine st (g_not rfl) rfl ?_
    refine st (g_pickF rfl rfl) rfl ?_
    refine done ?_
    refine th_n ?_
    refine condF rfl ?_
    refine skip ?_
    refine th_n ?_
    refine seq ?_
    refine region ?_
    refine st (g_move rfl) rfl ?_
    refine st (g_move rfl) rfl ?_
    refine sq rfl (o_call Tryd.func26 rfl rfl rfl .nil (fun w hw hA => f26_224 pA nA cA lA hlA hpA hcA (by omega) none 0 0 [] rfl (by decide) false w (RdS.c (S := []) (RdS.ofOld (A := []) hrA.s hw .nil)) (fun j u h => by simp at h) (Gl.ofOld (A := []) hG hw .nil)) rfl (fun ⟨b1, y1⟩ hy1 => ?_))
    refine st (g_assign rfl) rfl ?_
    refine done ?_
    refine th_n ?_
    refine seq ?_
    refine region ?_
    refine st (g_move rfl) rfl ?_
    refine sq rfl (o_call Tryd.func26 rfl rfl rfl .nil (fun w hw hA => f26_224 none 0 0 [] rfl (fun _ => rfl) (Nat.le_refl _) (by decide) none 0 0 [] rfl (by decide) false w (fun j u h => by simp at h) (fun j u h => by simp at h) (Gl.ofOld (A := []) hG hw .nil)) rfl (fun ⟨b2, y2⟩ hy2 => ?_))
    refine st (g_assign rfl) rfl ?_
    refine done ?_
    refine th_n ?_
    refine seq ?_
    refine seq ?_
    refine region ?_
    refine st (g_move rfl) rfl ?_
    refine st (g_eqNil pt_29 rfl rfl) rfl ?_
    refine st (g_move rfl) rfl ?_
    refine gt rfl ?_
    refine st (g_move rfl) rfl ?_
    refine gt rfl ?_
    refine st (g_eqNil pt_29 rfl rfl) rfl ?_
    refine st (g_pickF rfl rfl) rfl ?_
    refine done ?_
    refine th_n ?_
    refine condF rfl ?_
    refine skip ?_
    refine th_n ?_
    refine seq ?_
    refine region ?_
    refine st (g_move rfl) rfl ?_
    refine st (g_toI it_86 it_3 rfl rfl (by omega) (by omega)) rfl ?_
    refine st (g_move rfl) rfl ?_
    refine st (g_len el_23 rfl) rfl ?_
    refine st (g_iadd rfl rfl rfl (by omega) (by omega)) rfl ?_
    refine st (g_irem (c := (k : Int)) rfl rfl (by omega) (by omega) hk3) rfl ?_
    refine st (g_assign rfl) rfl ?_
    refine done ?_
    refine th_n ?_
    refine seq ?_
    refine region ?_
    refine st (g_move rfl) rfl ?_
    refine sq rfl (o_call Tryd.func20 rfl rfl rfl (.cons .here (.cons .here .nil)) (fun w hw hA => write_spec b2 28 (by decide) first224 rfl [] y2 hy2 none 0 0 [] rfl (fun _ => rfl) (Nat.le_refl _) (by omega) w hA RdS.nil (Gl.ofOld hG hw (.cons .here (.cons .here .nil)))) rfl (fun z1 hz1 => ?_))
    refine done ?_
    refine th_n ?_
    refine seq ?_
    refine region ?_
    refine st (g_move rfl) rfl ?_
    refine st (g_move rfl) rfl ?_
    refine st (g_move rfl) rfl ?_
    refine st (g_slice (l := 0) (h := (k : Int)) (m := (cA : Int)) (p' := pA) (n' := k) (c' := cA) el_23 rfl rfl rfl rfl (by simp) (by decide) (by omega) (by omega) (by omega) (adv_zero _ _ _) (by omega) (by omega)) rfl ?_
    refine sq rfl (o_call Tryd.func20 rfl rfl rfl (.cons .here (.cons .here .nil)) (fun w hw hA => write_spec b2 28 (by decide) first224 rfl _ z1 hz1 pA k cA (lA.take k) (by rw [List.length_take]; omega) hpA (by omega) (by omega) w hA (RdS.ofOld (by have h0 := hrA.s.take k; rw [← List.map_take] at h0; exact h0) hw (.cons .here (.cons .here .nil))) (Gl.ofOld hG hw (.cons .here (.cons .here .nil)))) rfl (fun z2 hz2 => ?_))
    refine done ?_
    refine th_n ?_
    refine seq ?_
    refine region ?_
    refine st (g_move rfl) rfl ?_
    refine sq rfl (o_buildSlice0 un_23 sz_5 rfl (fun b45 => ?_))
    refine sq rfl (o_call Tryd.func20 rfl rfl rfl (.cons (.there (.here)) (.cons (.there (.here)) .nil)) (fun w hw hA => write_spec b2 28 (by decide) first224 rfl _ z2 hz2 (some ⟨b45, 0, none⟩) 0 0 [] rfl (fun _ => rfl) (Nat.le_refl _) (by omega) w hA RdS.nil (Gl.ofOld hG hw (.cons (.there (.here)) (.cons (.there (.here)) .nil)))) rfl (fun z3 hz3 => ?_))
    refine done ?_
    refine th_n ?_
    refine seq ?_
    refine region ?_
    refine st (g_move rfl) rfl ?_
    refine st (g_move rfl) rfl ?_
    refine st (g_move rfl) rfl ?_
    refine st (g_slice (l := (k : Int)) (h := (nA : Int)) (m := (cA : Int)) (p' := adv pA cA k 1) (n' := nA - k) (c' := cA - k) el_23 rfl rfl rfl rfl (by simp) (by omega) (by omega) (by omega) (by omega) rfl (by omega) (by omega)) rfl ?_
    refine sq rfl (o_call Tryd.func20 rfl rfl rfl (.cons .here (.cons .here .nil)) (fun w hw hA => write_spec b2 28 (by decide) first224 rfl _ z3 hz3 (adv pA cA k 1) (nA - k) (cA - k) (lA.drop k) (by rw [List.length_drop]; omega) (fun h => by have := hpA (adv_none h); omega) (by omega) (by omega) w hA (RdS.ofOld (by have h0 := hrA.s.adv (c := cA) (k := k) (s := 1) (fun he => by rw [List.length_map]; omega); rw [Nat.mul_one, ← List.map_drop] at h0; exact h0) hw (.cons .here (.cons .here .nil))) (Gl.ofOld hG hw (.cons .here (.cons .here .nil)))) rfl (fun z4 hz4 => ?_))
    refine done ?_
    refine th_n ?_
    refine seq ?_
    refine region ?_
    refine st (g_move rfl) rfl ?_
    refine sq rfl (o_call Tryd.func20 rfl rfl rfl (.cons .here (.cons .here .nil)) (fun w hw hA => write_spec b2 28 (by decide) first224 rfl _ z4 hz4 none 0 0 [] rfl (fun _ => rfl) (Nat.le_refl _) (by omega) w hA RdS.nil (Gl.ofOld hG hw (.cons .here (.cons .here .nil)))) rfl (fun z5 hz5 => ?_))
    have hcat : [] ++ [] ++ lA.take k ++ [] ++ lA.drop k ++ [] = lA := by simp
    rw [hcat]
    rw [hcat] at hz5
    refine done ?_
    refine th_n ?_
    refine seq ?_
    refine regionL ⟨[], [], []⟩ mixed (by decide +kernel) .nil .nil ?_
    refine An'.q 0 [] rfl (by decide +kernel) rfl rfl (g_move rfl) rfl ?_
    refine An'.q 1 [] rfl (by decide +kernel) rfl rfl (g_move rfl) rfl ?_
    refine An'.q 2 [] rfl (by decide +kernel) rfl rfl (g_move rfl) rfl ?_
    refine An'.q 5 [] rfl (by decide +kernel) rfl rfl (g_move rfl) rfl ?_
    refine An'.oneG 3 (by decide +kernel) rfl rfl ?_
    refine o_call Tryd.func21 rfl rfl rfl (.cons (.there (.there (.there (.here)))) (.cons (.there (.there (.there (.here)))) .nil)) (fun w hw hA => sum_spec b1 28 (by decide) (by decide) first224 rfl lA y1 hy1 w hA (Gl.ofOld hG hw (.cons (.there (.there (.there (.here)))) (.cons (.there (.there (.there (.here)))) .nil)))) rfl (fun od1 _ => ?_)
    refine An'.on0 .nil .nil rfl ?_
    refine An'.allG [4, 6] (by decide +kernel) (by simp) (fun i hi => ?_)
    simp only [List.mem_cons, List.not_mem_nil, or_false] at hi
    rcases hi with rfl | rfl
    · refine ⟨_, rfl, rfl, ?_⟩
      refine gv (g_str (l := digest 28 first224 (lA)) by_23 str_9 rfl (digest_length (by decide)) (RdA.own .here rd_app)) rfl rfl ?_
      refine An'.on0 .nil .nil rfl ?_
      refine An'.oneG 6 (by decide +kernel) rfl rfl ?_
      refine o_call Tryd.func21 rfl rfl rfl (.cons (.there (.there (.there (.here)))) (.cons (.there (.there (.there (.here)))) .nil)) (fun w hw hA => sum_spec b2 28 (by decide) (by decide) first224 rfl lA z5 hz5 w hA (Gl.ofOld hG hw (.cons (.there (.there (.there (.here)))) (.cons (.there (.there (.there (.here)))) .nil)))) rfl (fun od2 _ => ?_)
      refine An'.on0 .nil .nil rfl ?_
      refine An'.oneG 7 (by decide +kernel) rfl rfl ?_
      refine gv (g_str (l := digest 28 first224 (lA)) by_23 str_9 rfl (digest_length (by decide)) (RdA.own .here rd_app)) rfl rfl ?_
      refine An'.on0 .nil .nil rfl ?_
      refine An'.q 8 [] rfl (by decide +kernel) rfl rfl (g_eqST rfl rfl (rfl)) rfl ?_
      refine An'.q 9 [] rfl (by decide +kernel) rfl rfl (g_pickT rfl rfl) rfl ?_
      refine An'.q 10 [] rfl (by decide +kernel) rfl rfl (g_move rfl) rfl ?_
      refine An'.q 11 [] rfl (by decide +kernel) rfl rfl (g_move rfl) rfl ?_
      refine An'.q 13 [] rfl (by decide +kernel) rfl rfl (g_move rfl) rfl ?_
      refine An'.oneG 12 (by decide +kernel) rfl rfl ?_
      refine o_callP Tryd.func22 rfl rfl rfl (fun w hw => len_spec b1 28 (by decide) first224 lA y1 w (RdC.ofBlk hw (.there (.there (.there (.there (.here))))) rfl)) rfl ?_
      refine An'.on0 .nil .nil rfl ?_
      refine An'.oneG 14 (by decide +kernel) rfl rfl ?_
      refine o_callP Tryd.func22 rfl rfl rfl (fun w hw => len_spec b2 28 (by decide) first224 lA z5 w (RdC.ofBlk hw (.there (.here)) rfl)) rfl ?_
      refine An'.on0 .nil .nil rfl ?_
      refine An'.q 15 [] rfl (by decide +kernel) rfl rfl (g_T rfl rfl rfl (rfl)) rfl ?_
      refine An'.q 16 [] rfl (by decide +kernel) rfl rfl (g_pickT rfl rfl) rfl ?_
      refine An'.q 17 [] rfl (by decide +kernel) rfl rfl (g_assign rfl) rfl ?_
      refine An'.fin (by decide +kernel) ?_
      refine th_n ?_
      refine ret ?_
      exact ret1 rfl rfl rfl (fun w2 hw2 => ⟨rfl, hw2.clear⟩)
    · refine ⟨_, rfl, rfl, ?_⟩
      refine o_call Tryd.func21 rfl rfl rfl (.cons (.there (.there (.there (.here)))) (.cons (.there (.there (.there (.here)))) .nil)) (fun w hw hA => sum_spec b2 28 (by decide) (by decide) first224 rfl lA z5 hz5 w hA (Gl.ofOld hG hw (.cons (.there (.there (.there (.here)))) (.cons (.there (.there (.there (.here)))) .nil)))) rfl (fun od2 _ => ?_)
      refine An'.on0 .nil .nil rfl ?_
      refine An'.allG [4, 7] (by decide +kernel) (by simp) (fun i hi => ?_)
      simp only [List.mem_cons, List.not_mem_nil, or_false] at hi
      rcases hi with rfl | rfl
      · refine ⟨_, rfl, rfl, ?_⟩
        refine gv (g_str (l := digest 28 first224 (lA)) by_23 str_9 rfl (digest_length (by decide)) (RdA.own (.there (.there (.there (.here)))) rd_app)) rfl rfl ?_
        refine An'.on0 .nil .nil rfl ?_
        refine An'.oneG 7 (by decide +kernel) rfl rfl ?_
        refine gv (g_str (l := digest 28 first224 (lA)) by_23 str_9 rfl (digest_length (by decide)) (RdA.own .here rd_app)) rfl rfl ?_
        refine An'.on0 .nil .nil rfl ?_
        refine An'.q 8 [] rfl (by decide +kernel) rfl rfl (g_eqST rfl rfl (rfl)) rfl ?_
        refine An'.q 9 [] rfl (by decide +kernel) rfl rfl (g_pickT rfl rfl) rfl ?_
        refine An'.q 10 [] rfl (by decide +kernel) rfl rfl (g_move rfl) rfl ?_
        refine An'.q 11 [] rfl (by decide +kernel) rfl rfl (g_move rfl) rfl ?_
        refine An'.q 13 [] rfl (by decide +kernel) rfl rfl (g_move rfl) rfl ?_
        refine An'.oneG 12 (by decide +kernel) rfl rfl ?_
        refine o_callP Tryd.func22 rfl rfl rfl (fun w hw => len_spec b1 28 (by decide) first224 lA y1 w (RdC.ofBlk hw (.there (.there (.there (.there (.here))))) rfl)) rfl ?_
        refine An'.on0 .nil .nil rfl ?_
        refine An'.oneG 14 (by decide +kernel) rfl rfl ?_
        refine o_callP Tryd.func22 rfl rfl rfl (fun w hw => len_spec b2 28 (by decide) first224 lA z5 w (RdC.ofBlk hw (.there (.here)) rfl)) rfl ?_
        refine An'.on0 .nil .nil rfl ?_
        refine An'.q 15 [] rfl (by decide +kernel) rfl rfl (g_T rfl rfl rfl (rfl)) rfl ?_
        refine An'.q 16 [] rfl (by decide +kernel) rfl rfl (g_pickT rfl rfl) rfl ?_
        refine An'.q 17 [] rfl (by decide +kernel) rfl rfl (g_assign rfl) rfl ?_
        refine An'.fin (by decide +kernel) ?_
        refine th_n ?_
        refine ret ?_
        exact ret1 rfl rfl rfl (fun w2 hw2 => ⟨rfl, hw2.clear⟩)
      · refine ⟨_, rfl, rfl, ?_⟩
        refine gv (g_str (l := digest 28 first224 (lA)) by_23 str_9 rfl (digest_length (by decide)) (RdA.own .here rd_app)) rfl rfl ?_
        refine An'.on0 .nil .nil rfl ?_
        refine An'.oneG 4 (by decide +kernel) rfl rfl ?_
        refine gv (g_str (l := digest 28 first224 (lA)) by_23 str_9 rfl (digest_length (by decide)) (RdA.own (.there (.there (.there (.here)))) rd_app)) rfl rfl ?_
        refine An'.on0 .nil .nil rfl ?_
        refine An'.q 8 [] rfl (by decide +kernel) rfl rfl (g_eqST rfl rfl (rfl)) rfl ?_
        refine An'.q 9 [] rfl (by decide +kernel) rfl rfl (g_pickT rfl rfl) rfl ?_
        refine An'.q 10 [] rfl (by decide +kernel) rfl rfl (g_move rfl) rfl ?_
        refine An'.q 11 [] rfl (by decide +kernel) rfl rfl (g_move rfl) rfl ?_
        refine An'.q 13 [] rfl (by decide +kernel) rfl rfl (g_move rfl) rfl ?_
        refine An'.oneG 12 (by decide +kernel) rfl rfl ?_
        refine o_callP Tryd.func22 rfl rfl rfl (fun w hw => len_spec b1 28 (by decide) first224 lA y1 w (RdC.ofBlk hw (.there (.there (.there (.there (.here))))) rfl)) rfl ?_
        refine An'.on0 .nil .nil rfl ?_
        refine An'.oneG 14 (by decide +kernel) rfl rfl ?_
        refine o_callP Tryd.func22 rfl rfl rfl (fun w hw => len_spec b2 28 (by decide) first224 lA z5 w (RdC.ofBlk hw (.there (.here)) rfl)) rfl ?_
        refine An'.on0 .nil .nil rfl ?_
        refine An'.q 15 [] rfl (by decide +kernel) rfl rfl (g_T rfl rfl rfl (rfl)) rfl ?_
        refine An'.q 16 [] rfl (by decide +kernel) rfl rfl (g_pickT rfl rfl) rfl ?_
        refine An'.q 17 [] rfl (by decide +kernel) rfl rfl (g_assign rfl) rfl ?_
        refine An'.fin (by decide +kernel) ?_
        refine th_n ?_
        refine ret ?_
        exact ret1 rfl rfl rfl (fun w2 hw2 => ⟨rfl, hw2.clear⟩)
end Go.Proofs.YtokhediaibdkjaaDoor
