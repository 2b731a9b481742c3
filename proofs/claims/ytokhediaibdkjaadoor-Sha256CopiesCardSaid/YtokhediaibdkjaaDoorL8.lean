/- The walk of Sha256Copies. (printed by gen1.py) -/
import Derived.Test.YtokhediaibdkjaaDoorE13
import Derived.Test.YtokhediaibdkjaaDoorL5
namespace Go.Proofs.YtokhediaibdkjaaDoor
open Go.Pm Go.RowKit
set_option maxRecDepth 100000
theorem f8_256 (pA : Option Addr) (nA cA : Nat) (lA : List UInt8) (hlA : lA.length = nA) (hpA : pA = none → cA = 0) (hcA : nA ≤ cA) (pB : Option Addr) (nB cB : Nat) (lB : List UInt8) (hlB : lB.length = nB) (hpB : pB = none → cB = 0) (hcB : nB ≤ cB) (pC : Option Addr) (nC cC : Nat) (lC : List UInt8) (hlC : lC.length = nC) (hpC : pC = none → cC = 0) (hcC : nC ≤ cC) (w : World) (hrA : RdC w pA (lA.map B8)) (hrB : RdC w pB (lB.map B8)) (hrC : RdC w pC (lC.map B8)) (hG : Gl w []) : Calls Tryd.prog 8 [.bool true, .slice pA nA cA, .slice pB nB cB, .slice pC nC cC].toArray w (fun en w2 => en = .returned (.bool true) ∧ Sat w [] [] w2) := by
  refine enter (n := 109) Tryd.func8 rfl rfl rfl (Sat.refl w) ?_
  refine seq ?_
  refine region ?_
  refine st (g_assign rfl) rfl ?_
  refine done ?_
  refine th_n ?_
  refine seq ?_
  refine region ?_
  refine sq rfl (o_callP Tryd.func24 rfl rfl rfl (fun w hw => f24_spec w (Gl.ofOld (A := []) hG hw .nil)) rfl ?_)
  refine st (g_assign rfl) rfl ?_
  refine done ?_
  refine th_n ?_
  refine seq ?_
  refine seq ?_
  refine region ?_
  refine st (g_move rfl) rfl ?_
  refine st (g_len el_23 rfl) rfl ?_
  refine sp (g_bin rfl rfl rfl) rfl (fun h21 => ?_) (fun h21 => ?_)
  · refine st (g_move rfl) rfl ?_
    refine gf rfl rfl ?_
    refine gf rfl rfl ?_
    refine gf rfl rfl ?_
    refine st (g_pickT rfl rfl) rfl ?_
    refine st (g_move rfl) rfl ?_
    refine gf rfl rfl ?_
    refine gf rfl rfl ?_
    refine gf rfl rfl ?_
    refine st (g_pickT rfl rfl) rfl ?_
    refine st (g_move rfl) rfl ?_
    refine gf rfl rfl ?_
    refine gf rfl rfl ?_
    refine st (g_pickT rfl rfl) rfl ?_
    refine done ?_
    refine th_n ?_
    refine condT rfl ?_
    refine seq ?_
    refine region ?_
    refine st (g_move rfl) rfl ?_
    refine st (g_assign rfl) rfl ?_
    refine done ?_
    refine th_n ?_
    refine ret ?_
    refine th_r ?_
    exact ret1 rfl rfl rfl (fun w2 hw2 => ⟨rfl, hw2.clear⟩)
  · refine st (g_move rfl) rfl ?_
    refine gt rfl ?_
    refine st (g_move rfl) rfl ?_
    refine gt rfl ?_
    refine st (g_len el_23 rfl) rfl ?_
    refine gt rfl ?_
    refine sp (g_bin rfl rfl rfl) rfl (fun h25 => ?_) (fun h25 => ?_)
    · refine st (g_pickF rfl rfl) rfl ?_
      refine st (g_move rfl) rfl ?_
      refine gf rfl rfl ?_
      refine gf rfl rfl ?_
      refine gf rfl rfl ?_
      refine st (g_pickT rfl rfl) rfl ?_
      refine st (g_move rfl) rfl ?_
      refine gf rfl rfl ?_
      refine gf rfl rfl ?_
      refine st (g_pickT rfl rfl) rfl ?_
      refine done ?_
      refine th_n ?_
      refine condT rfl ?_
      refine seq ?_
      refine region ?_
      refine st (g_move rfl) rfl ?_
      refine st (g_assign rfl) rfl ?_
      refine done ?_
      refine th_n ?_
      refine ret ?_
      refine th_r ?_
      exact ret1 rfl rfl rfl (fun w2 hw2 => ⟨rfl, hw2.clear⟩)
    · refine st (g_pickF rfl rfl) rfl ?_
      refine st (g_move rfl) rfl ?_
      refine gt rfl ?_
      refine st (g_move rfl) rfl ?_
      refine gt rfl ?_
      refine st (g_len el_23 rfl) rfl ?_
      refine gt rfl ?_
      refine sp (g_bin rfl rfl rfl) rfl (fun h30 => ?_) (fun h30 => ?_)
      · refine st (g_pickF rfl rfl) rfl ?_
        refine st (g_move rfl) rfl ?_
        refine gf rfl rfl ?_
        refine gf rfl rfl ?_
        refine st (g_pickT rfl rfl) rfl ?_
        refine done ?_
        refine th_n ?_
        refine condT rfl ?_
        refine seq ?_
        refine region ?_
        refine st (g_move rfl) rfl ?_
        refine st (g_assign rfl) rfl ?_
        refine done ?_
        refine th_n ?_
        refine ret ?_
        refine th_r ?_
        exact ret1 rfl rfl rfl (fun w2 hw2 => ⟨rfl, hw2.clear⟩)
      · refine st (g_pickF rfl rfl) rfl ?_
        refine st (g_move rfl) rfl ?_
        refine gt rfl ?_
        refine st (g_move rfl) rfl ?_
        refine gt rfl ?_
        refine st (g_not rfl) rfl ?_
        refine st (g_pickF rfl rfl) rfl ?_
        refine done ?_
        refine th_n ?_
        refine condF rfl ?_
        refine skip ?_
        refine th_n ?_
        refine seq ?_
        refine region ?_
        refine st (g_move rfl) rfl ?_
        refine st (g_move rfl) rfl ?_
        refine sq rfl (o_call Tryd.func26 rfl rfl rfl .nil (fun w hw hA => f26_256 pA nA cA lA hlA hpA hcA (by omega) none 0 0 [] rfl (by decide) false w (RdS.c (S := []) (RdS.ofOld (A := []) hrA.s hw .nil)) (fun j u h => by simp at h) (Gl.ofOld (A := []) hG hw .nil)) rfl (fun ⟨b1, y1⟩ hy1 => ?_))
        refine st (g_assign rfl) rfl ?_
        refine done ?_
        refine th_n ?_
        refine seq ?_
        refine seq ?_
        refine region ?_
        refine st (g_move rfl) rfl ?_
        refine st (g_eqNil pt_29 rfl rfl) rfl ?_
        refine done ?_
        refine th_n ?_
        refine condF rfl ?_
        refine skip ?_
        refine th_n ?_
        refine seq ?_
        refine region ?_
        refine st (g_move rfl) rfl ?_
        refine sq rfl (o_call Tryd.func25 rfl rfl rfl (.cons .here (.cons .here .nil)) (fun w hw hA => copy_spec b1 32 (by decide) first256 lA y1 hy1 w hA) rfl (fun ⟨b2, y2⟩ hy2 => ?_))
        refine st (g_assign rfl) rfl ?_
        refine done ?_
        refine th_n ?_
        refine seq ?_
        refine region ?_
        refine st (g_move rfl) rfl ?_
        refine st (g_move rfl) rfl ?_
        refine sq rfl (o_call Tryd.func20 rfl rfl rfl (.cons (.there (.there (.here))) (.cons (.there (.there (.here))) .nil)) (fun w hw hA => write_spec b1 32 (by decide) first256 rfl lA y1 hy1 pB nB cB lB hlB hpB hcB (by omega) w hA (RdS.ofOld hrB.s hw (.cons (.there (.there (.here))) (.cons (.there (.there (.here))) .nil))) (Gl.ofOld hG hw (.cons (.there (.there (.here))) (.cons (.there (.there (.here))) .nil)))) rfl (fun z1 hz1 => ?_))
        refine done ?_
        refine th_n ?_
        refine seq ?_
        refine region ?_
        refine st (g_move rfl) rfl ?_
        refine st (g_move rfl) rfl ?_
        refine sq rfl (o_call Tryd.func20 rfl rfl rfl (.cons (.there (.there (.here))) (.cons (.there (.there (.here))) .nil)) (fun w hw hA => write_spec b2 32 (by decide) first256 rfl lA y2 hy2 pC nC cC lC hlC hpC hcC (by omega) w hA (RdS.ofOld hrC.s hw (.cons (.there (.there (.here))) (.cons (.there (.there (.here))) .nil))) (Gl.ofOld hG hw (.cons (.there (.there (.here))) (.cons (.there (.there (.here))) .nil)))) rfl (fun z2 hz2 => ?_))
        refine done ?_
        refine th_n ?_
        refine seq ?_
        refine region ?_
        refine sq rfl (o_buildSlice0 un_23 sz_5 rfl (fun b50 => ?_))
        refine st (g_move rfl) rfl ?_
        refine sq rfl (o_append (n := 0) (m := nA) (news := lA.map B8) un_23 zr_5 sz_5 rfl bt_5 (by decide) rfl rfl .here (by simp [hlA]) (RdA.of hrA.s) oneB8 hpA (by simp only [maxLen]; omega) (by omega) rfl (fun q1 cap1 hq1 hc1 hq01 => ?_))
        refine st (g_move rfl) rfl ?_
        refine sq rfl (o_append (n := 0 + nA) (m := nB) (news := lB.map B8) un_23 zr_5 sz_5 rfl bt_5 (by decide) rfl rfl .here (by simp [hlB]) (RdA.of hrB.s) oneB8 hpB (by simp only [maxLen]; omega) (by omega) rfl (fun q2 cap2 hq2 hc2 hq02 => ?_))
        refine st (g_assign rfl) rfl ?_
        refine done ?_
        refine th_n ?_
        refine seq ?_
        refine region ?_
        refine sq rfl (o_buildSlice0 un_23 sz_5 rfl (fun b55 => ?_))
        refine st (g_move rfl) rfl ?_
        refine sq rfl (o_append (n := 0) (m := nA) (news := lA.map B8) un_23 zr_5 sz_5 rfl bt_5 (by decide) rfl rfl .here (by simp [hlA]) (RdA.of hrA.s) oneB8 hpA (by simp only [maxLen]; omega) (by omega) rfl (fun q3 cap3 hq3 hc3 hq03 => ?_))
        refine st (g_move rfl) rfl ?_
        refine sq rfl (o_append (n := 0 + nA) (m := nC) (news := lC.map B8) un_23 zr_5 sz_5 rfl bt_5 (by decide) rfl rfl .here (by simp [hlC]) (RdA.of hrC.s) oneB8 hpC (by simp only [maxLen]; omega) (by omega) rfl (fun q4 cap4 hq4 hc4 hq04 => ?_))
        refine st (g_assign rfl) rfl ?_
        refine done ?_
        refine th_n ?_
        refine seq ?_
        refine region ?_
        refine st (g_move rfl) rfl ?_
        refine st (g_move rfl) rfl ?_
        refine sq rfl (o_call Tryd.func26 rfl rfl rfl .nil (fun w hw hA => f26_256 q2 (0 + nA + nB) cap2 (lA ++ lB) (by simp only [List.length_append]; omega) hq02 (by omega) (by omega) none 0 0 [] rfl (by decide) false w (by have h := RdC.ofVec (hw.get (.there (.here))); rw [List.nil_append, ← List.map_append] at h; exact h) (fun j u h => by simp at h) (Gl.ofOld (A := []) hG hw .nil)) rfl (fun ⟨b3, y3⟩ hy3 => ?_))
        refine st (g_move rfl) rfl ?_
        refine st (g_move rfl) rfl ?_
        refine sq rfl (o_call Tryd.func26 rfl rfl rfl .nil (fun w hw hA => f26_256 q4 (0 + nA + nC) cap4 (lA ++ lC) (by simp only [List.length_append]; omega) hq04 (by omega) (by omega) none 0 0 [] rfl (by decide) false w (by have h := RdC.ofVec (hw.get (.there (.there (.here)))); rw [List.nil_append, ← List.map_append] at h; exact h) (fun j u h => by simp at h) (Gl.ofOld (A := []) hG hw .nil)) rfl (fun ⟨b4, y4⟩ hy4 => ?_))
        refine st (g_assign rfl) rfl ?_
        refine st (g_assign rfl) rfl ?_
        refine done ?_
        refine th_n ?_
        refine seq ?_
        refine seq ?_
        refine region ?_
        refine st (g_move rfl) rfl ?_
        refine st (g_eqNil pt_29 rfl rfl) rfl ?_
        refine st (g_move rfl) rfl ?_
        refine gt rfl ?_
        refine st (g_move rfl) rfl ?_
        refine gt rfl ?_
        refine st (g_eqNil pt_29 rfl rfl) rfl ?_
        refine st (g_pickF rfl rfl) rfl ?_
        refine done ?_
        refine th_n ?_
        refine condF rfl ?_
        refine skip ?_
        refine th_n ?_
        refine seq ?_
        refine region ?_
        refine st (g_move rfl) rfl ?_
        refine sq rfl (o_call Tryd.func21 rfl rfl rfl (.cons (.there (.there (.there (.there (.there (.there (.there (.there (.here))))))))) (.cons (.there (.there (.there (.there (.there (.there (.there (.there (.here))))))))) .nil)) (fun w hw hA => sum_spec b1 32 (by decide) (by decide) first256 rfl (lA ++ lB) z1 hz1 w hA (Gl.ofOld hG hw (.cons (.there (.there (.there (.there (.there (.there (.there (.there (.here))))))))) (.cons (.there (.there (.there (.there (.there (.there (.there (.there (.here))))))))) .nil)))) rfl (fun od1 _ => ?_))
        refine st (g_move rfl) rfl ?_
        refine sq rfl (o_call Tryd.func21 rfl rfl rfl (.cons (.there (.here)) (.cons (.there (.here)) .nil)) (fun w hw hA => sum_spec b1 32 (by decide) (by decide) first256 rfl (lA ++ lB) z1 hz1 w hA (Gl.ofOld hG hw (.cons (.there (.here)) (.cons (.there (.here)) .nil)))) rfl (fun od2 _ => ?_))
        refine st (g_assign rfl) rfl ?_
        refine st (g_assign rfl) rfl ?_
        refine done ?_
        refine th_n ?_
        refine seq ?_
        refine regionL ⟨[_, _], [], []⟩ mixed (by decide +kernel) (.cons (.there (.there (.there (.here)))) (.cons .here .nil)) .nil ?_
        refine An'.q 0 [] rfl (by decide +kernel) rfl rfl (g_move rfl) rfl ?_
        refine An'.q 1 [] rfl (by decide +kernel) rfl rfl (g_move rfl) rfl ?_
        refine An'.q 2 [] rfl (by decide +kernel) rfl rfl (g_move rfl) rfl ?_
        refine An'.q 3 [] rfl (by decide +kernel) rfl rfl (g_str (l := digest 32 first256 (lA ++ lB)) by_23 str_9 rfl (digest_length (by decide)) (RdA.own .here rd_app)) rfl ?_
        refine An'.q 4 [] rfl (by decide +kernel) rfl rfl (g_move rfl) rfl ?_
        refine An'.oneG 5 (by decide +kernel) rfl rfl ?_
        refine o_call Tryd.func21 rfl rfl rfl (.cons (.there (.there (.there (.there (.there (.there (.here))))))) (.cons (.there (.there (.there (.there (.there (.there (.here))))))) .nil)) (fun w hw hA => sum_spec b3 32 (by decide) (by decide) first256 rfl (lA ++ lB) y3 hy3 w hA (Gl.ofOld hG hw (.cons (.there (.there (.there (.there (.there (.there (.here))))))) (.cons (.there (.there (.there (.there (.there (.there (.here))))))) .nil)))) rfl (fun od3 _ => ?_)
        refine An'.on0 (.cons (.there (.there (.there (.there (.there (.there (.here))))))) (.cons (.there (.there (.there (.here)))) .nil)) .nil rfl ?_
        refine An'.oneG 6 (by decide +kernel) rfl rfl ?_
        refine gv (g_str (l := digest 32 first256 (lA ++ lB)) by_23 str_9 rfl (digest_length (by decide)) (RdA.own .here rd_app)) rfl rfl ?_
        refine An'.on0 (.cons (.there (.there (.there (.there (.there (.there (.here))))))) (.cons (.there (.there (.there (.here)))) .nil)) .nil rfl ?_
        refine An'.q 7 [] rfl (by decide +kernel) rfl rfl (g_eqST rfl rfl (rfl)) rfl ?_
        refine An'.q 8 [] rfl (by decide +kernel) rfl rfl (g_pickT rfl rfl) rfl ?_
        refine An'.q 9 [] rfl (by decide +kernel) rfl rfl (g_move rfl) rfl ?_
        refine An'.q 10 [] rfl (by decide +kernel) rfl rfl (g_move rfl) rfl ?_
        refine An'.q 11 [] rfl (by decide +kernel) rfl rfl (g_str (l := digest 32 first256 (lA ++ lB)) by_23 str_9 rfl (digest_length (by decide)) (RdA.own (.there (.here)) rd_app)) rfl ?_
        refine An'.q 12 [] rfl (by decide +kernel) rfl rfl (g_move rfl) rfl ?_
        refine An'.q 13 [] rfl (by decide +kernel) rfl rfl (g_str (l := digest 32 first256 (lA ++ lB)) by_23 str_9 rfl (digest_length (by decide)) (RdA.own .here rd_app)) rfl ?_
        refine An'.q 14 [] rfl (by decide +kernel) rfl rfl (g_eqST rfl rfl (rfl)) rfl ?_
        refine An'.q 15 [] rfl (by decide +kernel) rfl rfl (g_pickT rfl rfl) rfl ?_
        refine An'.q 16 [] rfl (by decide +kernel) rfl rfl (g_move rfl) rfl ?_
        refine An'.q 17 [] rfl (by decide +kernel) rfl rfl (g_move rfl) rfl ?_
        refine An'.q 20 [] rfl (by decide +kernel) rfl rfl (g_move rfl) rfl ?_
        refine An'.oneG 18 (by decide +kernel) rfl rfl ?_
        refine o_call Tryd.func21 rfl rfl rfl (.cons (.there (.there (.there (.there (.there (.there (.there (.there (.there (.there (.there (.here)))))))))))) (.cons (.there (.there (.there (.there (.there (.there (.there (.there (.there (.there (.there (.here)))))))))))) .nil)) (fun w hw hA => sum_spec b2 32 (by decide) (by decide) first256 rfl (lA ++ lC) z2 hz2 w hA (Gl.ofOld hG hw (.cons (.there (.there (.there (.there (.there (.there (.there (.there (.there (.there (.there (.here)))))))))))) (.cons (.there (.there (.there (.there (.there (.there (.there (.there (.there (.there (.there (.here)))))))))))) .nil)))) rfl (fun od4 _ => ?_)
        refine An'.on0 (.cons (.there (.there (.there (.there (.there (.there (.there (.there (.there (.here)))))))))) (.cons (.there (.there (.there (.there (.there (.there (.here))))))) .nil)) .nil rfl ?_
        refine An'.allG [19, 21] (by decide +kernel) (by simp) (fun i hi => ?_)
        simp only [List.mem_cons, List.not_mem_nil, or_false] at hi
        rcases hi with rfl | rfl
        · refine ⟨_, rfl, rfl, ?_⟩
          refine gv (g_str (l := digest 32 first256 (lA ++ lC)) by_23 str_9 rfl (digest_length (by decide)) (RdA.own .here rd_app)) rfl rfl ?_
          refine An'.on0 (.cons (.there (.there (.there (.there (.there (.there (.there (.there (.there (.here)))))))))) (.cons (.there (.there (.there (.there (.there (.there (.here))))))) .nil)) .nil rfl ?_
          refine An'.oneG 21 (by decide +kernel) rfl rfl ?_
          refine o_call Tryd.func21 rfl rfl rfl (.cons (.there (.there (.there (.there (.there (.there (.there (.there (.there (.there (.here))))))))))) (.cons (.there (.there (.there (.there (.there (.there (.there (.there (.there (.there (.here))))))))))) .nil)) (fun w hw hA => sum_spec b4 32 (by decide) (by decide) first256 rfl (lA ++ lC) y4 hy4 w hA (Gl.ofOld hG hw (.cons (.there (.there (.there (.there (.there (.there (.there (.there (.there (.there (.here))))))))))) (.cons (.there (.there (.there (.there (.there (.there (.there (.there (.there (.there (.here))))))))))) .nil)))) rfl (fun od5 _ => ?_)
          refine An'.on0 (.cons (.there (.there (.there (.there (.there (.there (.there (.there (.there (.there (.there (.there (.here))))))))))))) (.cons (.there (.there (.there (.there (.there (.there (.there (.there (.there (.here)))))))))) .nil)) .nil rfl ?_
          refine An'.oneG 22 (by decide +kernel) rfl rfl ?_
          refine gv (g_str (l := digest 32 first256 (lA ++ lC)) by_23 str_9 rfl (digest_length (by decide)) (RdA.own .here rd_app)) rfl rfl ?_
          refine An'.on0 (.cons (.there (.there (.there (.there (.there (.there (.there (.there (.there (.there (.there (.there (.here))))))))))))) (.cons (.there (.there (.there (.there (.there (.there (.there (.there (.there (.here)))))))))) .nil)) .nil rfl ?_
          refine An'.q 23 [] rfl (by decide +kernel) rfl rfl (g_eqST rfl rfl (rfl)) rfl ?_
          refine An'.q 24 [] rfl (by decide +kernel) rfl rfl (g_pickT rfl rfl) rfl ?_
          refine An'.q 25 [] rfl (by decide +kernel) rfl rfl (g_move rfl) rfl ?_
          refine An'.q 26 [] rfl (by decide +kernel) rfl rfl (g_move rfl) rfl ?_
          refine An'.q 28 [] rfl (by decide +kernel) rfl rfl (g_move rfl) rfl ?_
          refine An'.q 29 [] rfl (by decide +kernel) rfl rfl (g_len el_23 rfl) rfl ?_
          refine An'.q 30 [] rfl (by decide +kernel) rfl rfl (g_to64 it_3 it_34 rfl rfl) rfl ?_
          refine An'.oneG 27 (by decide +kernel) rfl rfl ?_
          refine o_callP Tryd.func22 rfl rfl rfl (fun w hw => len_spec b2 32 (by decide) first256 (lA ++ lC) z2 w (RdC.ofBlk hw (.there (.there (.there (.there (.here))))) rfl)) rfl ?_
          refine An'.on0 (.cons (.there (.there (.there (.there (.there (.there (.there (.there (.there (.there (.there (.there (.here))))))))))))) (.cons (.there (.there (.there (.there (.there (.there (.there (.there (.there (.here)))))))))) .nil)) .nil rfl ?_
          refine An'.q 31 [] rfl (by decide +kernel) rfl rfl (g_T rfl rfl rfl (by rw [List.length_append, hlA, hlC, Nat.zero_add])) rfl ?_
          refine An'.q 32 [] rfl (by decide +kernel) rfl rfl (g_pickT rfl rfl) rfl ?_
          refine An'.q 33 [] rfl (by decide +kernel) rfl rfl (g_assign rfl) rfl ?_
          refine An'.fin (by decide +kernel) ?_
          refine th_n ?_
          refine ret ?_
          exact ret1 rfl rfl rfl (fun w2 hw2 => ⟨rfl, hw2.clear⟩)
        · refine ⟨_, rfl, rfl, ?_⟩
          refine o_call Tryd.func21 rfl rfl rfl (.cons (.there (.there (.there (.there (.there (.there (.there (.there (.there (.there (.here))))))))))) (.cons (.there (.there (.there (.there (.there (.there (.there (.there (.there (.there (.here))))))))))) .nil)) (fun w hw hA => sum_spec b4 32 (by decide) (by decide) first256 rfl (lA ++ lC) y4 hy4 w hA (Gl.ofOld hG hw (.cons (.there (.there (.there (.there (.there (.there (.there (.there (.there (.there (.here))))))))))) (.cons (.there (.there (.there (.there (.there (.there (.there (.there (.there (.there (.here))))))))))) .nil)))) rfl (fun od5 _ => ?_)
          refine An'.on0 (.cons (.there (.there (.there (.there (.there (.there (.there (.there (.there (.there (.there (.there (.here))))))))))))) (.cons (.there (.there (.there (.there (.there (.there (.there (.there (.there (.here)))))))))) .nil)) .nil rfl ?_
          refine An'.allG [19, 22] (by decide +kernel) (by simp) (fun i hi => ?_)
          simp only [List.mem_cons, List.not_mem_nil, or_false] at hi
          rcases hi with rfl | rfl
          · refine ⟨_, rfl, rfl, ?_⟩
            refine gv (g_str (l := digest 32 first256 (lA ++ lC)) by_23 str_9 rfl (digest_length (by decide)) (RdA.own (.there (.there (.there (.here)))) rd_app)) rfl rfl ?_
            refine An'.on0 (.cons (.there (.there (.there (.there (.there (.there (.there (.there (.there (.there (.there (.there (.here))))))))))))) (.cons (.there (.there (.there (.there (.there (.there (.there (.there (.there (.here)))))))))) .nil)) .nil rfl ?_
            refine An'.oneG 22 (by decide +kernel) rfl rfl ?_
            refine gv (g_str (l := digest 32 first256 (lA ++ lC)) by_23 str_9 rfl (digest_length (by decide)) (RdA.own .here rd_app)) rfl rfl ?_
            refine An'.on0 (.cons (.there (.there (.there (.there (.there (.there (.there (.there (.there (.there (.there (.there (.here))))))))))))) (.cons (.there (.there (.there (.there (.there (.there (.there (.there (.there (.here)))))))))) .nil)) .nil rfl ?_
            refine An'.q 23 [] rfl (by decide +kernel) rfl rfl (g_eqST rfl rfl (rfl)) rfl ?_
            refine An'.q 24 [] rfl (by decide +kernel) rfl rfl (g_pickT rfl rfl) rfl ?_
            refine An'.q 25 [] rfl (by decide +kernel) rfl rfl (g_move rfl) rfl ?_
            refine An'.q 26 [] rfl (by decide +kernel) rfl rfl (g_move rfl) rfl ?_
            refine An'.q 28 [] rfl (by decide +kernel) rfl rfl (g_move rfl) rfl ?_
            refine An'.q 29 [] rfl (by decide +kernel) rfl rfl (g_len el_23 rfl) rfl ?_
            refine An'.q 30 [] rfl (by decide +kernel) rfl rfl (g_to64 it_3 it_34 rfl rfl) rfl ?_
            refine An'.oneG 27 (by decide +kernel) rfl rfl ?_
            refine o_callP Tryd.func22 rfl rfl rfl (fun w hw => len_spec b2 32 (by decide) first256 (lA ++ lC) z2 w (RdC.ofBlk hw (.there (.there (.there (.there (.here))))) rfl)) rfl ?_
            refine An'.on0 (.cons (.there (.there (.there (.there (.there (.there (.there (.there (.there (.there (.there (.there (.here))))))))))))) (.cons (.there (.there (.there (.there (.there (.there (.there (.there (.there (.here)))))))))) .nil)) .nil rfl ?_
            refine An'.q 31 [] rfl (by decide +kernel) rfl rfl (g_T rfl rfl rfl (by rw [List.length_append, hlA, hlC, Nat.zero_add])) rfl ?_
            refine An'.q 32 [] rfl (by decide +kernel) rfl rfl (g_pickT rfl rfl) rfl ?_
            refine An'.q 33 [] rfl (by decide +kernel) rfl rfl (g_assign rfl) rfl ?_
            refine An'.fin (by decide +kernel) ?_
            refine th_n ?_
            refine ret ?_
            exact ret1 rfl rfl rfl (fun w2 hw2 => ⟨rfl, hw2.clear⟩)
          · refine ⟨_, rfl, rfl, ?_⟩
            refine gv (g_str (l := digest 32 first256 (lA ++ lC)) by_23 str_9 rfl (digest_length (by decide)) (RdA.own .here rd_app)) rfl rfl ?_
            refine An'.on0 (.cons (.there (.there (.there (.there (.there (.there (.there (.there (.there (.there (.there (.there (.here))))))))))))) (.cons (.there (.there (.there (.there (.there (.there (.there (.there (.there (.here)))))))))) .nil)) .nil rfl ?_
            refine An'.oneG 19 (by decide +kernel) rfl rfl ?_
            refine gv (g_str (l := digest 32 first256 (lA ++ lC)) by_23 str_9 rfl (digest_length (by decide)) (RdA.own (.there (.there (.there (.here)))) rd_app)) rfl rfl ?_
            refine An'.on0 (.cons (.there (.there (.there (.there (.there (.there (.there (.there (.there (.there (.there (.there (.here))))))))))))) (.cons (.there (.there (.there (.there (.there (.there (.there (.there (.there (.here)))))))))) .nil)) .nil rfl ?_
            refine An'.q 23 [] rfl (by decide +kernel) rfl rfl (g_eqST rfl rfl (rfl)) rfl ?_
            refine An'.q 24 [] rfl (by decide +kernel) rfl rfl (g_pickT rfl rfl) rfl ?_
            refine An'.q 25 [] rfl (by decide +kernel) rfl rfl (g_move rfl) rfl ?_
            refine An'.q 26 [] rfl (by decide +kernel) rfl rfl (g_move rfl) rfl ?_
            refine An'.q 28 [] rfl (by decide +kernel) rfl rfl (g_move rfl) rfl ?_
            refine An'.q 29 [] rfl (by decide +kernel) rfl rfl (g_len el_23 rfl) rfl ?_
            refine An'.q 30 [] rfl (by decide +kernel) rfl rfl (g_to64 it_3 it_34 rfl rfl) rfl ?_
            refine An'.oneG 27 (by decide +kernel) rfl rfl ?_
            refine o_callP Tryd.func22 rfl rfl rfl (fun w hw => len_spec b2 32 (by decide) first256 (lA ++ lC) z2 w (RdC.ofBlk hw (.there (.there (.there (.there (.here))))) rfl)) rfl ?_
            refine An'.on0 (.cons (.there (.there (.there (.there (.there (.there (.there (.there (.there (.there (.there (.there (.here))))))))))))) (.cons (.there (.there (.there (.there (.there (.there (.there (.there (.there (.here)))))))))) .nil)) .nil rfl ?_
            refine An'.q 31 [] rfl (by decide +kernel) rfl rfl (g_T rfl rfl rfl (by rw [List.length_append, hlA, hlC, Nat.zero_add])) rfl ?_
            refine An'.q 32 [] rfl (by decide +kernel) rfl rfl (g_pickT rfl rfl) rfl ?_
            refine An'.q 33 [] rfl (by decide +kernel) rfl rfl (g_assign rfl) rfl ?_
            refine An'.fin (by decide +kernel) ?_
            refine th_n ?_
            refine ret ?_
            exact ret1 rfl rfl rfl (fun w2 hw2 => ⟨rfl, hw2.clear⟩)

theorem f8_224 (pA : Option Addr) (nA cA : Nat) (lA : List UInt8) (hlA : lA.length = nA) (hpA : pA = none → cA = 0) (hcA : nA ≤ cA) (pB : Option Addr) (nB cB : Nat) (lB : List UInt8) (hlB : lB.length = nB) (hpB : pB = none → cB = 0) (hcB : nB ≤ cB) (pC : Option Addr) (nC cC : Nat) (lC : List UInt8) (hlC : lC.length = nC) (hpC : pC = none → cC = 0) (hcC : nC ≤ cC) (w : World) (hrA : RdC w pA (lA.map B8)) (hrB : RdC w pB (lB.map B8)) (hrC : RdC w pC (lC.map B8)) (hG : Gl w []) : Calls Tryd.prog 8 [.bool false, .slice pA nA cA, .slice pB nB cB, .slice pC nC cC].toArray w (fun en w2 => en = .returned (.bool true) ∧ Sat w [] [] w2) := by
  refine enter (n := 109) Tryd.func8 rfl rfl rfl (Sat.refl w) ?_
  refine seq ?_
  refine region ?_
  refine st (g_assign rfl) rfl ?_
  refine done ?_
  refine th_n ?_
  refine seq ?_
  refine region ?_
  refine sq rfl (o_callP Tryd.func24 rfl rfl rfl (fun w hw => f24_spec w (Gl.ofOld (A := []) hG hw .nil)) rfl ?_)
  refine st (g_assign rfl) rfl ?_
  refine done ?_
  refine th_n ?_
  refine seq ?_
  refine seq ?_
  refine region ?_
  refine st (g_move rfl) rfl ?_
  refine st (g_len el_23 rfl) rfl ?_
  refine sp (g_bin rfl rfl rfl) rfl (fun h21 => ?_) (fun h21 => ?_)
  · refine st (g_move rfl) rfl ?_
    refine gf rfl rfl ?_
    refine gf rfl rfl ?_
    refine gf rfl rfl ?_
    refine st (g_pickT rfl rfl) rfl ?_
    refine st (g_move rfl) rfl ?_
    refine gf rfl rfl ?_
    refine gf rfl rfl ?_
    refine gf rfl rfl ?_
    refine st (g_pickT rfl rfl) rfl ?_
    refine st (g_move rfl) rfl ?_
    refine gf rfl rfl ?_
    refine gf rfl rfl ?_
    refine st (g_pickT rfl rfl) rfl ?_
    refine done ?_
    refine th_n ?_
    refine condT rfl ?_
    refine seq ?_
    refine region ?_
    refine st (g_move rfl) rfl ?_
    refine st (g_assign rfl) rfl ?_
    refine done ?_
    refine th_n ?_
    refine ret ?_
    refine th_r ?_
    exact ret1 rfl rfl rfl (fun w2 hw2 => ⟨rfl, hw2.clear⟩)
  · refine st (g_move rfl) rfl ?_
    refine gt rfl ?_
    refine st (g_move rfl) rfl ?_
    refine gt rfl ?_
    refine st (g_len el_23 rfl) rfl ?_
    refine gt rfl ?_
    refine sp (g_bin rfl rfl rfl) rfl (fun h25 => ?_) (fun h25 => ?_)
    · refine st (g_pickF rfl rfl) rfl ?_
      refine st (g_move rfl) rfl ?_
      refine gf rfl rfl ?_
      refine gf rfl rfl ?_
      refine gf rfl rfl ?_
      refine st (g_pickT rfl rfl) rfl ?_
      refine st (g_move rfl) rfl ?_
      refine gf rfl rfl ?_
      refine gf rfl rfl ?_
      refine st (g_pickT rfl rfl) rfl ?_
      refine done ?_
      refine th_n ?_
      refine condT rfl ?_
      refine seq ?_
      refine region ?_
      refine st (g_move rfl) rfl ?_
      refine st (g_assign rfl) rfl ?_
      refine done ?_
      refine th_n ?_
      refine ret ?_
      refine th_r ?_
      exact ret1 rfl rfl rfl (fun w2 hw2 => ⟨rfl, hw2.clear⟩)
    · refine st (g_pickF rfl rfl) rfl ?_
      refine st (g_move rfl) rfl ?_
      refine gt rfl ?_
      refine st (g_move rfl) rfl ?_
      refine gt rfl ?_
      refine st (g_len el_23 rfl) rfl ?_
      refine gt rfl ?_
      refine sp (g_bin rfl rfl rfl) rfl (fun h30 => ?_) (fun h30 => ?_)
      · refine st (g_pickF rfl rfl) rfl ?_
        refine st (g_move rfl) rfl ?_
        refine gf rfl rfl ?_
        refine gf rfl rfl ?_
        refine st (g_pickT rfl rfl) rfl ?_
        refine done ?_
        refine th_n ?_
        refine condT rfl ?_
        refine seq ?_
        refine region ?_
        refine st (g_move rfl) rfl ?_
        refine st (g_assign rfl) rfl ?_
        refine done ?_
        refine th_n ?_
        refine ret ?_
        refine th_r ?_
        exact ret1 rfl rfl rfl (fun w2 hw2 => ⟨rfl, hw2.clear⟩)
      · refine st (g_pickF rfl rfl) rfl ?_
        refine st (g_move rfl) rfl ?_
        refine gt rfl ?_
        refine st (g_move rfl) rfl ?_
        refine gt rfl ?_
        refine st (g_not rfl) rfl ?_
        refine st (g_pickF rfl rfl) rfl ?_
        refine done ?_
        refine th_n ?_
        refine condF rfl ?_
        refine skip ?_
        refine th_n ?_
        refine seq ?_
        refine region ?_
        refine st (g_move rfl) rfl ?_
        refine st (g_move rfl) rfl ?_
        refine sq rfl (o_call Tryd.func26 rfl rfl rfl .nil (fun w hw hA => f26_224 pA nA cA lA hlA hpA hcA (by omega) none 0 0 [] rfl (by decide) false w (RdS.c (S := []) (RdS.ofOld (A := []) hrA.s hw .nil)) (fun j u h => by simp at h) (Gl.ofOld (A := []) hG hw .nil)) rfl (fun ⟨b1, y1⟩ hy1 => ?_))
        refine st (g_assign rfl) rfl ?_
        refine done ?_
        refine th_n ?_
        refine seq ?_
        refine seq ?_
        refine region ?_
        refine st (g_move rfl) rfl ?_
        refine st (g_eqNil pt_29 rfl rfl) rfl ?_
        refine done ?_
        refine th_n ?_
        refine condF rfl ?_
        refine skip ?_
        refine th_n ?_
        refine seq ?_
        refine region ?_
        refine st (g_move rfl) rfl ?_
        refine sq rfl (o_call Tryd.func25 rfl rfl rfl (.cons .here (.cons .here .nil)) (fun w hw hA => copy_spec b1 28 (by decide) first224 lA y1 hy1 w hA) rfl (fun ⟨b2, y2⟩ hy2 => ?_))
        refine st (g_assign rfl) rfl ?_
        refine done ?_
        refine th_n ?_
        refine seq ?_
        refine region ?_
        refine st (g_move rfl) rfl ?_
        refine st (g_move rfl) rfl ?_
        refine sq rfl (o_call Tryd.func20 rfl rfl rfl (.cons (.there (.there (.here))) (.cons (.there (.there (.here))) .nil)) (fun w hw hA => write_spec b1 28 (by decide) first224 rfl lA y1 hy1 pB nB cB lB hlB hpB hcB (by omega) w hA (RdS.ofOld hrB.s hw (.cons (.there (.there (.here))) (.cons (.there (.there (.here))) .nil))) (Gl.ofOld hG hw (.cons (.there (.there (.here))) (.cons (.there (.there (.here))) .nil)))) rfl (fun z1 hz1 => ?_))
        refine done ?_
        refine th_n ?_
        refine seq ?_
        refine region ?_
        refine st (g_move rfl) rfl ?_
        refine st (g_move rfl) rfl ?_
        refine sq rfl (o_call Tryd.func20 rfl rfl rfl (.cons (.there (.there (.here))) (.cons (.there (.there (.here))) .nil)) (fun w hw hA => write_spec b2 28 (by decide) first224 rfl lA y2 hy2 pC nC cC lC hlC hpC hcC (by omega) w hA (RdS.ofOld hrC.s hw (.cons (.there (.there (.here))) (.cons (.there (.there (.here))) .nil))) (Gl.ofOld hG hw (.cons (.there (.there (.here))) (.cons (.there (.there (.here))) .nil)))) rfl (fun z2 hz2 => ?_))
        refine done ?_
        refine th_n ?_
        refine seq ?_
        refine region ?_
        refine sq rfl (o_buildSlice0 un_23 sz_5 rfl (fun b50 => ?_))
        refine st (g_move rfl) rfl ?_
        refine sq rfl (o_append (n := 0) (m := nA) (news := lA.map B8) un_23 zr_5 sz_5 rfl bt_5 (by decide) rfl rfl .here (by simp [hlA]) (RdA.of hrA.s) oneB8 hpA (by simp only [maxLen]; omega) (by omega) rfl (fun q1 cap1 hq1 hc1 hq01 => ?_))
        refine st (g_move rfl) rfl ?_
        refine sq rfl (o_append (n := 0 + nA) (m := nB) (news := lB.map B8) un_23 zr_5 sz_5 rfl bt_5 (by decide) rfl rfl .here (by simp [hlB]) (RdA.of hrB.s) oneB8 hpB (by simp only [maxLen]; omega) (by omega) rfl (fun q2 cap2 hq2 hc2 hq02 => ?_))
        refine st (g_assign rfl) rfl ?_
        refine done ?_
        refine th_n ?_
        refine seq ?_
        refine region ?_
        refine sq rfl (o_buildSlice0 un_23 sz_5 rfl (fun b55 => ?_))
        refine st (g_move rfl) rfl ?_
        refine sq rfl (o_append (n := 0) (m := nA) (news := lA.map B8) un_23 zr_5 sz_5 rfl bt_5 (by decide) rfl rfl .here (by simp [hlA]) (RdA.of hrA.s) oneB8 hpA (by simp only [maxLen]; omega) (by omega) rfl (fun q3 cap3 hq3 hc3 hq03 => ?_))
        refine st (g_move rfl) rfl ?_
        refine sq rfl (o_append (n := 0 + nA) (m := nC) (news := lC.map B8) un_23 zr_5 sz_5 rfl bt_5 (by decide) rfl rfl .here (by simp [hlC]) (RdA.of hrC.s) oneB8 hpC (by simp only [maxLen]; omega) (by omega) rfl (fun q4 cap4 hq4 hc4 hq04 => ?_))
        refine st (g_assign rfl) rfl ?_
        refine done ?_
        refine th_n ?_
        refine seq ?_
        refine region ?_
        refine st (g_move rfl) rfl ?_
        refine st (g_move rfl) rfl ?_
        refine sq rfl (o_call Tryd.func26 rfl rfl rfl .nil (fun w hw hA => f26_224 q2 (0 + nA + nB) cap2 (lA ++ lB) (by simp only [List.length_append]; omega) hq02 (by omega) (by omega) none 0 0 [] rfl (by decide) false w (by have h := RdC.ofVec (hw.get (.there (.here))); rw [List.nil_append, ← List.map_append] at h; exact h) (fun j u h => by simp at h) (Gl.ofOld (A := []) hG hw .nil)) rfl (fun ⟨b3, y3⟩ hy3 => ?_))
        refine st (g_move rfl) rfl ?_
        refine st (g_move rfl) rfl ?_
        refine sq rfl (o_call Tryd.func26 rfl rfl rfl .nil (fun w hw hA => f26_224 q4 (0 + nA + nC) cap4 (lA ++ lC) (by simp only [List.length_append]; omega) hq04 (by omega) (by omega) none 0 0 [] rfl (by decide) false w (by have h := RdC.ofVec (hw.get (.there (.there (.here)))); rw [List.nil_append, ← List.map_append] at h; exact h) (fun j u h => by simp at h) (Gl.ofOld (A := []) hG hw .nil)) rfl (fun ⟨b4, y4⟩ hy4 => ?_))
        refine st (g_assign rfl) rfl ?_
        refine st (g_assign rfl) rfl ?_
        refine done ?_
        refine th_n ?_
        refine seq ?_
        refine seq ?_
        refine region ?_
        refine st (g_move rfl) rfl ?_
        refine st (g_eqNil pt_29 rfl rfl) rfl ?_
        refine st (g_move rfl) rfl ?_
        refine gt rfl ?_
        refine st (g_move rfl) rfl ?_
        refine gt rfl ?_
        refine st (g_eqNil pt_29 rfl rfl) rfl ?_
        refine st (g_pickF rfl rfl) rfl ?_
        refine done ?_
        refine th_n ?_
        refine condF rfl ?_
        refine skip ?_
        refine th_n ?_
        refine seq ?_
        refine region ?_
        refine st (g_move rfl) rfl ?_
        refine sq rfl (o_call Tryd.func21 rfl rfl rfl (.cons (.there (.there (.there (.there (.there (.there (.there (.there (.here))))))))) (.cons (.there (.there (.there (.there (.there (.there (.there (.there (.here))))))))) .nil)) (fun w hw hA => sum_spec b1 28 (by decide) (by decide) first224 rfl (lA ++ lB) z1 hz1 w hA (Gl.ofOld hG hw (.cons (.there (.there (.there (.there (.there (.there (.there (.there (.here))))))))) (.cons (.there (.there (.there (.there (.there (.there (.there (.there (.here))))))))) .nil)))) rfl (fun od1 _ => ?_))
        refine st (g_move rfl) rfl ?_
        refine sq rfl (o_call Tryd.func21 rfl rfl rfl (.cons (.there (.here)) (.cons (.there (.here)) .nil)) (fun w hw hA => sum_spec b1 28 (by decide) (by decide) first224 rfl (lA ++ lB) z1 hz1 w hA (Gl.ofOld hG hw (.cons (.there (.here)) (.cons (.there (.here)) .nil)))) rfl (fun od2 _ => ?_))
        refine st (g_assign rfl) rfl ?_
        refine st (g_assign rfl) rfl ?_
        refine done ?_
        refine th_n ?_
        refine seq ?_
        refine regionL ⟨[_, _], [], []⟩ mixed (by decide +kernel) (.cons (.there (.there (.there (.here)))) (.cons .here .nil)) .nil ?_
        refine An'.q 0 [] rfl (by decide +kernel) rfl rfl (g_move rfl) rfl ?_
        refine An'.q 1 [] rfl (by decide +kernel) rfl rfl (g_move rfl) rfl ?_
        refine An'.q 2 [] rfl (by decide +kernel) rfl rfl (g_move rfl) rfl ?_
        refine An'.q 3 [] rfl (by decide +kernel) rfl rfl (g_str (l := digest 28 first224 (lA ++ lB)) by_23 str_9 rfl (digest_length (by decide)) (RdA.own .here rd_app)) rfl ?_
        refine An'.q 4 [] rfl (by decide +kernel) rfl rfl (g_move rfl) rfl ?_
        refine An'.oneG 5 (by decide +kernel) rfl rfl ?_
        refine o_call Tryd.func21 rfl rfl rfl (.cons (.there (.there (.there (.there (.there (.there (.here))))))) (.cons (.there (.there (.there (.there (.there (.there (.here))))))) .nil)) (fun w hw hA => sum_spec b3 28 (by decide) (by decide) first224 rfl (lA ++ lB) y3 hy3 w hA (Gl.ofOld hG hw (.cons (.there (.there (.there (.there (.there (.there (.here))))))) (.cons (.there (.there (.there (.there (.there (.there (.here))))))) .nil)))) rfl (fun od3 _ => ?_)
        refine An'.on0 (.cons (.there (.there (.there (.there (.there (.there (.here))))))) (.cons (.there (.there (.there (.here)))) .nil)) .nil rfl ?_
        refine An'.oneG 6 (by decide +kernel) rfl rfl ?_
        refine gv (g_str (l := digest 28 first224 (lA ++ lB)) by_23 str_9 rfl (digest_length (by decide)) (RdA.own .here rd_app)) rfl rfl ?_
        refine An'.on0 (.cons (.there (.there (.there (.there (.there (.there (.here))))))) (.cons (.there (.there (.there (.here)))) .nil)) .nil rfl ?_
        refine An'.q 7 [] rfl (by decide +kernel) rfl rfl (g_eqST rfl rfl (rfl)) rfl ?_
        refine An'.q 8 [] rfl (by decide +kernel) rfl rfl (g_pickT rfl rfl) rfl ?_
        refine An'.q 9 [] rfl (by decide +kernel) rfl rfl (g_move rfl) rfl ?_
        refine An'.q 10 [] rfl (by decide +kernel) rfl rfl (g_move rfl) rfl ?_
        refine An'.q 11 [] rfl (by decide +kernel) rfl rfl (g_str (l := digest 28 first224 (lA ++ lB)) by_23 str_9 rfl (digest_length (by decide)) (RdA.own (.there (.here)) rd_app)) rfl ?_
        refine An'.q 12 [] rfl (by decide +kernel) rfl rfl (g_move rfl) rfl ?_
        refine An'.q 13 [] rfl (by decide +kernel) rfl rfl (g_str (l := digest 28 first224 (lA ++ lB)) by_23 str_9 rfl (digest_length (by decide)) (RdA.own .here rd_app)) rfl ?_
        refine An'.q 14 [] rfl (by decide +kernel) rfl rfl (g_eqST rfl rfl (rfl)) rfl ?_
        refine An'.q 15 [] rfl (by decide +kernel) rfl rfl (g_pickT rfl rfl) rfl ?_
        refine An'.q 16 [] rfl (by decide +kernel) rfl rfl (g_move rfl) rfl ?_
        refine An'.q 17 [] rfl (by decide +kernel) rfl rfl (g_move rfl) rfl ?_
        refine An'.q 20 [] rfl (by decide +kernel) rfl rfl (g_move rfl) rfl ?_
        refine An'.oneG 18 (by decide +kernel) rfl rfl ?_
        refine o_call Tryd.func21 rfl rfl rfl (.cons (.there (.there (.there (.there (.there (.there (.there (.there (.there (.there (.there (.here)))))))))))) (.cons (.there (.there (.there (.there (.there (.there (.there (.there (.there (.there (.there (.here)))))))))))) .nil)) (fun w hw hA => sum_spec b2 28 (by decide) (by decide) first224 rfl (lA ++ lC) z2 hz2 w hA (Gl.ofOld hG hw (.cons (.there (.there (.there (.there (.there (.there (.there (.there (.there (.there (.there (.here)))))))))))) (.cons (.there (.there (.there (.there (.there (.there (.there (.there (.there (.there (.there (.here)))))))))))) .nil)))) rfl (fun od4 _ => ?_)
        refine An'.on0 (.cons (.there (.there (.there (.there (.there (.there (.there (.there (.there (.here)))))))))) (.cons (.there (.there (.there (.there (.there (.there (.here))))))) .nil)) .nil rfl ?_
        refine An'.allG [19, 21] (by decide +kernel) (by simp) (fun i hi => ?_)
        simp only [List.mem_cons, List.not_mem_nil, or_false] at hi
        rcases hi with rfl | rfl
        · refine ⟨_, rfl, rfl, ?_⟩
          refine gv (g_str (l := digest 28 first224 (lA ++ lC)) by_23 str_9 rfl (digest_length (by decide)) (RdA.own .here rd_app)) rfl rfl ?_
          refine An'.on0 (.cons (.there (.there (.there (.there (.there (.there (.there (.there (.there (.here)))))))))) (.cons (.there (.there (.there (.there (.there (.there (.here))))))) .nil)) .nil rfl ?_
          refine An'.oneG 21 (by decide +kernel) rfl rfl ?_
          refine o_call Tryd.func21 rfl rfl rfl (.cons (.there (.there (.there (.there (.there (.there (.there (.there (.there (.there (.here))))))))))) (.cons (.there (.there (.there (.there (.there (.there (.there (.there (.there (.there (.here))))))))))) .nil)) (fun w hw hA => sum_spec b4 28 (by decide) (by decide) first224 rfl (lA ++ lC) y4 hy4 w hA (Gl.ofOld hG hw (.cons (.there (.there (.there (.there (.there (.there (.there (.there (.there (.there (.here))))))))))) (.cons (.there (.there (.there (.there (.there (.there (.there (.there (.there (.there (.here))))))))))) .nil)))) rfl (fun od5 _ => ?_)
          refine An'.on0 (.cons (.there (.there (.there (.there (.there (.there (.there (.there (.there (.there (.there (.there (.here))))))))))))) (.cons (.there (.there (.there (.there (.there (.there (.there (.there (.there (.here)))))))))) .nil)) .nil rfl ?_
          refine An'.oneG 22 (by decide +kernel) rfl rfl ?_
          refine gv (g_str (l := digest 28 first224 (lA ++ lC)) by_23 str_9 rfl (digest_length (by decide)) (RdA.own .here rd_app)) rfl rfl ?_
          refine An'.on0 (.cons (.there (.there (.there (.there (.there (.there (.there (.there (.there (.there (.there (.there (.here))))))))))))) (.cons (.there (.there (.there (.there (.there (.there (.there (.there (.there (.here)))))))))) .nil)) .nil rfl ?_
          refine An'.q 23 [] rfl (by decide +kernel) rfl rfl (g_eqST rfl rfl (rfl)) rfl ?_
          refine An'.q 24 [] rfl (by decide +kernel) rfl rfl (g_pickT rfl rfl) rfl ?_
          refine An'.q 25 [] rfl (by decide +kernel) rfl rfl (g_move rfl) rfl ?_
          refine An'.q 26 [] rfl (by decide +kernel) rfl rfl (g_move rfl) rfl ?_
          refine An'.q 28 [] rfl (by decide +kernel) rfl rfl (g_move rfl) rfl ?_
          refine An'.q 29 [] rfl (by decide +kernel) rfl rfl (g_len el_23 rfl) rfl ?_
          refine An'.q 30 [] rfl (by decide +kernel) rfl rfl (g_to64 it_3 it_34 rfl rfl) rfl ?_
          refine An'.oneG 27 (by decide +kernel) rfl rfl ?_
          refine o_callP Tryd.func22 rfl rfl rfl (fun w hw => len_spec b2 28 (by decide) first224 (lA ++ lC) z2 w (RdC.ofBlk hw (.there (.there (.there (.there (.here))))) rfl)) rfl ?_
          refine An'.on0 (.cons (.there (.there (.there (.there (.there (.there (.there (.there (.there (.there (.there (.there (.here))))))))))))) (.cons (.there (.there (.there (.there (.there (.there (.there (.there (.there (.here)))))))))) .nil)) .nil rfl ?_
          refine An'.q 31 [] rfl (by decide +kernel) rfl rfl (g_T rfl rfl rfl (by rw [List.length_append, hlA, hlC, Nat.zero_add])) rfl ?_
          refine An'.q 32 [] rfl (by decide +kernel) rfl rfl (g_pickT rfl rfl) rfl ?_
          refine An'.q 33 [] rfl (by decide +kernel) rfl rfl (g_assign rfl) rfl ?_
          refine An'.fin (by decide +kernel) ?_
          refine th_n ?_
          refine ret ?_
          exact ret1 rfl rfl rfl (fun w2 hw2 => ⟨rfl, hw2.clear⟩)
        · refine ⟨_, rfl, rfl, ?_⟩
          refine o_call Tryd.func21 rfl rfl rfl (.cons (.there (.there (.there (.there (.there (.there (.there (.there (.there (.there (.here))))))))))) (.cons (.there (.there (.there (.there (.there (.there (.there (.there (.there (.there (.here))))))))))) .nil)) (fun w hw hA => sum_spec b4 28 (by decide) (by decide) first224 rfl (lA ++ lC) y4 hy4 w hA (Gl.ofOld hG hw (.cons (.there (.there (.there (.there (.there (.there (.there (.there (.there (.there (.here))))))))))) (.cons (.there (.there (.there (.there (.there (.there (.there (.there (.there (.there (.here))))))))))) .nil)))) rfl (fun od5 _ => ?_)
          refine An'.on0 (.cons (.there (.there (.there (.there (.there (.there (.there (.there (.there (.there (.there (.there (.here))))))))))))) (.cons (.there (.there (.there (.there (.there (.there (.there (.there (.there (.here)))))))))) .nil)) .nil rfl ?_
          refine An'.allG [19, 22] (by decide +kernel) (by simp) (fun i hi => ?_)
          simp only [List.mem_cons, List.not_mem_nil, or_false] at hi
          rcases hi with rfl | rfl
          · refine ⟨_, rfl, rfl, ?_⟩
            refine gv (g_str (l := digest 28 first224 (lA ++ lC)) by_23 str_9 rfl (digest_length (by decide)) (RdA.own (.there (.there (.there (.here)))) rd_app)) rfl rfl ?_
            refine An'.on0 (.cons (.there (.there (.there (.there (.there (.there (.there (.there (.there (.there (.there (.there (.here))))))))))))) (.cons (.there (.there (.there (.there (.there (.there (.there (.there (.there (.here)))))))))) .nil)) .nil rfl ?_
            refine An'.oneG 22 (by decide +kernel) rfl rfl ?_
            refine gv (g_str (l := digest 28 first224 (lA ++ lC)) by_23 str_9 rfl (digest_length (by decide)) (RdA.own .here rd_app)) rfl rfl ?_
            refine An'.on0 (.cons (.there (.there (.there (.there (.there (.there (.there (.there (.there (.there (.there (.there (.here))))))))))))) (.cons (.there (.there (.there (.there (.there (.there (.there (.there (.there (.here)))))))))) .nil)) .nil rfl ?_
            refine An'.q 23 [] rfl (by decide +kernel) rfl rfl (g_eqST rfl rfl (rfl)) rfl ?_
            refine An'.q 24 [] rfl (by decide +kernel) rfl rfl (g_pickT rfl rfl) rfl ?_
            refine An'.q 25 [] rfl (by decide +kernel) rfl rfl (g_move rfl) rfl ?_
            refine An'.q 26 [] rfl (by decide +kernel) rfl rfl (g_move rfl) rfl ?_
            refine An'.q 28 [] rfl (by decide +kernel) rfl rfl (g_move rfl) rfl ?_
            refine An'.q 29 [] rfl (by decide +kernel) rfl rfl (g_len el_23 rfl) rfl ?_
            refine An'.q 30 [] rfl (by decide +kernel) rfl rfl (g_to64 it_3 it_34 rfl rfl) rfl ?_
            refine An'.oneG 27 (by decide +kernel) rfl rfl ?_
            refine o_callP Tryd.func22 rfl rfl rfl (fun w hw => len_spec b2 28 (by decide) first224 (lA ++ lC) z2 w (RdC.ofBlk hw (.there (.there (.there (.there (.here))))) rfl)) rfl ?_
            refine An'.on0 (.cons (.there (.there (.there (.there (.there (.there (.there (.there (.there (.there (.there (.there (.here))))))))))))) (.cons (.there (.there (.there (.there (.there (.there (.there (.there (.there (.here)))))))))) .nil)) .nil rfl ?_
            refine An'.q 31 [] rfl (by decide +kernel) rfl rfl (g_T rfl rfl rfl (by rw [List.length_append, hlA, hlC, Nat.zero_add])) rfl ?_
            refine An'.q 32 [] rfl (by decide +kernel) rfl rfl (g_pickT rfl rfl) rfl ?_
            refine An'.q 33 [] rfl (by decide +kernel) rfl rfl (g_assign rfl) rfl ?_
            refine An'.fin (by decide +kernel) ?_
            refine th_n ?_
            refine ret ?_
            exact ret1 rfl rfl rfl (fun w2 hw2 => ⟨rfl, hw2.clear⟩)
          · refine ⟨_, rfl, rfl, ?_⟩
            refine gv (g_str (l := digest 28 first224 (lA ++ lC)) by_23 str_9 rfl (digest_length (by decide)) (RdA.own .here rd_app)) rfl rfl ?_
            refine An'.on0 (.cons (.there (.there (.there (.there (.there (.there (.there (.there (.there (.there (.there (.there (.here))))))))))))) (.cons (.there (.there (.there (.there (.there (.there (.there (.there (.there (.here)))))))))) .nil)) .nil rfl ?_
            refine An'.oneG 19 (by decide +kernel) rfl rfl ?_
            refine gv (g_str (l := digest 28 first224 (lA ++ lC)) by_23 str_9 rfl (digest_length (by decide)) (RdA.own (.there (.there (.there (.here)))) rd_app)) rfl rfl ?_
            refine An'.on0 (.cons (.there (.there (.there (.there (.there (.there (.there (.there (.there (.there (.there (.there (.here))))))))))))) (.cons (.there (.there (.there (.there (.there (.there (.there (.there (.there (.here)))))))))) .nil)) .nil rfl ?_
            refine An'.q 23 [] rfl (by decide +kernel) rfl rfl (g_eqST rfl rfl (rfl)) rfl ?_
            refine An'.q 24 [] rfl (by decide +kernel) rfl rfl (g_pickT rfl rfl) rfl ?_
            refine An'.q 25 [] rfl (by decide +kernel) rfl rfl (g_move rfl) rfl ?_
            refine An'.q 26 [] rfl (by decide +kernel) rfl rfl (g_move rfl) rfl ?_
            refine An'.q 28 [] rfl (by decide +kernel) rfl rfl (g_move rfl) rfl ?_
            refine An'.q 29 [] rfl (by decide +kernel) rfl rfl (g_len el_23 rfl) rfl ?_
            refine An'.q 30 [] rfl (by decide +kernel) rfl rfl (g_to64 it_3 it_34 rfl rfl) rfl ?_
            refine An'.oneG 27 (by decide +kernel) rfl rfl ?_
            refine o_callP Tryd.func22 rfl rfl rfl (fun w hw => len_spec b2 28 (by decide) first224 (lA ++ lC) z2 w (RdC.ofBlk hw (.there (.there (.there (.there (.here))))) rfl)) rfl ?_
            refine An'.on0 (.cons (.there (.there (.there (.there (.there (.there (.there (.there (.there (.there (.there (.there (.here))))))))))))) (.cons (.there (.there (.there (.there (.there (.there (.there (.there (.there (.here)))))))))) .nil)) .nil rfl ?_
            refine An'.q 31 [] rfl (by decide +kernel) rfl rfl (g_T rfl rfl rfl (by rw [List.length_append, hlA, hlC, Nat.zero_add])) rfl ?_
            refine An'.q 32 [] rfl (by decide +kernel) rfl rfl (g_pickT rfl rfl) rfl ?_
            refine An'.q 33 [] rfl (by decide +kernel) rfl rfl (g_assign rfl) rfl ?_
            refine An'.fin (by decide +kernel) ?_
            refine th_n ?_
            refine ret ?_
            exact ret1 rfl rfl rfl (fun w2 hw2 => ⟨rfl, hw2.clear⟩)
end Go.Proofs.YtokhediaibdkjaaDoor
