/- The walk of Sha256Pieces. (printed by gen1.py) -/
import Derived.Test.YtokhediaibdkjaaDoorW12
namespace Go.Proofs.YtokhediaibdkjaaDoor
open Go.Pm Go.RowKit
set_option maxRecDepth 100000
theorem rd_app {l : List UInt8} {rest : List Value} : ∀ j v, (l.map B8)[j]? = some v → (l.map B8 ++ rest)[0 + j]? = some v := fun j v hj => by
  rw [Nat.zero_add, List.getElem?_append_left (List.getElem?_eq_some_iff.1 hj).1]; exact hj
theorem len_spec (b size : Nat) (hz : size ≠ 0) (fst : List (BitVec 32)) (all : List UInt8) (x : Option Addr × Nat) (w : World) (hc : RdC w (some ⟨b, 0, none⟩) (stCells size (shaH fst all) (slv (shaR all).length x) (BitVec.ofNat 64 all.length))) :
    Calls Tryd.prog 22 [.pointer (some ⟨b, 0, none⟩)].toArray w (fun en w2 => en = .returned (U64 (BitVec.ofNat 64 all.length)) ∧ Sat w [] [] w2) := f22_spec b size _ _ _ (by omega) w hc


theorem f5_256 (pA : Option Addr) (nA cA : Nat) (lA : List UInt8) (hlA : lA.length = nA) (hpA : pA = none → cA = 0) (hcA : nA ≤ cA) (pB : Option Addr) (nB cB : Nat) (lB : List UInt8) (hlB : lB.length = nB) (hpB : pB = none → cB = 0) (hcB : nB ≤ cB) (pC : Option Addr) (nC cC : Nat) (lC : List UInt8) (hlC : lC.length = nC) (hpC : pC = none → cC = 0) (hcC : nC ≤ cC) (w : World) (hrA : RdC w pA (lA.map B8)) (hrB : RdC w pB (lB.map B8)) (hrC : RdC w pC (lC.map B8)) (hG : Gl w []) : Calls Tryd.prog 5 [.bool true, .slice pA nA cA, .slice pB nB cB, .slice pC nC cC].toArray w (fun en w2 => en = .returned (.bool true) ∧ Sat w [] [] w2) := by
  refine enter (n := 102) Tryd.func5 rfl rfl rfl (Sat.refl w) ?_
  refine seq ?_
  refine region ?_
  refine st (g_assign rfl) rfl ?_
  refine done ?_
  refine th_n ?_
  refine seq ?_
  refine region ?_
  refine sq rfl (o_callP Tryd.func24 rfl rfl rfl (fun w hw => f24_spec w (Gl.ofOld (A := []) hG hw .nil)) rfl ?_)
  refine st (g_assign rfl) rfl ?_
  refine done ?_
  refine th_n ?_
  refine seq ?_
  refine seq ?_
  refine region ?_
  refine st (g_move rfl) rfl ?_
  refine st (g_len el_23 rfl) rfl ?_
  refine sp (g_bin rfl rfl rfl) rfl (fun h20 => ?_) (fun h20 => ?_)
  · refine st (g_move rfl) rfl ?_
    refine gf rfl rfl ?_
    refine gf rfl rfl ?_
    refine gf rfl rfl ?_
    refine st (g_pickT rfl rfl) rfl ?_
    refine st (g_move rfl) rfl ?_
    refine gf rfl rfl ?_
    refine gf rfl rfl ?_
    refine gf rfl rfl ?_
    refine st (g_pickT rfl rfl) rfl ?_
    refine st (g_move rfl) rfl ?_
    refine gf rfl rfl ?_
    refine gf rfl rfl ?_
    refine st (g_pickT rfl rfl) rfl ?_
    refine done ?_
    refine th_n ?_
    refine condT rfl ?_
    refine seq ?_
    refine region ?_
    refine st (g_move rfl) rfl ?_
    refine st (g_assign rfl) rfl ?_
    refine done ?_
    refine th_n ?_
    refine ret ?_
    refine th_r ?_
    exact ret1 rfl rfl rfl (fun w2 hw2 => ⟨rfl, hw2.clear⟩)
  · refine st (g_move rfl) rfl ?_
    refine gt rfl ?_
    refine st (g_move rfl) rfl ?_
    refine gt rfl ?_
    refine st (g_len el_23 rfl) rfl ?_
    refine gt rfl ?_
    refine sp (g_bin rfl rfl rfl) rfl (fun h24 => ?_) (fun h24 => ?_)
    · refine st (g_pickF rfl rfl) rfl ?_
      refine st (g_move rfl) rfl ?_
      refine gf rfl rfl ?_
      refine gf rfl rfl ?_
      refine gf rfl rfl ?_
      refine st (g_pickT rfl rfl) rfl ?_
      refine st (g_move rfl) rfl ?_
      refine gf rfl rfl ?_
      refine gf rfl rfl ?_
      refine st (g_pickT rfl rfl) rfl ?_
      refine done ?_
      refine th_n ?_
      refine condT rfl ?_
      refine seq ?_
      refine region ?_
      refine st (g_move rfl) rfl ?_
      refine st (g_assign rfl) rfl ?_
      refine done ?_
      refine th_n ?_
      refine ret ?_
      refine th_r ?_
      exact ret1 rfl rfl rfl (fun w2 hw2 => ⟨rfl, hw2.clear⟩)
    · refine st (g_pickF rfl rfl) rfl ?_
      refine st (g_move rfl) rfl ?_
      refine gt rfl ?_
      refine st (g_move rfl) rfl ?_
      refine gt rfl ?_
      refine st (g_len el_23 rfl) rfl ?_
      refine gt rfl ?_
      refine sp (g_bin rfl rfl rfl) rfl (fun h29 => ?_) (fun h29 => ?_)
      · refine st (g_pickF rfl rfl) rfl ?_
        refine st (g_move rfl) rfl ?_
        refine gf rfl rfl ?_
        refine gf rfl rfl ?_
        refine st (g_pickT rfl rfl) rfl ?_
        refine done ?_
        refine th_n ?_
        refine condT rfl ?_
        refine seq ?_
        refine region ?_
        refine st (g_move rfl) rfl ?_
        refine st (g_assign rfl) rfl ?_
        refine done ?_
        refine th_n ?_
        refine ret ?_
        refine th_r ?_
        exact ret1 rfl rfl rfl (fun w2 hw2 => ⟨rfl, hw2.clear⟩)
      · refine st (g_pickF rfl rfl) rfl ?_
        refine st (g_move rfl) rfl ?_
        refine gt rfl ?_
        refine st (g_move rfl) rfl ?_
        refine gt rfl ?_
        refine st (g_not rfl) rfl ?_
        refine st (g_pickF rfl rfl) rfl ?_
        refine done ?_
        refine th_n ?_
        refine condF rfl ?_
        refine skip ?_
        refine th_n ?_
        refine seq ?_
        refine region ?_
        refine st (g_move rfl) rfl ?_
        refine st (g_move rfl) rfl ?_
        refine st (g_move rfl) rfl ?_
        refine sq rfl (o_call Tryd.func26 rfl rfl rfl .nil (fun w hw hA => f26_256 pA nA cA lA hlA hpA hcA (by omega) pB nB cB lB hlB (by omega) true w (RdS.c (S := []) (RdS.ofOld (A := []) hrA.s hw .nil)) (RdS.c (S := []) (RdS.ofOld (A := []) hrB.s hw .nil)) (Gl.ofOld (A := []) hG hw .nil)) rfl (fun ⟨b1, y1⟩ hy1 => ?_))
        refine st (g_move rfl) rfl ?_
        refine st (g_move rfl) rfl ?_
        refine st (g_move rfl) rfl ?_
        refine sq rfl (o_call Tryd.func26 rfl rfl rfl .nil (fun w hw hA => f26_256 pA nA cA lA hlA hpA hcA (by omega) pC nC cC lC hlC (by omega) false w (RdS.c (S := []) (RdS.ofOld (A := []) hrA.s hw .nil)) (RdS.c (S := []) (RdS.ofOld (A := []) hrC.s hw .nil)) (Gl.ofOld (A := []) hG hw .nil)) rfl (fun ⟨b2, y2⟩ hy2 => ?_))
        refine st (g_assign rfl) rfl ?_
        refine st (g_assign rfl) rfl ?_
        refine done ?_
        refine th_n ?_
        refine seq ?_
        refine seq ?_
        refine region ?_
        refine st (g_move rfl) rfl ?_
        refine st (g_eqNil pt_29 rfl rfl) rfl ?_
        refine st (g_move rfl) rfl ?_
        refine gt rfl ?_
        refine st (g_move rfl) rfl ?_
        refine gt rfl ?_
        refine st (g_eqNil pt_29 rfl rfl) rfl ?_
        refine st (g_pickF rfl rfl) rfl ?_
        refine done ?_
        refine th_n ?_
        refine condF rfl ?_
        refine skip ?_
        refine th_n ?_
        refine seq ?_
        refine region ?_
        refine st (g_assign rfl) rfl ?_
        refine done ?_
        refine th_n ?_
        refine seq ?_
        refine seq ?_
        refine region ?_
        refine st (g_move rfl) rfl ?_
        refine done ?_
        refine th_n ?_
        refine condT rfl ?_
        refine region ?_
        refine st (g_assign rfl) rfl ?_
        refine done ?_
        refine th_n ?_
        refine seq ?_
        refine region ?_
        refine st (g_move rfl) rfl ?_
        refine st (g_move rfl) rfl ?_
        refine sq rfl (o_call Tryd.func17 rfl rfl rfl .nil (fun w hw hA => f17_spec 256 (.inr rfl) pA nA cA lA hlA hpA hcA (by omega) w (RdS.c (S := []) (RdS.ofOld (A := []) hrA.s hw .nil)) (Gl.ofOld (A := []) hG hw .nil)) rfl (fun og _ => ?_))
        refine st (g_move rfl) rfl ?_
        refine st (g_extract rfl rfl) rfl ?_
        refine st (g_extract rfl rfl) rfl ?_
        refine st (g_assign rfl) rfl ?_
        refine st (g_assign rfl) rfl ?_
        refine done ?_
        refine th_n ?_
        refine seq ?_
        refine region ?_
        refine st (g_move rfl) rfl ?_
        refine sq rfl (o_call Tryd.func21 rfl rfl rfl (.cons (.there (.there (.there (.here)))) (.cons (.there (.there (.there (.here)))) .nil)) (fun w hw hA => sum_spec b1 32 (by decide) (by decide) first256 rfl lA y1 hy1 w hA (Gl.ofOld hG hw (.cons (.there (.there (.there (.here)))) (.cons (.there (.there (.there (.here)))) .nil)))) rfl (fun od1 _ => ?_))
        refine st (g_move rfl) rfl ?_
        refine sq rfl (o_call Tryd.func21 rfl rfl rfl (.cons (.there (.there (.there (.there (.here))))) (.cons (.there (.there (.there (.there (.here))))) .nil)) (fun w hw hA => sum_spec b2 32 (by decide) (by decide) first256 rfl lA y2 hy2 w hA (Gl.ofOld hG hw (.cons (.there (.there (.there (.there (.here))))) (.cons (.there (.there (.there (.there (.here))))) .nil)))) rfl (fun od2 _ => ?_))
        refine st (g_assign rfl) rfl ?_
        refine st (g_assign rfl) rfl ?_
        refine done ?_
        refine th_n ?_
        refine seq ?_
        refine region ?_
        refine st (g_move rfl) rfl ?_
        refine st (g_move rfl) rfl ?_
        refine gt rfl ?_
        refine st (g_move rfl) rfl ?_
        refine gt rfl ?_
        refine st (g_T rfl rfl rfl (rfl)) rfl ?_
        refine st (g_pickT rfl rfl) rfl ?_
        refine st (g_move rfl) rfl ?_
        refine gt rfl ?_
        refine st (g_move rfl) rfl ?_
        refine gt rfl ?_
        refine st (g_str (l := digest 32 first256 lA) by_23 str_9 rfl (digest_length (by decide)) (RdA.own (.there (.there (.there (.here)))) rd_app)) rfl ?_
        refine gt rfl ?_
        refine st (g_move rfl) rfl ?_
        refine gt rfl ?_
        refine st (g_str (l := digest 32 first256 lA) by_23 str_9 rfl (digest_length (by decide)) (RdA.own (.there (.there (.there (.there (.there (.there (.here))))))) rd_app)) rfl ?_
        refine gt rfl ?_
        refine st (g_eqST rfl rfl (rfl)) rfl ?_
        refine st (g_pickT rfl rfl) rfl ?_
        refine st (g_move rfl) rfl ?_
        refine gt rfl ?_
        refine st (g_move rfl) rfl ?_
        refine gt rfl ?_
        refine st (g_str (l := digest 32 first256 lA) by_23 str_9 rfl (digest_length (by decide)) (RdA.own .here rd_app)) rfl ?_
        refine gt rfl ?_
        refine st (g_move rfl) rfl ?_
        refine gt rfl ?_
        refine st (g_str (l := digest 32 first256 lA) by_23 str_9 rfl (digest_length (by decide)) (RdA.own (.there (.there (.there (.there (.there (.there (.here))))))) rd_app)) rfl ?_
        refine gt rfl ?_
        refine st (g_eqST rfl rfl (rfl)) rfl ?_
        refine st (g_pickT rfl rfl) rfl ?_
        refine st (g_move rfl) rfl ?_
        refine gt rfl ?_
        refine st (g_move rfl) rfl ?_
        refine gt rfl ?_
        refine st (g_len el_23 rfl) rfl ?_
        refine gt rfl ?_
        refine st (g_move rfl) rfl ?_
        refine gt rfl ?_
        refine st (g_iquo rfl rfl (by omega) (by omega) (by omega) rfl) rfl ?_
        refine gt rfl ?_
        refine st (g_T rfl rfl rfl (by decide)) rfl ?_
        refine st (g_pickT rfl rfl) rfl ?_
        refine st (g_move rfl) rfl ?_
        refine gt rfl ?_
        refine st (g_move rfl) rfl ?_
        refine gt rfl ?_
        refine sq rfl (o_callP Tryd.func22 rfl rfl rfl (fun w hw => len_spec b1 32 (by decide) first256 lA y1 w (RdC.ofBlk hw (.there (.there (.there (.there (.here))))) rfl)) rfl ?_)
        refine gt rfl ?_
        refine st (g_move rfl) rfl ?_
        refine gt rfl ?_
        refine st (g_len el_23 rfl) rfl ?_
        refine gt rfl ?_
        refine st (g_to64 it_3 it_34 rfl rfl) rfl ?_
        refine gt rfl ?_
        refine st (g_T rfl rfl rfl (by rw [hlA])) rfl ?_
        refine st (g_pickT rfl rfl) rfl ?_
        refine st (g_move rfl) rfl ?_
        refine gt rfl ?_
        refine st (g_move rfl) rfl ?_
        refine gt rfl ?_
        refine sq rfl (o_callP Tryd.func22 rfl rfl rfl (fun w hw => len_spec b2 32 (by decide) first256 lA y2 w (RdC.ofBlk hw (.there (.here)) rfl)) rfl ?_)
        refine gt rfl ?_
        refine st (g_move rfl) rfl ?_
        refine gt rfl ?_
        refine sq rfl (o_callP Tryd.func22 rfl rfl rfl (fun w hw => len_spec b1 32 (by decide) first256 lA y1 w (RdC.ofBlk hw (.there (.there (.there (.there (.here))))) rfl)) rfl ?_)
        refine gt rfl ?_
        refine st (g_T rfl rfl rfl (rfl)) rfl ?_
        refine st (g_pickT rfl rfl) rfl ?_
        refine st (g_assign rfl) rfl ?_
        refine done ?_
        refine th_n ?_
        refine ret ?_
        exact ret1 rfl rfl rfl (fun w2 hw2 => ⟨rfl, hw2.clear⟩)

theorem f5_224 (pA : Option Addr) (nA cA : Nat) (lA : List UInt8) (hlA : lA.length = nA) (hpA : pA = none → cA = 0) (hcA : nA ≤ cA) (pB : Option Addr) (nB cB : Nat) (lB : List UInt8) (hlB : lB.length = nB) (hpB : pB = none → cB = 0) (hcB : nB ≤ cB) (pC : Option Addr) (nC cC : Nat) (lC : List UInt8) (hlC : lC.length = nC) (hpC : pC = none → cC = 0) (hcC : nC ≤ cC) (w : World) (hrA : RdC w pA (lA.map B8)) (hrB : RdC w pB (lB.map B8)) (hrC : RdC w pC (lC.map B8)) (hG : Gl w []) : Calls Tryd.prog 5 [.bool false, .slice pA nA cA, .slice pB nB cB, .slice pC nC cC].toArray w (fun en w2 => en = .returned (.bool true) ∧ Sat w [] [] w2) := by
  refine enter (n := 102) Tryd.func5 rfl rfl rfl (Sat.refl w) ?_
  refine seq ?_
  refine region ?_
  refine st (g_assign rfl) rfl ?_
  refine done ?_
  refine th_n ?_
  refine seq ?_
  refine region ?_
  refine sq rfl (o_callP Tryd.func24 rfl rfl rfl (fun w hw => f24_spec w (Gl.ofOld (A := []) hG hw .nil)) rfl ?_)
  refine st (g_assign rfl) rfl ?_
  refine done ?_
  refine th_n ?_
  refine seq ?_
  refine seq ?_
  refine region ?_
  refine st (g_move rfl) rfl ?_
  refine st (g_len el_23 rfl) rfl ?_
  refine sp (g_bin rfl rfl rfl) rfl (fun h20 => ?_) (fun h20 => ?_)
  · refine st (g_move rfl) rfl ?_
    refine gf rfl rfl ?_
    refine gf rfl rfl ?_
    refine gf rfl rfl ?_
    refine st (g_pickT rfl rfl) rfl ?_
    refine st (g_move rfl) rfl ?_
    refine gf rfl rfl ?_
    refine gf rfl rfl ?_
    refine gf rfl rfl ?_
    refine st (g_pickT rfl rfl) rfl ?_
    refine st (g_move rfl) rfl ?_
    refine gf rfl rfl ?_
    refine gf rfl rfl ?_
    refine st (g_pickT rfl rfl) rfl ?_
    refine done ?_
    refine th_n ?_
    refine condT rfl ?_
    refine seq ?_
    refine region ?_
    refine st (g_move rfl) rfl ?_
    refine st (g_assign rfl) rfl ?_
    refine done ?_
    refine th_n ?_
    refine ret ?_
    refine th_r ?_
    exact ret1 rfl rfl rfl (fun w2 hw2 => ⟨rfl, hw2.clear⟩)
  · refine st (g_move rfl) rfl ?_
    refine gt rfl ?_
    refine st (g_move rfl) rfl ?_
    refine gt rfl ?_
    refine st (g_len el_23 rfl) rfl ?_
    refine gt rfl ?_
    refine sp (g_bin rfl rfl rfl) rfl (fun h24 => ?_) (fun h24 => ?_)
    · refine st (g_pickF rfl rfl) rfl ?_
      refine st (g_move rfl) rfl ?_
      refine gf rfl rfl ?_
      refine gf rfl rfl ?_
      refine gf rfl rfl ?_
      refine st (g_pickT rfl rfl) rfl ?_
      refine st (g_move rfl) rfl ?_
      refine gf rfl rfl ?_
      refine gf rfl rfl ?_
      refine st (g_pickT rfl rfl) rfl ?_
      refine done ?_
      refine th_n ?_
      refine condT rfl ?_
      refine seq ?_
      refine region ?_
      refine st (g_move rfl) rfl ?_
      refine st (g_assign rfl) rfl ?_
      refine done ?_
      refine th_n ?_
      refine ret ?_
      refine th_r ?_
      exact ret1 rfl rfl rfl (fun w2 hw2 => ⟨rfl, hw2.clear⟩)
    · refine st (g_pickF rfl rfl) rfl ?_
      refine st (g_move rfl) rfl ?_
      refine gt rfl ?_
      refine st (g_move rfl) rfl ?_
      refine gt rfl ?_
      refine st (g_len el_23 rfl) rfl ?_
      refine gt rfl ?_
      refine sp (g_bin rfl rfl rfl) rfl (fun h29 => ?_) (fun h29 => ?_)
      · refine st (g_pickF rfl rfl) rfl ?_
        refine st (g_move rfl) rfl ?_
        refine gf rfl rfl ?_
        refine gf rfl rfl ?_
        refine st (g_pickT rfl rfl) rfl ?_
        refine done ?_
        refine th_n ?_
        refine condT rfl ?_
        refine seq ?_
        refine region ?_
        refine st (g_move rfl) rfl ?_
        refine st (g_assign rfl) rfl ?_
        refine done ?_
        refine th_n ?_
        refine ret ?_
        refine th_r ?_
        exact ret1 rfl rfl rfl (fun w2 hw2 => ⟨rfl, hw2.clear⟩)
      · refine st (g_pickF rfl rfl) rfl ?_
        refine st (g_move rfl) rfl ?_
        refine gt rfl ?_
        refine st (g_move rfl) rfl ?_
        refine gt rfl ?_
        refine st (g_not rfl) rfl ?_
        refine st (g_pickF rfl rfl) rfl ?_
        refine done ?_
        refine th_n ?_
        refine condF rfl ?_
        refine skip ?_
        refine th_n ?_
        refine seq ?_
        refine region ?_
        refine st (g_move rfl) rfl ?_
        refine st (g_move rfl) rfl ?_
        refine st (g_move rfl) rfl ?_
        refine sq rfl (o_call Tryd.func26 rfl rfl rfl .nil (fun w hw hA => f26_224 pA nA cA lA hlA hpA hcA (by omega) pB nB cB lB hlB (by omega) true w (RdS.c (S := []) (RdS.ofOld (A := []) hrA.s hw .nil)) (RdS.c (S := []) (RdS.ofOld (A := []) hrB.s hw .nil)) (Gl.ofOld (A := []) hG hw .nil)) rfl (fun ⟨b1, y1⟩ hy1 => ?_))
        refine st (g_move rfl) rfl ?_
        refine st (g_move rfl) rfl ?_
        refine st (g_move rfl) rfl ?_
        refine sq rfl (o_call Tryd.func26 rfl rfl rfl .nil (fun w hw hA => f26_224 pA nA cA lA hlA hpA hcA (by omega) pC nC cC lC hlC (by omega) false w (RdS.c (S := []) (RdS.ofOld (A := []) hrA.s hw .nil)) (RdS.c (S := []) (RdS.ofOld (A := []) hrC.s hw .nil)) (Gl.ofOld (A := []) hG hw .nil)) rfl (fun ⟨b2, y2⟩ hy2 => ?_))
        refine st (g_assign rfl) rfl ?_
        refine st (g_assign rfl) rfl ?_
        refine done ?_
        refine th_n ?_
        refine seq ?_
        refine seq ?_
        refine region ?_
        refine st (g_move rfl) rfl ?_
        refine st (g_eqNil pt_29 rfl rfl) rfl ?_
        refine st (g_move rfl) rfl ?_
        refine gt rfl ?_
        refine st (g_move rfl) rfl ?_
        refine gt rfl ?_
        refine st (g_eqNil pt_29 rfl rfl) rfl ?_
        refine st (g_pickF rfl rfl) rfl ?_
        refine done ?_
        refine th_n ?_
        refine condF rfl ?_
        refine skip ?_
        refine th_n ?_
        refine seq ?_
        refine region ?_
        refine st (g_assign rfl) rfl ?_
        refine done ?_
        refine th_n ?_
        refine seq ?_
        refine seq ?_
        refine region ?_
        refine st (g_move rfl) rfl ?_
        refine done ?_
        refine th_n ?_
        refine condF rfl ?_
        refine skip ?_
        refine th_n ?_
        refine seq ?_
        refine region ?_
        refine st (g_move rfl) rfl ?_
        refine st (g_move rfl) rfl ?_
        refine sq rfl (o_call Tryd.func17 rfl rfl rfl .nil (fun w hw hA => f17_spec 224 (.inl rfl) pA nA cA lA hlA hpA hcA (by omega) w (RdS.c (S := []) (RdS.ofOld (A := []) hrA.s hw .nil)) (Gl.ofOld (A := []) hG hw .nil)) rfl (fun og _ => ?_))
        refine st (g_move rfl) rfl ?_
        refine st (g_extract rfl rfl) rfl ?_
        refine st (g_extract rfl rfl) rfl ?_
        refine st (g_assign rfl) rfl ?_
        refine st (g_assign rfl) rfl ?_
        refine done ?_
        refine th_n ?_
        refine seq ?_
        refine region ?_
        refine st (g_move rfl) rfl ?_
        refine sq rfl (o_call Tryd.func21 rfl rfl rfl (.cons (.there (.there (.there (.here)))) (.cons (.there (.there (.there (.here)))) .nil)) (fun w hw hA => sum_spec b1 28 (by decide) (by decide) first224 rfl lA y1 hy1 w hA (Gl.ofOld hG hw (.cons (.there (.there (.there (.here)))) (.cons (.there (.there (.there (.here)))) .nil)))) rfl (fun od1 _ => ?_))
        refine st (g_move rfl) rfl ?_
        refine sq rfl (o_call Tryd.func21 rfl rfl rfl (.cons (.there (.there (.there (.there (.here))))) (.cons (.there (.there (.there (.there (.here))))) .nil)) (fun w hw hA => sum_spec b2 28 (by decide) (by decide) first224 rfl lA y2 hy2 w hA (Gl.ofOld hG hw (.cons (.there (.there (.there (.there (.here))))) (.cons (.there (.there (.there (.there (.here))))) .nil)))) rfl (fun od2 _ => ?_))
        refine st (g_assign rfl) rfl ?_
        refine st (g_assign rfl) rfl ?_
        refine done ?_
        refine th_n ?_
        refine seq ?_
        refine region ?_
        refine st (g_move rfl) rfl ?_
        refine st (g_move rfl) rfl ?_
        refine gt rfl ?_
        refine st (g_move rfl) rfl ?_
        refine gt rfl ?_
        refine st (g_T rfl rfl rfl (rfl)) rfl ?_
        refine st (g_pickT rfl rfl) rfl ?_
        refine st (g_move rfl) rfl ?_
        refine gt rfl ?_
        refine st (g_move rfl) rfl ?_
        refine gt rfl ?_
        refine st (g_str (l := digest 28 first224 lA) by_23 str_9 rfl (digest_length (by decide)) (RdA.own (.there (.there (.there (.here)))) rd_app)) rfl ?_
        refine gt rfl ?_
        refine st (g_move rfl) rfl ?_
        refine gt rfl ?_
        refine st (g_str (l := digest 28 first224 lA) by_23 str_9 rfl (digest_length (by decide)) (RdA.own (.there (.there (.there (.there (.there (.there (.here))))))) rd_app)) rfl ?_
        refine gt rfl ?_
        refine st (g_eqST rfl rfl (rfl)) rfl ?_
        refine st (g_pickT rfl rfl) rfl ?_
        refine st (g_move rfl) rfl ?_
        refine gt rfl ?_
        refine st (g_move rfl) rfl ?_
        refine gt rfl ?_
        refine st (g_str (l := digest 28 first224 lA) by_23 str_9 rfl (digest_length (by decide)) (RdA.own .here rd_app)) rfl ?_
        refine gt rfl ?_
        refine st (g_move rfl) rfl ?_
        refine gt rfl ?_
        refine st (g_str (l := digest 28 first224 lA) by_23 str_9 rfl (digest_length (by decide)) (RdA.own (.there (.there (.there (.there (.there (.there (.here))))))) rd_app)) rfl ?_
        refine gt rfl ?_
        refine st (g_eqST rfl rfl (rfl)) rfl ?_
        refine st (g_pickT rfl rfl) rfl ?_
        refine st (g_move rfl) rfl ?_
        refine gt rfl ?_
        refine st (g_move rfl) rfl ?_
        refine gt rfl ?_
        refine st (g_len el_23 rfl) rfl ?_
        refine gt rfl ?_
        refine st (g_move rfl) rfl ?_
        refine gt rfl ?_
        refine st (g_iquo rfl rfl (by omega) (by omega) (by omega) rfl) rfl ?_
        refine gt rfl ?_
        refine st (g_T rfl rfl rfl (by decide)) rfl ?_
        refine st (g_pickT rfl rfl) rfl ?_
        refine st (g_move rfl) rfl ?_
        refine gt rfl ?_
        refine st (g_move rfl) rfl ?_
        refine gt rfl ?_
        refine sq rfl (o_callP Tryd.func22 rfl rfl rfl (fun w hw => len_spec b1 28 (by decide) first224 lA y1 w (RdC.ofBlk hw (.there (.there (.there (.there (.here))))) rfl)) rfl ?_)
        refine gt rfl ?_
        refine st (g_move rfl) rfl ?_
        refine gt rfl ?_
        refine st (g_len el_23 rfl) rfl ?_
        refine gt rfl ?_
        refine st (g_to64 it_3 it_34 rfl rfl) rfl ?_
        refine gt rfl ?_
        refine st (g_T rfl rfl rfl (by rw [hlA])) rfl ?_
        refine st (g_pickT rfl rfl) rfl ?_
        refine st (g_move rfl) rfl ?_
        refine gt rfl ?_
        refine st (g_move rfl) rfl ?_
        refine gt rfl ?_
        refine sq rfl (o_callP Tryd.func22 rfl rfl rfl (fun w hw => len_spec b2 28 (by decide) first224 lA y2 w (RdC.ofBlk hw (.there (.here)) rfl)) rfl ?_)
        refine gt rfl ?_
        refine st (g_move rfl) rfl ?_
        refine gt rfl ?_
        refine sq rfl (o_callP Tryd.func22 rfl rfl rfl (fun w hw => len_spec b1 28 (by decide) first224 lA y1 w (RdC.ofBlk hw (.there (.there (.there (.there (.here))))) rfl)) rfl ?_)
        refine gt rfl ?_
        refine st (g_T rfl rfl rfl (rfl)) rfl ?_
        refine st (g_pickT rfl rfl) rfl ?_
        refine st (g_assign rfl) rfl ?_
        refine done ?_
        refine th_n ?_
        refine ret ?_
        exact ret1 rfl rfl rfl (fun w2 hw2 => ⟨rfl, hw2.clear⟩)
end Go.Proofs.YtokhediaibdkjaaDoor
