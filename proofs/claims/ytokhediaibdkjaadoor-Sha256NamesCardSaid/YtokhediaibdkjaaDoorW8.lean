/- The walk of Write. (printed by gen1.py) -/
import Derived.Test.YtokhediaibdkjaaDoorW7
namespace Go.Proofs.YtokhediaibdkjaaDoor
open Go.Pm Go.RowKit
set_option maxRecDepth 100000
/-- What a state that holds left over bytes owns. -/
abbrev stRes (b : Nat) (size : Int) (hs : List (BitVec 32)) (n : Nat) (x : Option Addr × Nat) (l : List UInt8) (taken : BitVec 64) : List Res := [blk b 41 (stCells size hs (slv n x) taken), vec (slv n x) 5 1 n (l.map B8)]
/-- Block i of some bytes; m of them turned in. -/
def blkOf (all : List UInt8) (i : Nat) : List UInt8 := (all.drop (64 * i)).take 64
def absorb (all : List UInt8) (m : Nat) (hs : List (BitVec 32)) : List (BitVec 32) := iter (fun i h => turnW h (spreadW (blkOf all i))) m hs
theorem absorb_length {all : List UInt8} {m : Nat} {hs : List (BitVec 32)} (h : hs.length = 8) : (absorb all m hs).length = 8 :=
  iter_inv (I := fun l : List (BitVec 32) => l.length = 8) (fun _ _ h => turnW_length h) m hs h
theorem blkOf_length {all : List UInt8} {i : Nat} (h : i < all.length / 64) : (blkOf all i).length = 64 := by simp [blkOf]; omega
theorem bp_none {p : Option Addr} {c : Nat} : ∀ {i : Nat}, bp p c i = none → p = none
  | 0, h => h
  | i + 1, h => by
    have h1 : adv (bp p c i) (c - 64 * i) 64 1 = none := h
    refine bp_none (c := c) (i := i) ?_
    unfold adv at h1
    split at h1
    · exact h1
    · cases hb : bp p c i with
      | none => rfl
      | some a => simp [hb] at h1
theorem nrm_retM {cx : Cx} {e : Env} {Rs : List Res} {F : Fence} {n : Nat} {P : Program} {fn : Func} {R : Ending → World → Prop} (h : At cx e Rs (bodyPostM F n P fn R .ret)) : At cx e Rs (bodyPostM F n P fn R .normal) := h


theorem f66_two (p1 : Option Addr) (n1 c1 : Nat) (p2 : Option Addr) (n2 c2 : Nat) (l1 l2 : List UInt8) (h1 : l1.length = n1) (h2 : l2.length = n2) (hp1 : p1 = none → c1 = 0) (hc1 : n1 ≤ c1) (hp2 : p2 = none → c2 = 0) (hc2 : n2 ≤ c2) (hm : (l1 ++ l2).length ≤ 70368744177664) (w : World) (p : Option Addr)
    (hr : RdC w p [.slice p1 n1 c1, .slice p2 n2 c2]) (hr1 : RdC w p1 (l1.map B8)) (hr2 : RdC w p2 (l2.map B8)) :
    Calls Tryd.prog 66 [.slice p 2 2].toArray w (fun en w2 => ∃ y : Option Addr × Nat, ((y.1 = none → y.2 = 0) ∧ (l1 ++ l2).length ≤ y.2 ∧ y.2 ≤ maxLen) ∧ en = .returned (slv (l1 ++ l2).length y) ∧ Sat w (fps []) [vec (slv (l1 ++ l2).length y) 5 1 (l1 ++ l2).length ((l1 ++ l2).map B8)] w2) := by
  have ht : tot [⟨p1, n1, c1, l1⟩, ⟨p2, n2, c2, l2⟩] = (l1 ++ l2).length := by simp [tot, h1, h2]
  have hc : cat [⟨p1, n1, c1, l1⟩, ⟨p2, n2, c2, l2⟩] = l1 ++ l2 := by simp [cat]
  have h := f66_spec p 2 [⟨p1, n1, c1, l1⟩, ⟨p2, n2, c2, l2⟩] w (by intro s hs; simp at hs; rcases hs with rfl | rfl; exact ⟨h1, hp1, hc1, hr1⟩; exact ⟨h2, hp2, hc2, hr2⟩) hr (by rw [ht]; exact hm) (by simp)
  rw [ht, hc] at h
  refine h.mono fun en w2 ⟨y, ⟨hy1, hy2⟩, he, hs⟩ => ⟨y, ⟨hy1, hy2, ?_⟩, he, hs⟩
  have hv : w2.ownsRow 0 5 1 (slv (l1 ++ l2).length y) (l1 ++ l2).length ((l1 ++ l2).map B8) := hs.holds (vec _ _ _ _ _) (by simp)
  rcases hv.2 with ⟨he, _⟩ | ⟨g, cap, cur, he, _, _, _, hle, _⟩
  · simp only [slv, Value.slice.injEq] at he; rw [he.2.2]; exact Nat.zero_le _
  · simp only [slv, Value.slice.injEq, true_and] at he; rw [he.2]; exact hle
theorem blk_rd {w : World} {S : List Nat} {p : Option Addr} {all : List UInt8} {i : Nat} (h : RdS w S p ((all.map B8).drop (64 * i))) : RdS w S p ((blkOf all i).map B8) := by
  have := h.take 64
  rwa [← List.map_drop, ← List.map_take] at this
theorem bpz {y : Option Addr × Nat} {N m : Nat} (hy0 : y.1 = none → y.2 = 0) (hyn : N ≤ y.2) (h : bp y.1 y.2 m = none) : N - 64 * m = 0 ∧ y.2 - 64 * m = 0 := by
  have := hy0 (bp_none h)
  omega


theorem f20_spec (b : Nat) (size : Int) (hz : size ≠ 0) (hs : List (BitVec 32)) (h8 : hs.length = 8) (n : Nat) (x : Option Addr × Nat) (l : List UInt8) (hl : l.length = n) (hx : x.1 = none → x.2 = 0) (hxn : n ≤ x.2) (taken : BitVec 64)
    (p : Option Addr) (k c : Nat) (bs : List UInt8) (hb : bs.length = k) (hp : p = none → c = 0) (hkc : k ≤ c) (hm : (l ++ bs).length ≤ 70368744177664) (w : World)
    (hA : Sat w (fps (stRes b size hs n x l taken)) (stRes b size hs n x l taken) w) (hr : RdS w (fps (stRes b size hs n x l taken)) p (bs.map B8)) (hG : Gl w (fps (stRes b size hs n x l taken))) :
    Calls Tryd.prog 20 [.pointer (some ⟨b, 0, none⟩), .slice p k c].toArray w (fun en w2 => ∃ z : Option Addr × Nat, ((z.1 = none → z.2 = 0) ∧ (l ++ bs).length - 64 * ((l ++ bs).length / 64) ≤ z.2) ∧ en = .returned (.tuple #[]) ∧
      Sat w (fps (stRes b size hs n x l taken)) (stRes b size (absorb (l ++ bs) ((l ++ bs).length / 64) hs) ((l ++ bs).length - 64 * ((l ++ bs).length / 64)) z ((l ++ bs).drop (64 * ((l ++ bs).length / 64))) (taken + BitVec.ofNat 64 k)) w2) := by
  refine enterM (n := 49) Tryd.func20 rfl rfl rfl hA ?_
  refine seq ?_
  refine region ?_
  refine sq rfl (o_box rfl rfl rfl (fun b2 => ?_))
  refine done ?_
  refine th_n ?_
  refine seq ?_
  refine seq ?_
  refine region ?_
  refine st (g_load sc_29 rfl (Cell.own .here (rfl))) rfl ?_
  refine sq rfl (o_callP Tryd.func65 rfl rfl rfl (fun w hw => f65_no b size hz w (RdC.cell (j := 0) (RdC.ofBlk hw (.there .here) rfl (vs := stCells size hs (slv n x) taken)) rfl)) rfl ?_)
  refine done ?_
  refine th_n ?_
  refine condF rfl ?_
  refine skip ?_
  refine th_n ?_
  refine seq ?_
  refine region ?_
  refine st (g_load sc_29 rfl (Cell.own .here (rfl))) rfl ?_
  refine st (g_nilCheck rfl) rfl ?_
  refine st (g_fieldAddr fo_41_3 rfl rfl) rfl ?_
  refine st (g_load sc_34 rfl (Cell.own (.there (.here)) rfl)) rfl ?_
  refine st (g_move rfl) rfl ?_
  refine st (g_len el_23 rfl) rfl ?_
  refine st (g_to64 it_3 it_34 rfl rfl) rfl ?_
  refine st (g_add64 rfl rfl) rfl ?_
  refine st (g_nilCheck rfl) rfl ?_
  refine st (g_fieldAddr fo_41_3 rfl rfl) rfl ?_
  refine sq rfl (o_store (cs' := stCells size hs (slv n x) (taken + BitVec.ofNat 64 k)) sz_34 rfl rfl rfl (.there (.here)) (Nat.le_of_ble_eq_true rfl) rfl ?_)
  refine done ?_
  refine th_n ?_
  refine seq ?_
  refine region ?_
  refine st (g_load sc_29 rfl (Cell.own (.there (.here)) (rfl))) rfl ?_
  refine st (g_nilCheck rfl) rfl ?_
  refine st (g_fieldAddr fo_41_2 rfl rfl) rfl ?_
  refine st (g_load (v := slv n x) sc_23 rfl (Cell.own .here rfl)) rfl ?_
  refine st (g_move rfl) rfl ?_
  refine sq rfl (o_buildSlice1 (vs := [slv n x, .slice p k c]) un_22 zr_23 sz_23 (by decide) (by decide) rfl rfl rfl (by simp [Value.oneCell']) rfl (fun b24 => ?_))
  refine sq rfl (o_call Tryd.func66 rfl rfl rfl .nil (fun w hw hA => f66_two x.1 n x.2 p k c l bs hl hb hx hxn hp hkc hm w (some ⟨b24, 0, none⟩) (RdC.ofBlk hw .here rfl) (RdC.ofVec (hw.get (.there (.there (.there .here))))) (RdS.c (S := []) (RdS.ofOld (A := []) hr hw .nil))) rfl (fun y hy => ?_))
  refine st (g_assign rfl) rfl ?_
  refine done ?_
  refine th_n ?_
  refine seq ?_
  refine region ?_
  refine st (g_load sc_29 rfl (Cell.own (.there (.there (.there (.here)))) (rfl))) rfl ?_
  refine st (g_move rfl) rfl ?_
  refine st (g_nilCheck rfl) rfl ?_
  refine st (g_fieldAddr fo_41_2 rfl rfl) rfl ?_
  refine sq rfl (o_store (cs' := stCells size hs (slv (l ++ bs).length y) (taken + BitVec.ofNat 64 k)) sz_23 rfl rfl rfl (.there (.there (.here))) (Nat.le_of_ble_eq_true rfl) rfl ?_)
  refine done ?_
  refine th_n ?_
  refine seq ?_
  refine seq ?_
  refine region ?_
  refine st (g_move rfl) rfl ?_
  refine sq rfl (o_call Tryd.func67 rfl rfl rfl .nil (fun w hw hA => f67_spec _ rfl w) rfl (fun bb _ => ?_))
  refine done ?_
  refine th_n ?_
  refine block ?_
  obtain ⟨hy0, hyn, hy63⟩ := hy
  skip
  refine At.weaken (e' := [(2, .pointer (some ⟨b2, 0, none⟩)), (31, .func (.func 96) #[] [.pointer (some ⟨bb, 0, none⟩)].toArray)]) (Rs' := [blk bb 23 [slv (l ++ bs).length y], blk b 41 (stCells size (hs) (slv (l ++ bs).length y) (taken + BitVec.ofNat 64 k)), vec (slv (l ++ bs).length y) 5 1 (l ++ bs).length ((l ++ bs).map B8), blk b2 29 [.pointer (some ⟨b, 0, none⟩)]]) ?_ ⟨rfl, rfl, trivial⟩ (.cons .here (.cons .here (.cons .here (.cons (.there (.here)) .nil))))
  refine rangeF (β := Unit) (I := fun _ => True) (stt := fun _ => .ready) (pend := fun _ => none) (RR := fun _ => [blk bb 23 [.slice (bp y.1 y.2 ((l ++ bs).length / 64)) ((l ++ bs).length - 64 * ((l ++ bs).length / 64)) (y.2 - 64 * ((l ++ bs).length / 64))], blk b 41 (stCells size (absorb (l ++ bs) ((l ++ bs).length / 64) hs) (.slice (bp y.1 y.2 ((l ++ bs).length / 64)) ((l ++ bs).length - 64 * ((l ++ bs).length / 64)) (y.2 - 64 * ((l ++ bs).length / 64))) (taken + BitVec.ofNat 64 k)), vec (slv (l ++ bs).length y) 5 1 (l ++ bs).length ((l ++ bs).map B8), blk b2 29 [.pointer (some ⟨b, 0, none⟩)]]) rfl Tryd.func96 rfl rfl ?_ (fun _ _ => nofun) ?_ (fun _ _ _ _ h => nomatch h)
  · intro a fn D lp w1 hOk hS
    have hS1 := hS.split (A := [objR lp _, blk bb 23 [slv (l ++ bs).length y], blk b 41 (stCells size (hs) (slv (l ++ bs).length y) (taken + BitVec.ofNat 64 k)), vec (slv (l ++ bs).length y) 5 1 (l ++ bs).length ((l ++ bs).map B8), objR D (.deferred (some [])), blk b2 29 [.pointer (some ⟨b, 0, none⟩)]]) (.cons .here (.cons (.there .here) (.cons (.there .here) (.cons (.there .here) (.cons .here (.cons .here .nil))))))
    have hG1 : Gl w1 _ := Gl.ofOld (A := [objR lp _, blk bb 23 [slv (l ++ bs).length y], blk b 41 (stCells size (hs) (slv (l ++ bs).length y) (taken + BitVec.ofNat 64 k)), vec (slv (l ++ bs).length y) 5 1 (l ++ bs).length ((l ++ bs).map B8), objR D (.deferred (some [])), blk b2 29 [.pointer (some ⟨b, 0, none⟩)]]) hG hS (.cons .here (.cons (.there .here) (.cons (.there .here) (.cons (.there .here) (.cons .here (.cons .here .nil))))))
    refine (f96_spec lp bb _ y.1 (l ++ bs).length y.2 hyn hy63 (fun i => [blk b 41 (stCells size (absorb (l ++ bs) (i) hs) (.slice (bp y.1 y.2 (i)) ((l ++ bs).length - 64 * (i)) (y.2 - 64 * (i))) (taken + BitVec.ofNat 64 k)), vec (slv (l ++ bs).length y) 5 1 (l ++ bs).length ((l ++ bs).map B8), objR D (.deferred (some [])), blk b2 29 [.pointer (some ⟨b, 0, none⟩)]]) w1 hS1.hand ?_).mono (fun en w2 ⟨he, hs2⟩ => ⟨⟨_, he⟩, (), trivial, Sat.app0 ((hS1.join hs2).split (.cons .here (.cons (.there (.there (.there .here))) (.cons .here (.cons .here (.cons .here (.cons .here .nil)))))))⟩)
    intro i hi w3 h3 hA3
    have hG3 : Gl w3 _ := Gl.ofOld hG1 h3 (Split.all _)
    refine yield_walk (n := 49) (ds := []) (e := [(2, .pointer (some ⟨b2, 0, none⟩)), (31, .func (.func 96) #[] [.pointer (some ⟨bb, 0, none⟩)].toArray)]) hA3 ⟨hOk.size, rfl, hOk.get⟩ rfl (by decide) ?_
    refine seq ?_
    refine region ?_
    refine st (g_assign rfl) rfl ?_
    refine done ?_
    refine th_n ?_
    refine region ?_
    refine st (g_assign rfl) rfl ?_
    refine done ?_
    refine th_n ?_
    refine begin_round .here rfl ?_
    refine block ?_
    refine seq ?_
    refine region ?_
    refine st (g_load sc_29 rfl (Cell.own (.there (.there (.there (.there (.there (.here)))))) (rfl))) rfl ?_
    refine st (g_move rfl) rfl ?_
    refine sq rfl (o_call Tryd.func68 rfl rfl rfl (.cons (.there (.there (.here))) .nil) (fun w hw hA => f68_spec b size _ _ rfl _ _ _ (blkOf (l ++ bs) i) (blkOf_length hi) (absorb_length h8) w hA (blk_rd (bp_rd (RdS.ofVec hw (.cons (.there (.there .here)) .nil) (.there (.there .here))) (by rw [List.length_map]; exact hyn) i)) (Gl.ofOld hG3 hw (.cons (.there (.there .here)) .nil))) rfl (fun _ _ => ?_))
    refine done ?_
    refine th_n ?_
    refine region ?_
    refine st (g_load sc_29 rfl (Cell.own (.there (.there (.there (.there (.there (.here)))))) (rfl))) rfl ?_
    refine st (g_move rfl) rfl ?_
    refine st (g_nilCheck rfl) rfl ?_
    refine st (g_fieldAddr fo_41_2 rfl rfl) rfl ?_
    refine sq rfl (o_store sz_23 rfl rfl rfl .here (Nat.le_of_ble_eq_true rfl) rfl ?_)
    refine done ?_
    refine ib_n ?_
    exact round_on (.there (.here)) (fun w4 h4 => ⟨rfl, Sat.app0 (h4.split (.cons .here (.cons (.there (.here)) (.cons .here (.cons .here (.cons .here (.cons .here .nil)))))))⟩)
  · intro D _ _ _
    refine ib_n ?_
    refine th_n ?_
    refine regionL ⟨[_], [_, _], [8]⟩ mixed (by decide +kernel) (.cons (.there (.there (.there (.there (.here))))) .nil) (.cons (.there (.there (.there (.there (.here))))) (.cons (.there (.there (.here))) .nil)) ?_
    refine An'.q 0 [8] rfl (by decide +kernel) rfl rfl (g_load sc_29 rfl (Cell.own .here (rfl))) rfl ?_
    refine An'.q 1 [8] rfl (by decide +kernel) rfl rfl (g_load sc_29 rfl (Cell.own .here (rfl))) rfl ?_
    refine An'.q 2 [8] rfl (by decide +kernel) rfl rfl (g_nilCheck rfl) rfl ?_
    refine An'.q 3 [8] rfl (by decide +kernel) rfl rfl (g_fieldAddr fo_41_2 rfl rfl) rfl ?_
    refine An'.z 4 [8] rfl (by decide +kernel) rfl rfl (g_load (v := .slice (bp y.1 y.2 ((l ++ bs).length / 64)) ((l ++ bs).length - 64 * ((l ++ bs).length / 64)) (y.2 - 64 * ((l ++ bs).length / 64))) sc_23 rfl (Cell.own (.there .here) rfl)) rfl ?_
    refine An'.one 5 (by decide +kernel) rfl rfl ?_
    refine o_call Tryd.func69 rfl rfl rfl .nil (fun w hw hA => f69_spec _ _ _ ((l ++ bs).drop (64 * ((l ++ bs).length / 64))) (by simp) (fun h => bpz hy0 hyn h) (by simp only [List.length_append] at hm; simp only [List.length_append]; omega) w (by have h0 := bp_rd (RdS.ofVec (A := []) hw .nil (.there (.there (.there .here)))) (by rw [List.length_map]; exact hyn) ((l ++ bs).length / 64); rw [← List.map_drop] at h0; exact h0.c)) rfl (fun z hz2 => ?_)
    refine An'.on0 (.cons (.there (.there (.there (.there (.there (.here)))))) .nil) (.cons (.there (.there (.there (.there (.there (.here)))))) (.cons (.there (.there (.there (.here)))) .nil)) rfl ?_
    refine An'.q 6 [8] rfl (by decide +kernel) rfl rfl (g_nilCheck rfl) rfl ?_
    refine An'.q 7 [8] rfl (by decide +kernel) rfl rfl (g_fieldAddr fo_41_2 rfl rfl) rfl ?_
    refine An'.one 8 (by decide +kernel) rfl rfl ?_
    refine o_store (cs' := stCells size (absorb (l ++ bs) ((l ++ bs).length / 64) hs) (slv ((l ++ bs).length - 64 * ((l ++ bs).length / 64)) z) (taken + BitVec.ofNat 64 k)) sz_23 rfl rfl rfl (.there (.there (.there (.here)))) (Nat.le_of_ble_eq_true rfl) rfl ?_
    refine An'.onx [8] rfl (by decide +kernel) (.cons (.there (.there (.there (.there (.there (.here)))))) .nil) ?_
    refine An'.fin (by decide +kernel) ?_
    exact nrm_retM (retM1 (vf := fun _ _ => .tuple #[]) rfl (.there (.there (.here))) (fun a w2 _ hw2 => ⟨results_none rfl _ _ _, z, ⟨hz2.2.1, hz2.2.2⟩, rfl, ((hw2.split (.cons .here (.cons .here .nil))).perm List.perm_append_comm).dropA _⟩))
end Go.Proofs.YtokhediaibdkjaaDoor
