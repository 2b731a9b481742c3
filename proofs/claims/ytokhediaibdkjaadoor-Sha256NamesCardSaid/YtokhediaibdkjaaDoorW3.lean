/- The walks of State.none, slices.Clone. (printed by gen1.py) -/
import Derived.Test.YtokhediaibdkjaaDoorE11
import Derived.Test.YtokhediaibdkjaaDoorW2
namespace Go.Proofs.YtokhediaibdkjaaDoor
open Go.Pm Go.RowKit
set_option maxRecDepth 100000
/-- The numbers of sha256's tables. -/
def cubesL : List (BitVec 32) := [1116352408#32, 1899447441#32, 3049323471#32, 3921009573#32, 961987163#32, 1508970993#32, 2453635748#32, 2870763221#32, 3624381080#32, 310598401#32, 607225278#32, 1426881987#32, 1925078388#32, 2162078206#32, 2614888103#32, 3248222580#32, 3835390401#32, 4022224774#32, 264347078#32, 604807628#32, 770255983#32, 1249150122#32, 1555081692#32, 1996064986#32, 2554220882#32, 2821834349#32, 2952996808#32, 3210313671#32, 3336571891#32, 3584528711#32, 113926993#32, 338241895#32, 666307205#32, 773529912#32, 1294757372#32, 1396182291#32, 1695183700#32, 1986661051#32, 2177026350#32, 2456956037#32, 2730485921#32, 2820302411#32, 3259730800#32, 3345764771#32, 3516065817#32, 3600352804#32, 4094571909#32, 275423344#32, 430227734#32, 506948616#32, 659060556#32, 883997877#32, 958139571#32, 1322822218#32, 1537002063#32, 1747873779#32, 1955562222#32, 2024104815#32, 2227730452#32, 2361852424#32, 2428436474#32, 2756734187#32, 3204031479#32, 3329325298#32]
def first224 : List (BitVec 32) := [3238371032#32, 914150663#32, 812702999#32, 4144912697#32, 4290775857#32, 1750603025#32, 1694076839#32, 3204075428#32]
def first256 : List (BitVec 32) := [1779033703#32, 3144134277#32, 1013904242#32, 2773480762#32, 1359893119#32, 2600822924#32, 528734635#32, 1541459225#32]
/-- The tables lie where they were laid. -/
def Gl (w : World) (S : List Nat) : Prop := RdS w S (some ⟨0, 0, none⟩) ((first224 ++ first256).map U32) ∧ RdS w S (some ⟨1, 0, none⟩) (cubesL.map U32)
theorem Gl.ofOld {w0 w : World} {S0 : List Nat} {A Rs B : List Res} (h : Gl w0 S0) (hw : Sat w0 S0 Rs w) (hs : Split A Rs B) : Gl w (fps A) := ⟨RdS.ofOld h.1 hw hs, RdS.ofOld h.2 hw hs⟩

/-- Eight words as cells; a state's cells. -/
def hs8 (hs : List (BitVec 32)) : List Value := [U32 (hs.getD 0 0#32), U32 (hs.getD 1 0#32), U32 (hs.getD 2 0#32), U32 (hs.getD 3 0#32), U32 (hs.getD 4 0#32), U32 (hs.getD 5 0#32), U32 (hs.getD 6 0#32), U32 (hs.getD 7 0#32)]
def stCells (size : Int) (hs : List (BitVec 32)) (left : Value) (taken : BitVec 64) : List Value :=
  [I64 size, U32 (hs.getD 0 0#32), U32 (hs.getD 1 0#32), U32 (hs.getD 2 0#32), U32 (hs.getD 3 0#32), U32 (hs.getD 4 0#32), U32 (hs.getD 5 0#32), U32 (hs.getD 6 0#32), U32 (hs.getD 7 0#32), left, U64 taken]
theorem get_hs8 {hs : List (BitVec 32)} {i k : Nat} (hk : k = i) (hi : i < 8) : (hs8 hs)[k]? = some (U32 (hs.getD i 0#32)) := by
  subst hk
  match k, hi with
  | 0, _ => rfl
  | 1, _ => rfl
  | 2, _ => rfl
  | 3, _ => rfl
  | 4, _ => rfl
  | 5, _ => rfl
  | 6, _ => rfl
  | 7, _ => rfl
theorem get_st {size : Int} {hs : List (BitVec 32)} {left : Value} {taken : BitVec 64} {i k : Nat} (hk : k = 1 + i) (hi : i < 8) : (stCells size hs left taken)[k]? = some (U32 (hs.getD i 0#32)) := by
  subst hk
  match i, hi with
  | 0, _ => rfl
  | 1, _ => rfl
  | 2, _ => rfl
  | 3, _ => rfl
  | 4, _ => rfl
  | 5, _ => rfl
  | 6, _ => rfl
  | 7, _ => rfl
theorem spreadW_length {bs : List UInt8} : (spreadW bs).length = 64 := spIter_length bs 64
theorem setR_all {cs vs : List Value} (h : cs.length = vs.length) : setR cs 0 vs = vs := by simp [setR, h]
theorem z64c : (z64.map U32).length = 64 := by rw [List.length_map, z64_length]
theorem oneH8 {hs : List (BitVec 32)} : ∀ v ∈ hs8 hs, v.oneCell' = true := by simp [hs8, Value.oneCell']
theorem oneH7 {hs : List (BitVec 32)} : ∀ v ∈ (hs8 hs).take 7, v.oneCell' = true := fun v hv => oneH8 v (List.mem_of_mem_take hv)
theorem list8 {hs : List (BitVec 32)} (h : hs.length = 8) : ∃ a b c d e f g i, hs = [a, b, c, d, e, f, g, i] := by
  match hs, h with
  | [a, b, c, d, e, f, g, i], _ => exact ⟨a, b, c, d, e, f, g, i, rfl⟩
theorem set_st {size : Int} {hs : List (BitVec 32)} {left : Value} {taken : BitVec 64} {i k : Nat} {v : BitVec 32} (h8 : hs.length = 8) (hk : k = 1 + i) (hi : i < 8) : (stCells size hs left taken).set k (U32 v) = stCells size (hs.set i v) left taken := by
  obtain ⟨a, b, c, d, e, f, g, j, rfl⟩ := list8 h8
  subst hk
  match i, hi with
  | 0, _ => rfl
  | 1, _ => rfl
  | 2, _ => rfl
  | 3, _ => rfl
  | 4, _ => rfl
  | 5, _ => rfl
  | 6, _ => rfl
  | 7, _ => rfl
/-- A round of the turn; the turn. -/
def t1W (ws hs : List (BitVec 32)) (i : Nat) : BitVec 32 :=
  (((hs.getD 7 0#32 + cubesL.getD i 0#32) + ws.getD i 0#32) + turned (hs.getD 4 0#32) 6 11 (rot (hs.getD 4 0#32) (-25))) + (hs.getD 6 0#32 ^^^ (hs.getD 4 0#32 &&& (hs.getD 5 0#32 ^^^ hs.getD 6 0#32)))
def t2W (hs : List (BitVec 32)) : BitVec 32 :=
  turned (hs.getD 0 0#32) 2 13 (rot (hs.getD 0 0#32) (-22)) + ((hs.getD 0 0#32 &&& hs.getD 1 0#32) ||| (hs.getD 2 0#32 &&& (hs.getD 0 0#32 ||| hs.getD 1 0#32)))
def tStep (ws : List (BitVec 32)) (i : Nat) (hs : List (BitVec 32)) : List (BitVec 32) :=
  [t1W ws hs i + t2W hs, hs.getD 0 0#32, hs.getD 1 0#32, hs.getD 2 0#32, hs.getD 3 0#32 + t1W ws hs i, hs.getD 4 0#32, hs.getD 5 0#32, hs.getD 6 0#32]
def addStep (fin : List (BitVec 32)) (i : Nat) (hs : List (BitVec 32)) : List (BitVec 32) := hs.set i (hs.getD i 0#32 + fin.getD i 0#32)
def turnW (hs ws : List (BitVec 32)) : List (BitVec 32) := iter (addStep (iter (tStep ws) 64 hs)) 8 hs
theorem addIter_length (fin : List (BitVec 32)) (n : Nat) (hs : List (BitVec 32)) (h : hs.length = 8) : (iter (addStep fin) n hs).length = 8 :=
  iter_inv (I := fun l : List (BitVec 32) => l.length = 8) (fun i l h => by simpa [addStep] using h) n hs h
theorem turnW_length {hs ws : List (BitVec 32)} (h : hs.length = 8) : (turnW hs ws).length = 8 := addIter_length _ _ _ h
theorem bu_41 (a' : Int) (x0 x1 x2 x3 x4 x5 x6 x7 : BitVec 32) : Tryd.prog.built 41 [(0, I64 a'), (1, .agg [U32 x0, U32 x1, U32 x2, U32 x3, U32 x4, U32 x5, U32 x6, U32 x7].toArray)] = some (stCells a' [x0, x1, x2, x3, x4, x5, x6, x7] (.slice none 0 0) 0#64).toArray := by kernel_rfl


/-- What Clone gives: nil for nil, else a row of its own. -/
abbrev slv (n : Nat) (x : Option Addr × Nat) : Value := .slice x.1 n x.2


theorem new0_vec {w0 w : World} {S0 : List Nat} {Rs : List Res} {T s : Nat} (h : Sat w0 S0 Rs w) (hP : w.ownsRow 0 T s (.slice none 0 0) 0 []) : Sat w0 S0 (vec (.slice none 0 0) T s 0 [] :: Rs) w :=
  ⟨h.os, h.tape, h.output, h.size, h.frame, fun R hR => by rcases List.mem_cons.1 hR with rfl | hR; exact hP; exact h.holds R hR, fun k hk => h.lt k (by simpa [vec, vecFp] using hk), by simpa [vec, vecFp] using h.nodup, fun k hk => h.new k (by simpa [vec, vecFp] using hk)⟩

theorem f65_spec (b : Nat) (size : Int) (w : World) (hc : w.cell? ⟨b, 0, none⟩ = some (I64 size)) : Calls Tryd.prog 65 [.pointer (some ⟨b, 0, none⟩)].toArray w (fun en w2 => en = .returned (.bool (decide (size = 0))) ∧ Sat w [] [] w2) := by
  refine enter (n := 12) Tryd.func65 rfl rfl rfl (Sat.refl w) ?_
  refine seq ?_
  refine region ?_
  refine st (g_assign rfl) rfl ?_
  refine done ?_
  refine th_n ?_
  refine seq ?_
  refine region ?_
  refine st (g_move rfl) rfl ?_
  refine st (g_eqNil pt_29 rfl rfl) rfl ?_
  refine st (g_move rfl) rfl ?_
  refine gt rfl ?_
  refine st (g_move rfl) rfl ?_
  refine gt rfl ?_
  refine st (g_nilCheck rfl) rfl ?_
  refine gt rfl ?_
  refine st (g_fieldAddr fo_41_0 rfl rfl) rfl ?_
  refine gt rfl ?_
  refine st (g_load sc_3 rfl (Cell.old hc (by simp))) rfl ?_
  refine gt rfl ?_
  refine st (g_bin rfl rfl rfl) rfl ?_
  refine st (g_pickF rfl rfl) rfl ?_
  refine st (g_assign rfl) rfl ?_
  refine done ?_
  refine th_n ?_
  refine ret ?_
  exact ret1 rfl rfl rfl (fun w2 hw2 => ⟨rfl, hw2⟩)

theorem f65_nil  (w : World) : Calls Tryd.prog 65 [.pointer none].toArray w (fun en w2 => en = .returned (.bool true) ∧ Sat w [] [] w2) := by
  refine enter (n := 12) Tryd.func65 rfl rfl rfl (Sat.refl w) ?_
  refine seq ?_
  refine region ?_
  refine st (g_assign rfl) rfl ?_
  refine done ?_
  refine th_n ?_
  refine seq ?_
  refine region ?_
  refine st (g_move rfl) rfl ?_
  refine st (g_eqNil pt_29 rfl rfl) rfl ?_
  refine st (g_move rfl) rfl ?_
  refine gf rfl rfl ?_
  refine gf rfl rfl ?_
  refine gf rfl rfl ?_
  refine gf rfl rfl ?_
  refine gf rfl rfl ?_
  refine st (g_pickT rfl rfl) rfl ?_
  refine st (g_assign rfl) rfl ?_
  refine done ?_
  refine th_n ?_
  refine ret ?_
  exact ret1 rfl rfl rfl (fun w2 hw2 => ⟨rfl, hw2⟩)

theorem f65_no (b : Nat) (size : Int) (h : size ≠ 0) (w : World) (hc : w.cell? ⟨b, 0, none⟩ = some (I64 size)) : Calls Tryd.prog 65 [.pointer (some ⟨b, 0, none⟩)].toArray w (fun en w2 => en = .returned (.bool false) ∧ Sat w [] [] w2) :=
  (f65_spec b size w hc).mono fun _ _ ⟨h1, h2⟩ => ⟨by rw [h1, decide_eq_false h], h2⟩

theorem f69_spec (p : Option Addr) (n c : Nat) (l : List UInt8) (hl : l.length = n) (hpn : p = none → n = 0 ∧ c = 0) (hn : n ≤ 70368744177664) (w : World) (hr : RdC w p (l.map B8)) :
    Calls Tryd.prog 69 [.slice p n c].toArray w (fun en w2 => ∃ x : Option Addr × Nat, ((x.1 = none ↔ p = none) ∧ (x.1 = none → x.2 = 0) ∧ n ≤ x.2) ∧ en = .returned (slv n x) ∧ Sat w (fps []) [vec (slv n x) 5 1 n (l.map B8)] w2) := by
  refine enter (n := 8) Tryd.func69 rfl rfl rfl (Sat.refl w) ?_
  refine seq ?_
  refine region ?_
  refine st (g_assign rfl) rfl ?_
  refine done ?_
  refine th_n ?_
  refine seq ?_
  refine seq ?_
  refine region ?_
  refine st (g_move rfl) rfl ?_
  refine st (g_eqSn el_23 rfl rfl) rfl ?_
  refine done ?_
  refine th_n ?_
  refine condS rfl (fun h4 => ?_) (fun h4 => ?_)
  · try simp only [decide_eq_true_eq, decide_eq_false_iff_not] at h4
    have hp : p = none := by simpa using h4
    obtain ⟨rfl, rfl⟩ := hpn hp
    subst hp
    have hl0 : l = [] := List.eq_nil_of_length_eq_zero hl
    subst hl0
    refine seq ?_
    refine region ?_
    refine st (g_assign rfl) rfl ?_
    refine done ?_
    refine th_n ?_
    refine ret ?_
    refine th_r ?_
    exact ret1 rfl rfl rfl (fun w2 hw2 => ⟨(none, 0), ⟨by simp, by simp, by simp⟩, rfl, new0_vec hw2 ⟨rfl, .inl ⟨rfl, rfl⟩⟩⟩)
  · try simp only [decide_eq_true_eq, decide_eq_false_iff_not] at h4
    have hp : p ≠ none := by rintro rfl; simp at h4
    refine skip ?_
    refine th_n ?_
    refine seq ?_
    refine region ?_
    refine sq rfl (o_buildSlice0 un_23 sz_5 rfl (fun b5 => ?_))
    refine st (g_move rfl) rfl ?_
    refine sq rfl (o_append (xs := []) (news := l.map B8) un_23 zr_5 sz_5 rfl bt_5 (by decide) rfl rfl .here (by simp [hl]) (RdA.of hr.s) oneB8 (fun h => absurd h hp) (by simp only [maxLen]; omega) (by omega) rfl (fun q cap hq hc hq0 => ?_))
    refine st (g_assign rfl) rfl ?_
    refine done ?_
    refine th_n ?_
    refine ret ?_
    exact ret1 rfl rfl rfl (fun w2 hw2 => ⟨(q, cap), ⟨⟨fun h => absurd (hq.1 h).1 (by simp), fun h => absurd h hp⟩, hq0, by simpa using hc⟩, by simp [slv], by simpa [slv] using hw2⟩)
end Go.Proofs.YtokhediaibdkjaaDoor
