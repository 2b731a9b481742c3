/- The walks of strings.Builder and octet.Hex. (printed by gen1.py) -/
import Derived.Test.YtokhediaibdkjaaDoorE12
import Derived.Test.YtokhediaibdkjaaDoorW10
namespace Go.Proofs.YtokhediaibdkjaaDoor
open Go.Pm Go.RowKit
set_option maxRecDepth 100000
/-- What a Builder owns. -/
abbrev bldR (b : Nat) (a : Option Addr) (n : Nat) (y : Option Addr × Nat) (l : List UInt8) : List Res := [blk b 168 [.pointer a, slv n y], vec (slv n y) 5 1 n (l.map B8)]
theorem un_166 : Tryd.prog.underlying 166 = some (.pointer 168) := by kernel_rfl
theorem un_184 : Tryd.prog.underlying 184 = some (.pointer 5) := by kernel_rfl
theorem un_189 : Tryd.prog.underlying 189 = some .unsafePointer := by kernel_rfl
theorem co_5 : Tryd.prog.cellsOf 5 = 1 := by kernel_rfl
theorem lies_168 : liesAt Tryd.prog Tryd.prog.depth 168 (2 / Tryd.prog.cellsOf 168) 0 168 1 = true := by kernel_rfl


theorem f110_new (b : Nat) (v : Value) (w : World) (hA : Sat w (fps [blk b 168 [.pointer none, v]]) [blk b 168 [.pointer none, v]] w) : Calls Tryd.prog 110 [.pointer (some ⟨b, 0, none⟩)].toArray w (fun en w2 => ∃ _x : Unit, True ∧ en = .returned (.tuple #[]) ∧ Sat w (fps [blk b 168 [.pointer none, v]]) [blk b 168 [.pointer (some ⟨b, 0, none⟩), v]] w2) := by
  refine enter (n := 20) Tryd.func110 rfl rfl rfl hA ?_
  refine seq ?_
  refine region ?_
  refine st (g_move rfl) rfl ?_
  refine st (g_nilCheck rfl) rfl ?_
  refine st (g_fieldAddr fo_168_0 rfl rfl) rfl ?_
  refine st (g_load sc_166 rfl (Cell.own .here (rfl))) rfl ?_
  refine st (g_eqNil pt_166 rfl rfl) rfl ?_
  refine done ?_
  refine th_n ?_
  refine condT rfl ?_
  refine region ?_
  refine st (g_move rfl) rfl ?_
  refine st (g_move rfl) rfl ?_
  refine st (g_toUnsafe un_166 un_189 sz_168 rfl .here (Nat.le_of_ble_eq_true rfl)) rfl ?_
  refine sq rfl (o_extern (ex := Extern.AbiNoEscape.same) Tryd.func115 rfl rfl (by kernel_rfl) (by kernel_rfl) rfl (fun w => Go.Lib.run_noEscape w _) rfl ?_)
  refine st (g_fromUnsafe un_189 un_166 sz_168 rfl .here lies_168) rfl ?_
  refine st (g_nilCheck rfl) rfl ?_
  refine st (g_fieldAddr fo_168_0 rfl rfl) rfl ?_
  refine sq rfl (o_store (cs' := [.pointer (some ⟨b, 0, none⟩), v]) sz_166 rfl rfl rfl .here (Nat.le_of_ble_eq_true rfl) rfl ?_)
  refine done ?_
  exact ret0n rfl rfl (fun w2 hw2 => ⟨(), trivial, rfl, hw2⟩)

theorem f110_old (b : Nat) (v : Value) (w : World) (hA : Sat w (fps [blk b 168 [.pointer (some ⟨b, 0, none⟩), v]]) [blk b 168 [.pointer (some ⟨b, 0, none⟩), v]] w) : Calls Tryd.prog 110 [.pointer (some ⟨b, 0, none⟩)].toArray w (fun en w2 => ∃ _x : Unit, True ∧ en = .returned (.tuple #[]) ∧ Sat w (fps [blk b 168 [.pointer (some ⟨b, 0, none⟩), v]]) [blk b 168 [.pointer (some ⟨b, 0, none⟩), v]] w2) := by
  refine enter (n := 20) Tryd.func110 rfl rfl rfl hA ?_
  refine seq ?_
  refine region ?_
  refine st (g_move rfl) rfl ?_
  refine st (g_nilCheck rfl) rfl ?_
  refine st (g_fieldAddr fo_168_0 rfl rfl) rfl ?_
  refine st (g_load sc_166 rfl (Cell.own .here (rfl))) rfl ?_
  refine st (g_eqNil pt_166 rfl rfl) rfl ?_
  refine done ?_
  refine th_n ?_
  refine condF rfl ?_
  refine seq ?_
  refine region ?_
  refine st (g_move rfl) rfl ?_
  refine st (g_nilCheck rfl) rfl ?_
  refine st (g_fieldAddr fo_168_0 rfl rfl) rfl ?_
  refine st (g_load sc_166 rfl (Cell.own .here (rfl))) rfl ?_
  refine st (g_move rfl) rfl ?_
  refine st (g_nePtrSame un_166 sz_168 rfl rfl) rfl ?_
  refine done ?_
  refine th_n ?_
  refine condF rfl ?_
  refine skip ?_
  exact ret0n rfl rfl (fun w2 hw2 => ⟨(), trivial, rfl, hw2⟩)

theorem f110_spec (b : Nat) (a : Option Addr) (ha : a = none ∨ a = some ⟨b, 0, none⟩) (v : Value) (w : World) (hA : Sat w (fps [blk b 168 [.pointer a, v]]) [blk b 168 [.pointer a, v]] w) :
    Calls Tryd.prog 110 [.pointer (some ⟨b, 0, none⟩)].toArray w (fun en w2 => ∃ _x : Unit, True ∧ en = .returned (.tuple #[]) ∧ Sat w (fps [blk b 168 [.pointer a, v]]) [blk b 168 [.pointer (some ⟨b, 0, none⟩), v]] w2) := by
  rcases ha with rfl | rfl
  · exact f110_new b v w hA
  · exact f110_old b v w hA

theorem f100_spec (b : Nat) (a : Option Addr) (ha : a = none ∨ a = some ⟨b, 0, none⟩) (n : Nat) (y : Option Addr × Nat) (hy : y.1 = none → y.2 = 0) (l : List UInt8) (hn : n ≤ 1000000000) (c : UInt8) (w : World) (hA : Sat w (fps (bldR b a n y l)) (bldR b a n y l) w) :
    Calls Tryd.prog 100 [.pointer (some ⟨b, 0, none⟩), B8 c].toArray w (fun en w2 => ∃ z : Option Addr × Nat, (z.1.isSome = true ∧ z.2 ≠ 0) ∧ en = .returned .nilIface ∧ Sat w (fps (bldR b a n y l)) (bldR b (some ⟨b, 0, none⟩) (n + 1) z (l ++ [c])) w2) := by
  refine enter (n := 17) Tryd.func100 rfl rfl rfl hA ?_
  refine seq ?_
  refine region ?_
  refine st (g_assign rfl) rfl ?_
  refine done ?_
  refine th_n ?_
  refine seq ?_
  refine region ?_
  refine st (g_move rfl) rfl ?_
  refine sq rfl (o_call Tryd.func110 rfl rfl rfl (.cons .here .nil) (fun w hw hA => f110_spec b a ha _ w hA) rfl (fun _ _ => ?_))
  refine done ?_
  refine th_n ?_
  refine seq ?_
  refine region ?_
  refine st (g_move rfl) rfl ?_
  refine st (g_move rfl) rfl ?_
  refine st (g_nilCheck rfl) rfl ?_
  refine st (g_fieldAddr fo_168_1 rfl rfl) rfl ?_
  refine st (g_load (v := slv n y) sc_23 rfl (Cell.own .here rfl)) rfl ?_
  refine st (g_move rfl) rfl ?_
  refine sq rfl (o_buildSlice1 (vs := [B8 c]) un_23 zr_5 sz_5 (by decide) (by decide) rfl rfl rfl (by simp [Value.oneCell']) rfl (fun b13 => ?_))
  refine sq rfl (o_append (n := n) (m := 1) (news := [c].map B8) un_23 zr_5 sz_5 rfl bt_5 (by decide) rfl rfl (.there (.there (.here))) rfl (RdA.own .here (by simp)) oneB8 (by simp) (by simp only [maxLen]; omega) (by omega) rfl (fun q cap hq hc hq0 => ?_))
  have hqs : q.isSome = true := by
    cases q with
    | none => exact absurd (hq.1 rfl).2 (by decide)
    | some a => rfl
  rw [← List.map_append]
  refine st (g_nilCheck rfl) rfl ?_
  refine st (g_fieldAddr fo_168_1 rfl rfl) rfl ?_
  refine sq rfl (o_store (cs' := [.pointer (some ⟨b, 0, none⟩), slv (n + 1) (q, cap)]) sz_23 rfl rfl rfl (.there (.there (.here))) (Nat.le_of_ble_eq_true rfl) rfl ?_)
  refine done ?_
  refine th_n ?_
  refine seq ?_
  refine region ?_
  refine st (g_assign rfl) rfl ?_
  refine done ?_
  refine th_n ?_
  refine ret ?_
  exact ret1 rfl rfl rfl (fun w2 hw2 => ⟨(q, cap), ⟨hqs, by omega⟩, rfl, ((hw2.split (A := bldR b (some ⟨b, 0, none⟩) (n + 1) (q, cap) (l ++ [c])) (.cons .here (.cons .here .nil))).perm List.perm_append_comm).dropA _⟩)

theorem f101_spec (b : Nat) (a : Option Addr) (n : Nat) (y : Option Addr × Nat) (hy : y.1.isSome = true) (hy2 : y.2 ≠ 0) (l : List UInt8) (hl : l ≠ []) (hln : l.length = n) (w : World) (hA : Sat w (fps (bldR b a n y l)) (bldR b a n y l) w) :
    Calls Tryd.prog 101 [.pointer (some ⟨b, 0, none⟩)].toArray w (fun en w2 => ∃ _x : Unit, True ∧ en = .returned (.string ⟨l.toArray⟩) ∧ Sat w (fps (bldR b a n y l)) [] w2) := by
  obtain ⟨y1, y2⟩ := y
  obtain ⟨ya, rfl⟩ := Option.isSome_iff_exists.1 hy
  refine enter (n := 14) Tryd.func101 rfl rfl rfl hA ?_
  refine seq ?_
  refine region ?_
  refine st (g_assign rfl) rfl ?_
  refine done ?_
  refine th_n ?_
  refine seq ?_
  refine regionL ⟨[_], [], []⟩ mixed (by decide +kernel) (.cons .here .nil) .nil ?_
  refine An'.q 0 [] rfl (by decide +kernel) rfl rfl (g_move rfl) rfl ?_
  refine An'.q 1 [] rfl (by decide +kernel) rfl rfl (g_nilCheck rfl) rfl ?_
  refine An'.q 2 [] rfl (by decide +kernel) rfl rfl (g_fieldAddr fo_168_1 rfl rfl) rfl ?_
  refine An'.q 3 [] rfl (by decide +kernel) rfl rfl (g_load (v := slv n (some ya, y2)) sc_23 rfl (Cell.own .here rfl)) rfl ?_
  refine An'.q 4 [] rfl (by decide +kernel) rfl rfl (g_unsafeData rfl hy2) rfl ?_
  refine An'.q 5 [] rfl (by decide +kernel) rfl rfl (g_move rfl) rfl ?_
  refine An'.q 6 [] rfl (by decide +kernel) rfl rfl (g_nilCheck rfl) rfl ?_
  refine An'.q 7 [] rfl (by decide +kernel) rfl rfl (g_fieldAddr fo_168_1 rfl rfl) rfl ?_
  refine An'.q 8 [] rfl (by decide +kernel) rfl rfl (g_load (v := slv n (some ya, y2)) sc_23 rfl (Cell.own .here rfl)) rfl ?_
  refine An'.q 9 [] rfl (by decide +kernel) rfl rfl (g_len el_23 rfl) rfl ?_
  refine An'.one 10 (by decide +kernel) rfl rfl ?_
  refine o_unsafeString (l := l) un_184 co_5 rfl rfl (.there .here) hl rfl ?_
  refine An'.on0 (.cons .here .nil) .nil rfl ?_
  refine An'.q 11 [] rfl (by decide +kernel) rfl rfl (g_assign rfl) rfl ?_
  refine An'.fin (by decide +kernel) ?_
  refine th_n ?_
  refine ret ?_
  exact ret1 rfl rfl rfl (fun w2 hw2 => ⟨(), trivial, rfl, hw2.drop⟩)

def hexd (k : Nat) : UInt8 := UInt8.ofNat (if k < 10 then 48 + k else 87 + k)
def hex2 (x : UInt8) : List UInt8 := [hexd (x.toNat / 16), hexd (x.toNat % 16)]
def hexL (bs : List UInt8) : List UInt8 := bs.flatMap hex2
theorem hexL_length (bs : List UInt8) : (hexL bs).length = 2 * bs.length := by
  induction bs with
  | nil => rfl
  | cons x bs ih => simp only [hexL, List.flatMap_cons, List.length_append, List.length_cons] at ih ⊢; rw [ih]; simp [hex2]; omega
theorem hexL_ne {bs : List UInt8} (h0 : bs ≠ []) : hexL bs ≠ [] := fun h => by
  have h1 := hexL_length bs
  rw [h] at h1
  have h2 := List.length_pos_iff.2 h0
  simp only [List.length_nil] at h1
  omega
theorem hexL_take {bs : List UInt8} {i : Nat} (hi : i < bs.length) : hexL (bs.take (i + 1)) = (hexL (bs.take i) ++ [hexd ((bs.getD i 0).toNat / 16)]) ++ [hexd ((bs.getD i 0).toNat % 16)] := by
  have h : bs[i]? = some (bs.getD i 0) := by simp [hi]
  rw [take_one h]
  simp [hexL, hex2]
abbrev hexTab : ByteArray := ⟨#[48, 49, 50, 51, 52, 53, 54, 55, 56, 57, 97, 98, 99, 100, 101, 102]⟩
theorem hexTab_get {k : Nat} (hk : k < 16) : hexTab[((k : Nat) : Int).toNat]? = some (hexd k) := by
  have h : ∀ k : Fin 16, hexTab[((k.val : Nat) : Int).toNat]? = some (hexd k.val) := by decide
  exact h ⟨k, hk⟩


theorem f70_spec (p : Option Addr) (n c : Nat) (bs : List UInt8) (hb : bs.length = n) (hn : n ≤ 100000000) (h0 : bs ≠ []) (w : World) (hr : RdC w p (bs.map B8)) :
    Calls Tryd.prog 70 [.slice p n c].toArray w (fun en w2 => ∃ _x : Unit, True ∧ en = .returned (.string ⟨(hexL bs).toArray⟩) ∧ Sat w (fps []) [] w2) := by
  have hp : p.isSome = true := hr.some (by simpa using h0)
  refine enter (n := 22) Tryd.func70 rfl rfl rfl (Sat.refl w) ?_
  refine seq ?_
  refine region ?_
  refine st (g_assign rfl) rfl ?_
  refine done ?_
  refine th_n ?_
  refine seq ?_
  refine region ?_
  refine sq rfl (o_alloc zr_168 rfl (fun b3 => ?_))
  refine At.up (fun w hw => new0_vec (T := 5) (s := 1) hw ⟨rfl, .inl ⟨rfl, rfl⟩⟩) ?_
  refine done ?_
  refine th_n ?_
  refine seq ?_
  refine seq ?_
  refine region ?_
  refine st (g_move rfl) rfl ?_
  refine st (g_len el_23 rfl) rfl ?_
  refine st (g_move rfl) rfl ?_
  refine done ?_
  refine th_n ?_
  refine block ?_
  refine loop (α := Nat × (Option Addr × Nat) × Option Addr) (fun ⟨i, y, a⟩ => i ≤ n ∧ (y.1 = none → y.2 = 0) ∧ (a = none ∨ a = some ⟨b3, 0, none⟩) ∧ (0 < i → y.1.isSome = true ∧ y.2 ≠ 0)) (fun ⟨i, y, a⟩ => [(3, .pointer (some ⟨b3, 0, none⟩)), (6, .slice p n c), (7, I64 (n : Nat)), (8, I64 (i : Nat))]) (fun ⟨i, y, a⟩ => bldR b3 a (2 * i) y (hexL (bs.take i))) (fun ⟨i, y, a⟩ => n - i) (0, (none, 0), none) ⟨Nat.zero_le _, fun _ => rfl, .inl rfl, fun h => absurd h (by decide)⟩ ⟨rfl, rfl, rfl, rfl, trivial⟩ (.cons (.there (.here)) (.cons .here .nil)) (fun ⟨i, y, a⟩ ⟨hI, hy1, ha, hy2⟩ => ?_)
  refine seq ?_
  refine region ?_
  refine st (g_bin rfl rfl rfl) rfl ?_
  refine done ?_
  refine th_n ?_
  refine seq ?_
  refine condS rfl (fun h9 => ?_) (fun h9 => ?_)
  · try simp only [decide_eq_true_eq, decide_eq_false_iff_not] at h9
    have hi : i < bs.length := by omega
    refine skip ?_
    refine th_n ?_
    refine seq ?_
    refine block ?_
    refine seq ?_
    refine region ?_
    refine st (g_indexP (m := i) el_23 rfl rfl (hp) (by omega) (by omega) (by omega)) rfl ?_
    refine st (g_load (v := B8 (bs.getD i 0)) sc_5 rfl (Cell.rd (RdA.of hr.s) (get_B8 (by omega) hi))) rfl ?_
    refine st (g_assign rfl) rfl ?_
    refine done ?_
    refine th_n ?_
    refine seq ?_
    refine region ?_
    refine st (g_move rfl) rfl ?_
    refine st (g_hi4 rfl rfl) rfl ?_
    refine st (g_sIdx (s := hexTab) str_9 rfl rfl (by omega) (hexTab_get (by have : (bs.getD i 0).toNat < 256 := UInt8.toNat_lt _; omega))) rfl ?_
    refine sq rfl (o_call Tryd.func100 rfl rfl rfl (.cons .here (.cons .here .nil)) (fun w hw hA => f100_spec b3 a ha (2 * i) y hy1 _ (by omega) _ w hA) rfl (fun z hz => ?_))
    refine done ?_
    refine th_n ?_
    refine region ?_
    refine st (g_move rfl) rfl ?_
    refine st (g_lo4 rfl rfl) rfl ?_
    refine st (g_sIdx (s := hexTab) str_9 rfl rfl (by omega) (hexTab_get (by omega))) rfl ?_
    refine sq rfl (o_call Tryd.func100 rfl rfl rfl (.cons .here (.cons .here .nil)) (fun w hw hA => f100_spec b3 _ (.inr rfl) (2 * i + 1) z (fun h => by rw [h] at hz; exact absurd hz.1 (by simp)) _ (by omega) _ w hA) rfl (fun z2 hz2 => ?_))
    refine done ?_
    refine ib_n ?_
    refine th_n ?_
    refine region ?_
    refine st (g_iadd rfl rfl rfl (by omega) (by omega)) rfl ?_
    refine st (g_move rfl) rfl ?_
    refine done ?_
    refine th_n ?_
    rw [← hexL_take (by omega)]
    exact again (i + 1, z2, some ⟨b3, 0, none⟩) ⟨by omega, fun h => by rw [h] at hz2; exact absurd hz2.1 (by simp), .inr rfl, fun _ => hz2⟩ (by show _ < _; simp only; omega) ⟨rfl, rfl, rfl, rfl, trivial⟩ (.cons .here (.cons .here .nil))
  · try simp only [decide_eq_true_eq, decide_eq_false_iff_not] at h9
    have hie : i = n := by omega
    subst hie
    have hlast : bs.take bs.length = bs := List.take_length
    refine exitc ?_
    refine th_x ?_
    refine th_x ?_
    refine ib_x ?_
    refine th_n ?_
    refine seq ?_
    refine region ?_
    refine sq rfl (o_call Tryd.func101 rfl rfl rfl (.cons .here (.cons .here .nil)) (fun w hw hA => f101_spec b3 a (2 * i) y (hy2 (by rw [← hb]; exact List.length_pos_iff.2 h0)).1 (hy2 (by rw [← hb]; exact List.length_pos_iff.2 h0)).2 (hexL (bs.take i)) (by rw [← hb, hlast]; exact hexL_ne h0) (by rw [← hb, hlast, hexL_length]) w hA) rfl (fun _ _ => ?_))
    refine st (g_assign rfl) rfl ?_
    refine done ?_
    refine th_n ?_
    refine ret ?_
    exact ret1 rfl rfl rfl (fun w2 hw2 => ⟨(), trivial, by rw [← hb, hlast], hw2⟩)
end Go.Proofs.YtokhediaibdkjaaDoor
