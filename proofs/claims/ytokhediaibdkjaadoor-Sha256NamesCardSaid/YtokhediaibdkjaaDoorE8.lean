/- The engine, part 8: exits, scopes; numbers of a width as bit vectors; Go's ints within their bounds. -/
import Derived.Test.YtokhediaibdkjaaDoorE7
import Derived.Scope
namespace Go.Pm
open Go.RowKit

section exits
variable {cx : Cx} {e : Env} {Rs : List Res} {r : Option Nat} {P : Program} {Q : Exit → Act → World → Prop} {K : Act → World → Prop}
theorem th_n (h : At cx e Rs K) : At cx e Rs (Exit.then K Q .normal) := h
theorem th_x {id : Nat} (h : At cx e Rs (Q (.exit id))) : At cx e Rs (Exit.then K Q (.exit id)) := h
theorem th_r (h : At cx e Rs (Q .ret)) : At cx e Rs (Exit.then K Q .ret) := h
theorem ib_n {id : Nat} (h : At cx e Rs (Q .normal)) : At cx e Rs (Exit.inBlock id Q .normal) := h
theorem ib_r {id : Nat} (h : At cx e Rs (Q .ret)) : At cx e Rs (Exit.inBlock id Q .ret) := h
theorem ib_x {id : Nat} (h : At cx e Rs (Q .normal)) : At cx e Rs (Exit.inBlock id Q (.exit id)) := fun a w ha hw => by
  have := h a w ha hw
  simpa [Exit.inBlock] using this
theorem ib_y {id id' : Nat} (hne : Nat.beq id' id = false) (h : At cx e Rs (Q (.exit id'))) : At cx e Rs (Exit.inBlock id Q (.exit id')) := fun a w ha hw => by
  have h1 := h a w ha hw
  have : ¬ id' = id := fun he => by subst he; simp at hne
  simpa [Exit.inBlock, this] using h1
theorem ng_n (h : At cx e Rs (Q .normal)) : At cx e Rs (Exit.noGoto Q .normal) := h
theorem ng_r (h : At cx e Rs (Q .ret)) : At cx e Rs (Exit.noGoto Q .ret) := h
theorem ng_x {id : Nat} (h : At cx e Rs (Q (.exit id))) : At cx e Rs (Exit.noGoto Q (.exit id)) := h

theorem stepR_scope {P : Program} {b : Frame} {a : Act} {k : List Item} {cs : List Frame} {w : World} {c : Code} : step P (lone (b.atR a (.code (.scope c) :: k)) cs w) = .next (lone (b.atR a (.code c :: .inScope c :: k)) cs w) :=
  step_lone_go (by simp [stepG, stepG.exec, Frame.atR])
theorem stepR_inScope {P : Program} {b : Frame} {a : Act} {k : List Item} {cs : List Frame} {w : World} {c : Code} : step P (lone (b.atR a (.inScope c :: k)) cs w) = .next (lone (b.atR a k) cs w) :=
  step_lone_go (by simp [stepG, stepG.exec, Frame.atR])

theorem wpIn_scope {F : Fence} {n : Nat} {a : Act} {w : World} {c : Code} (h : c.wpIn F n P (Exit.noGoto Q) a w) : (Code.scope c).wpIn F n P Q a w := by
  intro b k cs hro hb hr
  have h0 : (lone (b.atR a (.code (.scope c) :: k)) cs w).fenced P F := fenced_calm hb hr rfl
  obtain ⟨e, a₁, w₁, hq, harr⟩ := h b (.inScope c :: k) cs hro hb hr
  cases e with
  | normal => exact ⟨.normal, a₁, w₁, hq, .head h0 stepR_scope (StepsIn.trans harr (.one (fenced_calm hb hr rfl) stepR_inScope))⟩
  | exit id =>
    have hx : exitTo id (.inScope c :: k) = exitTo id k := by simp [exitTo]
    exact ⟨.exit id, a₁, w₁, hq, fun k' hk => .head h0 stepR_scope (harr.1 k' (by rw [hx]; exact hk)),
      fun hr' hk => let ⟨k₁, h1, h2⟩ := harr.2 hr' (by rw [hx]; exact hk); ⟨k₁, h1, .head h0 stepR_scope h2⟩⟩
  | goto l => exact hq.elim
  | ret => exact ⟨_, a₁, w₁, hq, .of_steps (.one h0 stepR_scope) harr⟩
  | panic ch => exact ⟨_, a₁, w₁, hq, .of_steps (.one h0 stepR_scope) harr⟩
  | outgrown => exact ⟨_, a₁, w₁, hq, .of_steps (.one h0 stepR_scope) harr⟩
theorem scope {c : Code} (h : At cx e Rs (c.wpIn (FR r) 0 P (Exit.noGoto Q))) : At cx e Rs ((Code.scope c).wpIn (FR r) 0 P Q) := fun a w ha hw => wpIn_scope (h a w ha hw)
end exits

/-- Cells of an owned block, by a part of its list. -/
theorem Cells.part {cx : Cx} {Rs B : List Res} {b o : Nat} {T : TypeId} {cs vs : List Value} (hk : Pick (blk b T cs) Rs B) (hv : (cs.drop o).take vs.length = vs) : Cells cx Rs b o vs :=
  Cells.own hk fun j v hj => by
    rw [← hv, List.getElem?_take] at hj
    split at hj
    · rwa [List.getElem?_drop] at hj
    · cases hj
theorem RdA.part {cx : Cx} {Rs B : List Res} {b o : Nat} {T : TypeId} {cs vs : List Value} (hk : Pick (blk b T cs) Rs B) (hv : (cs.drop o).take vs.length = vs) : RdA cx Rs (some ⟨b, o, none⟩) vs :=
  RdA.own hk fun j v hj => by
    rw [← hv, List.getElem?_take] at hj
    split at hj
    · rwa [List.getElem?_drop] at hj
    · cases hj

/-! ### Numbers -/
theorem wrap_i64 {n : Int} (h0 : -9223372036854775808 ≤ n) (h1 : n < 9223372036854775808) : IntKind.i64.wrap n = n := by
  simp only [IntKind.wrap, IntKind.bits, IntKind.signed]
  simp
  split <;> omega
theorem wrap_u8 (n : Int) : IntKind.u8.wrap n = n % 256 := by simp [IntKind.wrap, IntKind.bits, IntKind.signed]
theorem wrap_u16 (n : Int) : IntKind.u16.wrap n = n % 65536 := by simp [IntKind.wrap, IntKind.bits, IntKind.signed]
theorem wrap_u32 (n : Int) : IntKind.u32.wrap n = n % 4294967296 := by simp [IntKind.wrap, IntKind.bits, IntKind.signed]
theorem wrap_u64 (n : Int) : IntKind.u64.wrap n = n % 18446744073709551616 := by simp [IntKind.wrap, IntKind.bits, IntKind.signed]

abbrev U32 (x : BitVec 32) : Value := .int .u32 (x.toNat : Int)
abbrev U64 (x : BitVec 64) : Value := .int .u64 (x.toNat : Int)
abbrev I64 (x : Int) : Value := .int .i64 x

section gives
variable {P : Program} {cx : Cx} {e : Env} {Rs : List Res} {d : Option Tmp} {t : TypeId} {ps : String} {af : Array Edge} {gd : Option (Nat × Bool)} {T T2 : TypeId} {x y : Operand}

theorem g_iadd {a b c : Int} (hx : ev e x = some (.int .i64 a)) (hy : ev e y = some (.int .i64 b)) (hc : a + b = c) (h0 : -9223372036854775808 ≤ c) (h1 : c < 9223372036854775808) : Gives P cx e Rs ⟨d, .binOp .add T x y T2, t, ps, af, gd⟩ (.int .i64 c) :=
  g_bin hx hy (by simp only [binI]; rw [hc, wrap_i64 h0 h1])
theorem g_isub {a b c : Int} (hx : ev e x = some (.int .i64 a)) (hy : ev e y = some (.int .i64 b)) (hc : a - b = c) (h0 : -9223372036854775808 ≤ c) (h1 : c < 9223372036854775808) : Gives P cx e Rs ⟨d, .binOp .sub T x y T2, t, ps, af, gd⟩ (.int .i64 c) :=
  g_bin hx hy (by simp only [binI]; rw [hc, wrap_i64 h0 h1])
theorem g_imul {a b c : Int} (hx : ev e x = some (.int .i64 a)) (hy : ev e y = some (.int .i64 b)) (hc : a * b = c) (h0 : -9223372036854775808 ≤ c) (h1 : c < 9223372036854775808) : Gives P cx e Rs ⟨d, .binOp .mul T x y T2, t, ps, af, gd⟩ (.int .i64 c) :=
  g_bin hx hy (by simp only [binI]; rw [hc, wrap_i64 h0 h1])
theorem g_iquo {a b c : Int} (hx : ev e x = some (.int .i64 a)) (hy : ev e y = some (.int .i64 b)) (ha : 0 ≤ a) (ha2 : a < 9223372036854775808) (hb : 0 < b) (hc : a / b = c) : Gives P cx e Rs ⟨d, .binOp .quo T x y T2, t, ps, af, gd⟩ (.int .i64 c) :=
  g_bin hx hy (by
    simp only [binI]
    rw [if_neg (by omega), Int.tdiv_eq_ediv_of_nonneg ha, hc]
    have h1 : 0 ≤ a / b := Int.ediv_nonneg ha (by omega)
    have h2 : a / b ≤ a := Int.ediv_le_self b ha
    rw [wrap_i64 (by omega) (by omega)])
theorem g_irem {a b c : Int} (hx : ev e x = some (.int .i64 a)) (hy : ev e y = some (.int .i64 b)) (ha : 0 ≤ a) (hb : 0 < b) (hc : a % b = c) : Gives P cx e Rs ⟨d, .binOp .rem T x y T2, t, ps, af, gd⟩ (.int .i64 c) :=
  g_bin hx hy (by
    simp only [binI]
    rw [if_neg (by omega), Int.tmod_eq_emod_of_nonneg ha, hc])
theorem g_ineg {a c : Int} (hx : ev e x = some (.int .i64 a)) (hc : -a = c) (h0 : -9223372036854775808 ≤ c) (h1 : c < 9223372036854775808) : Gives P cx e Rs ⟨d, .unOp .neg T x, t, ps, af, gd⟩ (.int .i64 c) :=
  g_neg hx (by simp only [binI]; rw [show (0 : Int) - a = c by omega, wrap_i64 h0 h1])

/-- A comparison that is known. -/
theorem g_T {op : BinOp} {k : IntKind} {a b : Int} {p : Prop} {hp : Decidable p} (hx : ev e x = some (.int k a)) (hy : ev e y = some (.int k b)) (hv : binI op k a b = some (.bool (decide p))) (h : p) :
    Gives P cx e Rs ⟨d, .binOp op T x y T2, t, ps, af, gd⟩ (.bool true) := g_bin hx hy (by rw [hv, decide_eq_true h])
theorem g_F {op : BinOp} {k : IntKind} {a b : Int} {p : Prop} {hp : Decidable p} (hx : ev e x = some (.int k a)) (hy : ev e y = some (.int k b)) (hv : binI op k a b = some (.bool (decide p))) (h : ¬p) :
    Gives P cx e Rs ⟨d, .binOp op T x y T2, t, ps, af, gd⟩ (.bool false) := g_bin hx hy (by rw [hv, decide_eq_false h])
theorem g_eqST {a b : ByteArray} (hx : ev e x = some (.string a)) (hy : ev e y = some (.string b)) (h : a.data.toList = b.data.toList) : Gives P cx e Rs ⟨d, .binOp .eql T x y T2, t, ps, af, gd⟩ (.bool true) := by
  have := g_eqS (P := P) (cx := cx) (Rs := Rs) (d := d) (T := T) (T2 := T2) (t := t) (ps := ps) (af := af) (gd := gd) hx hy
  rwa [decide_eq_true h] at this
theorem g_eqSF {a b : ByteArray} (hx : ev e x = some (.string a)) (hy : ev e y = some (.string b)) (h : a.data.toList ≠ b.data.toList) : Gives P cx e Rs ⟨d, .binOp .eql T x y T2, t, ps, af, gd⟩ (.bool false) := by
  have := g_eqS (P := P) (cx := cx) (Rs := Rs) (d := d) (T := T) (T2 := T2) (t := t) (ps := ps) (af := af) (gd := gd) hx hy
  rwa [decide_eq_false h] at this
theorem g_neSF {a b : ByteArray} (hx : ev e x = some (.string a)) (hy : ev e y = some (.string b)) (h : a.data.toList = b.data.toList) : Gives P cx e Rs ⟨d, .binOp .neq T x y T2, t, ps, af, gd⟩ (.bool false) := by
  have := g_neS (P := P) (cx := cx) (Rs := Rs) (d := d) (T := T) (T2 := T2) (t := t) (ps := ps) (af := af) (gd := gd) hx hy
  rwa [decide_eq_false (by simpa using h)] at this
theorem g_neST {a b : ByteArray} (hx : ev e x = some (.string a)) (hy : ev e y = some (.string b)) (h : a.data.toList ≠ b.data.toList) : Gives P cx e Rs ⟨d, .binOp .neq T x y T2, t, ps, af, gd⟩ (.bool true) := by
  have := g_neS (P := P) (cx := cx) (Rs := Rs) (d := d) (T := T) (T2 := T2) (t := t) (ps := ps) (af := af) (gd := gd) hx hy
  rwa [decide_eq_true h] at this

/-- The arithmetic of 32 and of 64 bits. -/
theorem bv_of {n : Nat} (a : BitVec n) : BitVec.ofInt n (a.toNat : Int) = a := by simp
theorem g_add32 {a b : BitVec 32} (hx : ev e x = some (U32 a)) (hy : ev e y = some (U32 b)) : Gives P cx e Rs ⟨d, .binOp .add T x y T2, t, ps, af, gd⟩ (U32 (a + b)) :=
  g_bin hx hy (congrArg (fun z : Int => some (Value.int .u32 z)) (by rw [wrap_u32, BitVec.toNat_add]; have := a.isLt; have := b.isLt; omega))
theorem g_sub32 {a b : BitVec 32} (hx : ev e x = some (U32 a)) (hy : ev e y = some (U32 b)) : Gives P cx e Rs ⟨d, .binOp .sub T x y T2, t, ps, af, gd⟩ (U32 (a - b)) :=
  g_bin hx hy (congrArg (fun z : Int => some (Value.int .u32 z)) (by rw [wrap_u32, BitVec.toNat_sub]; have := a.isLt; have := b.isLt; omega))
theorem g_mul32 {a b : BitVec 32} (hx : ev e x = some (U32 a)) (hy : ev e y = some (U32 b)) : Gives P cx e Rs ⟨d, .binOp .mul T x y T2, t, ps, af, gd⟩ (U32 (a * b)) :=
  g_bin hx hy (congrArg (fun z : Int => some (Value.int .u32 z)) (by rw [wrap_u32, BitVec.toNat_mul]; simp))
theorem g_and32 {a b : BitVec 32} (hx : ev e x = some (U32 a)) (hy : ev e y = some (U32 b)) : Gives P cx e Rs ⟨d, .binOp .and T x y T2, t, ps, af, gd⟩ (U32 (a &&& b)) :=
  g_bin hx hy (congrArg (fun z : Int => some (Value.int .u32 z)) (by
    have h : BitVec.ofInt IntKind.u32.bits (a.toNat : Int) = a := bv_of a
    have h2 : BitVec.ofInt IntKind.u32.bits (b.toNat : Int) = b := bv_of b
    rw [wrap_u32, h, h2]; have h3 := (a &&& b).isLt; exact Int.emod_eq_of_lt (Int.natCast_nonneg _) (Int.ofNat_lt.2 h3)))
theorem g_or32 {a b : BitVec 32} (hx : ev e x = some (U32 a)) (hy : ev e y = some (U32 b)) : Gives P cx e Rs ⟨d, .binOp .or T x y T2, t, ps, af, gd⟩ (U32 (a ||| b)) :=
  g_bin hx hy (congrArg (fun z : Int => some (Value.int .u32 z)) (by
    have h : BitVec.ofInt IntKind.u32.bits (a.toNat : Int) = a := bv_of a
    have h2 : BitVec.ofInt IntKind.u32.bits (b.toNat : Int) = b := bv_of b
    rw [wrap_u32, h, h2]; have h3 := (a ||| b).isLt; exact Int.emod_eq_of_lt (Int.natCast_nonneg _) (Int.ofNat_lt.2 h3)))
theorem g_xor32 {a b : BitVec 32} (hx : ev e x = some (U32 a)) (hy : ev e y = some (U32 b)) : Gives P cx e Rs ⟨d, .binOp .xor T x y T2, t, ps, af, gd⟩ (U32 (a ^^^ b)) :=
  g_bin hx hy (congrArg (fun z : Int => some (Value.int .u32 z)) (by
    have h : BitVec.ofInt IntKind.u32.bits (a.toNat : Int) = a := bv_of a
    have h2 : BitVec.ofInt IntKind.u32.bits (b.toNat : Int) = b := bv_of b
    rw [wrap_u32, h, h2]; have h3 := (a ^^^ b).isLt; exact Int.emod_eq_of_lt (Int.natCast_nonneg _) (Int.ofNat_lt.2 h3)))
theorem quo_u {n : Nat} {a b : BitVec n} : ((a.toNat : Int).tdiv (b.toNat : Int)) = ((a / b).toNat : Int) := by
  rw [Int.tdiv_eq_ediv_of_nonneg (by omega), BitVec.toNat_udiv]; rfl
theorem g_quo32 {a b : BitVec 32} (hx : ev e x = some (U32 a)) (hy : ev e y = some (U32 b)) (hb : b.toNat ≠ 0) : Gives P cx e Rs ⟨d, .binOp .quo T x y T2, t, ps, af, gd⟩ (U32 (a / b)) :=
  g_bin hx hy (by
    simp only [binI]
    rw [if_neg (by omega)]
    exact congrArg (fun z : Int => some (Value.int .u32 z)) (by rw [quo_u, wrap_u32]; have := (a / b).isLt; omega))
theorem g_rem32 {a b : BitVec 32} (hx : ev e x = some (U32 a)) (hy : ev e y = some (U32 b)) (hb : b.toNat ≠ 0) : Gives P cx e Rs ⟨d, .binOp .rem T x y T2, t, ps, af, gd⟩ (U32 (a % b)) :=
  g_bin hx hy (by
    simp only [binI]
    rw [if_neg (by omega)]
    exact congrArg (fun z : Int => some (Value.int .u32 z)) (by rw [Int.tmod_eq_emod_of_nonneg (by omega), BitVec.toNat_umod]; rfl))
theorem shl_u (a n m : Nat) {M : Nat} (hm : 2 ^ m = M) : ((a : Int) * 2 ^ (min n m)) % (M : Int) = (((a <<< n) % M : Nat) : Int) := by
  subst hm
  rw [Nat.shiftLeft_eq]
  rcases Nat.le_total n m with h | h
  · rw [Nat.min_eq_left h]; simp
  · rw [Nat.min_eq_right h]
    have e1 : a * 2 ^ n = (a * 2 ^ (n - m)) * 2 ^ m := by rw [Nat.mul_assoc, ← Nat.pow_add, Nat.sub_add_cancel h]
    rw [e1, Nat.mul_mod_left]
    have e2 : ((a : Int) * 2 ^ m) = ((a * 2 ^ m : Nat) : Int) := by simp
    rw [e2, ← Int.natCast_emod, Nat.mul_mod_left]
theorem g_shl32 {a : BitVec 32} {k : IntKind} {c : Int} {n : Nat} (hx : ev e x = some (U32 a)) (hy : ev e y = some (.int k c)) (hn : c = n) : Gives P cx e Rs ⟨d, .binOp .shl T x y T2, t, ps, af, gd⟩ (U32 (a <<< n)) :=
  g_shf hx hy (by omega) (by
    subst hn
    exact congrArg (fun z : Int => some (Value.int .u32 z)) (by
      rw [wrap_u32, BitVec.toNat_shiftLeft]
      exact shl_u a.toNat n 32 (M := 4294967296) (by decide)))
theorem shr_u (a n m : Nat) (ha : a < 2 ^ m) : (a : Int).fdiv (2 ^ (min n m)) = ((a >>> n : Nat) : Int) := by
  rw [Nat.shiftRight_eq_div_pow]
  have e2 : (2 ^ (min n m) : Int) = ((2 ^ (min n m) : Nat) : Int) := by simp
  rw [e2, Int.fdiv_eq_ediv_of_nonneg _ (Int.natCast_nonneg _), ← Int.natCast_ediv]
  rcases Nat.le_total n m with h | h
  · rw [Nat.min_eq_left h]
  · rw [Nat.min_eq_right h, Nat.div_eq_of_lt ha, Nat.div_eq_of_lt (Nat.lt_of_lt_of_le ha (Nat.pow_le_pow_right (by decide) h))]
theorem g_shr32 {a : BitVec 32} {k : IntKind} {c : Int} {n : Nat} (hx : ev e x = some (U32 a)) (hy : ev e y = some (.int k c)) (hn : c = n) : Gives P cx e Rs ⟨d, .binOp .shr T x y T2, t, ps, af, gd⟩ (U32 (a >>> n)) :=
  g_shf hx hy (by omega) (by
    subst hn
    exact congrArg (fun z : Int => some (Value.int .u32 z)) (by
      rw [BitVec.toNat_ushiftRight]
      exact shr_u a.toNat n 32 a.isLt))
theorem g_add64 {a b : BitVec 64} (hx : ev e x = some (U64 a)) (hy : ev e y = some (U64 b)) : Gives P cx e Rs ⟨d, .binOp .add T x y T2, t, ps, af, gd⟩ (U64 (a + b)) :=
  g_bin hx hy (congrArg (fun z : Int => some (Value.int .u64 z)) (by rw [wrap_u64, BitVec.toNat_add]; have := a.isLt; have := b.isLt; omega))
theorem g_sub64 {a b : BitVec 64} (hx : ev e x = some (U64 a)) (hy : ev e y = some (U64 b)) : Gives P cx e Rs ⟨d, .binOp .sub T x y T2, t, ps, af, gd⟩ (U64 (a - b)) :=
  g_bin hx hy (congrArg (fun z : Int => some (Value.int .u64 z)) (by rw [wrap_u64, BitVec.toNat_sub]; have := a.isLt; have := b.isLt; omega))
theorem g_mul64 {a b : BitVec 64} (hx : ev e x = some (U64 a)) (hy : ev e y = some (U64 b)) : Gives P cx e Rs ⟨d, .binOp .mul T x y T2, t, ps, af, gd⟩ (U64 (a * b)) :=
  g_bin hx hy (congrArg (fun z : Int => some (Value.int .u64 z)) (by rw [wrap_u64, BitVec.toNat_mul]; simp))
theorem g_and64 {a b : BitVec 64} (hx : ev e x = some (U64 a)) (hy : ev e y = some (U64 b)) : Gives P cx e Rs ⟨d, .binOp .and T x y T2, t, ps, af, gd⟩ (U64 (a &&& b)) :=
  g_bin hx hy (congrArg (fun z : Int => some (Value.int .u64 z)) (by
    have h : BitVec.ofInt IntKind.u64.bits (a.toNat : Int) = a := bv_of a
    have h2 : BitVec.ofInt IntKind.u64.bits (b.toNat : Int) = b := bv_of b
    rw [wrap_u64, h, h2]; have h3 := (a &&& b).isLt; exact Int.emod_eq_of_lt (Int.natCast_nonneg _) (Int.ofNat_lt.2 h3)))
theorem g_or64 {a b : BitVec 64} (hx : ev e x = some (U64 a)) (hy : ev e y = some (U64 b)) : Gives P cx e Rs ⟨d, .binOp .or T x y T2, t, ps, af, gd⟩ (U64 (a ||| b)) :=
  g_bin hx hy (congrArg (fun z : Int => some (Value.int .u64 z)) (by
    have h : BitVec.ofInt IntKind.u64.bits (a.toNat : Int) = a := bv_of a
    have h2 : BitVec.ofInt IntKind.u64.bits (b.toNat : Int) = b := bv_of b
    rw [wrap_u64, h, h2]; have h3 := (a ||| b).isLt; exact Int.emod_eq_of_lt (Int.natCast_nonneg _) (Int.ofNat_lt.2 h3)))
theorem g_quo64 {a b : BitVec 64} (hx : ev e x = some (U64 a)) (hy : ev e y = some (U64 b)) (hb : b.toNat ≠ 0) : Gives P cx e Rs ⟨d, .binOp .quo T x y T2, t, ps, af, gd⟩ (U64 (a / b)) :=
  g_bin hx hy (by
    simp only [binI]
    rw [if_neg (by omega)]
    exact congrArg (fun z : Int => some (Value.int .u64 z)) (by rw [quo_u, wrap_u64]; have := (a / b).isLt; omega))
theorem g_rem64 {a b : BitVec 64} (hx : ev e x = some (U64 a)) (hy : ev e y = some (U64 b)) (hb : b.toNat ≠ 0) : Gives P cx e Rs ⟨d, .binOp .rem T x y T2, t, ps, af, gd⟩ (U64 (a % b)) :=
  g_bin hx hy (by
    simp only [binI]
    rw [if_neg (by omega)]
    exact congrArg (fun z : Int => some (Value.int .u64 z)) (by rw [Int.tmod_eq_emod_of_nonneg (by omega), BitVec.toNat_umod]; rfl))
theorem g_shl64 {a : BitVec 64} {k : IntKind} {c : Int} {n : Nat} (hx : ev e x = some (U64 a)) (hy : ev e y = some (.int k c)) (hn : c = n) : Gives P cx e Rs ⟨d, .binOp .shl T x y T2, t, ps, af, gd⟩ (U64 (a <<< n)) :=
  g_shf hx hy (by omega) (by
    subst hn
    exact congrArg (fun z : Int => some (Value.int .u64 z)) (by
      rw [wrap_u64, BitVec.toNat_shiftLeft]
      exact shl_u a.toNat n 64 (M := 18446744073709551616) (by decide)))
theorem g_shr64 {a : BitVec 64} {k : IntKind} {c : Int} {n : Nat} (hx : ev e x = some (U64 a)) (hy : ev e y = some (.int k c)) (hn : c = n) : Gives P cx e Rs ⟨d, .binOp .shr T x y T2, t, ps, af, gd⟩ (U64 (a >>> n)) :=
  g_shf hx hy (by omega) (by
    subst hn
    exact congrArg (fun z : Int => some (Value.int .u64 z)) (by
      rw [BitVec.toNat_ushiftRight]
      exact shr_u a.toNat n 64 a.isLt))
theorem g_add8 {a b : UInt8} (hx : ev e x = some (B8 a)) (hy : ev e y = some (B8 b)) : Gives P cx e Rs ⟨d, .binOp .add T x y T2, t, ps, af, gd⟩ (B8 (a + b)) :=
  g_bin hx hy (congrArg (fun z : Int => some (Value.int .u8 z)) (by rw [wrap_u8, UInt8.toNat_add]; simp))

/-- Conversions. -/
theorem g_to32 {S T : TypeId} {k0 k : IntKind} {a : Int} {n : Nat} (hS : intT P S = some k0) (hT : intT P T = some .u32) (hx : ev e x = some (.int k a)) (ha : a = n) : Gives P cx e Rs ⟨d, .convert S T x, t, ps, af, gd⟩ (U32 (BitVec.ofNat 32 n)) :=
  g_conv hS hT hx (by subst ha; rw [wrap_u32, BitVec.toNat_ofNat]; rfl)
theorem g_to64 {S T : TypeId} {k0 k : IntKind} {a : Int} {n : Nat} (hS : intT P S = some k0) (hT : intT P T = some .u64) (hx : ev e x = some (.int k a)) (ha : a = n) : Gives P cx e Rs ⟨d, .convert S T x, t, ps, af, gd⟩ (U64 (BitVec.ofNat 64 n)) :=
  g_conv hS hT hx (by subst ha; rw [wrap_u64, BitVec.toNat_ofNat]; rfl)
theorem g_to8 {S T : TypeId} {k0 k : IntKind} {a : Int} {n : Nat} (hS : intT P S = some k0) (hT : intT P T = some .u8) (hx : ev e x = some (.int k a)) (ha : a = n) : Gives P cx e Rs ⟨d, .convert S T x, t, ps, af, gd⟩ (B8 (UInt8.ofNat n)) :=
  g_conv hS hT hx (by subst ha; rw [wrap_u8]; simp)
theorem g_toI {S T : TypeId} {k0 k : IntKind} {a c : Int} (hS : intT P S = some k0) (hT : intT P T = some .i64) (hx : ev e x = some (.int k a)) (hc : a = c) (h0 : -9223372036854775808 ≤ c) (h1 : c < 9223372036854775808) : Gives P cx e Rs ⟨d, .convert S T x, t, ps, af, gd⟩ (.int .i64 c) :=
  g_conv hS hT hx (by subst hc; exact wrap_i64 h0 h1)
end gives
end Go.Pm
