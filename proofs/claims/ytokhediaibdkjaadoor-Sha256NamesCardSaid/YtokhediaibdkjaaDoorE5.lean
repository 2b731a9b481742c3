/- The engine, part 5: comparisons, structs by value, appends, copies, makes. -/
import Derived.Test.YtokhediaibdkjaaDoorE4
namespace Go.Pm
open Go.RowKit

section gives
variable {P : Program} {cx : Cx} {e : Env} {Rs : List Res} {d : Option Tmp} {t : TypeId} {ps : String} {af : Array Edge} {gd : Option (Nat × Bool)}

theorem g_sIdx {T : TypeId} {x ix : Operand} {s : ByteArray} {k : IntKind} {i : Int} {b : UInt8} (hT : strT P T = true) (hx : ev e x = some (.string s)) (hi : ev e ix = some (.int k i)) (h0 : 0 ≤ i) (hb : s[i.toNat]? = some b) :
    Gives P cx e Rs ⟨d, .index T x ix, t, ps, af, gd⟩ (B8 b) :=
  ⟨nofun, fun ρ w hρ _ => by
    have e1 := hρ x _ (by simp [Op.operands]) hx
    have e2 := hρ ix _ (by simp [Op.operands]) hi
    simp only [execOp, e1, e2, Instr.index, asIntOf, Sem.run_bind, Sem.run_pure, Result.andThen_ok, run_underlying (strT_spec hT)]
    simp [h0, hb]⟩

def ptrT (P : Program) (t : TypeId) : Bool := match P.underlying t with
  | some (.pointer _) => true
  | _ => false
theorem ptrT_spec {t : TypeId} (h : ptrT P t = true) : ∃ el, P.underlying t = some (.pointer el) := by
  unfold ptrT at h
  split at h
  · rename_i el hu; exact ⟨el, hu⟩
  · cases h

theorem run_eqGuard_ptr (op : BinOp) (T : TypeId) (x y : Operand) (a b : Option Addr) (w : World) : (eqGuard op T x y (.pointer a) (.pointer b)).run P w = .ok () w := by
  cases op <;> rfl
theorem ptrT_pointee {t : TypeId} (h : ptrT P t = true) : P.underlying t = some (.pointer (P.pointee t)) := by
  obtain ⟨el, hu⟩ := ptrT_spec h
  simp [Program.pointee, hu]

/-- A pointer held against nil. -/
theorem g_eqNil {T T2 : TypeId} {x : Operand} {y : Operand} {p : Option Addr} (hT : ptrT P T = true) (hx : ev e x = some (.pointer p)) (hy : ev e y = some (.pointer none)) :
    Gives P cx e Rs ⟨d, .binOp .eql T x y T2, t, ps, af, gd⟩ (.bool p.isNone) :=
  ⟨nofun, fun ρ w hρ _ => by
    have e1 := hρ x _ (by simp [Op.operands]) hx
    have e2 := hρ y _ (by simp [Op.operands]) hy
    simp only [execOp, e1, e2, Sem.run_bind, run_eqGuard_ptr, Result.andThen_ok, run_eql_pointer_nil w T p (ptrT_pointee hT)]
    rfl⟩
theorem g_neNil {T T2 : TypeId} {x : Operand} {y : Operand} {p : Option Addr} (hT : ptrT P T = true) (hx : ev e x = some (.pointer p)) (hy : ev e y = some (.pointer none)) :
    Gives P cx e Rs ⟨d, .binOp .neq T x y T2, t, ps, af, gd⟩ (.bool p.isSome) :=
  ⟨nofun, fun ρ w hρ _ => by
    have e1 := hρ x _ (by simp [Op.operands]) hx
    have e2 := hρ y _ (by simp [Op.operands]) hy
    simp only [execOp, e1, e2, Sem.run_bind, run_eqGuard_ptr, Result.andThen_ok, run_neq_pointer_nil w T p (ptrT_pointee hT)]
    cases p <;> rfl⟩

theorem run_eqGuard_str (op : BinOp) (T : TypeId) (x y : Operand) (a b : ByteArray) (w : World) : (eqGuard op T x y (.string a) (.string b)).run P w = .ok () w := by
  cases op <;> rfl
theorem run_eqGuard_bool (op : BinOp) (T : TypeId) (x y : Operand) (a b : Bool) (w : World) : (eqGuard op T x y (.bool a) (.bool b)).run P w = .ok () w := by
  cases op <;> rfl

theorem toList_loop (bs : ByteArray) : ∀ (n i : Nat) (r : List UInt8), bs.size - i = n → ByteArray.toList.loop bs i r = r.reverse ++ bs.data.toList.drop i := by
  intro n
  induction n with
  | zero =>
    intro i r hn
    unfold ByteArray.toList.loop
    have : ¬ i < bs.size := by omega
    simp only [this, if_false]
    have hs : bs.size = bs.data.toList.length := by rw [Array.length_toList]; rfl
    have h2 : bs.data.toList.length ≤ i := by omega
    simp [List.drop_eq_nil_of_le h2]
  | succ n ih =>
    intro i r hn
    unfold ByteArray.toList.loop
    have hlt : i < bs.size := by omega
    simp only [hlt, if_true]
    rw [ih (i + 1) _ (by omega)]
    have hs : bs.size = bs.data.toList.length := by rw [Array.length_toList]; rfl
    have h2 : i < bs.data.toList.length := by omega
    rw [List.drop_eq_getElem_cons h2]
    have : bs.get! i = bs.data.toList[i] := by
      simp only [ByteArray.get!, Array.getElem_toList]
      exact getElem!_pos bs.data i (by simpa using h2)
    simp [this]
theorem toList_eq (bs : ByteArray) : bs.toList = bs.data.toList := by
  unfold ByteArray.toList
  rw [toList_loop bs _ 0 [] rfl]; simp
@[simp] theorem toList_mk (l : List UInt8) : (ByteArray.mk l.toArray).toList = l := by rw [toList_eq]

theorem beq_dec (a b : List UInt8) : (a == b) = decide (a = b) := by rw [Bool.eq_iff_iff]; simp

/-- Two strings. -/
theorem g_eqS {T T2 : TypeId} {x y : Operand} {a b : ByteArray} (hx : ev e x = some (.string a)) (hy : ev e y = some (.string b)) : Gives P cx e Rs ⟨d, .binOp .eql T x y T2, t, ps, af, gd⟩ (.bool (decide (a.data.toList = b.data.toList))) :=
  ⟨nofun, fun ρ w hρ _ => by
    have e1 := hρ x _ (by simp [Op.operands]) hx
    have e2 := hρ y _ (by simp [Op.operands]) hy
    simp only [execOp, e1, e2, Sem.run_bind, run_eqGuard_str, Result.andThen_ok]
    unfold binOp
    simp only [Op.stringOp, toList_eq, Sem.run_pure, Result.andThen_ok, beq_dec]⟩
theorem g_neS {T T2 : TypeId} {x y : Operand} {a b : ByteArray} (hx : ev e x = some (.string a)) (hy : ev e y = some (.string b)) : Gives P cx e Rs ⟨d, .binOp .neq T x y T2, t, ps, af, gd⟩ (.bool (decide (a.data.toList ≠ b.data.toList))) :=
  ⟨nofun, fun ρ w hρ _ => by
    have e1 := hρ x _ (by simp [Op.operands]) hx
    have e2 := hρ y _ (by simp [Op.operands]) hy
    simp only [execOp, e1, e2, Sem.run_bind, run_eqGuard_str, Result.andThen_ok]
    unfold binOp
    simp only [Op.stringOp, toList_eq, Sem.run_pure, Result.andThen_ok, beq_dec, ne_eq, decide_not]⟩

def boolT (P : Program) (t : TypeId) : Bool := match P.underlying t with
  | some .bool => true
  | _ => false
theorem boolT_spec {t : TypeId} (h : boolT P t = true) : P.underlying t = some .bool := by
  unfold boolT at h
  split at h
  · assumption
  · cases h
theorem g_eqB {T T2 : TypeId} {x y : Operand} {a b : Bool} (hT : boolT P T = true) (hx : ev e x = some (.bool a)) (hy : ev e y = some (.bool b)) : Gives P cx e Rs ⟨d, .binOp .eql T x y T2, t, ps, af, gd⟩ (.bool (a == b)) :=
  ⟨nofun, fun ρ w hρ _ => by
    have e1 := hρ x _ (by simp [Op.operands]) hx
    have e2 := hρ y _ (by simp [Op.operands]) hy
    simp only [execOp, e1, e2, Sem.run_bind, run_eqGuard_bool, Result.andThen_ok, run_eql_bool w T a b (boolT_spec hT)]
    rfl⟩
theorem g_neB {T T2 : TypeId} {x y : Operand} {a b : Bool} (hT : boolT P T = true) (hx : ev e x = some (.bool a)) (hy : ev e y = some (.bool b)) : Gives P cx e Rs ⟨d, .binOp .neq T x y T2, t, ps, af, gd⟩ (.bool (a != b)) :=
  ⟨nofun, fun ρ w hρ _ => by
    have e1 := hρ x _ (by simp [Op.operands]) hx
    have e2 := hρ y _ (by simp [Op.operands]) hy
    simp only [execOp, e1, e2, Sem.run_bind, run_eqGuard_bool, Result.andThen_ok, run_neq_bool w T a b (boolT_spec hT)]
    rfl⟩

/-- A slice held against nil. -/
theorem g_eqSn {T T2 s : Nat} {x y : Operand} {p : Option Addr} {n c : Nat} (hT : elemSz P T = some s) (hx : ev e x = some (.slice p n c)) (hy : ev e y = some (.slice none 0 0)) :
    Gives P cx e Rs ⟨d, .binOp .eql T x y T2, t, ps, af, gd⟩ (.bool p.isNone) :=
  ⟨nofun, fun ρ w hρ _ => by
    have e1 := hρ x _ (by simp [Op.operands]) hx
    have e2 := hρ y _ (by simp [Op.operands]) hy
    obtain ⟨el, inf, hu, hinf, rfl⟩ := elemSz_spec hT
    have hg : (eqGuard .eql T x y (.slice p n c) (.slice none 0 0)).run P w = .ok () w := rfl
    have hq : ∀ d, (Op.equalIn (d + 1) T (.slice p n c) (.slice none 0 0)).run P w = .ok p.isNone w := fun d => by cases p <;> simp [Op.equalIn, run_underlying hu]
    have hb : (binOp .eql T (.slice p n c) (.slice none 0 0)).run P w = .ok (.bool p.isNone) w := by
      simp only [binOp]
      have : (Op.equal T (.slice p n c) (.slice none 0 0)).run P w = .ok p.isNone w := hq 9999
      simp [this]
    simp only [execOp, e1, e2, Sem.run_bind, hg, Result.andThen_ok, hb]
    rfl⟩

/-- A struct or an array, made of its parts. -/
theorem g_build {T : TypeId} {parts : List (Nat × Operand)} {vs : List Value} {cs : List Value} (hp : evs e (parts.map (·.2)) = some vs) (hb : P.built T ((parts.map (·.1)).zip vs) = some cs.toArray) :
    Gives P cx e Rs ⟨d, .build T parts.toArray, t, ps, af, gd⟩ (.agg cs.toArray) :=
  ⟨nofun, fun ρ w hρ _ => by
    have e1 := evs_map hp ρ (fun x u hx => hρ x u (by simpa [Op.operands] using hx))
    have e2 : (parts.toArray.map fun (i, x) => (i, ρ x)) = ((parts.map (·.1)).zip vs).toArray := by
      rw [← e1]
      simp only [List.map_toArray]
      congr 1
      clear hp hb hρ e1
      induction parts with
      | nil => rfl
      | cons q qs ih => simp [ih]
    have hr := run_build (P := P) w T ((parts.map (·.1)).zip vs).toArray cs.toArray (by simpa using hb)
    simp only [execOp, e2, Sem.run_bind, hr, Result.andThen_ok, Sem.run_pure]⟩

theorem g_min {ats : Array TypeId} {x y : Operand} {k : IntKind} {a b c : Int} (hx : ev e x = some (.int k a)) (hy : ev e y = some (.int k b)) (hc : (if b < a then b else a) = c) :
    Gives P cx e Rs ⟨d, .call { callee := .builtin .min, args := #[x, y], argTypes := ats }, t, ps, af, gd⟩ (.int k c) :=
  ⟨nofun, fun ρ w hρ _ => by
    have e1 := hρ x _ (by simp [Op.operands, Call.operands]) hx
    have e2 := hρ y _ (by simp [Op.operands, Call.operands]) hy
    subst hc
    rw [BigFrame.execOp_builtin, BigFrame.builtin_min]; simp [Builtin.min_, e1, e2, Builtin.min2]⟩
theorem g_max {ats : Array TypeId} {x y : Operand} {k : IntKind} {a b c : Int} (hx : ev e x = some (.int k a)) (hy : ev e y = some (.int k b)) (hc : (if a < b then b else a) = c) :
    Gives P cx e Rs ⟨d, .call { callee := .builtin .max, args := #[x, y], argTypes := ats }, t, ps, af, gd⟩ (.int k c) :=
  ⟨nofun, fun ρ w hρ _ => by
    have e1 := hρ x _ (by simp [Op.operands, Call.operands]) hx
    have e2 := hρ y _ (by simp [Op.operands, Call.operands]) hy
    subst hc
    rw [BigFrame.execOp_builtin, BigFrame.builtin_max]; simp [Builtin.max_, e1, e2, Builtin.max2]⟩

/-- An element of an array by value. -/
theorem g_idxA {T : TypeId} {x ix : Operand} {cs : Array Value} {k : IntKind} {i : Int} {n : Nat} {v : Value} (hT : arrOf P T = some (n, 1)) (hs : ∀ el, P.underlying T = some (.array n el) → scT P el = true) (hx : ev e x = some (.agg cs)) (hi : ev e ix = some (.int k i))
    (h0 : 0 ≤ i) (h1 : i < n) (hv : cs[i.toNat]? = some v) : Gives P cx e Rs ⟨d, .index T x ix, t, ps, af, gd⟩ v :=
  ⟨nofun, fun ρ w hρ _ => by
    have e1 := hρ x _ (by simp [Op.operands]) hx
    have e2 := hρ ix _ (by simp [Op.operands]) hi
    obtain ⟨el, inf, hu, hinf, hsz⟩ := arrOf_spec hT
    simp [execOp, e1, e2, Instr.index, asIntOf, run_underlying hu, h0, h1, part, isAgg_no (hs el hu), sizeOf, typeInfo, hinf, hsz, hv]⟩

end gives

section effects
variable {cx : Cx} {e : Env} {Rs : List Res} {r : Option Nat} {P : Program} {Q : Exit → Act → World → Prop} {K : Act → World → Prop}
  {d : Nat} {t : TypeId} {ps : String} {af : Array Edge} {gd : Option (Nat × Bool)}

/-- make([]T, n), T of s cells that are at first all zv. -/
theorem o_make {T E s by_ : Nat} {x y : Operand} {k k' : IntKind} {n : Int} {zv : Value} (hu : P.underlying T = some (.slice E)) (hz : zeroCs P E = some (List.replicate s zv)) (hsz : szT P E = some s) (hby : (P.info? E).map (·.bytes) = some by_) (hs : 0 < s)
    (hx : ev e x = some (.int k n)) (hy : ev e y = some (.int k' n)) (h0 : 0 ≤ n) (hbytes : (by_ : Int) * n ≤ 281474976710656) (h63 : n ≤ 9223372036854775807) (hd : Nat.blt d cx.n = true)
    (h : ∀ b, At cx ((d, .slice (some ⟨b, 0, none⟩) n.toNat n.toNat) :: e) (blk b E (List.replicate (n.toNat * s) zv) :: Rs) K) : OpAt cx e Rs r P Q ⟨some d, .makeSlice T x y, t, ps, af, gd⟩ K :=
  OpAt.of_run nofun fun a w ha hw => by
    obtain ⟨i, z, hi, hz0, hzc⟩ := zeroCs_spec hz
    have his : i.size = s := by simpa [szT, hi] using hsz
    have hib : i.bytes = by_ := by simpa [hi] using hby
    subst hib
    have hr := run_make (P := P) w T E i z hu hi hz0 k k' n n h0 (Int.le_refl _) hbytes h63
    have hzs : z.cells.size = s := by have := congrArg List.length hzc; simpa using this
    have hcs : madeCells z.cells (n.toNat * i.size) = (List.replicate (n.toNat * s) zv).toArray := by
      rw [his]
      apply Array.ext
      · simp [madeCells]
      · intro j h1 h2
        have hm : j % z.cells.size < z.cells.size := Nat.mod_lt _ (by omega)
        simp only [madeCells, Array.getElem_map, List.getElem_toArray, List.getElem_replicate, Array.getElem_range]
        rw [getElem!_pos z.cells _ hm]
        have := congrArg (fun l : List Value => l[j % z.cells.size]?) hzc
        simp only [Array.getElem?_toList, List.getElem?_replicate] at this
        rw [Array.getElem?_eq_getElem hm, if_pos (by omega)] at this
        simpa using this
    have hrun : (execOp a.eval ⟨some d, .makeSlice T x y, t, ps, af, gd⟩).run P w = .ok (.value (.slice (some ⟨w.heap.size, 0, none⟩) n.toNat n.toNat)) (w.alloc (.cells (List.replicate (n.toNat * s) zv).toArray E (0, 0))) := by
      simp only [execOp, ha.eval hx, ha.eval hy, Sem.run_bind, hr, Result.andThen_ok, Sem.run_pure, hcs]
    show Oper.uponIn (FR r) 0 P _ a K Q _
    rw [hrun, Oper.uponIn_value]
    exact h w.heap.size _ _ (ha.put hd _) (hw.new' (R := blk w.heap.size E _) rfl rfl rfl rfl (by simp) (fun k (hk : k < w.heap.size) => Below.heap_alloc w _ k hk) (heap_alloc_new w _))

/-- A slice's literal: []T{..}. -/
theorem o_buildSlice {T E s len : Nat} {parts : List (Nat × Operand)} {vs cs zs : List Value} (hu : P.underlying T = some (.slice E)) (hz : zeroCs P E = some zs) (hsz : szT P E = some s) (hlen : 0 < len * s) (hmax : len * s ≤ 16777216)
    (hp : evs e (parts.map (·.2)) = some vs) (hf : Instr.fill (fun i => some (i * s, s)) ((Array.range (len * s)).map (zs.toArray[· % zs.toArray.size]!)) ((parts.map (·.1)).zip vs) = some cs.toArray) (hd : Nat.blt d cx.n = true)
    (h : ∀ b, At cx ((d, .slice (some ⟨b, 0, none⟩) len len) :: e) (blk b E cs :: Rs) K) : OpAt cx e Rs r P Q ⟨some d, .buildSlice T len parts.toArray, t, ps, af, gd⟩ K :=
  OpAt.of_run nofun fun a w ha hw => by
    obtain ⟨i, z, hi, hz0, hzc⟩ := zeroCs_spec hz
    have his : i.size = s := by simpa [szT, hi] using hsz
    have e1 := evs_map hp a.eval (fun x u _ hx => ha.eval hx)
    have e2 : (parts.toArray.map fun (i, x) => (i, a.eval x)).toList = ((parts.map (·.1)).zip vs) := by
      rw [← e1]
      simp only [List.map_toArray]
      clear hp hf e1
      induction parts with
      | nil => rfl
      | cons q qs ih => simpa using ih
    have hzt : z.cells = zs.toArray := by rw [← hzc]
    have hrun : (execOp a.eval ⟨some d, .buildSlice T len parts.toArray, t, ps, af, gd⟩).run P w = .ok (.value (.slice (some ⟨w.heap.size, 0, none⟩) len len)) (w.alloc (.cells cs.toArray E (0, 0))) := by
      have n1 : ¬ (len * s > 2 ^ 24) := by omega
      have n2 : ¬ (len * s = 0) := by omega
      simp only [execOp, Instr.buildSlice, Sem.run_bind, run_underlying hu, Result.andThen_ok, sizeOf, typeInfo, run_program, hi, Sem.run_pure, his, n1, n2, if_false, zeroValue, hz0, e2, hzt, hf, newRow]
      rfl
    show Oper.uponIn (FR r) 0 P _ a K Q _
    rw [hrun, Oper.uponIn_value]
    exact h w.heap.size _ _ (ha.put hd _) (hw.new' (R := blk w.heap.size E cs) rfl rfl rfl rfl (by simp) (fun k (hk : k < w.heap.size) => Below.heap_alloc w _ k hk) (heap_alloc_new w _))

/-- The mark that a constant's row gets. -/
theorem o_mark {T : TypeId} {x : Operand} {b n c E : Nat} {cs : List Value} {B : List Res} (hu : P.underlying T = some (.slice E)) (hE : P.underlying E = some (.int .u8)) (hx : ev e x = some (.slice (some ⟨b, 0, none⟩) n c)) (hk : Pick (blk b E cs) Rs B) (hd : Nat.blt d cx.n = true)
    (h : At cx ((d, .slice (some ⟨b, 0, none⟩) n c) :: e) (blkF b E cs (cs.length, cs.length + 1) :: B) K) : OpAt cx e Rs r P Q ⟨some d, .convert T T x, t, ps, af, gd⟩ K :=
  OpAt.of_run nofun fun a w ha hw => by
    have hw' := hw.pick hk
    have hb := hw'.hd
    have hbz : b < w.heap.size := (Array.getElem?_eq_some_iff.1 hb).1
    have hfr : w.freeze ⟨b, cs.length, none⟩ 1 = w.putObj b (.cells cs.toArray E (cs.length, cs.length + 1)) := by
      unfold World.freeze World.putObj
      rw [if_neg (by decide)]
      congr 1
      apply Array.ext
      · simp
      · intro i h1 h2
        rw [Array.getElem_modify]
        by_cases hbi : b = i
        · subst hbi
          have : w.heap[b] = .cells cs.toArray E (0, 0) := (Array.getElem?_eq_some_iff.1 hb).2
          simp [this]
        · rw [if_neg hbi, Array.getElem_setIfInBounds_ne _ hbi]
    have hsh : w.shape? b = some (E, cs.length) := by simp [World.shape?, hb]
    have hrun : (execOp a.eval ⟨some d, .convert T T x, t, ps, af, gd⟩).run P w = .ok (.value (.slice (some ⟨b, 0, none⟩) n c)) (w.putObj b (.cells cs.toArray E (cs.length, cs.length + 1))) := by
      simp [execOp, ha.eval hx, convert, run_underlying hu, run_underlying hE, markStringish, hsh, hfr]
    show Oper.uponIn (FR r) 0 P _ a K Q _
    rw [hrun, Oper.uponIn_value]
    exact h _ _ (ha.put hd _) (hw'.upd (R' := blkF b E cs (cs.length, cs.length + 1)) rfl rfl rfl rfl (by simp) (fun k hk => World.putObj_heap_other (by simpa [blk, objR] using hk)) (World.putObj_heap_same hbz))

/-- A growing slice in the place of another one. -/
theorem Sat.grown {w0 w w' : World} {S0 : List Nat} {v v' : Value} {E s n n' : Nat} {xs xs' : List Value} {B : List Res} (h : Sat w0 S0 (vec v E s n xs :: B) w) (hg : w.grownBy w' v.ownBlock)
    (hv' : w'.ownsRow 0 E s v' n' xs') (hb : v'.ownBlock = v.ownBlock ∨ ∀ g, v'.ownBlock = some g → w.heap.size ≤ g) : Sat w0 S0 (vec v' E s n' xs' :: B) w' := by
  have hown : w.ownsRow 0 E s v n xs := h.holds (vec v E s n xs) (by simp)
  have fpe : ∀ {W : World} {u : Value} {m : Nat} {ys : List Value}, W.ownsRow 0 E s u m ys → ∀ k, k ∈ vecFp u ↔ u.ownBlock = some k := by
    intro W u m ys ho k
    rcases ho.2 with ⟨rfl, _⟩ | ⟨g, cap, cur, rfl, _⟩ <;> simp [vecFp, Value.ownBlock, eq_comm]
  have hv1 : ∀ k, k ∈ (vec v E s n xs).fp ↔ v.ownBlock = some k := fpe hown
  have hv2 : ∀ k, k ∈ (vec v' E s n' xs').fp ↔ v'.ownBlock = some k := fpe hv'
  have hnd := h.nodup
  simp only [fps_cons] at hnd
  have hap := List.nodup_append.1 hnd
  have hB : ∀ k, k ∈ fps B → w'.heap[k]? = w.heap[k]? := fun k hk =>
    hg.block k (h.lt k (by simp [hk])) (fun he => hap.2.2 k ((hv1 k).2 he.symm) k hk rfl)
  have hfv : (vec v' E s n' xs').fp.Nodup := by
    show (vecFp v').Nodup
    unfold vecFp
    split <;> simp
  refine ⟨hg.os.trans h.os, hg.tape.trans h.tape, hg.output.trans h.output, Nat.le_trans h.size hg.size, fun k hk0 hS => ?_, fun X hX => ?_, fun k hkk => ?_, ?_, fun k hkk => ?_⟩
  · rw [hg.block k (Nat.lt_of_lt_of_le hk0 h.size) (fun he => ?_)]
    · exact h.frame k hk0 hS
    · rcases h.new k (by simp [(hv1 k).2 he.symm]) with h1 | h1
      · exact hS h1
      · omega
  · rcases List.mem_cons.1 hX with rfl | hX
    · exact hv'
    · exact X.loc (fun k hkX => hB k (List.mem_flatMap.2 ⟨X, hX, hkX⟩)) (h.holds X (by simp [hX]))
  · simp only [fps_cons, List.mem_append] at hkk
    rcases hkk with hkk | hkk
    · exact (hv'.lt k ((hv2 k).1 hkk)).2
    · exact Nat.lt_of_lt_of_le (h.lt k (by simp [hkk])) hg.size
  · simp only [fps_cons]
    refine List.nodup_append.2 ⟨hfv, hap.2.1, fun k hk j hj he => ?_⟩
    subst he
    have h2 := (hv2 k).1 hk
    rcases hb with hb | hb
    · exact hap.2.2 k ((hv1 k).2 (hb ▸ h2)) k hj rfl
    · have := hb k h2; have := h.lt k (by simp [hj]); omega
  · simp only [fps_cons, List.mem_append] at hkk
    rcases hkk with hkk | hkk
    · have h2 := (hv2 k).1 hkk
      rcases hb with hb | hb
      · exact h.new k (by simp [(hv1 k).2 (hb ▸ h2)])
      · exact .inr (Nat.le_trans h.size (hb k h2))
    · exact h.new k (by simp [hkk])

/-- append: onto a slice that grows, what can be read. -/
theorem o_append {T E s by_ : Nat} {x y : Operand} {v : Value} {n m c : Nat} {p : Option Addr} {xs news zs : List Value} {B : List Res} (hu : P.underlying T = some (.slice E)) (hz : zeroCs P E = some zs) (hsz : szT P E = some s) (hzl : zs.length = s) (hby : (P.info? E).map (·.bytes) = some by_) (hs : 0 < s)
    (hx : ev e x = some v) (hy : ev e y = some (.slice p m c)) (hk : Pick (vec v E s n xs) Rs B) (hl : news.length = m * s) (hr : RdA cx Rs p news) (h1 : ∀ u ∈ news, u.oneCell' = true) (hnil : p = none → c = 0)
    (h63 : n + m ≤ maxLen) (hbytes : (n + m) * by_ ≤ 140737488355328) (hd : Nat.blt d cx.n = true)
    (h : ∀ q cap, (q = none ↔ v = .slice none 0 0 ∧ m = 0) → n + m ≤ cap → (q = none → cap = 0) → At cx ((d, .slice q (n + m) cap) :: e) (vec (.slice q (n + m) cap) E s (n + m) (xs ++ news) :: B) K) :
    OpAt cx e Rs r P Q ⟨some d, .call { callee := .builtin .append, args := #[x, y], argTypes := #[T, T] }, t, ps, af, gd⟩ K :=
  OpAt.of_run nofun fun a w ha hw => by
    obtain ⟨i, z, hi, hz0, hzc⟩ := zeroCs_spec hz
    have his : i.size = s := by simpa [szT, hi] using hsz
    have hib : i.bytes = by_ := by simpa [hi] using hby
    have hw' := hw.pick hk
    have hown : w.ownsRow 0 E s v n xs := hw'.holds (vec v E s n xs) (by simp)
    have hzs : z.cells.size = s := by have := congrArg List.length hzc; simp at this; omega
    have wk : ∀ {w' : World}, w.grownBy w' none → w.grownBy w' v.ownBlock := fun hg => ⟨hg.os, hg.tape, hg.output, hg.size, fun k hk _ => hg.block k hk (by simp)⟩
    have up : ∀ {w' : World} {v' : Value} {k : Nat} {ys : List Value}, w'.ownsRow w.heap.size E s v' k ys → w'.ownsRow 0 E s v' k ys := fun ho => by
      refine ⟨ho.1, ?_⟩
      rcases ho.2 with hq | ⟨g, cap, cur, h1, _, h3⟩
      · exact .inl hq
      · exact .inr ⟨g, cap, cur, h1, Nat.zero_le _, h3⟩
    have key : ∃ v' w', (Builtin.append_ #[T, T] t #[v, .slice p m c]).run P w = .ok v' w' ∧ w'.ownsRow 0 E s v' (n + m) (xs ++ news) ∧ w.grownBy w' v.ownBlock ∧ (v' = .slice none 0 0 ↔ v = .slice none 0 0 ∧ m = 0) ∧
        (v'.ownBlock = v.ownBlock ∨ ∀ g, v'.ownBlock = some g → w.heap.size ≤ g) := by
      cases p with
      | some ad =>
        have hnews : ∀ j u, news[j]? = some u → w.cell? (ad.add j) = some u := fun j u hj => by
          obtain ⟨b, o, he, hc⟩ := hr w hw j u hj
          simp only [Option.some.injEq] at he
          subst he
          rw [add_at]; exact hc
        rcases hown.2 with ⟨rfl, rfl⟩ | ⟨g, cap, cur, rfl, _, hgg, hnc, hcm, hcs, htk⟩
        · have hx0 : xs = [] := List.eq_nil_of_length_eq_zero (by simpa using hown.1)
          subst hx0
          obtain ⟨v', w', h1', h2', h3', h4'⟩ := run_append_own (P := P) w w.heap.size T t E i z s by_ hu hi hz0 his hib hzs hs (.slice none 0 0) 0 [] (World.ownsRow_nil w _ E s) ad m c news hl hnews h1 h63 hbytes (Nat.le_refl _)
          exact ⟨v', w', h1', up h2', h3', h4', .inr (fun g hg => (h2'.lt g hg).1)⟩
        · by_cases hroom : n + m ≤ cap
          · obtain ⟨w', h1', h2', h3'⟩ := run_append_fits (P := P) w 0 T t E i s hu hi his g n cap xs hown ad m c news hl hnews h1 hroom
            exact ⟨_, w', h1', h2', h3', by simp, .inl rfl⟩
          · obtain ⟨v', w', h1', h2', h3'⟩ := run_append_arg_grows (P := P) w T t E i z s by_ hu hi hz0 his hib hzs hs ⟨g, 0, none⟩ n cap xs hown.1 (hown.cells (by rfl)) ad m c news hl hnews (by omega) h63 hbytes
            refine ⟨v', w', h1', up h2', wk h3', ?_, .inr (fun g hg => (h2'.lt g hg).1)⟩
            rcases h2'.2 with ⟨rfl, hz⟩ | ⟨g', cap', cur', rfl, _⟩
            · omega
            · simp
      | none =>
        have hn : news = [] := by
          cases news with
          | nil => rfl
          | cons u us => obtain ⟨b, o, he, _⟩ := hr w hw 0 u (by simp); cases he
        subst hn
        have hm : m = 0 := by
          rcases Nat.eq_zero_or_pos m with h0 | h0
          · exact h0
          · have := Nat.mul_pos h0 hs; simp at hl; omega
        subst hm
        have hc0 := hnil rfl
        subst hc0
        exact ⟨v, w, run_append_owned_none (P := P) w 0 T t E i s hu hi v n xs hown, by simpa using hown, ⟨rfl, rfl, rfl, Nat.le_refl _, fun _ _ _ => rfl⟩, by simp, .inl rfl⟩
    obtain ⟨v', w', hrun', hown', hg, hnn, hfresh⟩ := key
    have hrun : (execOp a.eval ⟨some d, .call { callee := .builtin .append, args := #[x, y], argTypes := #[T, T] }, t, ps, af, gd⟩).run P w = .ok (.value v') w' := by
      rw [BigFrame.execOp_builtin, BigFrame.builtin_append]
      simp [ha.eval hx, ha.eval hy, hrun']
    show Oper.uponIn (FR r) 0 P _ a K Q _
    rw [hrun, Oper.uponIn_value]
    obtain ⟨q, cap, rfl, hcap, hqc⟩ : ∃ q cap, v' = .slice q (n + m) cap ∧ n + m ≤ cap ∧ (q = none → cap = 0) := by
      rcases hown'.2 with ⟨rfl, hz⟩ | ⟨g, cap, cur, rfl, _, _, hle, _⟩
      · exact ⟨none, 0, by rw [hz], by omega, fun _ => rfl⟩
      · exact ⟨_, cap, rfl, hle, by simp⟩
    refine h q cap ?_ hcap hqc _ _ (ha.put hd _) (hw'.grown hg hown' hfresh)
    rw [← hnn]
    constructor
    · rintro rfl
      have hz0 := hqc rfl
      subst hz0
      have : n + m = 0 := by omega
      rw [this]
    · intro he
      simp only [Value.slice.injEq] at he
      exact he.1

/-- copy: into an owned row. -/
theorem o_copy {T S E E2 : Nat} {x y : Operand} {b o n c m c2 : Nat} {p : Option Addr} {cs cs' vs : List Value} {B : List Res} (hu : P.underlying T = some (.slice E)) (hsz : szT P E = some 1) (hx : ev e x = some (.slice (some ⟨b, o, none⟩) n c)) (hy : ev e y = some (.slice p m c2))
    (hk : Pick (blk b E2 cs) Rs B) (hl : vs.length = Nat.min m n) (hr : RdA cx Rs p vs) (h1 : ∀ u ∈ vs, u.oneCell' = true) (ho : o + vs.length ≤ cs.length) (hc : setR cs o vs = cs') (hd : Nat.blt d cx.n = true)
    (h : At cx ((d, .int .i64 vs.length) :: e) (blk b E2 cs' :: B) K) :
    OpAt cx e Rs r P Q ⟨some d, .call { callee := .builtin .copy, args := #[x, y], argTypes := #[T, S] }, t, ps, af, gd⟩ K :=
  OpAt.of_run nofun fun a w ha hw => by
    subst hc
    have hw' := hw.pick hk
    have hb := hw'.hd
    have hrun' : (Builtin.copy_ #[T, S] t #[.slice (some ⟨b, o, none⟩) n c, .slice p m c2]).run P w = .ok (goInt vs.length) (w.setRow b (setR cs o vs).toArray) := by
      cases p with
      | some ad =>
        have hr' := run_copy_row (P := P) w T S t E b o n c ad m c2 cs.toArray E2 vs hu hsz hb hl (fun j u hj => by
          obtain ⟨b', o', he, hc⟩ := hr w hw j u hj
          simp only [Option.some.injEq] at he
          subst he
          rw [add_at]; exact hc) (by simpa using ho) h1
        rw [hr']; simp [setR]
      | none =>
        have hn : vs = [] := by
          cases vs with
          | nil => rfl
          | cons u us => obtain ⟨b, o, he, _⟩ := hr w hw 0 u (by simp); cases he
        subst hn
        have := run_copy_none (P := P) w T S t E (some ⟨b, o, none⟩) none n c m c2 hu hsz (by simpa using hl.symm)
        rw [this]
        have he : setR cs o [] = cs := by simp [setR]
        rw [he, setRow_self w b cs.toArray E2 (0, 0) hb]
        rfl
    have hrun : (execOp a.eval ⟨some d, .call { callee := .builtin .copy, args := #[x, y], argTypes := #[T, S] }, t, ps, af, gd⟩).run P w = .ok (.value (.int .i64 vs.length)) (w.setRow b (setR cs o vs).toArray) := by
      rw [BigFrame.execOp_builtin, BigFrame.builtin_copy]
      simp [ha.eval hx, ha.eval hy, hrun', goInt]
    show Oper.uponIn (FR r) 0 P _ a K Q _
    rw [hrun, Oper.uponIn_value]
    exact h _ _ (ha.put hd _) (upd_setRow hw')

end effects
end Go.Pm
