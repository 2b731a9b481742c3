/- The proof's texts, merged: C0 C1 P2 P3 P4 P5 L13 C13. -/
import Derived.Test.YtokhediaibdkjaaDoorMB
import Derived.Test.YtokhediaibdkjaaDoorCards
import Derived.Test.YtokhediaibdkjaaDoorTie
import Derived.WalkKit
import Derived.ProofKit
import Derived.OpenShut
import Derived.Deep.DeepHandedRow
import Derived.Lib.LaidTab
import Derived.Carry
import Derived.Test.YtokhediaibdkjaaDoorMC
/-! From C0 -/
/- What all the rows' proofs share: the tables from the row's list; an argument of bytes, opened; the post. -/
namespace Go.Proofs.YtokhediaibdkjaaDoor
set_option maxRecDepth 100000
open Go.Pm Go.ChangeShapes Go.WideShapes Go.ChangeAt Go.RowKit

theorem own : ownKnob Tryd.prog.godebug = none := by kernel_rfl
theorem laidOut : laidOutB Tryd.prog = true := by kernel_rfl
theorem gCubes : Tryd.prog.globalNamed "postmark/sha256.cubes" = some 1 := by kernel_rfl
theorem gFirst : Tryd.prog.globalNamed "postmark/sha256.first" = some 0 := by kernel_rfl
theorem gCubesT : (Tryd.prog.globals[1]?).map (·.type) = some 118 := by kernel_rfl
theorem gFirstT : (Tryd.prog.globals[0]?).map (·.type) = some 122 := by kernel_rfl
theorem un_118 : Tryd.prog.underlying 118 = some (.array 64 38) := by kernel_rfl
theorem un_122 : Tryd.prog.underlying 122 = some (.array 2 39) := by kernel_rfl
theorem un_38 : Tryd.prog.underlying 38 = some (.int .u32) := by kernel_rfl
theorem un39 : Tryd.prog.underlying 39 = some (.array 8 38) := by kernel_rfl
theorem un_86 : Tryd.prog.underlying 86 = some (.int .u16) := by kernel_rfl
theorem un_4 : Tryd.prog.underlying 4 = some .bool := by kernel_rfl
theorem co_38 : Tryd.prog.cellsOf 38 = 1 := by kernel_rfl
theorem co_118 : Tryd.prog.cellsOf 118 = 64 := by kernel_rfl
theorem co_39 : Tryd.prog.cellsOf 39 = 8 := by kernel_rfl
theorem co_122 : Tryd.prog.cellsOf 122 = 16 := by kernel_rfl
theorem co5 : Tryd.prog.cellsOf 5 = 1 := by kernel_rfl

/-- A row in which a table is laid. -/
def layTab (cs : List Value) : Obj → Obj
  | .cells _ t fr => .cells cs.toArray t fr
  | o => o
theorem laidVars_mem {P : Program} {W : World} : ∀ {l : List (String × DataW Unit)} {ps : List MemPlace}, DataW.LaidVars P W l ps → ∀ {n : String} {d : DataW Unit}, (n, d) ∈ l →
    ∃ g t cs fuel p, P.globalNamed n = some g ∧ (P.globals[g]?).map (·.type) = some t ∧ W.var? P n = some cs ∧ DataW.trod (fun _ => ()) P W 0 (fun _ => true) false fuel t cs.toList = some (d, p)
  | [], _, _, _, _, hm => by cases hm
  | (n', d') :: r, ps, h, n, d, hm => by
    obtain ⟨g, t, cs, fuel, p, q, h1, h2, h3, h4, h5, _⟩ := h
    rcases List.mem_cons.1 hm with he | hm
    · cases he; exact ⟨g, t, cs, fuel, p, h1, h2, h3, h4⟩
    · exact laidVars_mem h5 hm

theorem rd_var {W : World} {n : String} {g : Nat} {cs : Array Value} (hg : Tryd.prog.globalNamed n = some g) (h : W.var? Tryd.prog n = some cs) : RdC W (some ⟨g, 0, none⟩) cs.toList := fun j u hj => by
  refine ⟨g, 0, rfl, ?_⟩
  have := World.var?_cell hg h j
  rw [Nat.zero_add, this]
  simpa using hj

/-- The tables, from the row's list. -/
theorem gl_of_laid {laid : List (String × DataW Unit)} (h1 : ("postmark/sha256.cubes", Rows.laid_postmark_sha256_cubes) ∈ laid) (h2 : ("postmark/sha256.first", Rows.laid_postmark_sha256_first) ∈ laid) {W : World} (h : laidMet Tryd.prog laid W) : Gl W [] := by
  obtain ⟨ps, hv, _⟩ := h
  obtain ⟨g, t, cs, fuel, p, hg, ht, hvar, hd⟩ := laidVars_mem hv h1
  obtain ⟨g', t', cs', fuel', p', hg', ht', hvar', hd'⟩ := laidVars_mem hv h2
  cases Option.some.inj (gCubes.symm.trans hg)
  cases Option.some.inj (gFirst.symm.trans hg')
  cases Option.some.inj (gCubesT.symm.trans ht)
  cases Option.some.inj (gFirstT.symm.trans ht')
  have e1 : cs.toList = cubesL.map U32 := by
    have := Lib.cells_of_tab (zs := cubesL.map fun x => (x.toNat : Int)) un_118 un_38 co_38 co_118 hd
    rw [this]; simp
  obtain ⟨xs, m, rfl, hx, hlen, hxl, hel⟩ := DataW.trod_array un_122 hd'
  rw [co_122] at hlen
  have hxs : xs.map (·.1) = [Lib.tabData .u32 (first224.map fun x => (x.toNat : Int)), Lib.tabData .u32 (first256.map fun x => (x.toNat : Int))] := by
    have := congrArg Prod.fst hx
    exact (DataW.agg.inj (show Rows.laid_postmark_sha256_first = DataW.agg (xs.map (·.1)) from this)).symm
  have hat : ∀ i (zs : List (BitVec 32)), i < 2 → (xs.map (·.1))[i]? = some (Lib.tabData .u32 (zs.map fun x => (x.toNat : Int))) → (cs'.toList.drop (i * 8)).take 8 = zs.map U32 := fun i zs hi hz => by
    have h3 := hel i hi
    rw [co_39] at h3
    rw [List.getElem?_map] at hz
    cases hxi : xs[i]? with
    | none => simp [hxi] at hz
    | some y =>
      rw [hxi] at h3 hz
      simp only [Option.map_some, Option.some.injEq] at hz
      obtain ⟨y1, y2⟩ := y
      subst hz
      have := Lib.cells_of_tab (zs := zs.map fun x => (x.toNat : Int)) un39 un_38 co_38 co_39 h3
      rw [this]; simp
  have e2 := hat 0 first224 (by decide) (by rw [hxs]; rfl)
  have e3 := hat 1 first256 (by decide) (by rw [hxs]; rfl)
  have e4 : cs'.toList = (first224 ++ first256).map U32 := by
    rw [List.map_append, ← e2, ← e3]
    simp only [Nat.zero_mul, List.drop_zero, Nat.one_mul]
    have : (cs'.toList.drop 8).take 8 = cs'.toList.drop 8 := List.take_of_length_le (by simp; simp at hlen; omega)
    rw [this, List.take_append_drop]
  refine ⟨RdC.s ?_, RdC.s ?_⟩
  · rw [← e4]; exact rd_var gFirst hvar'
  · rw [← e1]; exact rd_var gCubes hvar

/-- An argument of bytes. -/
theorem open_bytes {H : Type} {enc : TypeId × Value → H} {W : World} {base : Nat} {v : Value} {d : DataW H} {p : List MemPlace} (hval : Value.okWide Tryd.prog W .any base 23 v) (h : DataW.Trod enc Tryd.prog W 0 (fun _ => true) true 23 v d p) :
    ∃ (q : Option Addr) (n c : Nat) (l : List UInt8), v = .slice q n c ∧ l.length = n ∧ (q = none → c = 0) ∧ n ≤ c ∧ c ≤ maxLen ∧ RdC W q (l.map B8) := by
  obtain ⟨a, n, c, rfl⟩ := okWide_slice un_23 hval
  obtain ⟨fuel, hf⟩ := h
  rcases open_ints un_23 un_5 co5 hf with ⟨hcs, hx⟩ | ⟨a', len, cap, zs, hcs, _, hl, hm, hz, hx, hcell, hwz⟩
  · simp [Value.cells] at hcs
    obtain ⟨rfl, rfl, rfl⟩ := hcs
    exact ⟨none, 0, 0, [], rfl, rfl, fun _ => rfl, Nat.le_refl _, Nat.zero_le _, RdC.nil⟩
  · simp [Value.cells] at hcs
    obtain ⟨rfl, rfl, rfl⟩ := hcs
    simp only [if_true] at hz
    refine ⟨some a', _, _, (zs.take n).map fun z => UInt8.ofNat z.toNat, rfl, by simp; omega, by simp, hl, hm, ?_⟩
    intro j u hj
    simp only [List.map_map, List.getElem?_map, Option.map_eq_some_iff] at hj
    obtain ⟨z, hzj, rfl⟩ := hj
    rw [List.getElem?_take] at hzj
    split at hzj
    · rename_i hjl
      have hjz : j < zs.length := by omega
      have hc := hcell j hjz
      have hzv : zs.getD j 0 = z := by simp [hzj]
      rw [hzv] at hc
      have hw := hwz z (List.mem_of_getElem? hzj)
      have hb : 0 ≤ z ∧ z < 256 := by
        simp [Lit.wf, IntKind.min, IntKind.max, IntKind.signed, IntKind.bits] at hw
        omega
      obtain ⟨b, o, sp⟩ := a'
      have hspot : sp = none := by
        have h0 := World.cell?_spot (hcell 0 (by omega))
        simpa [Addr.add] using h0
      subst hspot
      refine ⟨b, o, rfl, ?_⟩
      rw [add_at] at hc
      rw [hc]
      have : ((UInt8.ofNat z.toNat).toNat : Int) = z := by
        rw [UInt8.toNat_ofNat']
        omega
      exact congrArg (fun t : Int => some (Value.int .u8 t)) this.symm
    · cases hzj

theorem trodAll_below {H : Type} {enc : TypeId × Value → H} {W W' : World} (hb : Below W.heap.size W W') : ∀ {ts : List TypeId} {vs : List Value} {ds : List (DataW H)} {ps : List MemPlace}, (∀ t ∈ ts, Tryd.prog.readableRec t = true ∧ t < Tryd.prog.types.size) →
    DataW.TrodAll enc Tryd.prog W 0 (fun _ => true) true ts vs ds ps → (∀ x ∈ ps, x.block < W.heap.size) → DataW.TrodAll enc Tryd.prog W' 0 (fun b => decide (b < W.heap.size)) true ts vs ds ps
  | [], _, _, _, _, h, _ => by
    obtain ⟨rfl, rfl, rfl⟩ := trodAll_nil h
    exact trodAll_mk0
  | t :: ts, _, _, _, ht, h, hlt => by
    obtain ⟨v, vs, d, ds, p, q, rfl, rfl, rfl, h1, h2⟩ := trodAll_cons h
    exact trodAll_cons_mk (Below.trod laidOut (ht t (by simp)).1 (ht t (by simp)).2 h1 hb (fun x hx => hlt x (by simp [hx]))) (trodAll_below hb (fun u hu => ht u (by simp [hu])) h2 (fun x hx => hlt x (by simp [hx])))

/-- The post of a law: it answers true, and the input reads as it did. -/
theorem law_post {H : Type} {enc : TypeId × Value → H} {f : Func} {s : ChangeSpec} {W W' : World} {args : Array Value} {ds gs : List (DataW H)} {before : List MemPlace} (hW : DataW.Whole enc Tryd.prog f.params.toList s.vars false W args.toList ds gs before)
    (hrt : f.resultTypes = #[4]) (hv : s.vars = []) (hfn : (s.fn H (ds ++ gs)).results = [.lit (.bool true)] ∧ (s.fn H (ds ++ gs)).args = ds ∧ (s.fn H (ds ++ gs)).vars = []) (hread : ∀ t ∈ f.params.toList, Tryd.prog.readableRec t = true ∧ t < Tryd.prog.types.size)
    (hb : Below W.heap.size W W') : s.post enc Tryd.prog f false true false false W args (.bool true) W' := by
  have hW' := hW
  obtain ⟨p, q, hA, hV, rfl, _, _⟩ := hW
  rw [hv] at hV
  obtain ⟨rfl, rfl⟩ := trodVars_none hV
  obtain ⟨f1, f2, f3⟩ := hfn
  refine ⟨ds, [], p ++ [], [], p, [], hW', ?_, ?_, ?_, Below.frame hb _, fun h => by cases h⟩
  · rw [f1, hrt]; exact trodAll_cons_mk (shut_bool un_4 _) trodAll_mk0
  · rw [f2]; exact trodAll_below hb hread hA (fun x hx => hW'.lt x (by simp [hx]))
  · rw [f3, hv]; rfl
end Go.Proofs.YtokhediaibdkjaaDoor

/-! From C1 -/
/- Numbers of eight bytes among a row's arguments. -/
namespace Go.Proofs.YtokhediaibdkjaaDoor
set_option maxRecDepth 100000
open Go.Pm Go.ChangeShapes Go.WideShapes Go.ChangeAt Go.RowKit
theorem un_34 : Tryd.prog.underlying 34 = some (.int .u64) := by kernel_rfl
theorem u64_of {z : Int} (h : Lit.wf (.int .u64 z) = true) : ∃ N : BitVec 64, z = (N.toNat : Int) := by
  have hz : 0 ≤ z ∧ z < 18446744073709551616 := by
    simp [Lit.wf, IntKind.min, IntKind.max, IntKind.signed, IntKind.bits] at h
    omega
  refine ⟨BitVec.ofNat 64 z.toNat, ?_⟩
  rw [BitVec.toNat_ofNat, Nat.mod_eq_of_lt (by omega)]
  omega
theorem exists_list {α : Type} {P : Nat → α → Prop} : ∀ n, (∀ i, i < n → ∃ a, P i a) → ∃ l : List α, l.length = n ∧ ∀ i a, l[i]? = some a → P i a
  | 0, _ => ⟨[], rfl, fun i a h => by simp at h⟩
  | n + 1, h => by
    obtain ⟨l, hl, hp⟩ := exists_list n (fun i hi => h i (by omega))
    obtain ⟨a, ha⟩ := h n (by omega)
    refine ⟨l ++ [a], by simp [hl], fun i b hb => ?_⟩
    rcases Nat.lt_or_ge i n with hi | hi
    · rw [List.getElem?_append_left (by omega)] at hb; exact hp i b hb
    · rw [List.getElem?_append_right (by omega)] at hb
      have : i - l.length = 0 := by
        rcases Nat.eq_zero_or_pos (i - l.length) with h0 | h0
        · exact h0
        · rw [List.getElem?_eq_none (by simp; omega)] at hb; cases hb
      rw [this] at hb
      simp at hb
      subst hb
      rw [show i = n by omega]; exact ha
/-- Bytes, from what a row says of their cell. -/
theorem bytes_of_trod {H : Type} {enc : TypeId × Value → H} {W : World} {fuel : Nat} {cs : List Value} {x : DataW H × List MemPlace} (hf : DataW.trod enc Tryd.prog W 0 (fun _ => true) true fuel 23 cs = some x) : ∃ s : Sl, cs = [s.v] ∧ s.ok W ∧ s.c ≤ maxLen := by
  rcases open_ints un_23 un_5 co5 hf with ⟨hcs, hx⟩ | ⟨a', len, cap, zs, hcs, _, hl, hm, hz, hx, hcell, hwz⟩
  · exact ⟨⟨none, 0, 0, []⟩, hcs, ⟨rfl, fun _ => rfl, Nat.le_refl _, RdC.nil⟩, Nat.zero_le _⟩
  · simp only [if_true] at hz
    refine ⟨⟨some a', len, cap, (zs.take len).map fun z => UInt8.ofNat z.toNat⟩, hcs, ⟨by simp; omega, by simp, hl, ?_⟩, hm⟩
    intro j u hj
    simp only [List.map_map, List.getElem?_map, Option.map_eq_some_iff] at hj
    obtain ⟨z, hzj, rfl⟩ := hj
    rw [List.getElem?_take] at hzj
    split at hzj
    · rename_i hjl
      have hjz : j < zs.length := by omega
      have hc := hcell j hjz
      have hzv : zs.getD j 0 = z := by simp [hzj]
      rw [hzv] at hc
      have hw := hwz z (List.mem_of_getElem? hzj)
      have hb : 0 ≤ z ∧ z < 256 := by
        simp [Lit.wf, IntKind.min, IntKind.max, IntKind.signed, IntKind.bits] at hw
        omega
      obtain ⟨b, o, sp⟩ := a'
      have hspot : sp = none := by
        have h0 := World.cell?_spot (hcell 0 (by omega))
        simpa [Addr.add] using h0
      subst hspot
      refine ⟨b, o, rfl, ?_⟩
      rw [add_at] at hc
      rw [hc]
      have : ((UInt8.ofNat z.toNat).toNat : Int) = z := by
        rw [UInt8.toNat_ofNat']
        omega
      exact congrArg (fun t : Int => some (Value.int .u8 t)) this.symm
    · cases hzj
theorem un22 : Tryd.prog.underlying 22 = some (.slice 23) := by kernel_rfl
theorem co_23 : Tryd.prog.cellsOf 23 = 1 := by kernel_rfl
/-- An argument: slices of bytes. -/
theorem open_slices {H : Type} {enc : TypeId × Value → H} {W : World} {base : Nat} {v : Value} {d : DataW H} {p : List MemPlace} (hval : Value.okWide Tryd.prog W .any base 22 v) (h : DataW.Trod enc Tryd.prog W 0 (fun _ => true) true 22 v d p) :
    ∃ (q : Option Addr) (c : Nat) (ss : List Sl), v = .slice q ss.length c ∧ (q = none → c = 0) ∧ ss.length ≤ c ∧ c ≤ maxLen ∧ RdC W q (ss.map Sl.v) ∧ ∀ s ∈ ss, s.ok W := by
  obtain ⟨a, n, c, rfl⟩ := okWide_slice un22 hval
  obtain ⟨fuel, hf⟩ := h
  rcases DataW.trod_slice un22 hf with ⟨hcs, _⟩ | ⟨a', len, cap, elems, rest, m, _, hcs, _, _, hl, hm, hlen, hel, _, _⟩
  · simp [Value.cells] at hcs
    obtain ⟨rfl, rfl, rfl⟩ := hcs
    exact ⟨none, 0, [], rfl, fun _ => rfl, Nat.le_refl _, Nat.zero_le _, RdC.nil, by simp⟩
  · simp [Value.cells] at hcs
    obtain ⟨rfl, rfl, rfl⟩ := hcs
    have each : ∀ i, i < n → ∃ s : Sl, s.ok W ∧ W.cell? (a'.add i) = some s.v := fun i hi => by
      have he := hel i hi
      rw [co_23, Nat.mul_one, List.getElem?_eq_getElem (by omega)] at he
      obtain ⟨cs', hcs', hy⟩ := Option.bind_eq_some_iff.1 he
      obtain ⟨s, rfl, hok, _⟩ := bytes_of_trod hy
      exact ⟨s, hok, cell_of_cells?_one hcs'⟩
    obtain ⟨ss, hsl, hss⟩ := exists_list n each
    refine ⟨some a', c, ss, by rw [hsl], by simp, by omega, hm, ?_, fun s hs => ?_⟩
    · intro j u hj
      simp only [List.getElem?_map, Option.map_eq_some_iff] at hj
      obtain ⟨s, hsj, rfl⟩ := hj
      have hc := (hss j s hsj).2
      have hjn : j < n := by have := (List.getElem?_eq_some_iff.1 hsj).1; omega
      obtain ⟨s0, _, h0⟩ := each 0 (by omega)
      obtain ⟨b, o, sp⟩ := a'
      have hspot : sp = none := by
        have h1 := World.cell?_spot h0
        simpa [Addr.add] using h1
      subst hspot
      exact ⟨b, o, rfl, by rw [← hc, add_at]⟩
    · obtain ⟨i, hi⟩ := List.getElem?_of_mem hs
      exact (hss i s hi).1
theorem un_24 : Tryd.prog.underlying 24 = some (.int .i64) := by kernel_rfl
theorem un_2 : Tryd.prog.underlying 2 = some (.int .i64) := by kernel_rfl
theorem u8_of {z : Int} (h : Lit.wf (.int .u8 z) = true) : ∃ N : UInt8, z = (N.toNat : Int) := by
  have hz : 0 ≤ z ∧ z < 256 := by
    simp [Lit.wf, IntKind.min, IntKind.max, IntKind.signed, IntKind.bits] at h
    omega
  refine ⟨UInt8.ofNat z.toNat, ?_⟩
  rw [UInt8.toNat_ofNat']
  omega
theorem i64_of {z : Int} (h : Lit.wf (.int .i64 z) = true) : -9223372036854775808 ≤ z ∧ z < 9223372036854775808 := by
  simp [Lit.wf, IntKind.min, IntKind.max, IntKind.signed, IntKind.bits] at h
  omega
end Go.Proofs.YtokhediaibdkjaaDoor

/-! From P2 -/
/- Plain facts: a disk on which only Save wrote, and its crashes. -/
namespace Go.Proofs.YtokhediaibdkjaaDoor
open Go.Pm Go.RowKit
set_option maxRecDepth 100000

abbrev NB (m : Nat) : BitVec 64 := BitVec.ofNat 64 m
theorem NB_nat {m : Nat} (h : m < 18446744073709551616) : (NB m).toNat = m := by rw [BitVec.toNat_ofNat]; exact Nat.mod_eq_of_lt h
theorem NB_succ (m : Nat) : NB m + 1#64 = NB (m + 1) := by
  apply BitVec.eq_of_toNat_eq; simp [BitVec.toNat_add, BitVec.toNat_ofNat]
theorem NB_ne {m : Nat} (h : m < 18446744073709551616) (h0 : m ≠ 0) : NB m ≠ 0#64 := fun e => h0 (by have := congrArg BitVec.toNat e; rw [NB_nat h] at this; simpa using this)
/-- A number's lowest byte. -/
def lowB (m : Nat) : UInt8 := byteK (NB m) 0
theorem lowB_nat {m : Nat} (h : m < 18446744073709551616) : (lowB m).toNat = m % 256 := by rw [lowB, byteK_nat, NB_nat h]; simp
theorem low_ne {m : Nat} (h : m + 1 < 18446744073709551616) : lowB (m - 1) ≠ lowB (m + 1) := fun e => by
  have := congrArg UInt8.toNat e
  rw [lowB_nat (by omega), lowB_nat h] at this
  omega

/-! ### What is torn -/
theorem torn_get {E T : List UInt8} {n i : Nat} (hE : E.length = 64) (hn : n ≤ 64) : (E.take n ++ T.drop n).getD i 0 = if i < n then E.getD i 0 else T.getD i 0 := by
  simp only [List.getD_eq_getElem?_getD, List.getElem?_append, List.length_take, hE, Nat.min_eq_left hn]
  split
  · rename_i h; rw [List.getElem?_take_of_lt h]
  · rename_i h; rw [List.getElem?_drop, show n + (i - n) = i by omega]
theorem torn_drop {E T : List UInt8} {n j : Nat} (hE : E.length = 64) (hn : n ≤ 64) (h : n ≤ j) : (E.take n ++ T.drop n).drop j = T.drop j := by
  rw [List.drop_append, List.drop_of_length_le (by rw [List.length_take]; omega), List.nil_append, List.drop_drop, List.length_take, hE, Nat.min_eq_left hn, show n + (j - n) = j by omega]
theorem torn_length {E T : List UInt8} {n : Nat} (hE : E.length = 64) (hT : T.length = 64) (hn : n ≤ 64) : (E.take n ++ T.drop n).length = 64 := by
  rw [List.length_append, List.length_take, List.length_drop]; omega
theorem torn_full {E T : List UInt8} {n : Nat} (h : 60 ≤ n) (he : E.drop 60 = T.drop 60) : E.take n ++ T.drop n = E := by
  have : T.drop n = E.drop n := by
    rw [show n = 60 + (n - 60) by omega, ← List.drop_drop, ← List.drop_drop, he]
  rw [this, List.take_append_drop]
theorem enc_11 (n : BitVec 64) (d : List UInt8) : (encW n d).getD 11 0 = byteK n 0 := rfl
theorem enc_tail (n : BitVec 64) {d : List UInt8} (h : d.length = 24) : (encW n d).drop 52 = be8 n ++ List.replicate 4 0 := by
  rw [encW_body, List.append_assoc, List.drop_append_of_le_length (by rw [bodyW_length n h]; exact Nat.le_refl _), List.drop_of_length_le (by rw [bodyW_length n h]; exact Nat.le_refl _), List.nil_append]
theorem enc_59 (n : BitVec 64) {d : List UInt8} (h : d.length = 24) : (encW n d).getD 59 0 = byteK n 0 := by
  have h1 := congrArg (fun l : List UInt8 => l.getD 7 0) (enc_tail n h)
  simp only [List.getD_eq_getElem?_getD, List.getElem?_drop] at h1 ⊢
  exact h1
theorem enc_60 (n : BitVec 64) {d : List UInt8} (h : d.length = 24) : (encW n d).drop 60 = List.replicate 4 0 := by
  rw [show (60 : Nat) = 52 + 8 by decide, ← List.drop_drop, enc_tail n h]
  rfl

/-- What lay in a sector ahead of what is torn. -/
def Base (m : Nat) (S : List UInt8) : Prop := (m ≤ 1 ∧ S = zero64) ∨ (2 ≤ m ∧ ∃ d0 : List UInt8, d0.length = 24 ∧ S = encW (NB (m - 1)) d0)
/-- A sector to be written with record m + 1, that may be torn. -/
def Mx (m : Nat) (T : List UInt8) : Prop := T.length = 64 ∧ T.getD 59 0 = lowB (m - 1) ∧ T.drop 60 = List.replicate 4 0 ∧ (T.getD 11 0 = lowB (m + 1) ∨ ∃ S, Base m S ∧ T.drop 11 = S.drop 11)
theorem mx_zero {m : Nat} (h : m ≤ 1) : Mx m zero64 := by
  refine ⟨rfl, ?_, rfl, .inr ⟨zero64, .inl ⟨h, rfl⟩, rfl⟩⟩
  rw [show m - 1 = 0 by omega]
  decide
theorem mx_enc {m : Nat} (h : 1 ≤ m) {d : List UInt8} (hd : d.length = 24) : Mx (m + 1) (encW (NB m) d) :=
  ⟨encW_length _ hd, by rw [enc_59 _ hd]; rfl, enc_60 _ hd, .inr ⟨_, .inr ⟨by omega, d, hd, rfl⟩, rfl⟩⟩
theorem mx_tear {m : Nat} {T : List UInt8} (h : Mx m T) {d : List UInt8} (hd : d.length = 24) {n : Nat} (hn : n < 60) : Mx m ((encW (NB (m + 1)) d).take n ++ T.drop n) := by
  obtain ⟨h1, h2, h3, h4⟩ := h
  have hE := encW_length (NB (m + 1)) hd
  refine ⟨torn_length hE h1 (by omega), ?_, ?_, ?_⟩
  · rw [torn_get hE (by omega), if_neg (by omega), h2]
  · rw [torn_drop hE (by omega) (by omega), h3]
  · by_cases h12 : 11 < n
    · left
      rw [torn_get hE (by omega), if_pos h12, enc_11]; rfl
    · rcases h4 with h4 | ⟨S, hS, h4⟩
      · left; rw [torn_get hE (by omega), if_neg h12, h4]
      · right; exact ⟨S, hS, by rw [torn_drop hE (by omega) (by omega), h4]⟩
theorem mx_full {m : Nat} {T : List UInt8} (h : Mx m T) {d : List UInt8} (hd : d.length = 24) {n : Nat} (hn : 60 ≤ n) : (encW (NB (m + 1)) d).take n ++ T.drop n = encW (NB (m + 1)) d :=
  torn_full hn (by rw [h.2.2.1, enc_60 _ hd])
theorem mx_dec {m : Nat} (hm : m + 1 < 18446744073709551616) {T : List UInt8} (h : Mx m T) {n : BitVec 64} {d : List UInt8} (hd : decW T = some (n, d)) : 2 ≤ m ∧ n = NB (m - 1) := by
  obtain ⟨h1, h2, h3, h4⟩ := h
  obtain ⟨he, hn0, hdl, _⟩ := decW_spec hd
  have e1 : byteK n 0 = lowB (m - 1) := by rw [← h2, he, enc_59 n hdl]
  rcases h4 with h4 | ⟨S, hS, h4⟩
  · exfalso
    rw [he, enc_11, e1] at h4
    exact low_ne hm h4
  · have e2 : (T.drop 52).take 8 = (S.drop 52).take 8 := by
      rw [show (52 : Nat) = 11 + 41 by decide, ← List.drop_drop, h4, List.drop_drop]
    rw [he, enc_tail n hdl] at e2
    rcases hS with ⟨_, rfl⟩ | ⟨h2m, d0, hd0, rfl⟩
    · exfalso
      have e3 : be8 n = be8 0#64 := e2
      exact hn0 (be8_inj e3)
    · rw [enc_tail _ hd0] at e2
      exact ⟨h2m, be8_inj e2⟩

/-! ### Two sectors -/
/-- The disk's sectors, whose record is (m, d): only Save wrote. -/
def Inv (m : Nat) (d : List UInt8) (st : List (List UInt8)) : Prop :=
  (m = 0 ∧ d = [] ∧ ∃ T, Mx 0 T ∧ st = [T, zero64]) ∨
  (m % 2 = 1 ∧ d.length = 24 ∧ ∃ T, Mx m T ∧ st = [encW (NB m) d, T]) ∨
  (m ≠ 0 ∧ m % 2 = 0 ∧ d.length = 24 ∧ ∃ T, Mx m T ∧ st = [T, encW (NB m) d])
theorem inv_new : Inv 0 [] [zero64, zero64] := .inl ⟨rfl, rfl, zero64, mx_zero (by decide), rfl⟩
theorem inv_next {m : Nat} {d : List UInt8} {st : List (List UInt8)} (h : Inv m d st) : st.length = 2 ∧ Mx m (st.getD (m % 2) []) := by
  rcases h with ⟨h0, _, T, hT, rfl⟩ | ⟨h1, _, T, hT, rfl⟩ | ⟨_, h1, _, T, hT, rfl⟩
  · subst h0; exact ⟨rfl, hT⟩
  · rw [h1]; exact ⟨rfl, hT⟩
  · rw [h1]; exact ⟨rfl, hT⟩
theorem inv_torn {m : Nat} {d : List UInt8} {st : List (List UInt8)} (h : Inv m d st) {d' : List UInt8} (hd : d'.length = 24) {n : Nat} (hn : n < 60) :
    Inv m d (st.set (m % 2) ((encW (NB (m + 1)) d').take n ++ (st.getD (m % 2) []).drop n)) := by
  rcases h with ⟨h0, h2, T, hT, rfl⟩ | ⟨h1, h2, T, hT, rfl⟩ | ⟨h0, h1, h2, T, hT, rfl⟩
  · subst h0; exact .inl ⟨rfl, h2, _, mx_tear hT hd hn, rfl⟩
  · rw [h1]; exact .inr (.inl ⟨h1, h2, _, mx_tear hT hd hn, rfl⟩)
  · rw [h1]; exact .inr (.inr ⟨h0, h1, h2, _, mx_tear hT hd hn, rfl⟩)
theorem inv_set {m : Nat} {d : List UInt8} {st : List (List UInt8)} (h : Inv m d st) {d' : List UInt8} (hd : d'.length = 24) : Inv (m + 1) d' (st.set (m % 2) (encW (NB (m + 1)) d')) := by
  rcases h with ⟨h0, h2, T, hT, rfl⟩ | ⟨h1, h2, T, hT, rfl⟩ | ⟨h0, h1, h2, T, hT, rfl⟩
  · subst h0; exact .inr (.inl ⟨rfl, hd, zero64, mx_zero (by decide), rfl⟩)
  · rw [h1]; exact .inr (.inr ⟨by omega, by omega, hd, _, mx_enc (by omega) h2, rfl⟩)
  · rw [h1]; exact .inr (.inl ⟨by omega, hd, _, mx_enc (by omega) h2, rfl⟩)
theorem inv_tear {m : Nat} {d : List UInt8} {st : List (List UInt8)} (h : Inv m d st) {d' : List UInt8} (hd : d'.length = 24) {n : Nat} (hn : 60 ≤ n) :
    Inv (m + 1) d' (st.set (m % 2) ((encW (NB (m + 1)) d').take n ++ (st.getD (m % 2) []).drop n)) := by
  rw [mx_full (inv_next h).2 hd hn]; exact inv_set h hd
theorem inv_len {m : Nat} {d : List UInt8} {st : List (List UInt8)} (h : Inv m d st) : d.length = if m = 0 then 0 else 24 := by
  rcases h with ⟨h0, h2, _⟩ | ⟨h1, h2, _⟩ | ⟨h0, h1, h2, _⟩
  · rw [if_pos h0, h2]; rfl
  · rw [if_neg (by omega), h2]
  · rw [if_neg h0, h2]

/-! ### Load -/
theorem load_two {k : Dk} (hd : k.down = false) (hw : k.waits = []) {s0 s1 : List UInt8} (hs : k.stays = [s0, s1]) : k.load = k.ldStep 1 (k.ldStep 0 Ld.z) ∧ k.rd 0 = (0, s0) ∧ k.rd 1 = (0, s1) := by
  have r0 : k.rd 0 = (0, s0) := by
    rw [Dk.rd, if_neg (by rw [hd]; decide), if_pos (by rw [hs]; exact Nat.zero_lt_succ _), Dk.look, hw, hs]; rfl
  have r1 : k.rd 1 = (0, s1) := by
    rw [Dk.rd, if_neg (by rw [hd]; decide), if_pos (by rw [hs]; exact Nat.lt_succ_self _), Dk.look, hw, hs]; rfl
  have hg : k.go 0 = true := by rw [Dk.go, r0]; rfl
  have hl : k.ld = k.ldStep 1 (k.ldStep 0 Ld.z) := by rw [Dk.ld, if_pos hg]; rfl
  have hw0 : k.ld.w = 0 := by rw [hl, ldStep_w, r1]
  exact ⟨by rw [Dk.load, if_pos hw0, hl], r0, r1⟩
theorem step_none {k : Dk} {i : Nat} {s : Ld} {l : List UInt8} (hr : k.rd i = (0, l)) (h : decW l = none) : k.ldStep i s = { s with w := 0, a := i } := by
  rw [Dk.ldStep, hr, if_pos rfl]
  simp only [h]
theorem step_low {k : Dk} {i : Nat} {s : Ld} {l : List UInt8} (hr : k.rd i = (0, l)) {m : BitVec 64} {d : List UInt8} (h : decW l = some (m, d)) (hm : m ≤ s.n) : k.ldStep i s = { s with w := 0, a := i } := by
  rw [Dk.ldStep, hr, if_pos rfl]
  simp only [h, if_pos hm]
theorem step_new {k : Dk} {i : Nat} {s : Ld} {l : List UInt8} (hr : k.rd i = (0, l)) {m : BitVec 64} {d : List UInt8} (h : decW l = some (m, d)) (hm : ¬ m ≤ s.n) : k.ldStep i s = ⟨m, d, 1 - i, 0, i⟩ := by
  rw [Dk.ldStep, hr, if_pos rfl]
  simp only [h, if_neg hm]
theorem NB_le {a b : Nat} (ha : a < 18446744073709551616) (hb : b < 18446744073709551616) : NB a ≤ NB b ↔ a ≤ b := by rw [BitVec.le_def, NB_nat ha, NB_nat hb]
/-- The disk's record, and where it goes next. -/
theorem inv_load {k : Dk} (hd : k.down = false) (hw : k.waits = []) {m : Nat} {d : List UInt8} (h : Inv m d k.stays) (hm : m + 1 < 18446744073709551616) : k.load.n = NB m ∧ k.load.d = d ∧ k.load.nx = ((m % 2 : Nat) : Int) ∧ k.load.w = 0 := by
  rcases h with ⟨h0, h2, T, hT, hs⟩ | ⟨h1, h2, T, hT, hs⟩ | ⟨h0, h1, h2, T, hT, hs⟩
  · obtain ⟨e, r0, r1⟩ := load_two hd hw hs
    subst h0
    have d0 : decW T = none := by
      cases hc : decW T with
      | none => rfl
      | some x => obtain ⟨n, y⟩ := x; have := (mx_dec hm hT hc).1; omega
    have d1 : decW zero64 = none := decW_none (fun hh => hh.2.1 (by decide +kernel))
    rw [e, step_none r1 d1, step_none r0 d0]
    exact ⟨rfl, h2.symm, rfl, rfl⟩
  · obtain ⟨e, r0, r1⟩ := load_two hd hw hs
    have d0 := decW_enc (NB_ne (m := m) (by omega) (by omega)) h2
    have hn : ¬ NB m ≤ Ld.z.n := by
      show ¬ NB m ≤ NB 0
      rw [NB_le (by omega) (by omega)]; omega
    have e0 := step_new (s := Ld.z) r0 d0 hn
    have e1 : k.ldStep 1 (k.ldStep 0 Ld.z) = { k.ldStep 0 Ld.z with w := 0, a := ((1 : Nat) : Int) } := by
      cases hc : decW T with
      | none => exact step_none r1 hc
      | some x =>
        obtain ⟨n, y⟩ := x
        obtain ⟨_, rfl⟩ := mx_dec hm hT hc
        refine step_low r1 hc ?_
        rw [e0]
        exact (NB_le (by omega) (by omega)).2 (by omega)
    rw [e, e1, e0, h1]
    exact ⟨rfl, rfl, rfl, rfl⟩
  · obtain ⟨e, r0, r1⟩ := load_two hd hw hs
    have d1 := decW_enc (NB_ne (m := m) (by omega) h0) h2
    have e1 : k.ldStep 1 (k.ldStep 0 Ld.z) = ⟨NB m, d, 1 - ((1 : Nat) : Int), 0, ((1 : Nat) : Int)⟩ := by
      refine step_new r1 d1 ?_
      cases hc : decW T with
      | none =>
        rw [step_none r0 hc]
        show ¬ NB m ≤ NB 0
        rw [NB_le (by omega) (by omega)]; omega
      | some x =>
        obtain ⟨n, y⟩ := x
        obtain ⟨hm2, rfl⟩ := mx_dec hm hT hc
        rw [step_new r0 hc (by show ¬ NB (m - 1) ≤ NB 0; rw [NB_le (by omega) (by omega)]; omega)]
        show ¬ NB m ≤ NB (m - 1)
        rw [NB_le (by omega) (by omega)]; omega
    rw [e, e1, h1]
    exact ⟨rfl, rfl, rfl, rfl⟩
end Go.Proofs.YtokhediaibdkjaaDoor

/-! From P3 -/
/- Plain facts: what Save does to a disk on which only Save wrote. -/
namespace Go.Proofs.YtokhediaibdkjaaDoor
open Go.Pm Go.RowKit
set_option maxRecDepth 100000

structure Gd (k : Dk) (m : Nat) (d : List UInt8) : Prop where
  inv : Inv m d k.stays
  wt : k.waits = []

abbrev nextE (m : Nat) (d' : List UInt8) : List UInt8 := encW (NB (m + 1)) d'

theorem fall_one (c : List UInt8) (a : Nat) (E : List UInt8) (st : List (List UInt8)) : fallSt c [(a, E)] st = if keepN c 0 = 0 then st else st.set a (E.take (keepN c 0) ++ (st.getD a []).drop (keepN c 0)) := rfl
theorem inv_fall {m : Nat} {d : List UInt8} {st : List (List UInt8)} (h : Inv m d st) {d' : List UInt8} (hd : d'.length = 24) (c : List UInt8) :
    if 60 ≤ keepN c 0 then Inv (m + 1) d' (fallSt c [(m % 2, nextE m d')] st) else Inv m d (fallSt c [(m % 2, nextE m d')] st) := by
  rw [fall_one]
  split
  · rename_i h60
    rw [if_neg (by omega)]
    exact inv_tear h hd h60
  · rename_i h60
    by_cases h0 : keepN c 0 = 0
    · rw [if_pos h0]; exact h
    · rw [if_neg h0]; exact inv_torn h hd (by omega)

section
variable {k : Dk} {m : Nat} {d d' : List UInt8} (h : Gd k m d) (hd : k.down = false) (hm : m + 1 < 18446744073709551616) (h24 : d'.length = 24)
include h hd hm h24
theorem save_head : k.save d' = (let x := k.write ((m % 2 : Nat) : Int) (nextE m d'); if x.1 ≠ 0 then (Ld.err x.1, x.2) else if x.2.flush.1 ≠ 0 then (Ld.err x.2.flush.1, x.2.flush.2) else (⟨NB (m + 1), d', 0, 0, 0⟩, x.2.flush.2)) := by
  obtain ⟨e1, e2, e3, e4⟩ := inv_load hd h.wt h.inv hm
  have hmx : ¬ (d'.length ≠ 24 ∨ k.load.n = 18446744073709551615#64) := by
    rintro (h1 | h1)
    · exact h1 h24
    · rw [e1] at h1
      have := congrArg BitVec.toNat h1
      rw [NB_nat (by omega)] at this
      simp at this; omega
  unfold Dk.save
  rw [if_neg (by rw [e4]; decide), if_neg hmx, e1, e3, NB_succ]
theorem write_room (hr : 0 < k.room) : k.write ((m % 2 : Nat) : Int) (nextE m d') = (if (k.put (m % 2) (nextE m d')).step.1 then 171 else 0, (k.put (m % 2) (nextE m d')).step.2) := by
  refine used hm ?_
  have hl := (inv_next h.inv).1
  have hE : (nextE m d').length = 64 := encW_length (NB (m + 1)) h24
  rw [Dk.write, if_neg (by rw [hd]; decide), if_neg (by rw [hl]; omega), if_pos hr]
  rfl
theorem write_full (hr : k.room = 0) : k.write ((m % 2 : Nat) : Int) (nextE m d') = (if k.step.1 then 171 else 172, k.step.2) := by
  refine used hm ?_
  have hl := (inv_next h.inv).1
  have hE : (nextE m d').length = 64 := encW_length (NB (m + 1)) h24
  rw [Dk.write, if_neg (by rw [hd]; decide), if_neg (by rw [hl]; omega), if_neg (by omega)]
theorem save_A (hr : 0 < k.room) (hs : k.steps = 0 ∨ 2 < k.steps) : k.save d' = (⟨NB (m + 1), d', 0, 0, 0⟩, ⟨k.stays.set (m % 2) (nextE m d'), [], k.room - 1, false, k.steps - 2, k.choice⟩) := by
  have e0 : (k.put (m % 2) (nextE m d')).step = (false, ⟨k.stays, [(m % 2, nextE m d')], k.room - 1, false, k.steps - 1, k.choice⟩) := by
    rw [Dk.put, h.wt, hd]
    rcases hs with hs | hs
    · rw [Dk.step, if_pos hs]; simp [hs]
    · rw [Dk.step, if_neg (by show k.steps ≠ 0; omega), if_pos (by show k.steps - 1 > 0; omega)]; rfl
  rw [save_head h hd hm h24, write_room h hd hm h24 hr, e0]
  have e1 : (⟨k.stays, [(m % 2, nextE m d')], k.room - 1, false, k.steps - 1, k.choice⟩ : Dk).flush = (0, ⟨k.stays.set (m % 2) (nextE m d'), [], k.room - 1, false, k.steps - 2, k.choice⟩) := by
    have e2 : (⟨k.stays, [(m % 2, nextE m d')], k.room - 1, false, k.steps - 1, k.choice⟩ : Dk).step = (false, ⟨k.stays, [(m % 2, nextE m d')], k.room - 1, false, k.steps - 2, k.choice⟩) := by
      rcases hs with hs | hs
      · rw [Dk.step, if_pos (by show k.steps - 1 = 0; omega)]; simp [hs]
      · rw [Dk.step, if_neg (by show k.steps - 1 ≠ 0; omega), if_pos (by show k.steps - 1 - 1 > 0; omega)]; rfl
    rw [Dk.flush, e2]; rfl
  simp [e1]
theorem save_B (hr : 0 < k.room) (hs : k.steps = 1 ∨ k.steps = 2) : k.save d' = (Ld.err 171, ⟨fallSt k.choice [(m % 2, nextE m d')] k.stays, [], k.room - 1, true, 0, []⟩) := by
  rw [save_head h hd hm h24, write_room h hd hm h24 hr]
  rcases hs with hs | hs
  · have e0 : (k.put (m % 2) (nextE m d')).step = (true, ⟨fallSt k.choice [(m % 2, nextE m d')] k.stays, [], k.room - 1, true, 0, []⟩) := by
      rw [Dk.put, h.wt, hd, Dk.step, if_neg (by show k.steps ≠ 0; omega), if_neg (by show ¬ k.steps - 1 > 0; omega)]; rfl
    rw [e0]; simp
  · have e0 : (k.put (m % 2) (nextE m d')).step = (false, ⟨k.stays, [(m % 2, nextE m d')], k.room - 1, false, k.steps - 1, k.choice⟩) := by
      rw [Dk.put, h.wt, hd, Dk.step, if_neg (by show k.steps ≠ 0; omega), if_pos (by show k.steps - 1 > 0; omega)]; rfl
    rw [e0]
    have e1 : (⟨k.stays, [(m % 2, nextE m d')], k.room - 1, false, k.steps - 1, k.choice⟩ : Dk).flush = (171, ⟨fallSt k.choice [(m % 2, nextE m d')] k.stays, [], k.room - 1, true, 0, []⟩) := by
      have e2 : (⟨k.stays, [(m % 2, nextE m d')], k.room - 1, false, k.steps - 1, k.choice⟩ : Dk).step = (true, ⟨fallSt k.choice [(m % 2, nextE m d')] k.stays, [], k.room - 1, true, 0, []⟩) := by
        rw [Dk.step, if_neg (by show k.steps - 1 ≠ 0; omega), if_neg (by show ¬ k.steps - 1 - 1 > 0; omega)]; rfl
      rw [Dk.flush, e2]; rfl
    simp [e1]
theorem save_C (hr : k.room = 0) (hs : k.steps = 1) : k.save d' = (Ld.err 171, ⟨k.stays, [], k.room, true, 0, []⟩) := by
  have e0 : k.step = (true, ⟨k.stays, [], k.room, true, 0, []⟩) := by
    rw [Dk.step, if_neg (by omega), if_neg (by omega), Dk.fall, h.wt]; rfl
  rw [save_head h hd hm h24, write_full h hd hm h24 hr, e0]; simp
theorem save_D (hr : k.room = 0) (hs : k.steps ≠ 1) : k.save d' = (Ld.err 172, ⟨k.stays, [], k.room, false, k.steps - 1, k.choice⟩) := by
  have e0 : k.step = (false, ⟨k.stays, [], k.room, false, k.steps - 1, k.choice⟩) := by
    obtain ⟨ks, kw, kr, kd, kst, kc⟩ := k
    have hw := h.wt
    simp only at hw hd hs
    subst hw hd
    rcases Nat.eq_zero_or_pos kst with hs0 | hs0
    · rw [Dk.step, if_pos (by exact hs0)]; simp [hs0]
    · rw [Dk.step, if_neg (by show kst ≠ 0; omega), if_pos (by show kst - 1 > 0; omega)]
  rw [save_head h hd hm h24, write_full h hd hm h24 hr, e0]; simp
end
theorem save_down {k : Dk} (hd : k.down = true) (d' : List UInt8) : k.save d' = (Ld.err 171, k) := by
  have r0 : k.rd 0 = (171, []) := by rw [Dk.rd, if_pos hd]
  have hl : k.ld.w = 171 := by
    have hg : ¬ k.go 0 = true := by rw [Dk.go, r0]; decide
    rw [Dk.ld, if_neg hg]
    show (k.ldStep 0 Ld.z).w = 171
    rw [ldStep_w, r0]
  have hw : k.load.w = 171 := by rw [Dk.load, if_neg (by rw [hl]; decide)]; exact hl
  unfold Dk.save
  rw [if_pos (by rw [hw]; decide), hw]
end Go.Proofs.YtokhediaibdkjaaDoor

/-! From P4 -/
/- Plain facts: the saves and the crash of SlotCrash; calls over a disk that is known. -/
namespace Go.Proofs.YtokhediaibdkjaaDoor
open Go.Pm Go.RowKit
set_option maxRecDepth 100000

theorem dk2_ok (m : Nat) (hm : m ≤ 10000) : (newDk 2 m).ok := by
  refine ⟨?_, by show 1 ≤ 2; decide, by show 2 ≤ 64; decide, ?_, ?_, by show 0 < 9223372036854775808; decide, by show 0 ≤ 70368744177664; decide⟩
  · intro x hx
    have : x = zero64 := by simpa [newDk, List.replicate] using hx
    rw [this]; rfl
  · intro x hx; simp [newDk] at hx
  · simpa [newDk] using hm
theorem gd_new (m : Nat) : Gd (newDk 2 m) 0 [] := ⟨inv_new, rfl⟩
theorem Gd.boot {k : Dk} {m : Nat} {d : List UInt8} (h : Gd k m d) (b : Bool) : Gd { k with down := b } m d := ⟨h.inv, h.wt⟩
theorem Gd.arm {k : Dk} {m : Nat} {d : List UInt8} (h : Gd k m d) (n : Nat) (c : List UInt8) : Gd { k with steps := n, choice := c } m d := ⟨h.inv, h.wt⟩

/-! ### Calls over a disk that is known -/
section
variable (b : Nat) (k : Dk) (r : Rp)
theorem f39_as (p : Option Addr) (n c : Nat) (l : List UInt8) (hl : l.length = n) (hpn : p = none → n = 0 ∧ c = 0) (hnc : n ≤ c) {L : Ld} {k' : Dk} (e : k.save l = (L, k')) (w : World) (hA : Sat w (fps (dkR b k r)) (dkR b k r) w) (hG : Gl w (fps (dkR b k r))) (hr : RdS w (fps (dkR b k r)) p (l.map B8)) (hk : k.ok) (hro : r.ok k) :
    Calls Tryd.prog 39 [.pointer (some ⟨b, 0, none⟩), .slice p n c].toArray w (fun en w2 => ∃ x : (Option Addr × Nat) × Rp, (ldOk L x.1 ∧ x.2.ok k') ∧ en = .returned (.tuple #[.agg (ldv L x.1).toArray, I64 L.w]) ∧ Sat w (fps (dkR b k r)) (ldR L x.1 :: dkR b k' x.2) w2) := by
  have h := f39_spec b k hk r hro p n c l hl hpn hnc w hA hG hr
  rw [e] at h
  exact h
theorem f52_as {m : BitVec 64} {d : List UInt8} {nx : Int} (e1 : k.load.n = m) (e2 : k.load.d = d) (e3 : k.load.nx = nx) (e4 : k.load.w = 0) (w : World) (hA : Sat w (fps (dkR b k r)) (dkR b k r) w) (hG : Gl w (fps (dkR b k r))) (hk : k.ok) (hro : r.ok k) :
    Calls Tryd.prog 52 [.pointer (some ⟨b, 0, none⟩)].toArray w (fun en w2 => ∃ y : Option Addr × Nat, ((y.1 = none → y.2 = 0) ∧ d.length ≤ y.2) ∧ en = .returned (.tuple #[.agg [U64 m, slv d.length y].toArray, I64 nx, I64 0]) ∧ Sat w (fps (dkR b k r)) (vec (slv d.length y) 5 1 d.length (d.map B8) :: dkR b k r) w2) := by
  have h := f52_spec b k hk r hro w hA hG
  unfold ldOk ldv ldR at h
  rw [e1, e2, e3, e4] at h
  exact h
theorem f35_as (n : Int) (hn : n < 9223372036854775808) (p : Option Addr) (cl cc : Nat) (choice : List UInt8) (hcl : choice.length = cl) (hpn : p = none → cc = 0) (hcc : cl ≤ cc) (hm : cl ≤ 70368744177664) {e : Int} {k' : Dk} (he : k.armed n choice = (e, k')) (w : World) (hA : Sat w (fps (dkR b k r)) (dkR b k r) w) (hr : RdS w (fps (dkR b k r)) p (choice.map B8)) (hk : k.ok) (hro : r.ok k) :
    Calls Tryd.prog 35 [.pointer (some ⟨b, 0, none⟩), I64 n, .slice p cl cc].toArray w (fun en w2 => ∃ r2 : Rp, r2.ok k' ∧ en = .returned (I64 e) ∧ Sat w (fps (dkR b k r)) (dkR b k' r2) w2) := by
  have h := f35_spec b k hk r hro n hn p cl cc choice hcl hpn hcc hm w hA hr
  rw [he] at h
  exact h
end

/-! ### SlotCrash -/
def sD (ss : List Sl) (i : Nat) : List UInt8 := dat ((ss[i]?).elim [] Sl.l)
def cD (ss : List Sl) : Nat → List UInt8
  | 0 => []
  | i + 1 => sD ss i
def cK (ss : List Sl) : Nat → Dk
  | 0 => newDk 2 1000
  | i + 1 => ((cK ss i).save (sD ss i)).2
def cL (ss : List Sl) (i : Nat) : Ld := ⟨NB i, cD ss i, 0, 0, 0⟩
theorem sD_length (ss : List Sl) (i : Nat) : (sD ss i).length = 24 := dat_length _
theorem cK_ok (ss : List Sl) : ∀ i, (cK ss i).ok
  | 0 => dk2_ok 1000 (by decide)
  | i + 1 => Dk.save_ok (cK_ok ss i) _
theorem cK_st (ss : List Sl) : ∀ i, i ≤ 500 → Gd (cK ss i) i (cD ss i) ∧ (cK ss i).down = false ∧ (cK ss i).steps = 0 ∧ (cK ss i).room = 1000 - i ∧ (cK ss i).save (sD ss i) = (cL ss (i + 1), cK ss (i + 1))
  | 0, _ => by
    have h1 : Gd (cK ss 0) 0 (cD ss 0) := gd_new 1000
    refine ⟨h1, rfl, rfl, rfl, ?_⟩
    have h2 := save_A h1 rfl (by decide) (sD_length ss 0) (by show 0 < 1000; decide) (.inl rfl)
    show _ = (_, ((cK ss 0).save (sD ss 0)).2)
    rw [h2]; rfl
  | i + 1, hi => by
    obtain ⟨g, h1, h2, h3, _⟩ := cK_st ss i (by omega)
    have h4 := save_A g h1 (by omega) (sD_length ss i) (by omega) (.inl h2)
    have h5 : cK ss (i + 1) = ⟨(cK ss i).stays.set (i % 2) (nextE i (sD ss i)), [], (cK ss i).room - 1, false, (cK ss i).steps - 2, (cK ss i).choice⟩ := by
      show ((cK ss i).save (sD ss i)).2 = _
      rw [h4]
    have g' : Gd (cK ss (i + 1)) (i + 1) (cD ss (i + 1)) := by
      rw [h5]; exact ⟨inv_set g.inv (sD_length ss i), rfl⟩
    have d' : (cK ss (i + 1)).down = false := by rw [h5]
    have s' : (cK ss (i + 1)).steps = 0 := by rw [h5, h2]
    have r' : (cK ss (i + 1)).room = 1000 - (i + 1) := by rw [h5, h3]; show 1000 - i - 1 = _; omega
    refine ⟨g', d', s', r', ?_⟩
    have h6 := save_A g' d' (by omega) (sD_length ss (i + 1)) (by omega) (.inl s')
    show _ = (_, ((cK ss (i + 1)).save (sD ss (i + 1))).2)
    rw [h6]; rfl
/-- Armed. -/
def kArm (ss : List Sl) (i st : Nat) (ch : UInt8) : Dk := { cK ss i with steps := st, choice := [ch] }
theorem kArm_eq (ss : List Sl) (i : Nat) {st : Nat} (h : 1 ≤ st) (ch : UInt8) : (cK ss i).armed (st : Int) [ch] = (0, kArm ss i st ch) := by
  rw [Dk.armed, if_neg (by omega)]; rfl
theorem kArm_ok (ss : List Sl) (i : Nat) {st : Nat} (h : 1 ≤ st) (h2 : st ≤ 2) (ch : UInt8) : (kArm ss i st ch).ok := by
  have h3 := Dk.arm_ok (cK_ok ss i) (n := (st : Int)) (by omega) (c := [ch]) (by simp)
  rw [kArm_eq ss i h ch] at h3
  exact h3
/-- Down. -/
def kDown (ss : List Sl) (i : Nat) (ch : UInt8) (lB : List UInt8) : Dk := ⟨fallSt [ch] [(i % 2, nextE i (dat lB))] (cK ss i).stays, [], (cK ss i).room - 1, true, 0, []⟩
theorem kDown_eq (ss : List Sl) {i : Nat} (hi : i ≤ 500) {st : Nat} (h : st = 1 ∨ st = 2) (ch : UInt8) (lB : List UInt8) : (kArm ss i st ch).save (dat lB) = (Ld.err 171, kDown ss i ch lB) := by
  obtain ⟨g, h1, h2, h3, _⟩ := cK_st ss i hi
  exact save_B (g.arm st [ch]) h1 (by omega) (dat_length lB) (by show 0 < (cK ss i).room; omega) h
theorem kDown_ok (ss : List Sl) {i : Nat} (hi : i ≤ 500) (ch : UInt8) (lB : List UInt8) : (kDown ss i ch lB).ok := by
  have h3 := Dk.save_ok (kArm_ok ss i (st := 1) (by decide) (by decide) ch) (dat lB)
  rw [kDown_eq ss hi (.inl rfl)] at h3
  exact h3
/-- Up again. -/
def kUp (ss : List Sl) (i : Nat) (ch : UInt8) (lB : List UInt8) : Dk := { kDown ss i ch lB with down := false }
theorem kUp_ok (ss : List Sl) {i : Nat} (hi : i ≤ 500) (ch : UInt8) (lB : List UInt8) : (kUp ss i ch lB).ok := Dk.ok_down (kDown_ok ss hi ch lB) false
theorem kUp_new (ss : List Sl) {i : Nat} (hi : i ≤ 500) {ch : UInt8} (hc : 60 ≤ ch.toNat) (lB : List UInt8) : Gd (kUp ss i ch lB) (i + 1) (dat lB) := by
  refine ⟨?_, rfl⟩
  have h := inv_fall (cK_st ss i hi).1.inv (dat_length lB) [ch]
  rw [if_pos (show 60 ≤ keepN [ch] 0 by show 60 ≤ min ch.toNat 64; omega)] at h
  exact h
theorem kUp_old (ss : List Sl) {i : Nat} (hi : i ≤ 500) {ch : UInt8} (hc : ¬ 60 ≤ ch.toNat) (lB : List UInt8) : Gd (kUp ss i ch lB) i (cD ss i) := by
  refine ⟨?_, rfl⟩
  have h := inv_fall (cK_st ss i hi).1.inv (dat_length lB) [ch]
  rw [if_neg (show ¬ 60 ≤ keepN [ch] 0 by show ¬ 60 ≤ min ch.toNat 64; omega)] at h
  exact h
/-- Saved again. -/
def kEnd (ss : List Sl) (i : Nat) (ch : UInt8) (lB lC : List UInt8) : Dk := ((kUp ss i ch lB).save (dat lC)).2
theorem kEnd_ok (ss : List Sl) {i : Nat} (hi : i ≤ 500) (ch : UInt8) (lB lC : List UInt8) : (kEnd ss i ch lB lC).ok := Dk.save_ok (kUp_ok ss hi ch lB) _
theorem kEnd_eq (ss : List Sl) {i : Nat} (hi : i ≤ 500) (ch : UInt8) (lB lC : List UInt8) {m : Nat} {d : List UInt8} (hm : m ≤ 501) (g : Gd (kUp ss i ch lB) m d) :
    (kUp ss i ch lB).save (dat lC) = (⟨NB (m + 1), dat lC, 0, 0, 0⟩, kEnd ss i ch lB lC) ∧ Gd (kEnd ss i ch lB lC) (m + 1) (dat lC) ∧ (kEnd ss i ch lB lC).down = false := by
  have hr := (cK_st ss i hi).2.2.2.1
  have h := save_A g rfl (by omega) (dat_length lC) (show 0 < (cK ss i).room - 1 by omega) (.inl rfl)
  have e : kEnd ss i ch lB lC = ⟨(kUp ss i ch lB).stays.set (m % 2) (nextE m (dat lC)), [], (kUp ss i ch lB).room - 1, false, (kUp ss i ch lB).steps - 2, (kUp ss i ch lB).choice⟩ := by rw [kEnd, h]
  refine ⟨by rw [h, e], ?_, by rw [e]⟩
  rw [e]
  exact ⟨inv_set g.inv (dat_length lC), rfl⟩
theorem get_sl {ss : List Sl} {i : Nat} {s : Sl} (h : ss[i]? = some s) : sD ss i = dat s.l := by rw [sD, h]; rfl
theorem get_slv {ss : List Sl} {i : Nat} {s : Sl} (h : ss[i]? = some s) : (ss.map Sl.v)[i]? = some s.v := by rw [List.getElem?_map, h]; rfl
end Go.Proofs.YtokhediaibdkjaaDoor

/-! From P5 -/
/- The walk of ref18.Same. (printed by gen1.py) -/
namespace Go.Proofs.YtokhediaibdkjaaDoor
open Go.Pm Go.RowKit
set_option maxRecDepth 100000
theorem f49_eq (n1 n2 : BitVec 64) (l1 l2 : List UInt8) (y1 y2 : Option Addr × Nat) (w : World) (hr1 : RdC w y1.1 (l1.map B8)) (hr2 : RdC w y2.1 (l2.map B8)) (h : n1 = n2) : Calls Tryd.prog 49 [.agg [U64 n1, slv l1.length y1].toArray, .agg [U64 n2, slv l2.length y2].toArray].toArray w (fun en w2 => en = .returned (.bool (decide (l1 = l2))) ∧ Sat w [] [] w2) := by
  refine used hr1 (used hr2 (used h (?_)))
  refine enter (n := 19) Tryd.func49 rfl rfl rfl (Sat.refl w) ?_
  refine seq ?_
  refine region ?_
  refine sq rfl (o_box (cs := [U64 n1, slv l1.length y1]) rfl rfl rfl (fun b2 => ?_))
  refine sq rfl (o_box (cs := [U64 n2, slv l2.length y2]) rfl rfl rfl (fun b3 => ?_))
  refine st (g_assign rfl) rfl ?_
  refine done ?_
  refine th_n ?_
  refine seq ?_
  refine region ?_
  refine st (g_fieldAddr fo_73_0 rfl rfl) rfl ?_
  refine st (g_load (v := U64 n1) sc_34 rfl (Cell.own (.there (.here)) rfl)) rfl ?_
  refine st (g_fieldAddr fo_73_0 rfl rfl) rfl ?_
  refine st (g_load (v := U64 n2) sc_34 rfl (Cell.own .here rfl)) rfl ?_
  refine st (g_T rfl rfl rfl (by rw [h])) rfl ?_
  refine st (g_move rfl) rfl ?_
  refine gt rfl ?_
  refine st (g_fieldAddr fo_73_1 rfl rfl) rfl ?_
  refine gt rfl ?_
  refine st (g_load (v := slv l1.length y1) sc_23 rfl (Cell.own (.there (.here)) rfl)) rfl ?_
  refine gt rfl ?_
  refine st (g_str (l := l1) by_23 str_9 rfl rfl (RdA.of hr1.s)) rfl ?_
  refine gt rfl ?_
  refine st (g_fieldAddr fo_73_1 rfl rfl) rfl ?_
  refine gt rfl ?_
  refine st (g_load (v := slv l2.length y2) sc_23 rfl (Cell.own .here rfl)) rfl ?_
  refine gt rfl ?_
  refine st (g_str (l := l2) by_23 str_9 rfl rfl (RdA.of hr2.s)) rfl ?_
  refine gt rfl ?_
  refine st (g_eqS rfl rfl) rfl ?_
  refine st (g_pickT rfl rfl) rfl ?_
  refine st (g_assign rfl) rfl ?_
  refine done ?_
  refine th_n ?_
  refine ret ?_
  exact ret1 rfl rfl rfl (fun w2 hw2 => ⟨rfl, hw2.clear⟩)

theorem f49_ne (n1 n2 : BitVec 64) (l1 l2 : List UInt8) (y1 y2 : Option Addr × Nat) (w : World) (hr1 : RdC w y1.1 (l1.map B8)) (hr2 : RdC w y2.1 (l2.map B8)) (h : n1 ≠ n2) : Calls Tryd.prog 49 [.agg [U64 n1, slv l1.length y1].toArray, .agg [U64 n2, slv l2.length y2].toArray].toArray w (fun en w2 => en = .returned (.bool (false)) ∧ Sat w [] [] w2) := by
  refine used hr1 (used hr2 (used h (?_)))
  refine enter (n := 19) Tryd.func49 rfl rfl rfl (Sat.refl w) ?_
  refine seq ?_
  refine region ?_
  refine sq rfl (o_box (cs := [U64 n1, slv l1.length y1]) rfl rfl rfl (fun b2 => ?_))
  refine sq rfl (o_box (cs := [U64 n2, slv l2.length y2]) rfl rfl rfl (fun b3 => ?_))
  refine st (g_assign rfl) rfl ?_
  refine done ?_
  refine th_n ?_
  refine seq ?_
  refine region ?_
  refine st (g_fieldAddr fo_73_0 rfl rfl) rfl ?_
  refine st (g_load (v := U64 n1) sc_34 rfl (Cell.own (.there (.here)) rfl)) rfl ?_
  refine st (g_fieldAddr fo_73_0 rfl rfl) rfl ?_
  refine st (g_load (v := U64 n2) sc_34 rfl (Cell.own .here rfl)) rfl ?_
  refine st (g_F rfl rfl rfl (fun hh => h (BitVec.eq_of_toNat_eq (by omega)))) rfl ?_
  refine st (g_move rfl) rfl ?_
  refine gf rfl rfl ?_
  refine gf rfl rfl ?_
  refine gf rfl rfl ?_
  refine gf rfl rfl ?_
  refine gf rfl rfl ?_
  refine gf rfl rfl ?_
  refine gf rfl rfl ?_
  refine st (g_pickF rfl rfl) rfl ?_
  refine st (g_assign rfl) rfl ?_
  refine done ?_
  refine th_n ?_
  refine ret ?_
  exact ret1 rfl rfl rfl (fun w2 hw2 => ⟨rfl, hw2.clear⟩)

theorem f49_spec (n1 n2 : BitVec 64) (l1 l2 : List UInt8) (y1 y2 : Option Addr × Nat) (w : World) (hr1 : RdC w y1.1 (l1.map B8)) (hr2 : RdC w y2.1 (l2.map B8)) : Calls Tryd.prog 49 [.agg [U64 n1, slv l1.length y1].toArray, .agg [U64 n2, slv l2.length y2].toArray].toArray w (fun en w2 => en = .returned (.bool (decide (n1 = n2 ∧ l1 = l2))) ∧ Sat w [] [] w2) := by
  by_cases h : n1 = n2
  · have h1 := f49_eq n1 n2 l1 l2 y1 y2 w hr1 hr2 h
    have e : decide (n1 = n2 ∧ l1 = l2) = decide (l1 = l2) := by rw [decide_eq_decide]; exact ⟨fun x => x.2, fun x => ⟨h, x⟩⟩
    rw [e]; exact h1
  · have h1 := f49_ne n1 n2 l1 l2 y1 y2 w hr1 hr2 h
    have e : decide (n1 = n2 ∧ l1 = l2) = false := decide_eq_false (fun x => h x.1)
    rw [e]; exact h1
theorem f49_as (n1 n2 : BitVec 64) (l1 l2 : List UInt8) (a1 a2 : Nat) (h1 : l1.length = a1) (h2 : l2.length = a2) (y1 y2 : Option Addr × Nat) (w : World) (hr1 : RdC w y1.1 (l1.map B8)) (hr2 : RdC w y2.1 (l2.map B8)) :
    Calls Tryd.prog 49 [.agg [U64 n1, slv a1 y1].toArray, .agg [U64 n2, slv a2 y2].toArray].toArray w (fun en w2 => en = .returned (.bool (decide (n1 = n2 ∧ l1 = l2))) ∧ Sat w [] [] w2) := by
  subst h1 h2
  exact f49_spec n1 n2 l1 l2 y1 y2 w hr1 hr2
theorem f49_tt (n1 n2 : BitVec 64) (l1 l2 : List UInt8) (a1 a2 : Nat) (h1 : l1.length = a1) (h2 : l2.length = a2) (y1 y2 : Option Addr × Nat) (hn : n1 = n2) (hl : l1 = l2) (w : World) (hr1 : RdC w y1.1 (l1.map B8)) (hr2 : RdC w y2.1 (l2.map B8)) :
    Calls Tryd.prog 49 [.agg [U64 n1, slv a1 y1].toArray, .agg [U64 n2, slv a2 y2].toArray].toArray w (fun en w2 => en = .returned (.bool true) ∧ Sat w [] [] w2) := by
  have h := f49_as n1 n2 l1 l2 a1 a2 h1 h2 y1 y2 w hr1 hr2
  rwa [decide_eq_true ⟨hn, hl⟩] at h
end Go.Proofs.YtokhediaibdkjaaDoor

/-! From L13 -/
/- The walk of SlotCrash. (printed by gen1.py) -/
namespace Go.Proofs.YtokhediaibdkjaaDoor
open Go.Pm Go.RowKit
set_option maxRecDepth 100000
theorem f13_two_new (q : Option Addr) (c : Nat) (ss : List Sl) (ch : UInt8) (pB : Option Addr) (nB cB : Nat) (lB : List UInt8) (hlB : lB.length = nB) (hpB : pB = none → cB = 0) (hcB : nB ≤ cB) (pC : Option Addr) (nC cC : Nat) (lC : List UInt8) (hlC : lC.length = nC) (hpC : pC = none → cC = 0) (hcC : nC ≤ cC) (w : World) (hrq : RdC w q (ss.map Sl.v)) (hok : ∀ s ∈ ss, s.ok w) (hrB : RdC w pB (lB.map B8)) (hrC : RdC w pC (lC.map B8)) (hG : Gl w []) (hch : 60 ≤ ch.toNat) : Calls Tryd.prog 13 [.slice q ss.length c, .bool true, B8 ch, .slice pB nB cB, .slice pC nC cC].toArray w (fun en w2 => en = .returned (.bool true) ∧ Sat w [] [] w2) := by
  refine used hlB (used hpB (used hcB (used hlC (used hpC (used hcC (used hrq (used hok (used hrB (used hrC (used hG (used hch (?_))))))))))))
  refine enter (n := 192) Tryd.func13 rfl rfl rfl (Sat.refl w) ?_
  refine seq ?_
  refine region ?_
  refine st (g_assign rfl) rfl ?_
  refine done ?_
  refine th_n ?_
  refine seq ?_
  refine region ?_
  refine sq rfl (o_callP Tryd.func54 rfl rfl rfl (fun w hw => f54_spec w (Gl.ofOld (A := []) hG hw .nil)) rfl ?_)
  refine st (g_assign rfl) rfl ?_
  refine done ?_
  refine th_n ?_
  refine seq ?_
  refine seq ?_
  refine region ?_
  refine st (g_move rfl) rfl ?_
  refine st (g_len el_22 rfl) rfl ?_
  refine sp (g_bin rfl rfl rfl) rfl (fun h35 => ?_) (fun h35 => ?_)
  · refine st (g_move rfl) rfl ?_
    refine gf rfl rfl ?_
    refine gf rfl rfl ?_
    refine gf rfl rfl ?_
    refine st (g_pickT rfl rfl) rfl ?_
    refine st (g_move rfl) rfl ?_
    refine gf rfl rfl ?_
    refine gf rfl rfl ?_
    refine gf rfl rfl ?_
    refine st (g_pickT rfl rfl) rfl ?_
    refine st (g_move rfl) rfl ?_
    refine gf rfl rfl ?_
    refine gf rfl rfl ?_
    refine st (g_pickT rfl rfl) rfl ?_
    refine done ?_
    refine th_n ?_
    refine condT rfl ?_
    refine seq ?_
    refine region ?_
    refine st (g_move rfl) rfl ?_
    refine st (g_assign rfl) rfl ?_
    refine done ?_
    refine th_n ?_
    refine ret ?_
    refine th_r ?_
    exact ret1 rfl rfl rfl (fun w2 hw2 => ⟨rfl, hw2.clear⟩)
  · refine st (g_move rfl) rfl ?_
    refine gt rfl ?_
    refine st (g_move rfl) rfl ?_
    refine gt rfl ?_
    refine st (g_len el_23 rfl) rfl ?_
    refine gt rfl ?_
    refine sp (g_bin rfl rfl rfl) rfl (fun h39 => ?_) (fun h39 => ?_)
    · refine st (g_pickF rfl rfl) rfl ?_
      refine st (g_move rfl) rfl ?_
      refine gf rfl rfl ?_
      refine gf rfl rfl ?_
      refine gf rfl rfl ?_
      refine st (g_pickT rfl rfl) rfl ?_
      refine st (g_move rfl) rfl ?_
      refine gf rfl rfl ?_
      refine gf rfl rfl ?_
      refine st (g_pickT rfl rfl) rfl ?_
      refine done ?_
      refine th_n ?_
      refine condT rfl ?_
      refine seq ?_
      refine region ?_
      refine st (g_move rfl) rfl ?_
      refine st (g_assign rfl) rfl ?_
      refine done ?_
      refine th_n ?_
      refine ret ?_
      refine th_r ?_
      exact ret1 rfl rfl rfl (fun w2 hw2 => ⟨rfl, hw2.clear⟩)
    · refine st (g_pickF rfl rfl) rfl ?_
      refine st (g_move rfl) rfl ?_
      refine gt rfl ?_
      refine st (g_move rfl) rfl ?_
      refine gt rfl ?_
      refine st (g_len el_23 rfl) rfl ?_
      refine gt rfl ?_
      refine sp (g_bin rfl rfl rfl) rfl (fun h44 => ?_) (fun h44 => ?_)
      · refine st (g_pickF rfl rfl) rfl ?_
        refine st (g_move rfl) rfl ?_
        refine gf rfl rfl ?_
        refine gf rfl rfl ?_
        refine st (g_pickT rfl rfl) rfl ?_
        refine done ?_
        refine th_n ?_
        refine condT rfl ?_
        refine seq ?_
        refine region ?_
        refine st (g_move rfl) rfl ?_
        refine st (g_assign rfl) rfl ?_
        refine done ?_
        refine th_n ?_
        refine ret ?_
        refine th_r ?_
        exact ret1 rfl rfl rfl (fun w2 hw2 => ⟨rfl, hw2.clear⟩)
      · refine st (g_pickF rfl rfl) rfl ?_
        refine st (g_move rfl) rfl ?_
        refine gt rfl ?_
        refine st (g_move rfl) rfl ?_
        refine gt rfl ?_
        refine st (g_not rfl) rfl ?_
        refine st (g_pickF rfl rfl) rfl ?_
        refine done ?_
        refine th_n ?_
        refine condF rfl ?_
        refine skip ?_
        refine th_n ?_
        refine seq ?_
        refine region ?_
        refine sq rfl (o_call Tryd.func28 rfl rfl rfl .nil (fun w hw hA => f28_spec 2 1000 (by decide) (by decide) (by decide) w) rfl (fun ⟨b, r0⟩ hro0 => ?_))
        refine st (g_move rfl) rfl ?_
        refine st (g_extract rfl rfl) rfl ?_
        refine st (g_extract rfl rfl) rfl ?_
        refine st (g_assign rfl) rfl ?_
        refine st (g_assign rfl) rfl ?_
        refine done ?_
        refine th_n ?_
        refine seq ?_
        refine seq ?_
        refine region ?_
        refine st (g_move rfl) rfl ?_
        refine st (g_F rfl rfl rfl (by decide)) rfl ?_
        refine done ?_
        refine th_n ?_
        refine condF rfl ?_
        refine skip ?_
        refine th_n ?_
        refine seq ?_
        refine region ?_
        refine st (g_build rfl bu_73z) rfl ?_
        refine sq rfl (o_alloc (zs := [U64 0#64, .slice none 0 0]) zr_73 rfl (fun b14 => ?_))
        refine sq rfl (o_storeA (cs' := [U64 0#64, .slice none 0 0]) sz_73 rfl rfl rfl (by simp [Value.oneCell']) .here (Nat.le_of_ble_eq_true rfl) rfl ?_)
        refine done ?_
        refine th_n ?_
        refine seq ?_
        refine seq ?_
        refine At.up (fun w hw => new0_vec (T := 5) (s := 1) hw ⟨rfl, .inl ⟨rfl, rfl⟩⟩) ?_
        refine region ?_
        refine st (g_move rfl) rfl ?_
        refine st (g_len el_22 rfl) rfl ?_
        refine st (g_move rfl) rfl ?_
        refine done ?_
        refine th_n ?_
        refine block ?_
        refine loop (α := Nat × (Option Addr × Nat) × Rp) (fun ⟨i, y, r⟩ => i ≤ ss.length ∧ ldOk (cL ss i) y ∧ r.ok (cK ss i)) (fun ⟨i, y, r⟩ => [(0, .slice q ss.length c), (1, .bool true), (2, B8 ch), (3, .slice pB nB cB), (4, .slice pC nC cC), (11, .bool true), (12, .pointer (some ⟨b, 0, none⟩)), (14, .pointer (some ⟨b14, 0, none⟩)), (59, I64 (ss.length : Nat)), (60, I64 (i : Nat))]) (fun ⟨i, y, r⟩ => [dkB b (cK ss i) r, dkS (cK ss i) r, dkW (cK ss i) r, dkC (cK ss i) r, blk b14 73 (ldv (cL ss i) y), ldR (cL ss i) y]) (fun ⟨i, y, r⟩ => ss.length - i) (0, (none, 0), r0) ⟨Nat.zero_le _, ⟨fun _ => rfl, Nat.le_refl _⟩, hro0⟩ ⟨rfl, rfl, rfl, rfl, rfl, rfl, rfl, rfl, rfl, rfl, trivial⟩ (.cons (.there (.there (.here))) (.cons (.there (.there (.here))) (.cons (.there (.there (.here))) (.cons (.there (.there (.here))) (.cons (.there (.here)) (.cons .here .nil)))))) (fun ⟨i, y, r⟩ ⟨hI, hy, hro⟩ => ?_)
        refine seq ?_
        refine region ?_
        refine st (g_bin rfl rfl rfl) rfl ?_
        refine done ?_
        refine th_n ?_
        refine seq ?_
        refine condS rfl (fun h61 => ?_) (fun h61 => ?_)
        · try simp only [decide_eq_true_eq] at h61
          have hi : i < ss.length := by omega
          obtain ⟨s, hs⟩ : ∃ s, ss[i]? = some s := ⟨ss[i], by simp [hi]⟩
          obtain ⟨hsl, hsp, hsc, hsr⟩ := hok s (List.mem_of_getElem? hs)
          have hps : q.isSome = true := hrq.some (by intro h; simp at h; subst h; simp at hi)
          have hsv := get_slv hs
          have hsd := get_sl hs
          obtain ⟨_, _, _, _, hsave⟩ := cK_st ss i (by omega)
          rw [hsd] at hsave
          refine skip ?_
          refine th_n ?_
          refine seq ?_
          refine block ?_
          refine seq ?_
          refine region ?_
          refine st (g_move rfl) rfl ?_
          refine st (g_assign rfl) rfl ?_
          refine done ?_
          refine th_n ?_
          refine seq ?_
          refine seq ?_
          refine region ?_
          refine st (g_move rfl) rfl ?_
          refine st (g_move rfl) rfl ?_
          refine st (g_indexP (m := i) el_22 rfl rfl (hps) (by omega) (by omega) (by omega)) rfl ?_
          refine st (g_load (v := s.v) sc_23 rfl (Cell.rd (RdA.of hrq.s) hsv)) rfl ?_
          refine st (g_len el_23 rfl) rfl ?_
          refine st (g_bin rfl rfl rfl) rfl ?_
          refine done ?_
          refine th_n ?_
          refine condS rfl (fun h68 => ?_) (fun h68 => ?_)
          · try simp only [decide_eq_true_eq] at h68
            refine seq ?_
            refine region ?_
            refine st (g_move rfl) rfl ?_
            refine st (g_assign rfl) rfl ?_
            refine done ?_
            refine th_n ?_
            refine ret ?_
            refine th_r ?_
            refine ib_r ?_
            refine th_r ?_
            refine th_r ?_
            refine ib_r ?_
            refine th_r ?_
            exact ret1 rfl rfl rfl (fun w2 hw2 => ⟨rfl, hw2.clear⟩)
          · try simp only [decide_eq_false_iff_not] at h68
            refine skip ?_
            refine th_n ?_
            refine seq ?_
            refine region ?_
            refine st (g_move rfl) rfl ?_
            refine st (g_move rfl) rfl ?_
            refine st (g_move rfl) rfl ?_
            refine st (g_indexP (m := i) el_22 rfl rfl (hps) (by omega) (by omega) (by omega)) rfl ?_
            refine st (g_load (v := s.v) sc_23 rfl (Cell.rd (RdA.of hrq.s) hsv)) rfl ?_
            refine sq rfl (o_call Tryd.func55 rfl rfl rfl .nil (fun w hw hA => f55_spec s.p s.n s.c s.l hsl w (RdS.c (S := []) (RdS.ofOld (A := []) hsr.s hw .nil))) rfl (fun g _ => ?_))
            refine sq rfl (o_call Tryd.func39 rfl rfl rfl (.cons (.there (.here)) (.cons (.there (.here)) (.cons (.there (.here)) (.cons (.there (.here)) .nil)))) (fun w hw hA => f39_as b (cK ss i) r (some ⟨g, 0, none⟩) 24 24 (dat s.l) (dat_length _) nofun (Nat.le_refl _) hsave w (by assumption) (Gl.ofOld (A := dkR b (cK ss i) r) hG hw (.cons (.there (.here)) (.cons (.there (.here)) (.cons (.there (.here)) (.cons (.there (.here)) .nil))))) (RdS.ofOwn hw (.cons (.there (.here)) (.cons (.there (.here)) (.cons (.there (.here)) (.cons (.there (.here)) .nil)))) .here (RdC.ofBlk hw .here List.take_length) (fun b o h => by cases h; exact List.mem_singleton.2 rfl)) (cK_ok ss i) hro) rfl (fun ⟨y2, r2⟩ hx => ?_))
            refine st (g_move rfl) rfl ?_
            refine st (g_extract rfl rfl) rfl ?_
            refine st (g_extract rfl rfl) rfl ?_
            refine sq rfl (o_alloc (zs := [U64 0#64, .slice none 0 0]) zr_73 rfl (fun b16 => ?_))
            refine sq rfl (o_storeA (cs' := ldv (cL ss (i + 1)) y2) sz_73 rfl rfl rfl (by simp [ldv]; exact ⟨rfl, rfl⟩) .here (Nat.le_of_ble_eq_true rfl) rfl ?_)
            refine st (g_assign rfl) rfl ?_
            refine done ?_
            refine th_n ?_
            refine seq ?_
            refine seq ?_
            refine region ?_
            refine st (g_move rfl) rfl ?_
            refine st (g_F rfl rfl rfl (fun h => h rfl)) rfl ?_
            refine st (g_move rfl) rfl ?_
            refine gt rfl ?_
            refine st (g_fieldAddr fo_73_0 rfl rfl) rfl ?_
            refine gt rfl ?_
            refine st (g_load (v := U64 (NB (i + 1))) sc_34 rfl (Cell.own .here rfl)) rfl ?_
            refine gt rfl ?_
            refine st (g_fieldAddr fo_73_0 rfl rfl) rfl ?_
            refine gt rfl ?_
            refine st (g_load (v := U64 (NB i)) sc_34 rfl (Cell.own (.there (.there (.there (.there (.there (.there (.there (.here)))))))) rfl)) rfl ?_
            refine gt rfl ?_
            refine st (g_add64 (b := 1#64) rfl rfl) rfl ?_
            refine gt rfl ?_
            refine st (g_F rfl rfl rfl (by rw [NB_succ]; exact fun h => h rfl)) rfl ?_
            refine st (g_pickF rfl rfl) rfl ?_
            refine done ?_
            refine th_n ?_
            refine condF rfl ?_
            refine skip ?_
            refine th_n ?_
            refine region ?_
            refine st (g_loadA (vs := ldv (cL ss (i + 1)) y2) ag_73 rfl rfl (Cells.part .here rfl)) rfl ?_
            refine sq rfl (o_storeA (cs' := ldv (cL ss (i + 1)) y2) sz_73 rfl rfl rfl (by simp [ldv]; exact ⟨rfl, rfl⟩) (.there (.there (.there (.there (.there (.there (.there (.here)))))))) (Nat.le_of_ble_eq_true rfl) rfl ?_)
            refine done ?_
            refine ib_n ?_
            refine th_n ?_
            refine region ?_
            refine st (g_iadd (c := ((i + 1 : Nat) : Int)) rfl rfl (by omega) (by omega) (by omega)) rfl ?_
            refine st (g_move rfl) rfl ?_
            refine done ?_
            refine th_n ?_
            exact again (i + 1, y2, r2) ⟨by omega, hx⟩ (by show ss.length - (i + 1) < ss.length - i; omega) ⟨rfl, rfl, rfl, rfl, rfl, rfl, rfl, rfl, rfl, rfl, trivial⟩ (.cons (.there (.there (.there (.here)))) (.cons (.there (.there (.there (.here)))) (.cons (.there (.there (.there (.here)))) (.cons (.there (.there (.there (.here)))) (.cons .here (.cons (.there (.here)) .nil))))))
        · try simp only [decide_eq_false_iff_not] at h61
          have hie : i = ss.length := by omega
          have hi5 : i ≤ 500 := by omega
          refine exitc ?_
          refine th_x ?_
          refine th_x ?_
          refine ib_x ?_
          refine th_n ?_
          refine seq ?_
          refine region ?_
          refine st (g_assign rfl) rfl ?_
          refine done ?_
          refine th_n ?_
          refine seq ?_
          refine seq ?_
          refine region ?_
          refine st (g_move rfl) rfl ?_
          refine done ?_
          refine th_n ?_
          refine condT rfl ?_
          refine region ?_
          refine st (g_assign rfl) rfl ?_
          refine done ?_
          refine th_n ?_
          refine seq ?_
          refine region ?_
          refine st (g_move rfl) rfl ?_
          refine st (g_move rfl) rfl ?_
          refine st (g_move rfl) rfl ?_
          refine sq rfl (o_buildSlice1 (vs := [B8 ch]) un_23 zr_5 sz_5 (by decide) (by decide) rfl rfl rfl (by simp [Value.oneCell']) rfl (fun b96 => ?_))
          refine sq rfl (o_call Tryd.func35 rfl rfl rfl (.cons (.there (.here)) (.cons (.there (.here)) (.cons (.there (.here)) (.cons (.there (.here)) .nil)))) (fun w hw hA => f35_as b (cK ss i) r 2 (by decide) (some ⟨b96, 0, none⟩) 1 1 [ch] rfl nofun (Nat.le_refl _) (by decide) (kArm_eq ss i (st := 2) (by decide) ch) w (by assumption) (RdS.ofOwn hw (.cons (.there (.here)) (.cons (.there (.here)) (.cons (.there (.here)) (.cons (.there (.here)) .nil)))) .here (RdC.ofBlk hw .here rfl) (fun b o h => by cases h; exact List.mem_singleton.2 rfl)) (cK_ok ss i) hro) rfl (fun r3 hr3 => ?_))
          refine st (g_assign rfl) rfl ?_
          refine done ?_
          refine th_n ?_
          refine seq ?_
          refine region ?_
          refine st (g_move rfl) rfl ?_
          refine st (g_move rfl) rfl ?_
          refine sq rfl (o_call Tryd.func55 rfl rfl rfl .nil (fun w hw hA => f55_spec pB nB cB lB hlB w (RdS.c (S := []) (RdS.ofOld (A := []) hrB.s hw .nil))) rfl (fun gB _ => ?_))
          refine sq rfl (o_call Tryd.func39 rfl rfl rfl (.cons (.there (.here)) (.cons (.there (.here)) (.cons (.there (.here)) (.cons (.there (.here)) .nil)))) (fun w hw hA => f39_as b (kArm ss i 2 ch) r3 (some ⟨gB, 0, none⟩) 24 24 (dat lB) (dat_length _) nofun (Nat.le_refl _) (kDown_eq ss hi5 (by decide) ch lB) w (by assumption) (Gl.ofOld (A := dkR b (kArm ss i 2 ch) r3) hG hw (.cons (.there (.here)) (.cons (.there (.here)) (.cons (.there (.here)) (.cons (.there (.here)) .nil))))) (RdS.ofOwn hw (.cons (.there (.here)) (.cons (.there (.here)) (.cons (.there (.here)) (.cons (.there (.here)) .nil)))) .here (RdC.ofBlk hw .here List.take_length) (fun b o h => by cases h; exact List.mem_singleton.2 rfl)) (kArm_ok ss i (by decide) (by decide) ch) hr3) rfl (fun ⟨y4, r4⟩ hx4 => ?_))
          refine st (g_move rfl) rfl ?_
          refine st (g_extract rfl rfl) rfl ?_
          refine st (g_extract rfl rfl) rfl ?_
          refine sq rfl (o_alloc (zs := [U64 0#64, .slice none 0 0]) zr_73 rfl (fun b20 => ?_))
          refine sq rfl (o_storeA (cs' := ldv (Ld.err 171) y4) sz_73 rfl rfl rfl (by simp [ldv]; exact ⟨rfl, rfl⟩) .here (Nat.le_of_ble_eq_true rfl) rfl ?_)
          refine st (g_assign rfl) rfl ?_
          refine done ?_
          refine th_n ?_
          refine seq ?_
          refine region ?_
          refine st (g_move rfl) rfl ?_
          refine sq rfl (o_call Tryd.func37 rfl rfl rfl (.cons (.there (.there (.here))) .nil) (fun w hw hA => f37_spec b (kDown ss i ch lB) (kDown_ok ss hi5 ch lB) r4 w (by assumption)) rfl (fun _ _ => ?_))
          have hr5 : r4.ok (kUp ss i ch lB) := ⟨hx4.2.w0, hx4.2.w1, hx4.2.c0, hx4.2.c1⟩
          refine done ?_
          refine th_n ?_
          refine seq ?_
          refine region ?_
          refine st (g_move rfl) rfl ?_
          obtain ⟨ld1, ld2, ld3, ld4⟩ := inv_load rfl rfl (kUp_new ss hi5 hch lB).inv (by omega)
          refine sq rfl (o_call Tryd.func52 rfl rfl rfl (.cons .here (.cons (.there (.there (.here))) (.cons (.there (.there (.here))) (.cons (.there (.there (.here))) .nil)))) (fun w hw hA => f52_as b (kUp ss i ch lB) r4 ld1 ld2 ld3 ld4 w (by assumption) (Gl.ofOld (A := dkR b (kUp ss i ch lB) r4) hG hw (.cons .here (.cons (.there (.there (.here))) (.cons (.there (.there (.here))) (.cons (.there (.there (.here))) .nil))))) (kUp_ok ss hi5 ch lB) hr5) rfl (fun y5 hy5 => ?_))
          refine st (g_move rfl) rfl ?_
          refine st (g_extract rfl rfl) rfl ?_
          refine st (g_extract rfl rfl) rfl ?_
          refine st (g_extract rfl rfl) rfl ?_
          refine sq rfl (o_alloc (zs := [U64 0#64, .slice none 0 0]) zr_73 rfl (fun b22 => ?_))
          refine sq rfl (o_storeA (cs' := [U64 (NB (i + 1)), slv (dat lB).length y5]) sz_73 rfl rfl rfl (by simp; exact ⟨rfl, rfl⟩) .here (Nat.le_of_ble_eq_true rfl) rfl ?_)
          refine st (g_assign rfl) rfl ?_
          refine st (g_assign rfl) rfl ?_
          refine done ?_
          refine th_n ?_
          refine seq ?_
          refine seq ?_
          refine region ?_
          refine st (g_move rfl) rfl ?_
          refine st (g_F rfl rfl rfl (fun h => h rfl)) rfl ?_
          refine st (g_move rfl) rfl ?_
          refine gt rfl ?_
          refine st (g_move rfl) rfl ?_
          refine gt rfl ?_
          refine st (g_F rfl rfl rfl (by decide)) rfl ?_
          refine st (g_pickF rfl rfl) rfl ?_
          refine st (g_move rfl) rfl ?_
          refine gt rfl ?_
          refine st (g_move rfl) rfl ?_
          refine gt rfl ?_
          refine st (g_F rfl rfl rfl (by decide)) rfl ?_
          refine st (g_pickF rfl rfl) rfl ?_
          refine done ?_
          refine th_n ?_
          refine condF rfl ?_
          refine skip ?_
          refine th_n ?_
          refine seq ?_
          refine region ?_
          refine st (g_loadA (vs := [U64 (NB (i + 1)), slv (dat lB).length y5]) ag_73 rfl rfl (Cells.part .here rfl)) rfl ?_
          refine st (g_loadA (vs := ldv (cL ss i) y) ag_73 rfl rfl (Cells.part (.there (.there (.there (.there (.there (.there (.there (.there (.there (.there (.here))))))))))) rfl)) rfl ?_
          refine sq rfl (o_callP Tryd.func49 rfl rfl rfl (fun w hw => f49_as (NB (i + 1)) (NB i) (dat lB) (cD ss i) _ _ rfl rfl y5 y w (RdC.ofVec (hw.get (.there (.here)))) (RdC.ofVec (hw.get (.there (.there (.there (.there (.there (.there (.there (.there (.there (.there (.there (.here))))))))))))))) rfl ?_)
          refine st (g_assign rfl) rfl ?_
          refine done ?_
          refine th_n ?_
          refine seq ?_
          refine regionL ⟨[_, _], [], []⟩ mixed (by decide +kernel) (.cons .here (.cons (.there (.there (.there (.there (.there (.there (.there (.there (.there (.here)))))))))) .nil)) .nil ?_
          refine An'.q 0 [] rfl (by decide +kernel) rfl rfl (g_loadA (vs := [U64 (NB (i + 1)), slv (dat lB).length y5]) ag_73 rfl rfl (Cells.part .here rfl)) rfl ?_
          refine An'.q 1 [] rfl (by decide +kernel) rfl rfl (g_fieldAddr fo_73_0 rfl rfl) rfl ?_
          refine An'.q 2 [] rfl (by decide +kernel) rfl rfl (g_load (v := U64 (NB i)) sc_34 rfl (Cell.own (.there (.here)) rfl)) rfl ?_
          refine An'.q 3 [] rfl (by decide +kernel) rfl rfl (g_add64 (b := 1#64) rfl rfl) rfl ?_
          refine An'.q 4 [] rfl (by decide +kernel) rfl rfl (g_move rfl) rfl ?_
          refine An'.oneG 5 (by decide +kernel) rfl rfl ?_
          refine o_call Tryd.func55 rfl rfl rfl .nil (fun w hw hA => f55_spec pB nB cB lB hlB w (RdS.c (S := []) (RdS.ofOld (A := []) hrB.s hw .nil))) rfl (fun gD _ => ?_)
          refine An'.on0 (.cons (.there (.here)) (.cons (.there (.there (.there (.there (.there (.there (.there (.there (.there (.there (.here))))))))))) .nil)) .nil rfl ?_
          refine An'.q 6 [] rfl (by decide +kernel) rfl rfl (g_build rfl (bu_73 _ _ rfl)) rfl ?_
          refine An'.oneG 7 (by decide +kernel) rfl rfl ?_
          refine o_callP Tryd.func49 rfl rfl rfl (fun w hw => f49_tt (NB (i + 1)) (NB i + 1#64) (dat lB) (dat lB) _ _ rfl (dat_length lB) y5 (some ⟨gD, 0, none⟩, 24) (NB_succ i).symm rfl w (RdC.ofVec (hw.get (.there (.there (.here))))) (RdC.ofBlk hw .here List.take_length)) rfl ?_
          refine An'.on0 (.cons (.there (.here)) (.cons (.there (.there (.there (.there (.there (.there (.there (.there (.there (.there (.here))))))))))) .nil)) .nil rfl ?_
          refine An'.q 8 [] rfl (by decide +kernel) rfl rfl (g_assign rfl) rfl ?_
          refine An'.fin (by decide +kernel) ?_
          refine th_n ?_
          refine seq ?_
          refine seq ?_
          refine region ?_
          refine st (g_move rfl) rfl ?_
          refine st (g_T rfl rfl rfl (by omega)) rfl ?_
          refine st (g_move rfl) rfl ?_
          refine gt rfl ?_
          refine st (g_move rfl) rfl ?_
          refine gt rfl ?_
          refine st (g_not rfl) rfl ?_
          refine st (g_pickT rfl rfl) rfl ?_
          refine st (g_move rfl) rfl ?_
          refine gt rfl ?_
          refine st (g_move rfl) rfl ?_
          refine gt rfl ?_
          refine st (g_F rfl rfl rfl (by omega)) rfl ?_
          refine gt rfl ?_
          refine st (g_move rfl) rfl ?_
          refine gf rfl rfl ?_
          refine gf rfl rfl ?_
          refine gt rfl ?_
          refine st (g_pickF rfl rfl) rfl ?_
          refine st (g_pickF rfl rfl) rfl ?_
          refine done ?_
          refine th_n ?_
          refine condF rfl ?_
          refine skip ?_
          refine th_n ?_
          refine seq ?_
          refine region ?_
          refine st (g_move rfl) rfl ?_
          refine st (g_move rfl) rfl ?_
          refine sq rfl (o_call Tryd.func55 rfl rfl rfl .nil (fun w hw hA => f55_spec pC nC cC lC hlC w (RdS.c (S := []) (RdS.ofOld (A := []) hrC.s hw .nil))) rfl (fun gC _ => ?_))
          obtain ⟨ke1, ke2, ke3⟩ := kEnd_eq ss hi5 ch lB lC (by omega) (kUp_new ss hi5 hch lB)
          obtain ⟨le1, le2, le3, le4⟩ := inv_load ke3 ke2.wt ke2.inv (by omega)
          refine sq rfl (o_call Tryd.func39 rfl rfl rfl (.cons (.there (.there (.there (.there (.here))))) (.cons (.there (.there (.there (.there (.here))))) (.cons (.there (.there (.there (.there (.here))))) (.cons (.there (.there (.there (.there (.here))))) .nil)))) (fun w hw hA => f39_as b (kUp ss i ch lB) r4 (some ⟨gC, 0, none⟩) 24 24 (dat lC) (dat_length _) nofun (Nat.le_refl _) ke1 w (by assumption) (Gl.ofOld (A := dkR b (kUp ss i ch lB) r4) hG hw (.cons (.there (.there (.there (.there (.here))))) (.cons (.there (.there (.there (.there (.here))))) (.cons (.there (.there (.there (.there (.here))))) (.cons (.there (.there (.there (.there (.here))))) .nil))))) (RdS.ofOwn hw (.cons (.there (.there (.there (.there (.here))))) (.cons (.there (.there (.there (.there (.here))))) (.cons (.there (.there (.there (.there (.here))))) (.cons (.there (.there (.there (.there (.here))))) .nil)))) .here (RdC.ofBlk hw .here List.take_length) (fun b o h => by cases h; exact List.mem_singleton.2 rfl)) (kUp_ok ss hi5 ch lB) hr5) rfl (fun ⟨y6, r6⟩ hx6 => ?_))
          refine st (g_move rfl) rfl ?_
          refine st (g_extract rfl rfl) rfl ?_
          refine st (g_extract rfl rfl) rfl ?_
          refine sq rfl (o_alloc (zs := [U64 0#64, .slice none 0 0]) zr_73 rfl (fun b27 => ?_))
          refine sq rfl (o_storeA (cs' := [U64 (NB ((i + 1) + 1)), slv (dat lC).length y6]) sz_73 rfl rfl rfl (by simp [ldv]; exact ⟨rfl, rfl⟩) .here (Nat.le_of_ble_eq_true rfl) rfl ?_)
          refine st (g_assign rfl) rfl ?_
          refine done ?_
          refine th_n ?_
          refine seq ?_
          refine region ?_
          refine st (g_move rfl) rfl ?_
          refine sq rfl (o_call Tryd.func52 rfl rfl rfl (.cons (.there (.there (.here))) (.cons (.there (.there (.here))) (.cons (.there (.there (.here))) (.cons (.there (.there (.here))) .nil)))) (fun w hw hA => f52_as b (kEnd ss i ch lB lC) r6 le1 le2 le3 le4 w (by assumption) (Gl.ofOld (A := dkR b (kEnd ss i ch lB lC) r6) hG hw (.cons (.there (.there (.here))) (.cons (.there (.there (.here))) (.cons (.there (.there (.here))) (.cons (.there (.there (.here))) .nil))))) (kEnd_ok ss hi5 ch lB lC) hx6.2) rfl (fun y7 hy7 => ?_))
          refine st (g_move rfl) rfl ?_
          refine st (g_extract rfl rfl) rfl ?_
          refine st (g_extract rfl rfl) rfl ?_
          refine st (g_extract rfl rfl) rfl ?_
          refine sq rfl (o_alloc (zs := [U64 0#64, .slice none 0 0]) zr_73 rfl (fun b29 => ?_))
          refine sq rfl (o_storeA (cs' := [U64 (NB ((i + 1) + 1)), slv (dat lC).length y7]) sz_73 rfl rfl rfl (by simp; exact ⟨rfl, rfl⟩) .here (Nat.le_of_ble_eq_true rfl) rfl ?_)
          refine st (g_assign rfl) rfl ?_
          refine st (g_assign rfl) rfl ?_
          refine done ?_
          refine th_n ?_
          refine seq ?_
          refine regionL ⟨[_, _, _, _], [], []⟩ mixed (by decide +kernel) (.cons (.there (.there (.there (.there (.there (.there (.here))))))) (.cons (.there (.there (.there (.there (.there (.there (.there (.there (.there (.here)))))))))) (.cons .here (.cons (.there (.there (.there (.there (.there (.here)))))) .nil)))) .nil ?_
          refine An'.q 0 [] rfl (by decide +kernel) rfl rfl (g_move rfl) rfl ?_
          refine An'.q 1 [] rfl (by decide +kernel) rfl rfl (g_move rfl) rfl ?_
          refine An'.q 2 [] rfl (by decide +kernel) rfl rfl (g_move rfl) rfl ?_
          refine An'.q 3 [] rfl (by decide +kernel) rfl rfl (g_T rfl rfl rfl (rfl)) rfl ?_
          refine An'.q 4 [] rfl (by decide +kernel) rfl rfl (g_pickT rfl rfl) rfl ?_
          refine An'.q 5 [] rfl (by decide +kernel) rfl rfl (g_move rfl) rfl ?_
          refine An'.q 6 [] rfl (by decide +kernel) rfl rfl (g_move rfl) rfl ?_
          refine An'.q 7 [] rfl (by decide +kernel) rfl rfl (g_T rfl rfl rfl (rfl)) rfl ?_
          refine An'.q 8 [] rfl (by decide +kernel) rfl rfl (g_pickT rfl rfl) rfl ?_
          refine An'.q 9 [] rfl (by decide +kernel) rfl rfl (g_move rfl) rfl ?_
          refine An'.q 10 [] rfl (by decide +kernel) rfl rfl (g_fieldAddr fo_73_0 rfl rfl) rfl ?_
          refine An'.q 11 [] rfl (by decide +kernel) rfl rfl (g_load (v := U64 (NB ((i + 1) + 1))) sc_34 rfl (Cell.own .here rfl)) rfl ?_
          refine An'.q 12 [] rfl (by decide +kernel) rfl rfl (g_fieldAddr fo_73_0 rfl rfl) rfl ?_
          refine An'.q 13 [] rfl (by decide +kernel) rfl rfl (g_load (v := U64 (NB (i + 1))) sc_34 rfl (Cell.own (.there (.here)) rfl)) rfl ?_
          refine An'.q 14 [] rfl (by decide +kernel) rfl rfl (g_add64 (b := 1#64) rfl rfl) rfl ?_
          refine An'.q 15 [] rfl (by decide +kernel) rfl rfl (g_T rfl rfl rfl (by rw [NB_succ])) rfl ?_
          refine An'.q 16 [] rfl (by decide +kernel) rfl rfl (g_pickT rfl rfl) rfl ?_
          refine An'.q 17 [] rfl (by decide +kernel) rfl rfl (g_move rfl) rfl ?_
          refine An'.q 18 [] rfl (by decide +kernel) rfl rfl (g_loadA (vs := [U64 (NB ((i + 1) + 1)), slv (dat lC).length y6]) ag_73 rfl rfl (Cells.part .here rfl)) rfl ?_
          refine An'.q 19 [] rfl (by decide +kernel) rfl rfl (g_loadA (vs := [U64 (NB ((i + 1) + 1)), slv (dat lC).length y7]) ag_73 rfl rfl (Cells.part (.there (.there (.here))) rfl)) rfl ?_
          refine An'.oneG 20 (by decide +kernel) rfl rfl ?_
          refine o_callP Tryd.func49 rfl rfl rfl (fun w hw => f49_tt (NB ((i + 1) + 1)) (NB ((i + 1) + 1)) (dat lC) (dat lC) _ _ rfl rfl y6 y7 rfl rfl w (RdC.ofVec (hw.get (.there (.there (.there (.there (.there (.there (.there (.here)))))))))) (RdC.ofVec (hw.get (.there (.here))))) rfl ?_
          refine An'.on0 (.cons (.there (.there (.there (.there (.there (.there (.here))))))) (.cons (.there (.there (.there (.there (.there (.there (.there (.there (.there (.here)))))))))) (.cons .here (.cons (.there (.there (.there (.there (.there (.here)))))) .nil)))) .nil rfl ?_
          refine An'.q 21 [] rfl (by decide +kernel) rfl rfl (g_pickT rfl rfl) rfl ?_
          refine An'.q 22 [] rfl (by decide +kernel) rfl rfl (g_move rfl) rfl ?_
          refine An'.q 23 [] rfl (by decide +kernel) rfl rfl (g_fieldAddr fo_73_1 rfl rfl) rfl ?_
          refine An'.q 24 [] rfl (by decide +kernel) rfl rfl (g_load (v := slv (dat lC).length y6) sc_23 rfl (Cell.own .here rfl)) rfl ?_
          refine An'.q 25 [] rfl (by decide +kernel) rfl rfl (g_str (l := dat lC) by_23 str_9 rfl rfl (RdA.vec (.there (.there (.there (.here)))))) rfl ?_
          refine An'.q 26 [] rfl (by decide +kernel) rfl rfl (g_move rfl) rfl ?_
          refine An'.oneG 27 (by decide +kernel) rfl rfl ?_
          refine o_call Tryd.func55 rfl rfl rfl .nil (fun w hw hA => f55_spec pC nC cC lC hlC w (RdS.c (S := []) (RdS.ofOld (A := []) hrC.s hw .nil))) rfl (fun gF _ => ?_)
          refine An'.on0 (.cons (.there (.there (.there (.there (.there (.there (.there (.here)))))))) (.cons (.there (.there (.there (.there (.there (.there (.there (.there (.there (.there (.here))))))))))) (.cons (.there (.here)) (.cons (.there (.there (.there (.there (.there (.there (.here))))))) .nil)))) .nil rfl ?_
          refine An'.oneG 28 (by decide +kernel) rfl rfl ?_
          refine gv (g_str (l := dat lC) by_23 str_9 rfl (dat_length lC) (RdA.own .here (fun j v hj => by rw [Nat.zero_add]; exact hj))) rfl rfl ?_
          refine An'.on0 (.cons (.there (.there (.there (.there (.there (.there (.there (.here)))))))) (.cons (.there (.there (.there (.there (.there (.there (.there (.there (.there (.there (.here))))))))))) (.cons (.there (.here)) (.cons (.there (.there (.there (.there (.there (.there (.here))))))) .nil)))) .nil rfl ?_
          refine An'.q 29 [] rfl (by decide +kernel) rfl rfl (g_eqST rfl rfl (rfl)) rfl ?_
          refine An'.q 30 [] rfl (by decide +kernel) rfl rfl (g_pickT rfl rfl) rfl ?_
          refine An'.q 31 [] rfl (by decide +kernel) rfl rfl (g_assign rfl) rfl ?_
          refine An'.fin (by decide +kernel) ?_
          refine th_n ?_
          refine ret ?_
          exact ret1 rfl rfl rfl (fun w2 hw2 => ⟨rfl, hw2.clear⟩)

theorem f13_two_old (q : Option Addr) (c : Nat) (ss : List Sl) (ch : UInt8) (pB : Option Addr) (nB cB : Nat) (lB : List UInt8) (hlB : lB.length = nB) (hpB : pB = none → cB = 0) (hcB : nB ≤ cB) (pC : Option Addr) (nC cC : Nat) (lC : List UInt8) (hlC : lC.length = nC) (hpC : pC = none → cC = 0) (hcC : nC ≤ cC) (w : World) (hrq : RdC w q (ss.map Sl.v)) (hok : ∀ s ∈ ss, s.ok w) (hrB : RdC w pB (lB.map B8)) (hrC : RdC w pC (lC.map B8)) (hG : Gl w []) (hch : ¬ 60 ≤ ch.toNat) : Calls Tryd.prog 13 [.slice q ss.length c, .bool true, B8 ch, .slice pB nB cB, .slice pC nC cC].toArray w (fun en w2 => en = .returned (.bool true) ∧ Sat w [] [] w2) := by
  refine used hlB (used hpB (used hcB (used hlC (used hpC (used hcC (used hrq (used hok (used hrB (used hrC (used hG (used hch (?_))))))))))))
  refine enter (n := 192) Tryd.func13 rfl rfl rfl (Sat.refl w) ?_
  refine seq ?_
  refine region ?_
  refine st (g_assign rfl) rfl ?_
  refine done ?_
  refine th_n ?_
  refine seq ?_
  refine region ?_
  refine sq rfl (o_callP Tryd.func54 rfl rfl rfl (fun w hw => f54_spec w (Gl.ofOld (A := []) hG hw .nil)) rfl ?_)
  refine st (g_assign rfl) rfl ?_
  refine done ?_
  refine th_n ?_
  refine seq ?_
  refine seq ?_
  refine region ?_
  refine st (g_move rfl) rfl ?_
  refine st (g_len el_22 rfl) rfl ?_
  refine sp (g_bin rfl rfl rfl) rfl (fun h35 => ?_) (fun h35 => ?_)
  · refine st (g_move rfl) rfl ?_
    refine gf rfl rfl ?_
    refine gf rfl rfl ?_
    refine gf rfl rfl ?_
    refine st (g_pickT rfl rfl) rfl ?_
    refine st (g_move rfl) rfl ?_
    refine gf rfl rfl ?_
    refine gf rfl rfl ?_
    refine gf rfl rfl ?_
    refine st (g_pickT rfl rfl) rfl ?_
    refine st (g_move rfl) rfl ?_
    refine gf rfl rfl ?_
    refine gf rfl rfl ?_
    refine st (g_pickT rfl rfl) rfl ?_
    refine done ?_
    refine th_n ?_
    refine condT rfl ?_
    refine seq ?_
    refine region ?_
    refine st (g_move rfl) rfl ?_
    refine st (g_assign rfl) rfl ?_
    refine done ?_
    refine th_n ?_
    refine ret ?_
    refine th_r ?_
    exact ret1 rfl rfl rfl (fun w2 hw2 => ⟨rfl, hw2.clear⟩)
  · refine st (g_move rfl) rfl ?_
    refine gt rfl ?_
    refine st (g_move rfl) rfl ?_
    refine gt rfl ?_
    refine st (g_len el_23 rfl) rfl ?_
    refine gt rfl ?_
    refine sp (g_bin rfl rfl rfl) rfl (fun h39 => ?_) (fun h39 => ?_)
    · refine st (g_pickF rfl rfl) rfl ?_
      refine st (g_move rfl) rfl ?_
      refine gf rfl rfl ?_
      refine gf rfl rfl ?_
      refine gf rfl rfl ?_
      refine st (g_pickT rfl rfl) rfl ?_
      refine st (g_move rfl) rfl ?_
      refine gf rfl rfl ?_
      refine gf rfl rfl ?_
      refine st (g_pickT rfl rfl) rfl ?_
      refine done ?_
      refine th_n ?_
      refine condT rfl ?_
      refine seq ?_
      refine region ?_
      refine st (g_move rfl) rfl ?_
      refine st (g_assign rfl) rfl ?_
      refine done ?_
      refine th_n ?_
      refine ret ?_
      refine th_r ?_
      exact ret1 rfl rfl rfl (fun w2 hw2 => ⟨rfl, hw2.clear⟩)
    · refine st (g_pickF rfl rfl) rfl ?_
      refine st (g_move rfl) rfl ?_
      refine gt rfl ?_
      refine st (g_move rfl) rfl ?_
      refine gt rfl ?_
      refine st (g_len el_23 rfl) rfl ?_
      refine gt rfl ?_
      refine sp (g_bin rfl rfl rfl) rfl (fun h44 => ?_) (fun h44 => ?_)
      · refine st (g_pickF rfl rfl) rfl ?_
        refine st (g_move rfl) rfl ?_
        refine gf rfl rfl ?_
        refine gf rfl rfl ?_
        refine st (g_pickT rfl rfl) rfl ?_
        refine done ?_
        refine th_n ?_
        refine condT rfl ?_
        refine seq ?_
        refine region ?_
        refine st (g_move rfl) rfl ?_
        refine st (g_assign rfl) rfl ?_
        refine done ?_
        refine th_n ?_
        refine ret ?_
        refine th_r ?_
        exact ret1 rfl rfl rfl (fun w2 hw2 => ⟨rfl, hw2.clear⟩)
      · refine st (g_pickF rfl rfl) rfl ?_
        refine st (g_move rfl) rfl ?_
        refine gt rfl ?_
        refine st (g_move rfl) rfl ?_
        refine gt rfl ?_
        refine st (g_not rfl) rfl ?_
        refine st (g_pickF rfl rfl) rfl ?_
        refine done ?_
        refine th_n ?_
        refine condF rfl ?_
        refine skip ?_
        refine th_n ?_
        refine seq ?_
        refine region ?_
        refine sq rfl (o_call Tryd.func28 rfl rfl rfl .nil (fun w hw hA => f28_spec 2 1000 (by decide) (by decide) (by decide) w) rfl (fun ⟨b, r0⟩ hro0 => ?_))
        refine st (g_move rfl) rfl ?_
        refine st (g_extract rfl rfl) rfl ?_
        refine st (g_extract rfl rfl) rfl ?_
        refine st (g_assign rfl) rfl ?_
        refine st (g_assign rfl) rfl ?_
        refine done ?_
        refine th_n ?_
        refine seq ?_
        refine seq ?_
        refine region ?_
        refine st (g_move rfl) rfl ?_
        refine st (g_F rfl rfl rfl (by decide)) rfl ?_
        refine done ?_
        refine th_n ?_
        refine condF rfl ?_
        refine skip ?_
        refine th_n ?_
        refine seq ?_
        refine region ?_
        refine st (g_build rfl bu_73z) rfl ?_
        refine sq rfl (o_alloc (zs := [U64 0#64, .slice none 0 0]) zr_73 rfl (fun b14 => ?_))
        refine sq rfl (o_storeA (cs' := [U64 0#64, .slice none 0 0]) sz_73 rfl rfl rfl (by simp [Value.oneCell']) .here (Nat.le_of_ble_eq_true rfl) rfl ?_)
        refine done ?_
        refine th_n ?_
        refine seq ?_
        refine seq ?_
        refine At.up (fun w hw => new0_vec (T := 5) (s := 1) hw ⟨rfl, .inl ⟨rfl, rfl⟩⟩) ?_
        refine region ?_
        refine st (g_move rfl) rfl ?_
        refine st (g_len el_22 rfl) rfl ?_
        refine st (g_move rfl) rfl ?_
        refine done ?_
        refine th_n ?_
        refine block ?_
        refine loop (α := Nat × (Option Addr × Nat) × Rp) (fun ⟨i, y, r⟩ => i ≤ ss.length ∧ ldOk (cL ss i) y ∧ r.ok (cK ss i)) (fun ⟨i, y, r⟩ => [(0, .slice q ss.length c), (1, .bool true), (2, B8 ch), (3, .slice pB nB cB), (4, .slice pC nC cC), (11, .bool true), (12, .pointer (some ⟨b, 0, none⟩)), (14, .pointer (some ⟨b14, 0, none⟩)), (59, I64 (ss.length : Nat)), (60, I64 (i : Nat))]) (fun ⟨i, y, r⟩ => [dkB b (cK ss i) r, dkS (cK ss i) r, dkW (cK ss i) r, dkC (cK ss i) r, blk b14 73 (ldv (cL ss i) y), ldR (cL ss i) y]) (fun ⟨i, y, r⟩ => ss.length - i) (0, (none, 0), r0) ⟨Nat.zero_le _, ⟨fun _ => rfl, Nat.le_refl _⟩, hro0⟩ ⟨rfl, rfl, rfl, rfl, rfl, rfl, rfl, rfl, rfl, rfl, trivial⟩ (.cons (.there (.there (.here))) (.cons (.there (.there (.here))) (.cons (.there (.there (.here))) (.cons (.there (.there (.here))) (.cons (.there (.here)) (.cons .here .nil)))))) (fun ⟨i, y, r⟩ ⟨hI, hy, hro⟩ => ?_)
        refine seq ?_
        refine region ?_
        refine st (g_bin rfl rfl rfl) rfl ?_
        refine done ?_
        refine th_n ?_
        refine seq ?_
        refine condS rfl (fun h61 => ?_) (fun h61 => ?_)
        · try simp only [decide_eq_true_eq] at h61
          have hi : i < ss.length := by omega
          obtain ⟨s, hs⟩ : ∃ s, ss[i]? = some s := ⟨ss[i], by simp [hi]⟩
          obtain ⟨hsl, hsp, hsc, hsr⟩ := hok s (List.mem_of_getElem? hs)
          have hps : q.isSome = true := hrq.some (by intro h; simp at h; subst h; simp at hi)
          have hsv := get_slv hs
          have hsd := get_sl hs
          obtain ⟨_, _, _, _, hsave⟩ := cK_st ss i (by omega)
          rw [hsd] at hsave
          refine skip ?_
          refine th_n ?_
          refine seq ?_
          refine block ?_
          refine seq ?_
          refine region ?_
          refine st (g_move rfl) rfl ?_
          refine st (g_assign rfl) rfl ?_
          refine done ?_
          refine th_n ?_
          refine seq ?_
          refine seq ?_
          refine region ?_
          refine st (g_move rfl) rfl ?_
          refine st (g_move rfl) rfl ?_
          refine st (g_indexP (m := i) el_22 rfl rfl (hps) (by omega) (by omega) (by omega)) rfl ?_
          refine st (g_load (v := s.v) sc_23 rfl (Cell.rd (RdA.of hrq.s) hsv)) rfl ?_
          refine st (g_len el_23 rfl) rfl ?_
          refine st (g_bin rfl rfl rfl) rfl ?_
          refine done ?_
          refine th_n ?_
          refine condS rfl (fun h68 => ?_) (fun h68 => ?_)
          · try simp only [decide_eq_true_eq] at h68
            refine seq ?_
            refine region ?_
            refine st (g_move rfl) rfl ?_
            refine st (g_assign rfl) rfl ?_
            refine done ?_
            refine th_n ?_
            refine ret ?_
            refine th_r ?_
            refine ib_r ?_
            refine th_r ?_
            refine th_r ?_
            refine ib_r ?_
            refine th_r ?_
            exact ret1 rfl rfl rfl (fun w2 hw2 => ⟨rfl, hw2.clear⟩)
          · try simp only [decide_eq_false_iff_not] at h68
            refine skip ?_
            refine th_n ?_
            refine seq ?_
            refine region ?_
            refine st (g_move rfl) rfl ?_
            refine st (g_move rfl) rfl ?_
            refine st (g_move rfl) rfl ?_
            refine st (g_indexP (m := i) el_22 rfl rfl (hps) (by omega) (by omega) (by omega)) rfl ?_
            refine st (g_load (v := s.v) sc_23 rfl (Cell.rd (RdA.of hrq.s) hsv)) rfl ?_
            refine sq rfl (o_call Tryd.func55 rfl rfl rfl .nil (fun w hw hA => f55_spec s.p s.n s.c s.l hsl w (RdS.c (S := []) (RdS.ofOld (A := []) hsr.s hw .nil))) rfl (fun g _ => ?_))
            refine sq rfl (o_call Tryd.func39 rfl rfl rfl (.cons (.there (.here)) (.cons (.there (.here)) (.cons (.there (.here)) (.cons (.there (.here)) .nil)))) (fun w hw hA => f39_as b (cK ss i) r (some ⟨g, 0, none⟩) 24 24 (dat s.l) (dat_length _) nofun (Nat.le_refl _) hsave w (by assumption) (Gl.ofOld (A := dkR b (cK ss i) r) hG hw (.cons (.there (.here)) (.cons (.there (.here)) (.cons (.there (.here)) (.cons (.there (.here)) .nil))))) (RdS.ofOwn hw (.cons (.there (.here)) (.cons (.there (.here)) (.cons (.there (.here)) (.cons (.there (.here)) .nil)))) .here (RdC.ofBlk hw .here List.take_length) (fun b o h => by cases h; exact List.mem_singleton.2 rfl)) (cK_ok ss i) hro) rfl (fun ⟨y2, r2⟩ hx => ?_))
            refine st (g_move rfl) rfl ?_
            refine st (g_extract rfl rfl) rfl ?_
            refine st (g_extract rfl rfl) rfl ?_
            refine sq rfl (o_alloc (zs := [U64 0#64, .slice none 0 0]) zr_73 rfl (fun b16 => ?_))
            refine sq rfl (o_storeA (cs' := ldv (cL ss (i + 1)) y2) sz_73 rfl rfl rfl (by simp [ldv]; exact ⟨rfl, rfl⟩) .here (Nat.le_of_ble_eq_true rfl) rfl ?_)
            refine st (g_assign rfl) rfl ?_
            refine done ?_
            refine th_n ?_
            refine seq ?_
            refine seq ?_
            refine region ?_
            refine st (g_move rfl) rfl ?_
            refine st (g_F rfl rfl rfl (fun h => h rfl)) rfl ?_
            refine st (g_move rfl) rfl ?_
            refine gt rfl ?_
            refine st (g_fieldAddr fo_73_0 rfl rfl) rfl ?_
            refine gt rfl ?_
            refine st (g_load (v := U64 (NB (i + 1))) sc_34 rfl (Cell.own .here rfl)) rfl ?_
            refine gt rfl ?_
            refine st (g_fieldAddr fo_73_0 rfl rfl) rfl ?_
            refine gt rfl ?_
            refine st (g_load (v := U64 (NB i)) sc_34 rfl (Cell.own (.there (.there (.there (.there (.there (.there (.there (.here)))))))) rfl)) rfl ?_
            refine gt rfl ?_
            refine st (g_add64 (b := 1#64) rfl rfl) rfl ?_
            refine gt rfl ?_
            refine st (g_F rfl rfl rfl (by rw [NB_succ]; exact fun h => h rfl)) rfl ?_
            refine st (g_pickF rfl rfl) rfl ?_
            refine done ?_
            refine th_n ?_
            refine condF rfl ?_
            refine skip ?_
            refine th_n ?_
            refine region ?_
            refine st (g_loadA (vs := ldv (cL ss (i + 1)) y2) ag_73 rfl rfl (Cells.part .here rfl)) rfl ?_
            refine sq rfl (o_storeA (cs' := ldv (cL ss (i + 1)) y2) sz_73 rfl rfl rfl (by simp [ldv]; exact ⟨rfl, rfl⟩) (.there (.there (.there (.there (.there (.there (.there (.here)))))))) (Nat.le_of_ble_eq_true rfl) rfl ?_)
            refine done ?_
            refine ib_n ?_
            refine th_n ?_
            refine region ?_
            refine st (g_iadd (c := ((i + 1 : Nat) : Int)) rfl rfl (by omega) (by omega) (by omega)) rfl ?_
            refine st (g_move rfl) rfl ?_
            refine done ?_
            refine th_n ?_
            exact again (i + 1, y2, r2) ⟨by omega, hx⟩ (by show ss.length - (i + 1) < ss.length - i; omega) ⟨rfl, rfl, rfl, rfl, rfl, rfl, rfl, rfl, rfl, rfl, trivial⟩ (.cons (.there (.there (.there (.here)))) (.cons (.there (.there (.there (.here)))) (.cons (.there (.there (.there (.here)))) (.cons (.there (.there (.there (.here)))) (.cons .here (.cons (.there (.here)) .nil))))))
        · try simp only [decide_eq_false_iff_not] at h61
          have hie : i = ss.length := by omega
          have hi5 : i ≤ 500 := by omega
          refine exitc ?_
          refine th_x ?_
          refine th_x ?_
          refine ib_x ?_
          refine th_n ?_
          refine seq ?_
          refine region ?_
          refine st (g_assign rfl) rfl ?_
          refine done ?_
          refine th_n ?_
          refine seq ?_
          refine seq ?_
          refine region ?_
          refine st (g_move rfl) rfl ?_
          refine done ?_
          refine th_n ?_
          refine condT rfl ?_
          refine region ?_
          refine st (g_assign rfl) rfl ?_
          refine done ?_
          refine th_n ?_
          refine seq ?_
          refine region ?_
          refine st (g_move rfl) rfl ?_
          refine st (g_move rfl) rfl ?_
          refine st (g_move rfl) rfl ?_
          refine sq rfl (o_buildSlice1 (vs := [B8 ch]) un_23 zr_5 sz_5 (by decide) (by decide) rfl rfl rfl (by simp [Value.oneCell']) rfl (fun b96 => ?_))
          refine sq rfl (o_call Tryd.func35 rfl rfl rfl (.cons (.there (.here)) (.cons (.there (.here)) (.cons (.there (.here)) (.cons (.there (.here)) .nil)))) (fun w hw hA => f35_as b (cK ss i) r 2 (by decide) (some ⟨b96, 0, none⟩) 1 1 [ch] rfl nofun (Nat.le_refl _) (by decide) (kArm_eq ss i (st := 2) (by decide) ch) w (by assumption) (RdS.ofOwn hw (.cons (.there (.here)) (.cons (.there (.here)) (.cons (.there (.here)) (.cons (.there (.here)) .nil)))) .here (RdC.ofBlk hw .here rfl) (fun b o h => by cases h; exact List.mem_singleton.2 rfl)) (cK_ok ss i) hro) rfl (fun r3 hr3 => ?_))
          refine st (g_assign rfl) rfl ?_
          refine done ?_
          refine th_n ?_
          refine seq ?_
          refine region ?_
          refine st (g_move rfl) rfl ?_
          refine st (g_move rfl) rfl ?_
          refine sq rfl (o_call Tryd.func55 rfl rfl rfl .nil (fun w hw hA => f55_spec pB nB cB lB hlB w (RdS.c (S := []) (RdS.ofOld (A := []) hrB.s hw .nil))) rfl (fun gB _ => ?_))
          refine sq rfl (o_call Tryd.func39 rfl rfl rfl (.cons (.there (.here)) (.cons (.there (.here)) (.cons (.there (.here)) (.cons (.there (.here)) .nil)))) (fun w hw hA => f39_as b (kArm ss i 2 ch) r3 (some ⟨gB, 0, none⟩) 24 24 (dat lB) (dat_length _) nofun (Nat.le_refl _) (kDown_eq ss hi5 (by decide) ch lB) w (by assumption) (Gl.ofOld (A := dkR b (kArm ss i 2 ch) r3) hG hw (.cons (.there (.here)) (.cons (.there (.here)) (.cons (.there (.here)) (.cons (.there (.here)) .nil))))) (RdS.ofOwn hw (.cons (.there (.here)) (.cons (.there (.here)) (.cons (.there (.here)) (.cons (.there (.here)) .nil)))) .here (RdC.ofBlk hw .here List.take_length) (fun b o h => by cases h; exact List.mem_singleton.2 rfl)) (kArm_ok ss i (by decide) (by decide) ch) hr3) rfl (fun ⟨y4, r4⟩ hx4 => ?_))
          refine st (g_move rfl) rfl ?_
          refine st (g_extract rfl rfl) rfl ?_
          refine st (g_extract rfl rfl) rfl ?_
          refine sq rfl (o_alloc (zs := [U64 0#64, .slice none 0 0]) zr_73 rfl (fun b20 => ?_))
          refine sq rfl (o_storeA (cs' := ldv (Ld.err 171) y4) sz_73 rfl rfl rfl (by simp [ldv]; exact ⟨rfl, rfl⟩) .here (Nat.le_of_ble_eq_true rfl) rfl ?_)
          refine st (g_assign rfl) rfl ?_
          refine done ?_
          refine th_n ?_
          refine seq ?_
          refine region ?_
          refine st (g_move rfl) rfl ?_
          refine sq rfl (o_call Tryd.func37 rfl rfl rfl (.cons (.there (.there (.here))) .nil) (fun w hw hA => f37_spec b (kDown ss i ch lB) (kDown_ok ss hi5 ch lB) r4 w (by assumption)) rfl (fun _ _ => ?_))
          have hr5 : r4.ok (kUp ss i ch lB) := ⟨hx4.2.w0, hx4.2.w1, hx4.2.c0, hx4.2.c1⟩
          refine done ?_
          refine th_n ?_
          refine seq ?_
          refine region ?_
          refine st (g_move rfl) rfl ?_
          obtain ⟨ld1, ld2, ld3, ld4⟩ := inv_load rfl rfl (kUp_old ss hi5 hch lB).inv (by omega)
          refine sq rfl (o_call Tryd.func52 rfl rfl rfl (.cons .here (.cons (.there (.there (.here))) (.cons (.there (.there (.here))) (.cons (.there (.there (.here))) .nil)))) (fun w hw hA => f52_as b (kUp ss i ch lB) r4 ld1 ld2 ld3 ld4 w (by assumption) (Gl.ofOld (A := dkR b (kUp ss i ch lB) r4) hG hw (.cons .here (.cons (.there (.there (.here))) (.cons (.there (.there (.here))) (.cons (.there (.there (.here))) .nil))))) (kUp_ok ss hi5 ch lB) hr5) rfl (fun y5 hy5 => ?_))
          refine st (g_move rfl) rfl ?_
          refine st (g_extract rfl rfl) rfl ?_
          refine st (g_extract rfl rfl) rfl ?_
          refine st (g_extract rfl rfl) rfl ?_
          refine sq rfl (o_alloc (zs := [U64 0#64, .slice none 0 0]) zr_73 rfl (fun b22 => ?_))
          refine sq rfl (o_storeA (cs' := [U64 (NB i), slv (cD ss i).length y5]) sz_73 rfl rfl rfl (by simp; exact ⟨rfl, rfl⟩) .here (Nat.le_of_ble_eq_true rfl) rfl ?_)
          refine st (g_assign rfl) rfl ?_
          refine st (g_assign rfl) rfl ?_
          refine done ?_
          refine th_n ?_
          refine seq ?_
          refine seq ?_
          refine region ?_
          refine st (g_move rfl) rfl ?_
          refine st (g_F rfl rfl rfl (fun h => h rfl)) rfl ?_
          refine st (g_move rfl) rfl ?_
          refine gt rfl ?_
          refine st (g_move rfl) rfl ?_
          refine gt rfl ?_
          refine st (g_F rfl rfl rfl (by decide)) rfl ?_
          refine st (g_pickF rfl rfl) rfl ?_
          refine st (g_move rfl) rfl ?_
          refine gt rfl ?_
          refine st (g_move rfl) rfl ?_
          refine gt rfl ?_
          refine st (g_F rfl rfl rfl (by decide)) rfl ?_
          refine st (g_pickF rfl rfl) rfl ?_
          refine done ?_
          refine th_n ?_
          refine condF rfl ?_
          refine skip ?_
          refine th_n ?_
          refine seq ?_
          refine region ?_
          refine st (g_loadA (vs := [U64 (NB i), slv (cD ss i).length y5]) ag_73 rfl rfl (Cells.part .here rfl)) rfl ?_
          refine st (g_loadA (vs := ldv (cL ss i) y) ag_73 rfl rfl (Cells.part (.there (.there (.there (.there (.there (.there (.there (.there (.there (.there (.here))))))))))) rfl)) rfl ?_
          refine sq rfl (o_callP Tryd.func49 rfl rfl rfl (fun w hw => f49_tt (NB i) (NB i) (cD ss i) (cD ss i) _ _ rfl rfl y5 y rfl rfl w (RdC.ofVec (hw.get (.there (.here)))) (RdC.ofVec (hw.get (.there (.there (.there (.there (.there (.there (.there (.there (.there (.there (.there (.here))))))))))))))) rfl ?_)
          refine st (g_assign rfl) rfl ?_
          refine done ?_
          refine th_n ?_
          refine seq ?_
          refine regionL ⟨[_, _], [], []⟩ mixed (by decide +kernel) (.cons .here (.cons (.there (.there (.there (.there (.there (.there (.there (.there (.there (.here)))))))))) .nil)) .nil ?_
          refine An'.q 0 [] rfl (by decide +kernel) rfl rfl (g_loadA (vs := [U64 (NB i), slv (cD ss i).length y5]) ag_73 rfl rfl (Cells.part .here rfl)) rfl ?_
          refine An'.q 1 [] rfl (by decide +kernel) rfl rfl (g_fieldAddr fo_73_0 rfl rfl) rfl ?_
          refine An'.q 2 [] rfl (by decide +kernel) rfl rfl (g_load (v := U64 (NB i)) sc_34 rfl (Cell.own (.there (.here)) rfl)) rfl ?_
          refine An'.q 3 [] rfl (by decide +kernel) rfl rfl (g_add64 (b := 1#64) rfl rfl) rfl ?_
          refine An'.q 4 [] rfl (by decide +kernel) rfl rfl (g_move rfl) rfl ?_
          refine An'.oneG 5 (by decide +kernel) rfl rfl ?_
          refine o_call Tryd.func55 rfl rfl rfl .nil (fun w hw hA => f55_spec pB nB cB lB hlB w (RdS.c (S := []) (RdS.ofOld (A := []) hrB.s hw .nil))) rfl (fun gD _ => ?_)
          refine An'.on0 (.cons (.there (.here)) (.cons (.there (.there (.there (.there (.there (.there (.there (.there (.there (.there (.here))))))))))) .nil)) .nil rfl ?_
          refine An'.q 6 [] rfl (by decide +kernel) rfl rfl (g_build rfl (bu_73 _ _ rfl)) rfl ?_
          refine An'.oneG 7 (by decide +kernel) rfl rfl ?_
          refine o_callP Tryd.func49 rfl rfl rfl (fun w hw => f49_as (NB i) (NB i + 1#64) (cD ss i) (dat lB) _ _ rfl (dat_length lB) y5 (some ⟨gD, 0, none⟩, 24) w (RdC.ofVec (hw.get (.there (.there (.here))))) (RdC.ofBlk hw .here List.take_length)) rfl ?_
          refine An'.on0 (.cons (.there (.here)) (.cons (.there (.there (.there (.there (.there (.there (.there (.there (.there (.there (.here))))))))))) .nil)) .nil rfl ?_
          refine An'.q 8 [] rfl (by decide +kernel) rfl rfl (g_assign rfl) rfl ?_
          refine An'.fin (by decide +kernel) ?_
          refine th_n ?_
          refine seq ?_
          refine seq ?_
          refine region ?_
          refine st (g_move rfl) rfl ?_
          refine st (g_F rfl rfl rfl (by omega)) rfl ?_
          refine st (g_move rfl) rfl ?_
          refine gf rfl rfl ?_
          refine gf rfl rfl ?_
          refine st (g_pickF rfl rfl) rfl ?_
          refine st (g_move rfl) rfl ?_
          refine gt rfl ?_
          refine st (g_move rfl) rfl ?_
          refine gt rfl ?_
          refine st (g_T rfl rfl rfl (by omega)) rfl ?_
          refine gt rfl ?_
          refine st (g_move rfl) rfl ?_
          refine gt rfl ?_
          refine st (g_move rfl) rfl ?_
          refine gt rfl ?_
          refine st (g_not rfl) rfl ?_
          refine gt rfl ?_
          refine st (g_pickT rfl rfl) rfl ?_
          refine st (g_pickF rfl rfl) rfl ?_
          refine done ?_
          refine th_n ?_
          refine condF rfl ?_
          refine skip ?_
          refine th_n ?_
          refine seq ?_
          refine region ?_
          refine st (g_move rfl) rfl ?_
          refine st (g_move rfl) rfl ?_
          refine sq rfl (o_call Tryd.func55 rfl rfl rfl .nil (fun w hw hA => f55_spec pC nC cC lC hlC w (RdS.c (S := []) (RdS.ofOld (A := []) hrC.s hw .nil))) rfl (fun gC _ => ?_))
          obtain ⟨ke1, ke2, ke3⟩ := kEnd_eq ss hi5 ch lB lC (by omega) (kUp_old ss hi5 hch lB)
          obtain ⟨le1, le2, le3, le4⟩ := inv_load ke3 ke2.wt ke2.inv (by omega)
          refine sq rfl (o_call Tryd.func39 rfl rfl rfl (.cons (.there (.there (.there (.there (.here))))) (.cons (.there (.there (.there (.there (.here))))) (.cons (.there (.there (.there (.there (.here))))) (.cons (.there (.there (.there (.there (.here))))) .nil)))) (fun w hw hA => f39_as b (kUp ss i ch lB) r4 (some ⟨gC, 0, none⟩) 24 24 (dat lC) (dat_length _) nofun (Nat.le_refl _) ke1 w (by assumption) (Gl.ofOld (A := dkR b (kUp ss i ch lB) r4) hG hw (.cons (.there (.there (.there (.there (.here))))) (.cons (.there (.there (.there (.there (.here))))) (.cons (.there (.there (.there (.there (.here))))) (.cons (.there (.there (.there (.there (.here))))) .nil))))) (RdS.ofOwn hw (.cons (.there (.there (.there (.there (.here))))) (.cons (.there (.there (.there (.there (.here))))) (.cons (.there (.there (.there (.there (.here))))) (.cons (.there (.there (.there (.there (.here))))) .nil)))) .here (RdC.ofBlk hw .here List.take_length) (fun b o h => by cases h; exact List.mem_singleton.2 rfl)) (kUp_ok ss hi5 ch lB) hr5) rfl (fun ⟨y6, r6⟩ hx6 => ?_))
          refine st (g_move rfl) rfl ?_
          refine st (g_extract rfl rfl) rfl ?_
          refine st (g_extract rfl rfl) rfl ?_
          refine sq rfl (o_alloc (zs := [U64 0#64, .slice none 0 0]) zr_73 rfl (fun b27 => ?_))
          refine sq rfl (o_storeA (cs' := [U64 (NB (i + 1)), slv (dat lC).length y6]) sz_73 rfl rfl rfl (by simp [ldv]; exact ⟨rfl, rfl⟩) .here (Nat.le_of_ble_eq_true rfl) rfl ?_)
          refine st (g_assign rfl) rfl ?_
          refine done ?_
          refine th_n ?_
          refine seq ?_
          refine region ?_
          refine st (g_move rfl) rfl ?_
          refine sq rfl (o_call Tryd.func52 rfl rfl rfl (.cons (.there (.there (.here))) (.cons (.there (.there (.here))) (.cons (.there (.there (.here))) (.cons (.there (.there (.here))) .nil)))) (fun w hw hA => f52_as b (kEnd ss i ch lB lC) r6 le1 le2 le3 le4 w (by assumption) (Gl.ofOld (A := dkR b (kEnd ss i ch lB lC) r6) hG hw (.cons (.there (.there (.here))) (.cons (.there (.there (.here))) (.cons (.there (.there (.here))) (.cons (.there (.there (.here))) .nil))))) (kEnd_ok ss hi5 ch lB lC) hx6.2) rfl (fun y7 hy7 => ?_))
          refine st (g_move rfl) rfl ?_
          refine st (g_extract rfl rfl) rfl ?_
          refine st (g_extract rfl rfl) rfl ?_
          refine st (g_extract rfl rfl) rfl ?_
          refine sq rfl (o_alloc (zs := [U64 0#64, .slice none 0 0]) zr_73 rfl (fun b29 => ?_))
          refine sq rfl (o_storeA (cs' := [U64 (NB (i + 1)), slv (dat lC).length y7]) sz_73 rfl rfl rfl (by simp; exact ⟨rfl, rfl⟩) .here (Nat.le_of_ble_eq_true rfl) rfl ?_)
          refine st (g_assign rfl) rfl ?_
          refine st (g_assign rfl) rfl ?_
          refine done ?_
          refine th_n ?_
          refine seq ?_
          refine regionL ⟨[_, _, _, _], [], []⟩ mixed (by decide +kernel) (.cons (.there (.there (.there (.there (.there (.there (.here))))))) (.cons (.there (.there (.there (.there (.there (.there (.there (.there (.there (.here)))))))))) (.cons .here (.cons (.there (.there (.there (.there (.there (.here)))))) .nil)))) .nil ?_
          refine An'.q 0 [] rfl (by decide +kernel) rfl rfl (g_move rfl) rfl ?_
          refine An'.q 1 [] rfl (by decide +kernel) rfl rfl (g_move rfl) rfl ?_
          refine An'.q 2 [] rfl (by decide +kernel) rfl rfl (g_move rfl) rfl ?_
          refine An'.q 3 [] rfl (by decide +kernel) rfl rfl (g_T rfl rfl rfl (rfl)) rfl ?_
          refine An'.q 4 [] rfl (by decide +kernel) rfl rfl (g_pickT rfl rfl) rfl ?_
          refine An'.q 5 [] rfl (by decide +kernel) rfl rfl (g_move rfl) rfl ?_
          refine An'.q 6 [] rfl (by decide +kernel) rfl rfl (g_move rfl) rfl ?_
          refine An'.q 7 [] rfl (by decide +kernel) rfl rfl (g_T rfl rfl rfl (rfl)) rfl ?_
          refine An'.q 8 [] rfl (by decide +kernel) rfl rfl (g_pickT rfl rfl) rfl ?_
          refine An'.q 9 [] rfl (by decide +kernel) rfl rfl (g_move rfl) rfl ?_
          refine An'.q 10 [] rfl (by decide +kernel) rfl rfl (g_fieldAddr fo_73_0 rfl rfl) rfl ?_
          refine An'.q 11 [] rfl (by decide +kernel) rfl rfl (g_load (v := U64 (NB (i + 1))) sc_34 rfl (Cell.own .here rfl)) rfl ?_
          refine An'.q 12 [] rfl (by decide +kernel) rfl rfl (g_fieldAddr fo_73_0 rfl rfl) rfl ?_
          refine An'.q 13 [] rfl (by decide +kernel) rfl rfl (g_load (v := U64 (NB i)) sc_34 rfl (Cell.own (.there (.here)) rfl)) rfl ?_
          refine An'.q 14 [] rfl (by decide +kernel) rfl rfl (g_add64 (b := 1#64) rfl rfl) rfl ?_
          refine An'.q 15 [] rfl (by decide +kernel) rfl rfl (g_T rfl rfl rfl (by rw [NB_succ])) rfl ?_
          refine An'.q 16 [] rfl (by decide +kernel) rfl rfl (g_pickT rfl rfl) rfl ?_
          refine An'.q 17 [] rfl (by decide +kernel) rfl rfl (g_move rfl) rfl ?_
          refine An'.q 18 [] rfl (by decide +kernel) rfl rfl (g_loadA (vs := [U64 (NB (i + 1)), slv (dat lC).length y6]) ag_73 rfl rfl (Cells.part .here rfl)) rfl ?_
          refine An'.q 19 [] rfl (by decide +kernel) rfl rfl (g_loadA (vs := [U64 (NB (i + 1)), slv (dat lC).length y7]) ag_73 rfl rfl (Cells.part (.there (.there (.here))) rfl)) rfl ?_
          refine An'.oneG 20 (by decide +kernel) rfl rfl ?_
          refine o_callP Tryd.func49 rfl rfl rfl (fun w hw => f49_tt (NB (i + 1)) (NB (i + 1)) (dat lC) (dat lC) _ _ rfl rfl y6 y7 rfl rfl w (RdC.ofVec (hw.get (.there (.there (.there (.there (.there (.there (.there (.here)))))))))) (RdC.ofVec (hw.get (.there (.here))))) rfl ?_
          refine An'.on0 (.cons (.there (.there (.there (.there (.there (.there (.here))))))) (.cons (.there (.there (.there (.there (.there (.there (.there (.there (.there (.here)))))))))) (.cons .here (.cons (.there (.there (.there (.there (.there (.here)))))) .nil)))) .nil rfl ?_
          refine An'.q 21 [] rfl (by decide +kernel) rfl rfl (g_pickT rfl rfl) rfl ?_
          refine An'.q 22 [] rfl (by decide +kernel) rfl rfl (g_move rfl) rfl ?_
          refine An'.q 23 [] rfl (by decide +kernel) rfl rfl (g_fieldAddr fo_73_1 rfl rfl) rfl ?_
          refine An'.q 24 [] rfl (by decide +kernel) rfl rfl (g_load (v := slv (dat lC).length y6) sc_23 rfl (Cell.own .here rfl)) rfl ?_
          refine An'.q 25 [] rfl (by decide +kernel) rfl rfl (g_str (l := dat lC) by_23 str_9 rfl rfl (RdA.vec (.there (.there (.there (.here)))))) rfl ?_
          refine An'.q 26 [] rfl (by decide +kernel) rfl rfl (g_move rfl) rfl ?_
          refine An'.oneG 27 (by decide +kernel) rfl rfl ?_
          refine o_call Tryd.func55 rfl rfl rfl .nil (fun w hw hA => f55_spec pC nC cC lC hlC w (RdS.c (S := []) (RdS.ofOld (A := []) hrC.s hw .nil))) rfl (fun gF _ => ?_)
          refine An'.on0 (.cons (.there (.there (.there (.there (.there (.there (.there (.here)))))))) (.cons (.there (.there (.there (.there (.there (.there (.there (.there (.there (.there (.here))))))))))) (.cons (.there (.here)) (.cons (.there (.there (.there (.there (.there (.there (.here))))))) .nil)))) .nil rfl ?_
          refine An'.oneG 28 (by decide +kernel) rfl rfl ?_
          refine gv (g_str (l := dat lC) by_23 str_9 rfl (dat_length lC) (RdA.own .here (fun j v hj => by rw [Nat.zero_add]; exact hj))) rfl rfl ?_
          refine An'.on0 (.cons (.there (.there (.there (.there (.there (.there (.there (.here)))))))) (.cons (.there (.there (.there (.there (.there (.there (.there (.there (.there (.there (.here))))))))))) (.cons (.there (.here)) (.cons (.there (.there (.there (.there (.there (.there (.here))))))) .nil)))) .nil rfl ?_
          refine An'.q 29 [] rfl (by decide +kernel) rfl rfl (g_eqST rfl rfl (rfl)) rfl ?_
          refine An'.q 30 [] rfl (by decide +kernel) rfl rfl (g_pickT rfl rfl) rfl ?_
          refine An'.q 31 [] rfl (by decide +kernel) rfl rfl (g_assign rfl) rfl ?_
          refine An'.fin (by decide +kernel) ?_
          refine th_n ?_
          refine ret ?_
          exact ret1 rfl rfl rfl (fun w2 hw2 => ⟨rfl, hw2.clear⟩)

theorem f13_one_new (q : Option Addr) (c : Nat) (ss : List Sl) (ch : UInt8) (pB : Option Addr) (nB cB : Nat) (lB : List UInt8) (hlB : lB.length = nB) (hpB : pB = none → cB = 0) (hcB : nB ≤ cB) (pC : Option Addr) (nC cC : Nat) (lC : List UInt8) (hlC : lC.length = nC) (hpC : pC = none → cC = 0) (hcC : nC ≤ cC) (w : World) (hrq : RdC w q (ss.map Sl.v)) (hok : ∀ s ∈ ss, s.ok w) (hrB : RdC w pB (lB.map B8)) (hrC : RdC w pC (lC.map B8)) (hG : Gl w []) (hch : 60 ≤ ch.toNat) : Calls Tryd.prog 13 [.slice q ss.length c, .bool false, B8 ch, .slice pB nB cB, .slice pC nC cC].toArray w (fun en w2 => en = .returned (.bool true) ∧ Sat w [] [] w2) := by
  refine used hlB (used hpB (used hcB (used hlC (used hpC (used hcC (used hrq (used hok (used hrB (used hrC (used hG (used hch (?_))))))))))))
  refine enter (n := 192) Tryd.func13 rfl rfl rfl (Sat.refl w) ?_
  refine seq ?_
  refine region ?_
  refine st (g_assign rfl) rfl ?_
  refine done ?_
  refine th_n ?_
  refine seq ?_
  refine region ?_
  refine sq rfl (o_callP Tryd.func54 rfl rfl rfl (fun w hw => f54_spec w (Gl.ofOld (A := []) hG hw .nil)) rfl ?_)
  refine st (g_assign rfl) rfl ?_
  refine done ?_
  refine th_n ?_
  refine seq ?_
  refine seq ?_
  refine region ?_
  refine st (g_move rfl) rfl ?_
  refine st (g_len el_22 rfl) rfl ?_
  refine sp (g_bin rfl rfl rfl) rfl (fun h35 => ?_) (fun h35 => ?_)
  · refine st (g_move rfl) rfl ?_
    refine gf rfl rfl ?_
    refine gf rfl rfl ?_
    refine gf rfl rfl ?_
    refine st (g_pickT rfl rfl) rfl ?_
    refine st (g_move rfl) rfl ?_
    refine gf rfl rfl ?_
    refine gf rfl rfl ?_
    refine gf rfl rfl ?_
    refine st (g_pickT rfl rfl) rfl ?_
    refine st (g_move rfl) rfl ?_
    refine gf rfl rfl ?_
    refine gf rfl rfl ?_
    refine st (g_pickT rfl rfl) rfl ?_
    refine done ?_
    refine th_n ?_
    refine condT rfl ?_
    refine seq ?_
    refine region ?_
    refine st (g_move rfl) rfl ?_
    refine st (g_assign rfl) rfl ?_
    refine done ?_
    refine th_n ?_
    refine ret ?_
    refine th_r ?_
    exact ret1 rfl rfl rfl (fun w2 hw2 => ⟨rfl, hw2.clear⟩)
  · refine st (g_move rfl) rfl ?_
    refine gt rfl ?_
    refine st (g_move rfl) rfl ?_
    refine gt rfl ?_
    refine st (g_len el_23 rfl) rfl ?_
    refine gt rfl ?_
    refine sp (g_bin rfl rfl rfl) rfl (fun h39 => ?_) (fun h39 => ?_)
    · refine st (g_pickF rfl rfl) rfl ?_
      refine st (g_move rfl) rfl ?_
      refine gf rfl rfl ?_
      refine gf rfl rfl ?_
      refine gf rfl rfl ?_
      refine st (g_pickT rfl rfl) rfl ?_
      refine st (g_move rfl) rfl ?_
      refine gf rfl rfl ?_
      refine gf rfl rfl ?_
      refine st (g_pickT rfl rfl) rfl ?_
      refine done ?_
      refine th_n ?_
      refine condT rfl ?_
      refine seq ?_
      refine region ?_
      refine st (g_move rfl) rfl ?_
      refine st (g_assign rfl) rfl ?_
      refine done ?_
      refine th_n ?_
      refine ret ?_
      refine th_r ?_
      exact ret1 rfl rfl rfl (fun w2 hw2 => ⟨rfl, hw2.clear⟩)
    · refine st (g_pickF rfl rfl) rfl ?_
      refine st (g_move rfl) rfl ?_
      refine gt rfl ?_
      refine st (g_move rfl) rfl ?_
      refine gt rfl ?_
      refine st (g_len el_23 rfl) rfl ?_
      refine gt rfl ?_
      refine sp (g_bin rfl rfl rfl) rfl (fun h44 => ?_) (fun h44 => ?_)
      · refine st (g_pickF rfl rfl) rfl ?_
        refine st (g_move rfl) rfl ?_
        refine gf rfl rfl ?_
        refine gf rfl rfl ?_
        refine st (g_pickT rfl rfl) rfl ?_
        refine done ?_
        refine th_n ?_
        refine condT rfl ?_
        refine seq ?_
        refine region ?_
        refine st (g_move rfl) rfl ?_
        refine st (g_assign rfl) rfl ?_
        refine done ?_
        refine th_n ?_
        refine ret ?_
        refine th_r ?_
        exact ret1 rfl rfl rfl (fun w2 hw2 => ⟨rfl, hw2.clear⟩)
      · refine st (g_pickF rfl rfl) rfl ?_
        refine st (g_move rfl) rfl ?_
        refine gt rfl ?_
        refine st (g_move rfl) rfl ?_
        refine gt rfl ?_
        refine st (g_not rfl) rfl ?_
        refine st (g_pickF rfl rfl) rfl ?_
        refine done ?_
        refine th_n ?_
        refine condF rfl ?_
        refine skip ?_
        refine th_n ?_
        refine seq ?_
        refine region ?_
        refine sq rfl (o_call Tryd.func28 rfl rfl rfl .nil (fun w hw hA => f28_spec 2 1000 (by decide) (by decide) (by decide) w) rfl (fun ⟨b, r0⟩ hro0 => ?_))
        refine st (g_move rfl) rfl ?_
        refine st (g_extract rfl rfl) rfl ?_
        refine st (g_extract rfl rfl) rfl ?_
        refine st (g_assign rfl) rfl ?_
        refine st (g_assign rfl) rfl ?_
        refine done ?_
        refine th_n ?_
        refine seq ?_
        refine seq ?_
        refine region ?_
        refine st (g_move rfl) rfl ?_
        refine st (g_F rfl rfl rfl (by decide)) rfl ?_
        refine done ?_
        refine th_n ?_
        refine condF rfl ?_
        refine skip ?_
        refine th_n ?_
        refine seq ?_
        refine region ?_
        refine st (g_build rfl bu_73z) rfl ?_
        refine sq rfl (o_alloc (zs := [U64 0#64, .slice none 0 0]) zr_73 rfl (fun b14 => ?_))
        refine sq rfl (o_storeA (cs' := [U64 0#64, .slice none 0 0]) sz_73 rfl rfl rfl (by simp [Value.oneCell']) .here (Nat.le_of_ble_eq_true rfl) rfl ?_)
        refine done ?_
        refine th_n ?_
        refine seq ?_
        refine seq ?_
        refine At.up (fun w hw => new0_vec (T := 5) (s := 1) hw ⟨rfl, .inl ⟨rfl, rfl⟩⟩) ?_
        refine region ?_
        refine st (g_move rfl) rfl ?_
        refine st (g_len el_22 rfl) rfl ?_
        refine st (g_move rfl) rfl ?_
        refine done ?_
        refine th_n ?_
        refine block ?_
        refine loop (α := Nat × (Option Addr × Nat) × Rp) (fun ⟨i, y, r⟩ => i ≤ ss.length ∧ ldOk (cL ss i) y ∧ r.ok (cK ss i)) (fun ⟨i, y, r⟩ => [(0, .slice q ss.length c), (1, .bool false), (2, B8 ch), (3, .slice pB nB cB), (4, .slice pC nC cC), (11, .bool true), (12, .pointer (some ⟨b, 0, none⟩)), (14, .pointer (some ⟨b14, 0, none⟩)), (59, I64 (ss.length : Nat)), (60, I64 (i : Nat))]) (fun ⟨i, y, r⟩ => [dkB b (cK ss i) r, dkS (cK ss i) r, dkW (cK ss i) r, dkC (cK ss i) r, blk b14 73 (ldv (cL ss i) y), ldR (cL ss i) y]) (fun ⟨i, y, r⟩ => ss.length - i) (0, (none, 0), r0) ⟨Nat.zero_le _, ⟨fun _ => rfl, Nat.le_refl _⟩, hro0⟩ ⟨rfl, rfl, rfl, rfl, rfl, rfl, rfl, rfl, rfl, rfl, trivial⟩ (.cons (.there (.there (.here))) (.cons (.there (.there (.here))) (.cons (.there (.there (.here))) (.cons (.there (.there (.here))) (.cons (.there (.here)) (.cons .here .nil)))))) (fun ⟨i, y, r⟩ ⟨hI, hy, hro⟩ => ?_)
        refine seq ?_
        refine region ?_
        refine st (g_bin rfl rfl rfl) rfl ?_
        refine done ?_
        refine th_n ?_
        refine seq ?_
        refine condS rfl (fun h61 => ?_) (fun h61 => ?_)
        · try simp only [decide_eq_true_eq] at h61
          have hi : i < ss.length := by omega
          obtain ⟨s, hs⟩ : ∃ s, ss[i]? = some s := ⟨ss[i], by simp [hi]⟩
          obtain ⟨hsl, hsp, hsc, hsr⟩ := hok s (List.mem_of_getElem? hs)
          have hps : q.isSome = true := hrq.some (by intro h; simp at h; subst h; simp at hi)
          have hsv := get_slv hs
          have hsd := get_sl hs
          obtain ⟨_, _, _, _, hsave⟩ := cK_st ss i (by omega)
          rw [hsd] at hsave
          refine skip ?_
          refine th_n ?_
          refine seq ?_
          refine block ?_
          refine seq ?_
          refine region ?_
          refine st (g_move rfl) rfl ?_
          refine st (g_assign rfl) rfl ?_
          refine done ?_
          refine th_n ?_
          refine seq ?_
          refine seq ?_
          refine region ?_
          refine st (g_move rfl) rfl ?_
          refine st (g_move rfl) rfl ?_
          refine st (g_indexP (m := i) el_22 rfl rfl (hps) (by omega) (by omega) (by omega)) rfl ?_
          refine st (g_load (v := s.v) sc_23 rfl (Cell.rd (RdA.of hrq.s) hsv)) rfl ?_
          refine st (g_len el_23 rfl) rfl ?_
          refine st (g_bin rfl rfl rfl) rfl ?_
          refine done ?_
          refine th_n ?_
          refine condS rfl (fun h68 => ?_) (fun h68 => ?_)
          · try simp only [decide_eq_true_eq] at h68
            refine seq ?_
            refine region ?_
            refine st (g_move rfl) rfl ?_
            refine st (g_assign rfl) rfl ?_
            refine done ?_
            refine th_n ?_
            refine ret ?_
            refine th_r ?_
            refine ib_r ?_
            refine th_r ?_
            refine th_r ?_
            refine ib_r ?_
            refine th_r ?_
            exact ret1 rfl rfl rfl (fun w2 hw2 => ⟨rfl, hw2.clear⟩)
          · try simp only [decide_eq_false_iff_not] at h68
            refine skip ?_
            refine th_n ?_
            refine seq ?_
            refine region ?_
            refine st (g_move rfl) rfl ?_
            refine st (g_move rfl) rfl ?_
            refine st (g_move rfl) rfl ?_
            refine st (g_indexP (m := i) el_22 rfl rfl (hps) (by omega) (by omega) (by omega)) rfl ?_
            refine st (g_load (v := s.v) sc_23 rfl (Cell.rd (RdA.of hrq.s) hsv)) rfl ?_
            refine sq rfl (o_call Tryd.func55 rfl rfl rfl .nil (fun w hw hA => f55_spec s.p s.n s.c s.l hsl w (RdS.c (S := []) (RdS.ofOld (A := []) hsr.s hw .nil))) rfl (fun g _ => ?_))
            refine sq rfl (o_call Tryd.func39 rfl rfl rfl (.cons (.there (.here)) (.cons (.there (.here)) (.cons (.there (.here)) (.cons (.there (.here)) .nil)))) (fun w hw hA => f39_as b (cK ss i) r (some ⟨g, 0, none⟩) 24 24 (dat s.l) (dat_length _) nofun (Nat.le_refl _) hsave w (by assumption) (Gl.ofOld (A := dkR b (cK ss i) r) hG hw (.cons (.there (.here)) (.cons (.there (.here)) (.cons (.there (.here)) (.cons (.there (.here)) .nil))))) (RdS.ofOwn hw (.cons (.there (.here)) (.cons (.there (.here)) (.cons (.there (.here)) (.cons (.there (.here)) .nil)))) .here (RdC.ofBlk hw .here List.take_length) (fun b o h => by cases h; exact List.mem_singleton.2 rfl)) (cK_ok ss i) hro) rfl (fun ⟨y2, r2⟩ hx => ?_))
            refine st (g_move rfl) rfl ?_
            refine st (g_extract rfl rfl) rfl ?_
            refine st (g_extract rfl rfl) rfl ?_
            refine sq rfl (o_alloc (zs := [U64 0#64, .slice none 0 0]) zr_73 rfl (fun b16 => ?_))
            refine sq rfl (o_storeA (cs' := ldv (cL ss (i + 1)) y2) sz_73 rfl rfl rfl (by simp [ldv]; exact ⟨rfl, rfl⟩) .here (Nat.le_of_ble_eq_true rfl) rfl ?_)
            refine st (g_assign rfl) rfl ?_
            refine done ?_
            refine th_n ?_
            refine seq ?_
            refine seq ?_
            refine region ?_
            refine st (g_move rfl) rfl ?_
            refine st (g_F rfl rfl rfl (fun h => h rfl)) rfl ?_
            refine st (g_move rfl) rfl ?_
            refine gt rfl ?_
            refine st (g_fieldAddr fo_73_0 rfl rfl) rfl ?_
            refine gt rfl ?_
            refine st (g_load (v := U64 (NB (i + 1))) sc_34 rfl (Cell.own .here rfl)) rfl ?_
            refine gt rfl ?_
            refine st (g_fieldAddr fo_73_0 rfl rfl) rfl ?_
            refine gt rfl ?_
            refine st (g_load (v := U64 (NB i)) sc_34 rfl (Cell.own (.there (.there (.there (.there (.there (.there (.there (.here)))))))) rfl)) rfl ?_
            refine gt rfl ?_
            refine st (g_add64 (b := 1#64) rfl rfl) rfl ?_
            refine gt rfl ?_
            refine st (g_F rfl rfl rfl (by rw [NB_succ]; exact fun h => h rfl)) rfl ?_
            refine st (g_pickF rfl rfl) rfl ?_
            refine done ?_
            refine th_n ?_
            refine condF rfl ?_
            refine skip ?_
            refine th_n ?_
            refine region ?_
            refine st (g_loadA (vs := ldv (cL ss (i + 1)) y2) ag_73 rfl rfl (Cells.part .here rfl)) rfl ?_
            refine sq rfl (o_storeA (cs' := ldv (cL ss (i + 1)) y2) sz_73 rfl rfl rfl (by simp [ldv]; exact ⟨rfl, rfl⟩) (.there (.there (.there (.there (.there (.there (.there (.here)))))))) (Nat.le_of_ble_eq_true rfl) rfl ?_)
            refine done ?_
            refine ib_n ?_
            refine th_n ?_
            refine region ?_
            refine st (g_iadd (c := ((i + 1 : Nat) : Int)) rfl rfl (by omega) (by omega) (by omega)) rfl ?_
            refine st (g_move rfl) rfl ?_
            refine done ?_
            refine th_n ?_
            exact again (i + 1, y2, r2) ⟨by omega, hx⟩ (by show ss.length - (i + 1) < ss.length - i; omega) ⟨rfl, rfl, rfl, rfl, rfl, rfl, rfl, rfl, rfl, rfl, trivial⟩ (.cons (.there (.there (.there (.here)))) (.cons (.there (.there (.there (.here)))) (.cons (.there (.there (.there (.here)))) (.cons (.there (.there (.there (.here)))) (.cons .here (.cons (.there (.here)) .nil))))))
        · try simp only [decide_eq_false_iff_not] at h61
          have hie : i = ss.length := by omega
          have hi5 : i ≤ 500 := by omega
          refine exitc ?_
          refine th_x ?_
          refine th_x ?_
          refine ib_x ?_
          refine th_n ?_
          refine seq ?_
          refine region ?_
          refine st (g_assign rfl) rfl ?_
          refine done ?_
          refine th_n ?_
          refine seq ?_
          refine seq ?_
          refine region ?_
          refine st (g_move rfl) rfl ?_
          refine done ?_
          refine th_n ?_
          refine condF rfl ?_
          refine skip ?_
          refine th_n ?_
          refine seq ?_
          refine region ?_
          refine st (g_move rfl) rfl ?_
          refine st (g_move rfl) rfl ?_
          refine st (g_move rfl) rfl ?_
          refine sq rfl (o_buildSlice1 (vs := [B8 ch]) un_23 zr_5 sz_5 (by decide) (by decide) rfl rfl rfl (by simp [Value.oneCell']) rfl (fun b96 => ?_))
          refine sq rfl (o_call Tryd.func35 rfl rfl rfl (.cons (.there (.here)) (.cons (.there (.here)) (.cons (.there (.here)) (.cons (.there (.here)) .nil)))) (fun w hw hA => f35_as b (cK ss i) r 1 (by decide) (some ⟨b96, 0, none⟩) 1 1 [ch] rfl nofun (Nat.le_refl _) (by decide) (kArm_eq ss i (st := 1) (by decide) ch) w (by assumption) (RdS.ofOwn hw (.cons (.there (.here)) (.cons (.there (.here)) (.cons (.there (.here)) (.cons (.there (.here)) .nil)))) .here (RdC.ofBlk hw .here rfl) (fun b o h => by cases h; exact List.mem_singleton.2 rfl)) (cK_ok ss i) hro) rfl (fun r3 hr3 => ?_))
          refine st (g_assign rfl) rfl ?_
          refine done ?_
          refine th_n ?_
          refine seq ?_
          refine region ?_
          refine st (g_move rfl) rfl ?_
          refine st (g_move rfl) rfl ?_
          refine sq rfl (o_call Tryd.func55 rfl rfl rfl .nil (fun w hw hA => f55_spec pB nB cB lB hlB w (RdS.c (S := []) (RdS.ofOld (A := []) hrB.s hw .nil))) rfl (fun gB _ => ?_))
          refine sq rfl (o_call Tryd.func39 rfl rfl rfl (.cons (.there (.here)) (.cons (.there (.here)) (.cons (.there (.here)) (.cons (.there (.here)) .nil)))) (fun w hw hA => f39_as b (kArm ss i 1 ch) r3 (some ⟨gB, 0, none⟩) 24 24 (dat lB) (dat_length _) nofun (Nat.le_refl _) (kDown_eq ss hi5 (by decide) ch lB) w (by assumption) (Gl.ofOld (A := dkR b (kArm ss i 1 ch) r3) hG hw (.cons (.there (.here)) (.cons (.there (.here)) (.cons (.there (.here)) (.cons (.there (.here)) .nil))))) (RdS.ofOwn hw (.cons (.there (.here)) (.cons (.there (.here)) (.cons (.there (.here)) (.cons (.there (.here)) .nil)))) .here (RdC.ofBlk hw .here List.take_length) (fun b o h => by cases h; exact List.mem_singleton.2 rfl)) (kArm_ok ss i (by decide) (by decide) ch) hr3) rfl (fun ⟨y4, r4⟩ hx4 => ?_))
          refine st (g_move rfl) rfl ?_
          refine st (g_extract rfl rfl) rfl ?_
          refine st (g_extract rfl rfl) rfl ?_
          refine sq rfl (o_alloc (zs := [U64 0#64, .slice none 0 0]) zr_73 rfl (fun b20 => ?_))
          refine sq rfl (o_storeA (cs' := ldv (Ld.err 171) y4) sz_73 rfl rfl rfl (by simp [ldv]; exact ⟨rfl, rfl⟩) .here (Nat.le_of_ble_eq_true rfl) rfl ?_)
          refine st (g_assign rfl) rfl ?_
          refine done ?_
          refine th_n ?_
          refine seq ?_
          refine region ?_
          refine st (g_move rfl) rfl ?_
          refine sq rfl (o_call Tryd.func37 rfl rfl rfl (.cons (.there (.there (.here))) .nil) (fun w hw hA => f37_spec b (kDown ss i ch lB) (kDown_ok ss hi5 ch lB) r4 w (by assumption)) rfl (fun _ _ => ?_))
          have hr5 : r4.ok (kUp ss i ch lB) := ⟨hx4.2.w0, hx4.2.w1, hx4.2.c0, hx4.2.c1⟩
          refine done ?_
          refine th_n ?_
          refine seq ?_
          refine region ?_
          refine st (g_move rfl) rfl ?_
          obtain ⟨ld1, ld2, ld3, ld4⟩ := inv_load rfl rfl (kUp_new ss hi5 hch lB).inv (by omega)
          refine sq rfl (o_call Tryd.func52 rfl rfl rfl (.cons .here (.cons (.there (.there (.here))) (.cons (.there (.there (.here))) (.cons (.there (.there (.here))) .nil)))) (fun w hw hA => f52_as b (kUp ss i ch lB) r4 ld1 ld2 ld3 ld4 w (by assumption) (Gl.ofOld (A := dkR b (kUp ss i ch lB) r4) hG hw (.cons .here (.cons (.there (.there (.here))) (.cons (.there (.there (.here))) (.cons (.there (.there (.here))) .nil))))) (kUp_ok ss hi5 ch lB) hr5) rfl (fun y5 hy5 => ?_))
          refine st (g_move rfl) rfl ?_
          refine st (g_extract rfl rfl) rfl ?_
          refine st (g_extract rfl rfl) rfl ?_
          refine st (g_extract rfl rfl) rfl ?_
          refine sq rfl (o_alloc (zs := [U64 0#64, .slice none 0 0]) zr_73 rfl (fun b22 => ?_))
          refine sq rfl (o_storeA (cs' := [U64 (NB (i + 1)), slv (dat lB).length y5]) sz_73 rfl rfl rfl (by simp; exact ⟨rfl, rfl⟩) .here (Nat.le_of_ble_eq_true rfl) rfl ?_)
          refine st (g_assign rfl) rfl ?_
          refine st (g_assign rfl) rfl ?_
          refine done ?_
          refine th_n ?_
          refine seq ?_
          refine seq ?_
          refine region ?_
          refine st (g_move rfl) rfl ?_
          refine st (g_F rfl rfl rfl (fun h => h rfl)) rfl ?_
          refine st (g_move rfl) rfl ?_
          refine gt rfl ?_
          refine st (g_move rfl) rfl ?_
          refine gt rfl ?_
          refine st (g_F rfl rfl rfl (by decide)) rfl ?_
          refine st (g_pickF rfl rfl) rfl ?_
          refine st (g_move rfl) rfl ?_
          refine gt rfl ?_
          refine st (g_move rfl) rfl ?_
          refine gt rfl ?_
          refine st (g_F rfl rfl rfl (by decide)) rfl ?_
          refine st (g_pickF rfl rfl) rfl ?_
          refine done ?_
          refine th_n ?_
          refine condF rfl ?_
          refine skip ?_
          refine th_n ?_
          refine seq ?_
          refine region ?_
          refine st (g_loadA (vs := [U64 (NB (i + 1)), slv (dat lB).length y5]) ag_73 rfl rfl (Cells.part .here rfl)) rfl ?_
          refine st (g_loadA (vs := ldv (cL ss i) y) ag_73 rfl rfl (Cells.part (.there (.there (.there (.there (.there (.there (.there (.there (.there (.there (.here))))))))))) rfl)) rfl ?_
          refine sq rfl (o_callP Tryd.func49 rfl rfl rfl (fun w hw => f49_as (NB (i + 1)) (NB i) (dat lB) (cD ss i) _ _ rfl rfl y5 y w (RdC.ofVec (hw.get (.there (.here)))) (RdC.ofVec (hw.get (.there (.there (.there (.there (.there (.there (.there (.there (.there (.there (.there (.here))))))))))))))) rfl ?_)
          refine st (g_assign rfl) rfl ?_
          refine done ?_
          refine th_n ?_
          refine seq ?_
          refine regionL ⟨[_, _], [], []⟩ mixed (by decide +kernel) (.cons .here (.cons (.there (.there (.there (.there (.there (.there (.there (.there (.there (.here)))))))))) .nil)) .nil ?_
          refine An'.q 0 [] rfl (by decide +kernel) rfl rfl (g_loadA (vs := [U64 (NB (i + 1)), slv (dat lB).length y5]) ag_73 rfl rfl (Cells.part .here rfl)) rfl ?_
          refine An'.q 1 [] rfl (by decide +kernel) rfl rfl (g_fieldAddr fo_73_0 rfl rfl) rfl ?_
          refine An'.q 2 [] rfl (by decide +kernel) rfl rfl (g_load (v := U64 (NB i)) sc_34 rfl (Cell.own (.there (.here)) rfl)) rfl ?_
          refine An'.q 3 [] rfl (by decide +kernel) rfl rfl (g_add64 (b := 1#64) rfl rfl) rfl ?_
          refine An'.q 4 [] rfl (by decide +kernel) rfl rfl (g_move rfl) rfl ?_
          refine An'.oneG 5 (by decide +kernel) rfl rfl ?_
          refine o_call Tryd.func55 rfl rfl rfl .nil (fun w hw hA => f55_spec pB nB cB lB hlB w (RdS.c (S := []) (RdS.ofOld (A := []) hrB.s hw .nil))) rfl (fun gD _ => ?_)
          refine An'.on0 (.cons (.there (.here)) (.cons (.there (.there (.there (.there (.there (.there (.there (.there (.there (.there (.here))))))))))) .nil)) .nil rfl ?_
          refine An'.q 6 [] rfl (by decide +kernel) rfl rfl (g_build rfl (bu_73 _ _ rfl)) rfl ?_
          refine An'.oneG 7 (by decide +kernel) rfl rfl ?_
          refine o_callP Tryd.func49 rfl rfl rfl (fun w hw => f49_tt (NB (i + 1)) (NB i + 1#64) (dat lB) (dat lB) _ _ rfl (dat_length lB) y5 (some ⟨gD, 0, none⟩, 24) (NB_succ i).symm rfl w (RdC.ofVec (hw.get (.there (.there (.here))))) (RdC.ofBlk hw .here List.take_length)) rfl ?_
          refine An'.on0 (.cons (.there (.here)) (.cons (.there (.there (.there (.there (.there (.there (.there (.there (.there (.there (.here))))))))))) .nil)) .nil rfl ?_
          refine An'.q 8 [] rfl (by decide +kernel) rfl rfl (g_assign rfl) rfl ?_
          refine An'.fin (by decide +kernel) ?_
          refine th_n ?_
          refine seq ?_
          refine seq ?_
          refine region ?_
          refine st (g_move rfl) rfl ?_
          refine st (g_T rfl rfl rfl (by omega)) rfl ?_
          refine st (g_move rfl) rfl ?_
          refine gt rfl ?_
          refine st (g_move rfl) rfl ?_
          refine gt rfl ?_
          refine st (g_not rfl) rfl ?_
          refine st (g_pickT rfl rfl) rfl ?_
          refine st (g_move rfl) rfl ?_
          refine gt rfl ?_
          refine st (g_move rfl) rfl ?_
          refine gt rfl ?_
          refine st (g_F rfl rfl rfl (by omega)) rfl ?_
          refine gt rfl ?_
          refine st (g_move rfl) rfl ?_
          refine gf rfl rfl ?_
          refine gf rfl rfl ?_
          refine gt rfl ?_
          refine st (g_pickF rfl rfl) rfl ?_
          refine st (g_pickF rfl rfl) rfl ?_
          refine done ?_
          refine th_n ?_
          refine condF rfl ?_
          refine skip ?_
          refine th_n ?_
          refine seq ?_
          refine region ?_
          refine st (g_move rfl) rfl ?_
          refine st (g_move rfl) rfl ?_
          refine sq rfl (o_call Tryd.func55 rfl rfl rfl .nil (fun w hw hA => f55_spec pC nC cC lC hlC w (RdS.c (S := []) (RdS.ofOld (A := []) hrC.s hw .nil))) rfl (fun gC _ => ?_))
          obtain ⟨ke1, ke2, ke3⟩ := kEnd_eq ss hi5 ch lB lC (by omega) (kUp_new ss hi5 hch lB)
          obtain ⟨le1, le2, le3, le4⟩ := inv_load ke3 ke2.wt ke2.inv (by omega)
          refine sq rfl (o_call Tryd.func39 rfl rfl rfl (.cons (.there (.there (.there (.there (.here))))) (.cons (.there (.there (.there (.there (.here))))) (.cons (.there (.there (.there (.there (.here))))) (.cons (.there (.there (.there (.there (.here))))) .nil)))) (fun w hw hA => f39_as b (kUp ss i ch lB) r4 (some ⟨gC, 0, none⟩) 24 24 (dat lC) (dat_length _) nofun (Nat.le_refl _) ke1 w (by assumption) (Gl.ofOld (A := dkR b (kUp ss i ch lB) r4) hG hw (.cons (.there (.there (.there (.there (.here))))) (.cons (.there (.there (.there (.there (.here))))) (.cons (.there (.there (.there (.there (.here))))) (.cons (.there (.there (.there (.there (.here))))) .nil))))) (RdS.ofOwn hw (.cons (.there (.there (.there (.there (.here))))) (.cons (.there (.there (.there (.there (.here))))) (.cons (.there (.there (.there (.there (.here))))) (.cons (.there (.there (.there (.there (.here))))) .nil)))) .here (RdC.ofBlk hw .here List.take_length) (fun b o h => by cases h; exact List.mem_singleton.2 rfl)) (kUp_ok ss hi5 ch lB) hr5) rfl (fun ⟨y6, r6⟩ hx6 => ?_))
          refine st (g_move rfl) rfl ?_
          refine st (g_extract rfl rfl) rfl ?_
          refine st (g_extract rfl rfl) rfl ?_
          refine sq rfl (o_alloc (zs := [U64 0#64, .slice none 0 0]) zr_73 rfl (fun b27 => ?_))
          refine sq rfl (o_storeA (cs' := [U64 (NB ((i + 1) + 1)), slv (dat lC).length y6]) sz_73 rfl rfl rfl (by simp [ldv]; exact ⟨rfl, rfl⟩) .here (Nat.le_of_ble_eq_true rfl) rfl ?_)
          refine st (g_assign rfl) rfl ?_
          refine done ?_
          refine th_n ?_
          refine seq ?_
          refine region ?_
          refine st (g_move rfl) rfl ?_
          refine sq rfl (o_call Tryd.func52 rfl rfl rfl (.cons (.there (.there (.here))) (.cons (.there (.there (.here))) (.cons (.there (.there (.here))) (.cons (.there (.there (.here))) .nil)))) (fun w hw hA => f52_as b (kEnd ss i ch lB lC) r6 le1 le2 le3 le4 w (by assumption) (Gl.ofOld (A := dkR b (kEnd ss i ch lB lC) r6) hG hw (.cons (.there (.there (.here))) (.cons (.there (.there (.here))) (.cons (.there (.there (.here))) (.cons (.there (.there (.here))) .nil))))) (kEnd_ok ss hi5 ch lB lC) hx6.2) rfl (fun y7 hy7 => ?_))
          refine st (g_move rfl) rfl ?_
          refine st (g_extract rfl rfl) rfl ?_
          refine st (g_extract rfl rfl) rfl ?_
          refine st (g_extract rfl rfl) rfl ?_
          refine sq rfl (o_alloc (zs := [U64 0#64, .slice none 0 0]) zr_73 rfl (fun b29 => ?_))
          refine sq rfl (o_storeA (cs' := [U64 (NB ((i + 1) + 1)), slv (dat lC).length y7]) sz_73 rfl rfl rfl (by simp; exact ⟨rfl, rfl⟩) .here (Nat.le_of_ble_eq_true rfl) rfl ?_)
          refine st (g_assign rfl) rfl ?_
          refine st (g_assign rfl) rfl ?_
          refine done ?_
          refine th_n ?_
          refine seq ?_
          refine regionL ⟨[_, _, _, _], [], []⟩ mixed (by decide +kernel) (.cons (.there (.there (.there (.there (.there (.there (.here))))))) (.cons (.there (.there (.there (.there (.there (.there (.there (.there (.there (.here)))))))))) (.cons .here (.cons (.there (.there (.there (.there (.there (.here)))))) .nil)))) .nil ?_
          refine An'.q 0 [] rfl (by decide +kernel) rfl rfl (g_move rfl) rfl ?_
          refine An'.q 1 [] rfl (by decide +kernel) rfl rfl (g_move rfl) rfl ?_
          refine An'.q 2 [] rfl (by decide +kernel) rfl rfl (g_move rfl) rfl ?_
          refine An'.q 3 [] rfl (by decide +kernel) rfl rfl (g_T rfl rfl rfl (rfl)) rfl ?_
          refine An'.q 4 [] rfl (by decide +kernel) rfl rfl (g_pickT rfl rfl) rfl ?_
          refine An'.q 5 [] rfl (by decide +kernel) rfl rfl (g_move rfl) rfl ?_
          refine An'.q 6 [] rfl (by decide +kernel) rfl rfl (g_move rfl) rfl ?_
          refine An'.q 7 [] rfl (by decide +kernel) rfl rfl (g_T rfl rfl rfl (rfl)) rfl ?_
          refine An'.q 8 [] rfl (by decide +kernel) rfl rfl (g_pickT rfl rfl) rfl ?_
          refine An'.q 9 [] rfl (by decide +kernel) rfl rfl (g_move rfl) rfl ?_
          refine An'.q 10 [] rfl (by decide +kernel) rfl rfl (g_fieldAddr fo_73_0 rfl rfl) rfl ?_
          refine An'.q 11 [] rfl (by decide +kernel) rfl rfl (g_load (v := U64 (NB ((i + 1) + 1))) sc_34 rfl (Cell.own .here rfl)) rfl ?_
          refine An'.q 12 [] rfl (by decide +kernel) rfl rfl (g_fieldAddr fo_73_0 rfl rfl) rfl ?_
          refine An'.q 13 [] rfl (by decide +kernel) rfl rfl (g_load (v := U64 (NB (i + 1))) sc_34 rfl (Cell.own (.there (.here)) rfl)) rfl ?_
          refine An'.q 14 [] rfl (by decide +kernel) rfl rfl (g_add64 (b := 1#64) rfl rfl) rfl ?_
          refine An'.q 15 [] rfl (by decide +kernel) rfl rfl (g_T rfl rfl rfl (by rw [NB_succ])) rfl ?_
          refine An'.q 16 [] rfl (by decide +kernel) rfl rfl (g_pickT rfl rfl) rfl ?_
          refine An'.q 17 [] rfl (by decide +kernel) rfl rfl (g_move rfl) rfl ?_
          refine An'.q 18 [] rfl (by decide +kernel) rfl rfl (g_loadA (vs := [U64 (NB ((i + 1) + 1)), slv (dat lC).length y6]) ag_73 rfl rfl (Cells.part .here rfl)) rfl ?_
          refine An'.q 19 [] rfl (by decide +kernel) rfl rfl (g_loadA (vs := [U64 (NB ((i + 1) + 1)), slv (dat lC).length y7]) ag_73 rfl rfl (Cells.part (.there (.there (.here))) rfl)) rfl ?_
          refine An'.oneG 20 (by decide +kernel) rfl rfl ?_
          refine o_callP Tryd.func49 rfl rfl rfl (fun w hw => f49_tt (NB ((i + 1) + 1)) (NB ((i + 1) + 1)) (dat lC) (dat lC) _ _ rfl rfl y6 y7 rfl rfl w (RdC.ofVec (hw.get (.there (.there (.there (.there (.there (.there (.there (.here)))))))))) (RdC.ofVec (hw.get (.there (.here))))) rfl ?_
          refine An'.on0 (.cons (.there (.there (.there (.there (.there (.there (.here))))))) (.cons (.there (.there (.there (.there (.there (.there (.there (.there (.there (.here)))))))))) (.cons .here (.cons (.there (.there (.there (.there (.there (.here)))))) .nil)))) .nil rfl ?_
          refine An'.q 21 [] rfl (by decide +kernel) rfl rfl (g_pickT rfl rfl) rfl ?_
          refine An'.q 22 [] rfl (by decide +kernel) rfl rfl (g_move rfl) rfl ?_
          refine An'.q 23 [] rfl (by decide +kernel) rfl rfl (g_fieldAddr fo_73_1 rfl rfl) rfl ?_
          refine An'.q 24 [] rfl (by decide +kernel) rfl rfl (g_load (v := slv (dat lC).length y6) sc_23 rfl (Cell.own .here rfl)) rfl ?_
          refine An'.q 25 [] rfl (by decide +kernel) rfl rfl (g_str (l := dat lC) by_23 str_9 rfl rfl (RdA.vec (.there (.there (.there (.here)))))) rfl ?_
          refine An'.q 26 [] rfl (by decide +kernel) rfl rfl (g_move rfl) rfl ?_
          refine An'.oneG 27 (by decide +kernel) rfl rfl ?_
          refine o_call Tryd.func55 rfl rfl rfl .nil (fun w hw hA => f55_spec pC nC cC lC hlC w (RdS.c (S := []) (RdS.ofOld (A := []) hrC.s hw .nil))) rfl (fun gF _ => ?_)
          refine An'.on0 (.cons (.there (.there (.there (.there (.there (.there (.there (.here)))))))) (.cons (.there (.there (.there (.there (.there (.there (.there (.there (.there (.there (.here))))))))))) (.cons (.there (.here)) (.cons (.there (.there (.there (.there (.there (.there (.here))))))) .nil)))) .nil rfl ?_
          refine An'.oneG 28 (by decide +kernel) rfl rfl ?_
          refine gv (g_str (l := dat lC) by_23 str_9 rfl (dat_length lC) (RdA.own .here (fun j v hj => by rw [Nat.zero_add]; exact hj))) rfl rfl ?_
          refine An'.on0 (.cons (.there (.there (.there (.there (.there (.there (.there (.here)))))))) (.cons (.there (.there (.there (.there (.there (.there (.there (.there (.there (.there (.here))))))))))) (.cons (.there (.here)) (.cons (.there (.there (.there (.there (.there (.there (.here))))))) .nil)))) .nil rfl ?_
          refine An'.q 29 [] rfl (by decide +kernel) rfl rfl (g_eqST rfl rfl (rfl)) rfl ?_
          refine An'.q 30 [] rfl (by decide +kernel) rfl rfl (g_pickT rfl rfl) rfl ?_
          refine An'.q 31 [] rfl (by decide +kernel) rfl rfl (g_assign rfl) rfl ?_
          refine An'.fin (by decide +kernel) ?_
          refine th_n ?_
          refine ret ?_
          exact ret1 rfl rfl rfl (fun w2 hw2 => ⟨rfl, hw2.clear⟩)

theorem f13_one_old (q : Option Addr) (c : Nat) (ss : List Sl) (ch : UInt8) (pB : Option Addr) (nB cB : Nat) (lB : List UInt8) (hlB : lB.length = nB) (hpB : pB = none → cB = 0) (hcB : nB ≤ cB) (pC : Option Addr) (nC cC : Nat) (lC : List UInt8) (hlC : lC.length = nC) (hpC : pC = none → cC = 0) (hcC : nC ≤ cC) (w : World) (hrq : RdC w q (ss.map Sl.v)) (hok : ∀ s ∈ ss, s.ok w) (hrB : RdC w pB (lB.map B8)) (hrC : RdC w pC (lC.map B8)) (hG : Gl w []) (hch : ¬ 60 ≤ ch.toNat) : Calls Tryd.prog 13 [.slice q ss.length c, .bool false, B8 ch, .slice pB nB cB, .slice pC nC cC].toArray w (fun en w2 => en = .returned (.bool true) ∧ Sat w [] [] w2) := by
  refine used hlB (used hpB (used hcB (used hlC (used hpC (used hcC (used hrq (used hok (used hrB (used hrC (used hG (used hch (?_))))))))))))
  refine enter (n := 192) Tryd.func13 rfl rfl rfl (Sat.refl w) ?_
  refine seq ?_
  refine region ?_
  refine st (g_assign rfl) rfl ?_
  refine done ?_
  refine th_n ?_
  refine seq ?_
  refine region ?_
  refine sq rfl (o_callP Tryd.func54 rfl rfl rfl (fun w hw => f54_spec w (Gl.ofOld (A := []) hG hw .nil)) rfl ?_)
  refine st (g_assign rfl) rfl ?_
  refine done ?_
  refine th_n ?_
  refine seq ?_
  refine seq ?_
  refine region ?_
  refine st (g_move rfl) rfl ?_
  refine st (g_len el_22 rfl) rfl ?_
  refine sp (g_bin rfl rfl rfl) rfl (fun h35 => ?_) (fun h35 => ?_)
  · refine st (g_move rfl) rfl ?_
    refine gf rfl rfl ?_
    refine gf rfl rfl ?_
    refine gf rfl rfl ?_
    refine st (g_pickT rfl rfl) rfl ?_
    refine st (g_move rfl) rfl ?_
    refine gf rfl rfl ?_
    refine gf rfl rfl ?_
    refine gf rfl rfl ?_
    refine st (g_pickT rfl rfl) rfl ?_
    refine st (g_move rfl) rfl ?_
    refine gf rfl rfl ?_
    refine gf rfl rfl ?_
    refine st (g_pickT rfl rfl) rfl ?_
    refine done ?_
    refine th_n ?_
    refine condT rfl ?_
    refine seq ?_
    refine region ?_
    refine st (g_move rfl) rfl ?_
    refine st (g_assign rfl) rfl ?_
    refine done ?_
    refine th_n ?_
    refine ret ?_
    refine th_r ?_
    exact ret1 rfl rfl rfl (fun w2 hw2 => ⟨rfl, hw2.clear⟩)
  · refine st (g_move rfl) rfl ?_
    refine gt rfl ?_
    refine st (g_move rfl) rfl ?_
    refine gt rfl ?_
    refine st (g_len el_23 rfl) rfl ?_
    refine gt rfl ?_
    refine sp (g_bin rfl rfl rfl) rfl (fun h39 => ?_) (fun h39 => ?_)
    · refine st (g_pickF rfl rfl) rfl ?_
      refine st (g_move rfl) rfl ?_
      refine gf rfl rfl ?_
      refine gf rfl rfl ?_
      refine gf rfl rfl ?_
      refine st (g_pickT rfl rfl) rfl ?_
      refine st (g_move rfl) rfl ?_
      refine gf rfl rfl ?_
      refine gf rfl rfl ?_
      refine st (g_pickT rfl rfl) rfl ?_
      refine done ?_
      refine th_n ?_
      refine condT rfl ?_
      refine seq ?_
      refine region ?_
      refine st (g_move rfl) rfl ?_
      refine st (g_assign rfl) rfl ?_
      refine done ?_
      refine th_n ?_
      refine ret ?_
      refine th_r ?_
      exact ret1 rfl rfl rfl (fun w2 hw2 => ⟨rfl, hw2.clear⟩)
    · refine st (g_pickF rfl rfl) rfl ?_
      refine st (g_move rfl) rfl ?_
      refine gt rfl ?_
      refine st (g_move rfl) rfl ?_
      refine gt rfl ?_
      refine st (g_len el_23 rfl) rfl ?_
      refine gt rfl ?_
      refine sp (g_bin rfl rfl rfl) rfl (fun h44 => ?_) (fun h44 => ?_)
      · refine st (g_pickF rfl rfl) rfl ?_
        refine st (g_move rfl) rfl ?_
        refine gf rfl rfl ?_
        refine gf rfl rfl ?_
        refine st (g_pickT rfl rfl) rfl ?_
        refine done ?_
        refine th_n ?_
        refine condT rfl ?_
        refine seq ?_
        refine region ?_
        refine st (g_move rfl) rfl ?_
        refine st (g_assign rfl) rfl ?_
        refine done ?_
        refine th_n ?_
        refine ret ?_
        refine th_r ?_
        exact ret1 rfl rfl rfl (fun w2 hw2 => ⟨rfl, hw2.clear⟩)
      · refine st (g_pickF rfl rfl) rfl ?_
        refine st (g_move rfl) rfl ?_
        refine gt rfl ?_
        refine st (g_move rfl) rfl ?_
        refine gt rfl ?_
        refine st (g_not rfl) rfl ?_
        refine st (g_pickF rfl rfl) rfl ?_
        refine done ?_
        refine th_n ?_
        refine condF rfl ?_
        refine skip ?_
        refine th_n ?_
        refine seq ?_
        refine region ?_
        refine sq rfl (o_call Tryd.func28 rfl rfl rfl .nil (fun w hw hA => f28_spec 2 1000 (by decide) (by decide) (by decide) w) rfl (fun ⟨b, r0⟩ hro0 => ?_))
        refine st (g_move rfl) rfl ?_
        refine st (g_extract rfl rfl) rfl ?_
        refine st (g_extract rfl rfl) rfl ?_
        refine st (g_assign rfl) rfl ?_
        refine st (g_assign rfl) rfl ?_
        refine done ?_
        refine th_n ?_
        refine seq ?_
        refine seq ?_
        refine region ?_
        refine st (g_move rfl) rfl ?_
        refine st (g_F rfl rfl rfl (by decide)) rfl ?_
        refine done ?_
        refine th_n ?_
        refine condF rfl ?_
        refine skip ?_
        refine th_n ?_
        refine seq ?_
        refine region ?_
        refine st (g_build rfl bu_73z) rfl ?_
        refine sq rfl (o_alloc (zs := [U64 0#64, .slice none 0 0]) zr_73 rfl (fun b14 => ?_))
        refine sq rfl (o_storeA (cs' := [U64 0#64, .slice none 0 0]) sz_73 rfl rfl rfl (by simp [Value.oneCell']) .here (Nat.le_of_ble_eq_true rfl) rfl ?_)
        refine done ?_
        refine th_n ?_
        refine seq ?_
        refine seq ?_
        refine At.up (fun w hw => new0_vec (T := 5) (s := 1) hw ⟨rfl, .inl ⟨rfl, rfl⟩⟩) ?_
        refine region ?_
        refine st (g_move rfl) rfl ?_
        refine st (g_len el_22 rfl) rfl ?_
        refine st (g_move rfl) rfl ?_
        refine done ?_
        refine th_n ?_
        refine block ?_
        refine loop (α := Nat × (Option Addr × Nat) × Rp) (fun ⟨i, y, r⟩ => i ≤ ss.length ∧ ldOk (cL ss i) y ∧ r.ok (cK ss i)) (fun ⟨i, y, r⟩ => [(0, .slice q ss.length c), (1, .bool false), (2, B8 ch), (3, .slice pB nB cB), (4, .slice pC nC cC), (11, .bool true), (12, .pointer (some ⟨b, 0, none⟩)), (14, .pointer (some ⟨b14, 0, none⟩)), (59, I64 (ss.length : Nat)), (60, I64 (i : Nat))]) (fun ⟨i, y, r⟩ => [dkB b (cK ss i) r, dkS (cK ss i) r, dkW (cK ss i) r, dkC (cK ss i) r, blk b14 73 (ldv (cL ss i) y), ldR (cL ss i) y]) (fun ⟨i, y, r⟩ => ss.length - i) (0, (none, 0), r0) ⟨Nat.zero_le _, ⟨fun _ => rfl, Nat.le_refl _⟩, hro0⟩ ⟨rfl, rfl, rfl, rfl, rfl, rfl, rfl, rfl, rfl, rfl, trivial⟩ (.cons (.there (.there (.here))) (.cons (.there (.there (.here))) (.cons (.there (.there (.here))) (.cons (.there (.there (.here))) (.cons (.there (.here)) (.cons .here .nil)))))) (fun ⟨i, y, r⟩ ⟨hI, hy, hro⟩ => ?_)
        refine seq ?_
        refine region ?_
        refine st (g_bin rfl rfl rfl) rfl ?_
        refine done ?_
        refine th_n ?_
        refine seq ?_
        refine condS rfl (fun h61 => ?_) (fun h61 => ?_)
        · try simp only [decide_eq_true_eq] at h61
          have hi : i < ss.length := by omega
          obtain ⟨s, hs⟩ : ∃ s, ss[i]? = some s := ⟨ss[i], by simp [hi]⟩
          obtain ⟨hsl, hsp, hsc, hsr⟩ := hok s (List.mem_of_getElem? hs)
          have hps : q.isSome = true := hrq.some (by intro h; simp at h; subst h; simp at hi)
          have hsv := get_slv hs
          have hsd := get_sl hs
          obtain ⟨_, _, _, _, hsave⟩ := cK_st ss i (by omega)
          rw [hsd] at hsave
          refine skip ?_
          refine th_n ?_
          refine seq ?_
          refine block ?_
          refine seq ?_
          refine region ?_
          refine st (g_move rfl) rfl ?_
          refine st (g_assign rfl) rfl ?_
          refine done ?_
          refine th_n ?_
          refine seq ?_
          refine seq ?_
          refine region ?_
          refine st (g_move rfl) rfl ?_
          refine st (g_move rfl) rfl ?_
          refine st (g_indexP (m := i) el_22 rfl rfl (hps) (by omega) (by omega) (by omega)) rfl ?_
          refine st (g_load (v := s.v) sc_23 rfl (Cell.rd (RdA.of hrq.s) hsv)) rfl ?_
          refine st (g_len el_23 rfl) rfl ?_
          refine st (g_bin rfl rfl rfl) rfl ?_
          refine done ?_
          refine th_n ?_
          refine condS rfl (fun h68 => ?_) (fun h68 => ?_)
          · try simp only [decide_eq_true_eq] at h68
            refine seq ?_
            refine region ?_
            refine st (g_move rfl) rfl ?_
            refine st (g_assign rfl) rfl ?_
            refine done ?_
            refine th_n ?_
            refine ret ?_
            refine th_r ?_
            refine ib_r ?_
            refine th_r ?_
            refine th_r ?_
            refine ib_r ?_
            refine th_r ?_
            exact ret1 rfl rfl rfl (fun w2 hw2 => ⟨rfl, hw2.clear⟩)
          · try simp only [decide_eq_false_iff_not] at h68
            refine skip ?_
            refine th_n ?_
            refine seq ?_
            refine region ?_
            refine st (g_move rfl) rfl ?_
            refine st (g_move rfl) rfl ?_
            refine st (g_move rfl) rfl ?_
            refine st (g_indexP (m := i) el_22 rfl rfl (hps) (by omega) (by omega) (by omega)) rfl ?_
            refine st (g_load (v := s.v) sc_23 rfl (Cell.rd (RdA.of hrq.s) hsv)) rfl ?_
            refine sq rfl (o_call Tryd.func55 rfl rfl rfl .nil (fun w hw hA => f55_spec s.p s.n s.c s.l hsl w (RdS.c (S := []) (RdS.ofOld (A := []) hsr.s hw .nil))) rfl (fun g _ => ?_))
            refine sq rfl (o_call Tryd.func39 rfl rfl rfl (.cons (.there (.here)) (.cons (.there (.here)) (.cons (.there (.here)) (.cons (.there (.here)) .nil)))) (fun w hw hA => f39_as b (cK ss i) r (some ⟨g, 0, none⟩) 24 24 (dat s.l) (dat_length _) nofun (Nat.le_refl _) hsave w (by assumption) (Gl.ofOld (A := dkR b (cK ss i) r) hG hw (.cons (.there (.here)) (.cons (.there (.here)) (.cons (.there (.here)) (.cons (.there (.here)) .nil))))) (RdS.ofOwn hw (.cons (.there (.here)) (.cons (.there (.here)) (.cons (.there (.here)) (.cons (.there (.here)) .nil)))) .here (RdC.ofBlk hw .here List.take_length) (fun b o h => by cases h; exact List.mem_singleton.2 rfl)) (cK_ok ss i) hro) rfl (fun ⟨y2, r2⟩ hx => ?_))
            refine st (g_move rfl) rfl ?_
            refine st (g_extract rfl rfl) rfl ?_
            refine st (g_extract rfl rfl) rfl ?_
            refine sq rfl (o_alloc (zs := [U64 0#64, .slice none 0 0]) zr_73 rfl (fun b16 => ?_))
            refine sq rfl (o_storeA (cs' := ldv (cL ss (i + 1)) y2) sz_73 rfl rfl rfl (by simp [ldv]; exact ⟨rfl, rfl⟩) .here (Nat.le_of_ble_eq_true rfl) rfl ?_)
            refine st (g_assign rfl) rfl ?_
            refine done ?_
            refine th_n ?_
            refine seq ?_
            refine seq ?_
            refine region ?_
            refine st (g_move rfl) rfl ?_
            refine st (g_F rfl rfl rfl (fun h => h rfl)) rfl ?_
            refine st (g_move rfl) rfl ?_
            refine gt rfl ?_
            refine st (g_fieldAddr fo_73_0 rfl rfl) rfl ?_
            refine gt rfl ?_
            refine st (g_load (v := U64 (NB (i + 1))) sc_34 rfl (Cell.own .here rfl)) rfl ?_
            refine gt rfl ?_
            refine st (g_fieldAddr fo_73_0 rfl rfl) rfl ?_
            refine gt rfl ?_
            refine st (g_load (v := U64 (NB i)) sc_34 rfl (Cell.own (.there (.there (.there (.there (.there (.there (.there (.here)))))))) rfl)) rfl ?_
            refine gt rfl ?_
            refine st (g_add64 (b := 1#64) rfl rfl) rfl ?_
            refine gt rfl ?_
            refine st (g_F rfl rfl rfl (by rw [NB_succ]; exact fun h => h rfl)) rfl ?_
            refine st (g_pickF rfl rfl) rfl ?_
            refine done ?_
            refine th_n ?_
            refine condF rfl ?_
            refine skip ?_
            refine th_n ?_
            refine region ?_
            refine st (g_loadA (vs := ldv (cL ss (i + 1)) y2) ag_73 rfl rfl (Cells.part .here rfl)) rfl ?_
            refine sq rfl (o_storeA (cs' := ldv (cL ss (i + 1)) y2) sz_73 rfl rfl rfl (by simp [ldv]; exact ⟨rfl, rfl⟩) (.there (.there (.there (.there (.there (.there (.there (.here)))))))) (Nat.le_of_ble_eq_true rfl) rfl ?_)
            refine done ?_
            refine ib_n ?_
            refine th_n ?_
            refine region ?_
            refine st (g_iadd (c := ((i + 1 : Nat) : Int)) rfl rfl (by omega) (by omega) (by omega)) rfl ?_
            refine st (g_move rfl) rfl ?_
            refine done ?_
            refine th_n ?_
            exact again (i + 1, y2, r2) ⟨by omega, hx⟩ (by show ss.length - (i + 1) < ss.length - i; omega) ⟨rfl, rfl, rfl, rfl, rfl, rfl, rfl, rfl, rfl, rfl, trivial⟩ (.cons (.there (.there (.there (.here)))) (.cons (.there (.there (.there (.here)))) (.cons (.there (.there (.there (.here)))) (.cons (.there (.there (.there (.here)))) (.cons .here (.cons (.there (.here)) .nil))))))
        · try simp only [decide_eq_false_iff_not] at h61
          have hie : i = ss.length := by omega
          have hi5 : i ≤ 500 := by omega
          refine exitc ?_
          refine th_x ?_
          refine th_x ?_
          refine ib_x ?_
          refine th_n ?_
          refine seq ?_
          refine region ?_
          refine st (g_assign rfl) rfl ?_
          refine done ?_
          refine th_n ?_
          refine seq ?_
          refine seq ?_
          refine region ?_
          refine st (g_move rfl) rfl ?_
          refine done ?_
          refine th_n ?_
          refine condF rfl ?_
          refine skip ?_
          refine th_n ?_
          refine seq ?_
          refine region ?_
          refine st (g_move rfl) rfl ?_
          refine st (g_move rfl) rfl ?_
          refine st (g_move rfl) rfl ?_
          refine sq rfl (o_buildSlice1 (vs := [B8 ch]) un_23 zr_5 sz_5 (by decide) (by decide) rfl rfl rfl (by simp [Value.oneCell']) rfl (fun b96 => ?_))
          refine sq rfl (o_call Tryd.func35 rfl rfl rfl (.cons (.there (.here)) (.cons (.there (.here)) (.cons (.there (.here)) (.cons (.there (.here)) .nil)))) (fun w hw hA => f35_as b (cK ss i) r 1 (by decide) (some ⟨b96, 0, none⟩) 1 1 [ch] rfl nofun (Nat.le_refl _) (by decide) (kArm_eq ss i (st := 1) (by decide) ch) w (by assumption) (RdS.ofOwn hw (.cons (.there (.here)) (.cons (.there (.here)) (.cons (.there (.here)) (.cons (.there (.here)) .nil)))) .here (RdC.ofBlk hw .here rfl) (fun b o h => by cases h; exact List.mem_singleton.2 rfl)) (cK_ok ss i) hro) rfl (fun r3 hr3 => ?_))
          refine st (g_assign rfl) rfl ?_
          refine done ?_
          refine th_n ?_
          refine seq ?_
          refine region ?_
          refine st (g_move rfl) rfl ?_
          refine st (g_move rfl) rfl ?_
          refine sq rfl (o_call Tryd.func55 rfl rfl rfl .nil (fun w hw hA => f55_spec pB nB cB lB hlB w (RdS.c (S := []) (RdS.ofOld (A := []) hrB.s hw .nil))) rfl (fun gB _ => ?_))
          refine sq rfl (o_call Tryd.func39 rfl rfl rfl (.cons (.there (.here)) (.cons (.there (.here)) (.cons (.there (.here)) (.cons (.there (.here)) .nil)))) (fun w hw hA => f39_as b (kArm ss i 1 ch) r3 (some ⟨gB, 0, none⟩) 24 24 (dat lB) (dat_length _) nofun (Nat.le_refl _) (kDown_eq ss hi5 (by decide) ch lB) w (by assumption) (Gl.ofOld (A := dkR b (kArm ss i 1 ch) r3) hG hw (.cons (.there (.here)) (.cons (.there (.here)) (.cons (.there (.here)) (.cons (.there (.here)) .nil))))) (RdS.ofOwn hw (.cons (.there (.here)) (.cons (.there (.here)) (.cons (.there (.here)) (.cons (.there (.here)) .nil)))) .here (RdC.ofBlk hw .here List.take_length) (fun b o h => by cases h; exact List.mem_singleton.2 rfl)) (kArm_ok ss i (by decide) (by decide) ch) hr3) rfl (fun ⟨y4, r4⟩ hx4 => ?_))
          refine st (g_move rfl) rfl ?_
          refine st (g_extract rfl rfl) rfl ?_
          refine st (g_extract rfl rfl) rfl ?_
          refine sq rfl (o_alloc (zs := [U64 0#64, .slice none 0 0]) zr_73 rfl (fun b20 => ?_))
          refine sq rfl (o_storeA (cs' := ldv (Ld.err 171) y4) sz_73 rfl rfl rfl (by simp [ldv]; exact ⟨rfl, rfl⟩) .here (Nat.le_of_ble_eq_true rfl) rfl ?_)
          refine st (g_assign rfl) rfl ?_
          refine done ?_
          refine th_n ?_
          refine seq ?_
          refine region ?_
          refine st (g_move rfl) rfl ?_
          refine sq rfl (o_call Tryd.func37 rfl rfl rfl (.cons (.there (.there (.here))) .nil) (fun w hw hA => f37_spec b (kDown ss i ch lB) (kDown_ok ss hi5 ch lB) r4 w (by assumption)) rfl (fun _ _ => ?_))
          have hr5 : r4.ok (kUp ss i ch lB) := ⟨hx4.2.w0, hx4.2.w1, hx4.2.c0, hx4.2.c1⟩
          refine done ?_
          refine th_n ?_
          refine seq ?_
          refine region ?_
          refine st (g_move rfl) rfl ?_
          obtain ⟨ld1, ld2, ld3, ld4⟩ := inv_load rfl rfl (kUp_old ss hi5 hch lB).inv (by omega)
          refine sq rfl (o_call Tryd.func52 rfl rfl rfl (.cons .here (.cons (.there (.there (.here))) (.cons (.there (.there (.here))) (.cons (.there (.there (.here))) .nil)))) (fun w hw hA => f52_as b (kUp ss i ch lB) r4 ld1 ld2 ld3 ld4 w (by assumption) (Gl.ofOld (A := dkR b (kUp ss i ch lB) r4) hG hw (.cons .here (.cons (.there (.there (.here))) (.cons (.there (.there (.here))) (.cons (.there (.there (.here))) .nil))))) (kUp_ok ss hi5 ch lB) hr5) rfl (fun y5 hy5 => ?_))
          refine st (g_move rfl) rfl ?_
          refine st (g_extract rfl rfl) rfl ?_
          refine st (g_extract rfl rfl) rfl ?_
          refine st (g_extract rfl rfl) rfl ?_
          refine sq rfl (o_alloc (zs := [U64 0#64, .slice none 0 0]) zr_73 rfl (fun b22 => ?_))
          refine sq rfl (o_storeA (cs' := [U64 (NB i), slv (cD ss i).length y5]) sz_73 rfl rfl rfl (by simp; exact ⟨rfl, rfl⟩) .here (Nat.le_of_ble_eq_true rfl) rfl ?_)
          refine st (g_assign rfl) rfl ?_
          refine st (g_assign rfl) rfl ?_
          refine done ?_
          refine th_n ?_
          refine seq ?_
          refine seq ?_
          refine region ?_
          refine st (g_move rfl) rfl ?_
          refine st (g_F rfl rfl rfl (fun h => h rfl)) rfl ?_
          refine st (g_move rfl) rfl ?_
          refine gt rfl ?_
          refine st (g_move rfl) rfl ?_
          refine gt rfl ?_
          refine st (g_F rfl rfl rfl (by decide)) rfl ?_
          refine st (g_pickF rfl rfl) rfl ?_
          refine st (g_move rfl) rfl ?_
          refine gt rfl ?_
          refine st (g_move rfl) rfl ?_
          refine gt rfl ?_
          refine st (g_F rfl rfl rfl (by decide)) rfl ?_
          refine st (g_pickF rfl rfl) rfl ?_
          refine done ?_
          refine th_n ?_
          refine condF rfl ?_
          refine skip ?_
          refine th_n ?_
          refine seq ?_
          refine region ?_
          refine st (g_loadA (vs := [U64 (NB i), slv (cD ss i).length y5]) ag_73 rfl rfl (Cells.part .here rfl)) rfl ?_
          refine st (g_loadA (vs := ldv (cL ss i) y) ag_73 rfl rfl (Cells.part (.there (.there (.there (.there (.there (.there (.there (.there (.there (.there (.here))))))))))) rfl)) rfl ?_
          refine sq rfl (o_callP Tryd.func49 rfl rfl rfl (fun w hw => f49_tt (NB i) (NB i) (cD ss i) (cD ss i) _ _ rfl rfl y5 y rfl rfl w (RdC.ofVec (hw.get (.there (.here)))) (RdC.ofVec (hw.get (.there (.there (.there (.there (.there (.there (.there (.there (.there (.there (.there (.here))))))))))))))) rfl ?_)
          refine st (g_assign rfl) rfl ?_
          refine done ?_
          refine th_n ?_
          refine seq ?_
          refine regionL ⟨[_, _], [], []⟩ mixed (by decide +kernel) (.cons .here (.cons (.there (.there (.there (.there (.there (.there (.there (.there (.there (.here)))))))))) .nil)) .nil ?_
          refine An'.q 0 [] rfl (by decide +kernel) rfl rfl (g_loadA (vs := [U64 (NB i), slv (cD ss i).length y5]) ag_73 rfl rfl (Cells.part .here rfl)) rfl ?_
          refine An'.q 1 [] rfl (by decide +kernel) rfl rfl (g_fieldAddr fo_73_0 rfl rfl) rfl ?_
          refine An'.q 2 [] rfl (by decide +kernel) rfl rfl (g_load (v := U64 (NB i)) sc_34 rfl (Cell.own (.there (.here)) rfl)) rfl ?_
          refine An'.q 3 [] rfl (by decide +kernel) rfl rfl (g_add64 (b := 1#64) rfl rfl) rfl ?_
          refine An'.q 4 [] rfl (by decide +kernel) rfl rfl (g_move rfl) rfl ?_
          refine An'.oneG 5 (by decide +kernel) rfl rfl ?_
          refine o_call Tryd.func55 rfl rfl rfl .nil (fun w hw hA => f55_spec pB nB cB lB hlB w (RdS.c (S := []) (RdS.ofOld (A := []) hrB.s hw .nil))) rfl (fun gD _ => ?_)
          refine An'.on0 (.cons (.there (.here)) (.cons (.there (.there (.there (.there (.there (.there (.there (.there (.there (.there (.here))))))))))) .nil)) .nil rfl ?_
          refine An'.q 6 [] rfl (by decide +kernel) rfl rfl (g_build rfl (bu_73 _ _ rfl)) rfl ?_
          refine An'.oneG 7 (by decide +kernel) rfl rfl ?_
          refine o_callP Tryd.func49 rfl rfl rfl (fun w hw => f49_as (NB i) (NB i + 1#64) (cD ss i) (dat lB) _ _ rfl (dat_length lB) y5 (some ⟨gD, 0, none⟩, 24) w (RdC.ofVec (hw.get (.there (.there (.here))))) (RdC.ofBlk hw .here List.take_length)) rfl ?_
          refine An'.on0 (.cons (.there (.here)) (.cons (.there (.there (.there (.there (.there (.there (.there (.there (.there (.there (.here))))))))))) .nil)) .nil rfl ?_
          refine An'.q 8 [] rfl (by decide +kernel) rfl rfl (g_assign rfl) rfl ?_
          refine An'.fin (by decide +kernel) ?_
          refine th_n ?_
          refine seq ?_
          refine seq ?_
          refine region ?_
          refine st (g_move rfl) rfl ?_
          refine st (g_F rfl rfl rfl (by omega)) rfl ?_
          refine st (g_move rfl) rfl ?_
          refine gf rfl rfl ?_
          refine gf rfl rfl ?_
          refine st (g_pickF rfl rfl) rfl ?_
          refine st (g_move rfl) rfl ?_
          refine gt rfl ?_
          refine st (g_move rfl) rfl ?_
          refine gt rfl ?_
          refine st (g_T rfl rfl rfl (by omega)) rfl ?_
          refine gt rfl ?_
          refine st (g_move rfl) rfl ?_
          refine gt rfl ?_
          refine st (g_move rfl) rfl ?_
          refine gt rfl ?_
          refine st (g_not rfl) rfl ?_
          refine gt rfl ?_
          refine st (g_pickT rfl rfl) rfl ?_
          refine st (g_pickF rfl rfl) rfl ?_
          refine done ?_
          refine th_n ?_
          refine condF rfl ?_
          refine skip ?_
          refine th_n ?_
          refine seq ?_
          refine region ?_
          refine st (g_move rfl) rfl ?_
          refine st (g_move rfl) rfl ?_
          refine sq rfl (o_call Tryd.func55 rfl rfl rfl .nil (fun w hw hA => f55_spec pC nC cC lC hlC w (RdS.c (S := []) (RdS.ofOld (A := []) hrC.s hw .nil))) rfl (fun gC _ => ?_))
          obtain ⟨ke1, ke2, ke3⟩ := kEnd_eq ss hi5 ch lB lC (by omega) (kUp_old ss hi5 hch lB)
          obtain ⟨le1, le2, le3, le4⟩ := inv_load ke3 ke2.wt ke2.inv (by omega)
          refine sq rfl (o_call Tryd.func39 rfl rfl rfl (.cons (.there (.there (.there (.there (.here))))) (.cons (.there (.there (.there (.there (.here))))) (.cons (.there (.there (.there (.there (.here))))) (.cons (.there (.there (.there (.there (.here))))) .nil)))) (fun w hw hA => f39_as b (kUp ss i ch lB) r4 (some ⟨gC, 0, none⟩) 24 24 (dat lC) (dat_length _) nofun (Nat.le_refl _) ke1 w (by assumption) (Gl.ofOld (A := dkR b (kUp ss i ch lB) r4) hG hw (.cons (.there (.there (.there (.there (.here))))) (.cons (.there (.there (.there (.there (.here))))) (.cons (.there (.there (.there (.there (.here))))) (.cons (.there (.there (.there (.there (.here))))) .nil))))) (RdS.ofOwn hw (.cons (.there (.there (.there (.there (.here))))) (.cons (.there (.there (.there (.there (.here))))) (.cons (.there (.there (.there (.there (.here))))) (.cons (.there (.there (.there (.there (.here))))) .nil)))) .here (RdC.ofBlk hw .here List.take_length) (fun b o h => by cases h; exact List.mem_singleton.2 rfl)) (kUp_ok ss hi5 ch lB) hr5) rfl (fun ⟨y6, r6⟩ hx6 => ?_))
          refine st (g_move rfl) rfl ?_
          refine st (g_extract rfl rfl) rfl ?_
          refine st (g_extract rfl rfl) rfl ?_
          refine sq rfl (o_alloc (zs := [U64 0#64, .slice none 0 0]) zr_73 rfl (fun b27 => ?_))
          refine sq rfl (o_storeA (cs' := [U64 (NB (i + 1)), slv (dat lC).length y6]) sz_73 rfl rfl rfl (by simp [ldv]; exact ⟨rfl, rfl⟩) .here (Nat.le_of_ble_eq_true rfl) rfl ?_)
          refine st (g_assign rfl) rfl ?_
          refine done ?_
          refine th_n ?_
          refine seq ?_
          refine region ?_
          refine st (g_move rfl) rfl ?_
          refine sq rfl (o_call Tryd.func52 rfl rfl rfl (.cons (.there (.there (.here))) (.cons (.there (.there (.here))) (.cons (.there (.there (.here))) (.cons (.there (.there (.here))) .nil)))) (fun w hw hA => f52_as b (kEnd ss i ch lB lC) r6 le1 le2 le3 le4 w (by assumption) (Gl.ofOld (A := dkR b (kEnd ss i ch lB lC) r6) hG hw (.cons (.there (.there (.here))) (.cons (.there (.there (.here))) (.cons (.there (.there (.here))) (.cons (.there (.there (.here))) .nil))))) (kEnd_ok ss hi5 ch lB lC) hx6.2) rfl (fun y7 hy7 => ?_))
          refine st (g_move rfl) rfl ?_
          refine st (g_extract rfl rfl) rfl ?_
          refine st (g_extract rfl rfl) rfl ?_
          refine st (g_extract rfl rfl) rfl ?_
          refine sq rfl (o_alloc (zs := [U64 0#64, .slice none 0 0]) zr_73 rfl (fun b29 => ?_))
          refine sq rfl (o_storeA (cs' := [U64 (NB (i + 1)), slv (dat lC).length y7]) sz_73 rfl rfl rfl (by simp; exact ⟨rfl, rfl⟩) .here (Nat.le_of_ble_eq_true rfl) rfl ?_)
          refine st (g_assign rfl) rfl ?_
          refine st (g_assign rfl) rfl ?_
          refine done ?_
          refine th_n ?_
          refine seq ?_
          refine regionL ⟨[_, _, _, _], [], []⟩ mixed (by decide +kernel) (.cons (.there (.there (.there (.there (.there (.there (.here))))))) (.cons (.there (.there (.there (.there (.there (.there (.there (.there (.there (.here)))))))))) (.cons .here (.cons (.there (.there (.there (.there (.there (.here)))))) .nil)))) .nil ?_
          refine An'.q 0 [] rfl (by decide +kernel) rfl rfl (g_move rfl) rfl ?_
          refine An'.q 1 [] rfl (by decide +kernel) rfl rfl (g_move rfl) rfl ?_
          refine An'.q 2 [] rfl (by decide +kernel) rfl rfl (g_move rfl) rfl ?_
          refine An'.q 3 [] rfl (by decide +kernel) rfl rfl (g_T rfl rfl rfl (rfl)) rfl ?_
          refine An'.q 4 [] rfl (by decide +kernel) rfl rfl (g_pickT rfl rfl) rfl ?_
          refine An'.q 5 [] rfl (by decide +kernel) rfl rfl (g_move rfl) rfl ?_
          refine An'.q 6 [] rfl (by decide +kernel) rfl rfl (g_move rfl) rfl ?_
          refine An'.q 7 [] rfl (by decide +kernel) rfl rfl (g_T rfl rfl rfl (rfl)) rfl ?_
          refine An'.q 8 [] rfl (by decide +kernel) rfl rfl (g_pickT rfl rfl) rfl ?_
          refine An'.q 9 [] rfl (by decide +kernel) rfl rfl (g_move rfl) rfl ?_
          refine An'.q 10 [] rfl (by decide +kernel) rfl rfl (g_fieldAddr fo_73_0 rfl rfl) rfl ?_
          refine An'.q 11 [] rfl (by decide +kernel) rfl rfl (g_load (v := U64 (NB (i + 1))) sc_34 rfl (Cell.own .here rfl)) rfl ?_
          refine An'.q 12 [] rfl (by decide +kernel) rfl rfl (g_fieldAddr fo_73_0 rfl rfl) rfl ?_
          refine An'.q 13 [] rfl (by decide +kernel) rfl rfl (g_load (v := U64 (NB i)) sc_34 rfl (Cell.own (.there (.here)) rfl)) rfl ?_
          refine An'.q 14 [] rfl (by decide +kernel) rfl rfl (g_add64 (b := 1#64) rfl rfl) rfl ?_
          refine An'.q 15 [] rfl (by decide +kernel) rfl rfl (g_T rfl rfl rfl (by rw [NB_succ])) rfl ?_
          refine An'.q 16 [] rfl (by decide +kernel) rfl rfl (g_pickT rfl rfl) rfl ?_
          refine An'.q 17 [] rfl (by decide +kernel) rfl rfl (g_move rfl) rfl ?_
          refine An'.q 18 [] rfl (by decide +kernel) rfl rfl (g_loadA (vs := [U64 (NB (i + 1)), slv (dat lC).length y6]) ag_73 rfl rfl (Cells.part .here rfl)) rfl ?_
          refine An'.q 19 [] rfl (by decide +kernel) rfl rfl (g_loadA (vs := [U64 (NB (i + 1)), slv (dat lC).length y7]) ag_73 rfl rfl (Cells.part (.there (.there (.here))) rfl)) rfl ?_
          refine An'.oneG 20 (by decide +kernel) rfl rfl ?_
          refine o_callP Tryd.func49 rfl rfl rfl (fun w hw => f49_tt (NB (i + 1)) (NB (i + 1)) (dat lC) (dat lC) _ _ rfl rfl y6 y7 rfl rfl w (RdC.ofVec (hw.get (.there (.there (.there (.there (.there (.there (.there (.here)))))))))) (RdC.ofVec (hw.get (.there (.here))))) rfl ?_
          refine An'.on0 (.cons (.there (.there (.there (.there (.there (.there (.here))))))) (.cons (.there (.there (.there (.there (.there (.there (.there (.there (.there (.here)))))))))) (.cons .here (.cons (.there (.there (.there (.there (.there (.here)))))) .nil)))) .nil rfl ?_
          refine An'.q 21 [] rfl (by decide +kernel) rfl rfl (g_pickT rfl rfl) rfl ?_
          refine An'.q 22 [] rfl (by decide +kernel) rfl rfl (g_move rfl) rfl ?_
          refine An'.q 23 [] rfl (by decide +kernel) rfl rfl (g_fieldAddr fo_73_1 rfl rfl) rfl ?_
          refine An'.q 24 [] rfl (by decide +kernel) rfl rfl (g_load (v := slv (dat lC).length y6) sc_23 rfl (Cell.own .here rfl)) rfl ?_
          refine An'.q 25 [] rfl (by decide +kernel) rfl rfl (g_str (l := dat lC) by_23 str_9 rfl rfl (RdA.vec (.there (.there (.there (.here)))))) rfl ?_
          refine An'.q 26 [] rfl (by decide +kernel) rfl rfl (g_move rfl) rfl ?_
          refine An'.oneG 27 (by decide +kernel) rfl rfl ?_
          refine o_call Tryd.func55 rfl rfl rfl .nil (fun w hw hA => f55_spec pC nC cC lC hlC w (RdS.c (S := []) (RdS.ofOld (A := []) hrC.s hw .nil))) rfl (fun gF _ => ?_)
          refine An'.on0 (.cons (.there (.there (.there (.there (.there (.there (.there (.here)))))))) (.cons (.there (.there (.there (.there (.there (.there (.there (.there (.there (.there (.here))))))))))) (.cons (.there (.here)) (.cons (.there (.there (.there (.there (.there (.there (.here))))))) .nil)))) .nil rfl ?_
          refine An'.oneG 28 (by decide +kernel) rfl rfl ?_
          refine gv (g_str (l := dat lC) by_23 str_9 rfl (dat_length lC) (RdA.own .here (fun j v hj => by rw [Nat.zero_add]; exact hj))) rfl rfl ?_
          refine An'.on0 (.cons (.there (.there (.there (.there (.there (.there (.there (.here)))))))) (.cons (.there (.there (.there (.there (.there (.there (.there (.there (.there (.there (.here))))))))))) (.cons (.there (.here)) (.cons (.there (.there (.there (.there (.there (.there (.here))))))) .nil)))) .nil rfl ?_
          refine An'.q 29 [] rfl (by decide +kernel) rfl rfl (g_eqST rfl rfl (rfl)) rfl ?_
          refine An'.q 30 [] rfl (by decide +kernel) rfl rfl (g_pickT rfl rfl) rfl ?_
          refine An'.q 31 [] rfl (by decide +kernel) rfl rfl (g_assign rfl) rfl ?_
          refine An'.fin (by decide +kernel) ?_
          refine th_n ?_
          refine ret ?_
          exact ret1 rfl rfl rfl (fun w2 hw2 => ⟨rfl, hw2.clear⟩)

theorem f13_spec (q : Option Addr) (c : Nat) (ss : List Sl) (fl : Bool) (ch : UInt8) (pB : Option Addr) (nB cB : Nat) (lB : List UInt8) (hlB : lB.length = nB) (hpB : pB = none → cB = 0) (hcB : nB ≤ cB) (pC : Option Addr) (nC cC : Nat) (lC : List UInt8) (hlC : lC.length = nC) (hpC : pC = none → cC = 0) (hcC : nC ≤ cC) (w : World) (hrq : RdC w q (ss.map Sl.v)) (hok : ∀ s ∈ ss, s.ok w) (hrB : RdC w pB (lB.map B8)) (hrC : RdC w pC (lC.map B8)) (hG : Gl w []) : Calls Tryd.prog 13 [.slice q ss.length c, .bool fl, B8 ch, .slice pB nB cB, .slice pC nC cC].toArray w (fun en w2 => en = .returned (.bool true) ∧ Sat w [] [] w2) := by
  cases fl <;> by_cases hch : 60 ≤ ch.toNat
  · exact f13_one_new q c ss ch pB nB cB lB hlB hpB hcB pC nC cC lC hlC hpC hcC w hrq hok hrB hrC hG hch
  · exact f13_one_old q c ss ch pB nB cB lB hlB hpB hcB pC nC cC lC hlC hpC hcC w hrq hok hrB hrC hG hch
  · exact f13_two_new q c ss ch pB nB cB lB hlB hpB hcB pC nC cC lC hlC hpC hcC w hrq hok hrB hrC hG hch
  · exact f13_two_old q c ss ch pB nB cB lB hlB hpB hcB pC nC cC lC hlC hpC hcC w hrq hok hrB hrC hG hch
end Go.Proofs.YtokhediaibdkjaaDoor

/-! From C13 -/
/- The law SlotCrash: its row and its card. (printed by genC.py) -/
namespace Go.Proofs.YtokhediaibdkjaaDoor
set_option maxRecDepth 100000
open Go.Pm Go.ChangeShapes Go.WideShapes Go.ChangeAt Go.RowKit

theorem slotCrash_contract (H : Type) (enc : TypeId × Value → H) (W : World) (base : Nat) (args : Array Value) (ds gs : List (DataW H)) (before : List MemPlace)
    (hval : ∀ (j : Nat) t v, Tryd.f13.params[j]? = some t → args[j]? = some v → Value.okWide Tryd.prog W .any base t v)
    (hW : DataW.Whole enc Tryd.prog Tryd.f13.params.toList Rows.slotCrashSpec.vars false W args.toList ds gs before) (hL : laidMetH Tryd.prog Rows.slotCrashRow.laid W) :
    Calls Tryd.prog 13 args W fun e W' => ∃ v, e = .returned v ∧ Rows.slotCrashSpec.post enc Tryd.prog Tryd.f13 false true false false W args v W' := by
  have hG : Gl W [] := gl_of_laid (.tail _ (.head _)) (.tail _ (.tail _ (.head _))) (show laidMet Tryd.prog Rows.slotCrashRow.laid W from hL)
  have hW' := hW
  obtain ⟨p, q, hA0, hV, rfl, hfz, hnd⟩ := hW
  have hAll : DataW.TrodAll enc Tryd.prog W 0 (fun _ => true) true Tryd.f13.params.toList args.toList ds p := hA0
  rw [Tryd.params13] at hAll hval
  obtain ⟨rfl, rfl⟩ := trodVars_none hV
  obtain ⟨vl, vs0, dl, ds0, pl0, q0, hv0, rfl, rfl, hl, hAll⟩ := trodAll_cons hAll
  obtain ⟨vf, vs1, df, ds1, pf0, q1, hv1, rfl, rfl, hf, hAll⟩ := trodAll_cons hAll
  obtain ⟨vg, vs2, dg, ds2, pg0, q2, hv2, rfl, rfl, hg, hAll⟩ := trodAll_cons hAll
  obtain ⟨vB, vs3, dB, ds3, pB0, q3, hv3, rfl, rfl, hB, hAll⟩ := trodAll_cons hAll
  obtain ⟨vC, vs4, dC, ds4, pC0, q4, hv4, rfl, rfl, hC, hAll⟩ := trodAll_cons hAll
  obtain ⟨rfl, rfl, rfl⟩ := trodAll_nil hAll
  obtain rfl : args = #[vl, vf, vg, vB, vC] := by cases args; simp_all
  obtain ⟨pl, cl, ssl, rfl, hpl, hcl, hml, hrl, hkl⟩ := open_slices (hval 0 22 _ rfl rfl) hl
  obtain ⟨f, rfl, rfl, rfl⟩ := open_bool un_4 (hval 1 4 _ rfl rfl) hf
  obtain ⟨g, rfl, rfl, rfl, wfg⟩ := open_int un_5 (hval 2 5 _ rfl rfl) hg
  obtain ⟨pB, nB, cB, lB, rfl, hlB, hpB, hcB, hmB, hrB⟩ := open_bytes (hval 3 23 _ rfl rfl) hB
  obtain ⟨pC, nC, cC, lC, rfl, hlC, hpC, hcC, hmC, hrC⟩ := open_bytes (hval 4 23 _ rfl rfl) hC
  clear hA0
  refine Calls.mono (R := fun e W' => e = .returned (.bool true) ∧ Sat W [] [] W') ?_ ?_
  · obtain ⟨G, rfl⟩ := u8_of wfg
    exact f13_spec pl cl ssl f G pB nB cB lB hlB hpB hcB pC nC cC lC hlC hpC hcC W hrl hkl hrB hrC hG
  · rintro e W' ⟨rfl, hs⟩
    exact ⟨_, rfl, law_post hW' (by kernel_rfl) rfl ⟨rfl, rfl, rfl⟩ (by rw [Tryd.params13]; decide +kernel) hs.below⟩

noncomputable def slotCrash_world (os : Os) : World :=
  { World.holding Tryd.prog os ⟨#[], #[], []⟩ with heap := ((((World.holding Tryd.prog os ⟨#[], #[], []⟩).heap.modify 0 (layTab ((first224 ++ first256).map U32))).modify 1 (layTab (cubesL.map U32))).modify 2 (layTab (Go.Pinned.utf8FirstZ.map fun n : Nat => Value.int .u8 (n : Int)))).modify 3 (layTab (([128, 191, 160, 191, 128, 159, 144, 191, 128, 143] ++ List.replicate 22 0).map fun n : Nat => Value.int .u8 (n : Int))) }
theorem slotCrash_laid (os : Os) : laidMet Tryd.prog Rows.slotCrashRow.laid ((slotCrash_world os).forCall (fun _ _ => 0) ⟨#[], #[.slice none 0 0, .bool false, .int .u8 0, .slice none 0 0, .slice none 0 0], []⟩).memory :=
  laidMet_of_run' 8 (by kernel_rfl) (by kernel_rfl)
theorem slotCrash_reads (os : Os) {H : Type} (enc : TypeId × Value → H) : ∃ places, DataW.whole enc Tryd.prog ((slotCrash_world os).forCall (fun _ _ => 0) ⟨#[], #[.slice none 0 0, .bool false, .int .u8 0, .slice none 0 0, .slice none 0 0], []⟩).memory Tryd.f13.params.toList Rows.slotCrashSpec.vars false (#[.slice none 0 0, .bool false, .int .u8 0, .slice none 0 0, .slice none 0 0] : Array Value).toList 8 = some ([.nil, .lit (.bool false), .lit (.int .u8 0), .nil, .nil], [], places) :=
  ⟨[], by kernel_rfl⟩

theorem slotCrash_lifted (os : Os) (started : os.Started) (H : Type) (enc : TypeId × Value → H) (F : Stop.Interp) :
    ReturnsInHanded {} Tryd.checked os 13 .any ((OpenSpec.ofChange Rows.slotCrashSpec).preRow enc Tryd.prog Tryd.f13 Rows.slotCrashRow.domain false Rows.slotCrashRow.laid) (((OpenSpec.ofChange Rows.slotCrashSpec).at F).post enc Tryd.prog Tryd.f13 false true false false) := by
  obtain ⟨places, hx⟩ := slotCrash_reads os enc
  refine returnsInHanded_of_row (C := Tryd.checked) (s := OpenSpec.ofChange Rows.slotCrashSpec) own started (by kernel_rfl) Tryd.func13
    (witness_row_at (enc := enc) (C := Tryd.checked) false (slotCrash_world os) #[.slice none 0 0, .bool false, .int .u8 0, .slice none 0 0, .slice none 0 0] rfl (by kernel_rfl) (by kernel_rfl) (by kernel_rfl)
      (OpenSpec.preRow_of_cond 8 hx (by kernel_rfl) (fun k hk => by cases hk) (by kernel_rfl) (slotCrash_laid os))) ?_
  intro W base args ds gs before hval hW _ _ _ hL _ _
  exact slotCrash_contract H enc W base args ds gs before hval hW hL

theorem slotCrash_said : Rows.SlotCrashSaid :=
  OpenClaim.holds_of_cond 13 Tryd.f13 rfl rfl rfl rfl rfl rfl rfl ⟨rfl, rfl, rfl, rfl, rfl⟩ rfl rfl rfl rfl rfl (by kernel_rfl) Tryd.func13 (by kernel_rfl)
    (of_decide_eq_true (by kernel_rfl)) (by unfold Func.isWrapper; first | (rw [if_pos (by decide +kernel)]; kernel_rfl) | (rw [if_neg (by decide +kernel)]; exact ⟨rfl, rfl⟩))
    (fun os started H enc _ F => by rw [OpenClaim.pre_eq_preRow]; exact slotCrash_lifted os started H enc F)

theorem slotCrash_plain (f : FuncId) (fn : Func) (hf : Tryd.pinned.checked.prog.funcNamed "postmark/postmarklaw18.SlotCrash" = some f) (hfn : Tryd.pinned.checked.prog.funcs[f]? = some fn) :
    false = Tryd.pinned.checked.prog.looks [] ∧ ∀ (j : Nat) t, fn.params[j]? = some t → Tryd.pinned.checked.prog.wantsStandIn t = false := by
  obtain rfl : f = 13 := Option.some.inj ((show Tryd.prog.funcNamed "postmark/postmarklaw18.SlotCrash" = some 13 by kernel_rfl).symm.trans hf) |>.symm
  obtain rfl : fn = Tryd.f13 := (Option.some.inj (Tryd.func13.symm.trans hfn)).symm
  refine ⟨by kernel_rfl, fun j t ht => ?_⟩
  rw [Tryd.params13] at ht
  have h : ∀ u ∈ ([22, 4, 5, 23, 23] : List Nat), Tryd.prog.wantsStandIn u = false := by decide +kernel
  exact h t (by have := Array.mem_of_getElem? ht; simpa using this)

/-- The card. -/
theorem slotCrash_card : Rows.SlotCrashCardSaid :=
  Claim7.holds_tied_plain_at .later [] _ _ _ _ slotCrash_said (fun _ h => by cases h) (by kernel_rfl) (fun _ h => by cases h) slotCrash_row_tie rfl ⟨rfl, rfl⟩ (by kernel_rfl) rfl slotCrash_plain (by kernel_rfl)
end Go.Proofs.YtokhediaibdkjaaDoor
