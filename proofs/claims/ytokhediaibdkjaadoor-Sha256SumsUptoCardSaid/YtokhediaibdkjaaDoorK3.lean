/- The proof's texts, merged: C0 C1 CB H7 L3 CU. -/
import Derived.Test.YtokhediaibdkjaaDoorMB
import Derived.Test.YtokhediaibdkjaaDoorCards
import Derived.Test.YtokhediaibdkjaaDoorTie
import Derived.WalkKit
import Derived.ProofKit
import Derived.OpenShut
import Derived.Deep.DeepHandedRow
import Derived.Lib.LaidTab
import Derived.Carry
import Derived.Test.YtokhediaibdkjaaDoorMG
/-! From C0 -/
/- What all the rows' proofs share: the tables from the row's list; an argument of bytes, opened; the post. -/
namespace Go.Proofs.YtokhediaibdkjaaDoor
set_option maxRecDepth 100000
open Go.Pm Go.ChangeShapes Go.WideShapes Go.ChangeAt Go.RowKit

theorem own : ownKnob Tryd.prog.godebug = none := by kernel_rfl
theorem laidOut : laidOutB Tryd.prog = true := by kernel_rfl
theorem gCubes : Tryd.prog.globalNamed "postmark/sha256.cubes" = some 1 := by kernel_rfl
theorem gFirst : Tryd.prog.globalNamed "postmark/sha256.first" = some 0 := by kernel_rfl
theorem gCubesT : (Tryd.prog.globals[1]?).map (·.type) = some 118 := by kernel_rfl
theorem gFirstT : (Tryd.prog.globals[0]?).map (·.type) = some 122 := by kernel_rfl
theorem un_118 : Tryd.prog.underlying 118 = some (.array 64 38) := by kernel_rfl
theorem un_122 : Tryd.prog.underlying 122 = some (.array 2 39) := by kernel_rfl
theorem un_38 : Tryd.prog.underlying 38 = some (.int .u32) := by kernel_rfl
theorem un39 : Tryd.prog.underlying 39 = some (.array 8 38) := by kernel_rfl
theorem un_86 : Tryd.prog.underlying 86 = some (.int .u16) := by kernel_rfl
theorem un_4 : Tryd.prog.underlying 4 = some .bool := by kernel_rfl
theorem co_38 : Tryd.prog.cellsOf 38 = 1 := by kernel_rfl
theorem co_118 : Tryd.prog.cellsOf 118 = 64 := by kernel_rfl
theorem co_39 : Tryd.prog.cellsOf 39 = 8 := by kernel_rfl
theorem co_122 : Tryd.prog.cellsOf 122 = 16 := by kernel_rfl
theorem co5 : Tryd.prog.cellsOf 5 = 1 := by kernel_rfl

/-- A row in which a table is laid. -/
def layTab (cs : List Value) : Obj → Obj
  | .cells _ t fr => .cells cs.toArray t fr
  | o => o
theorem laidVars_mem {P : Program} {W : World} : ∀ {l : List (String × DataW Unit)} {ps : List MemPlace}, DataW.LaidVars P W l ps → ∀ {n : String} {d : DataW Unit}, (n, d) ∈ l →
    ∃ g t cs fuel p, P.globalNamed n = some g ∧ (P.globals[g]?).map (·.type) = some t ∧ W.var? P n = some cs ∧ DataW.trod (fun _ => ()) P W 0 (fun _ => true) false fuel t cs.toList = some (d, p)
  | [], _, _, _, _, hm => by cases hm
  | (n', d') :: r, ps, h, n, d, hm => by
    obtain ⟨g, t, cs, fuel, p, q, h1, h2, h3, h4, h5, _⟩ := h
    rcases List.mem_cons.1 hm with he | hm
    · cases he; exact ⟨g, t, cs, fuel, p, h1, h2, h3, h4⟩
    · exact laidVars_mem h5 hm

theorem rd_var {W : World} {n : String} {g : Nat} {cs : Array Value} (hg : Tryd.prog.globalNamed n = some g) (h : W.var? Tryd.prog n = some cs) : RdC W (some ⟨g, 0, none⟩) cs.toList := fun j u hj => by
  refine ⟨g, 0, rfl, ?_⟩
  have := World.var?_cell hg h j
  rw [Nat.zero_add, this]
  simpa using hj

/-- The tables, from the row's list. -/
theorem gl_of_laid {laid : List (String × DataW Unit)} (h1 : ("postmark/sha256.cubes", Rows.laid_postmark_sha256_cubes) ∈ laid) (h2 : ("postmark/sha256.first", Rows.laid_postmark_sha256_first) ∈ laid) {W : World} (h : laidMet Tryd.prog laid W) : Gl W [] := by
  obtain ⟨ps, hv, _⟩ := h
  obtain ⟨g, t, cs, fuel, p, hg, ht, hvar, hd⟩ := laidVars_mem hv h1
  obtain ⟨g', t', cs', fuel', p', hg', ht', hvar', hd'⟩ := laidVars_mem hv h2
  cases Option.some.inj (gCubes.symm.trans hg)
  cases Option.some.inj (gFirst.symm.trans hg')
  cases Option.some.inj (gCubesT.symm.trans ht)
  cases Option.some.inj (gFirstT.symm.trans ht')
  have e1 : cs.toList = cubesL.map U32 := by
    have := Lib.cells_of_tab (zs := cubesL.map fun x => (x.toNat : Int)) un_118 un_38 co_38 co_118 hd
    rw [this]; simp
  obtain ⟨xs, m, rfl, hx, hlen, hxl, hel⟩ := DataW.trod_array un_122 hd'
  rw [co_122] at hlen
  have hxs : xs.map (·.1) = [Lib.tabData .u32 (first224.map fun x => (x.toNat : Int)), Lib.tabData .u32 (first256.map fun x => (x.toNat : Int))] := by
    have := congrArg Prod.fst hx
    exact (DataW.agg.inj (show Rows.laid_postmark_sha256_first = DataW.agg (xs.map (·.1)) from this)).symm
  have hat : ∀ i (zs : List (BitVec 32)), i < 2 → (xs.map (·.1))[i]? = some (Lib.tabData .u32 (zs.map fun x => (x.toNat : Int))) → (cs'.toList.drop (i * 8)).take 8 = zs.map U32 := fun i zs hi hz => by
    have h3 := hel i hi
    rw [co_39] at h3
    rw [List.getElem?_map] at hz
    cases hxi : xs[i]? with
    | none => simp [hxi] at hz
    | some y =>
      rw [hxi] at h3 hz
      simp only [Option.map_some, Option.some.injEq] at hz
      obtain ⟨y1, y2⟩ := y
      subst hz
      have := Lib.cells_of_tab (zs := zs.map fun x => (x.toNat : Int)) un39 un_38 co_38 co_39 h3
      rw [this]; simp
  have e2 := hat 0 first224 (by decide) (by rw [hxs]; rfl)
  have e3 := hat 1 first256 (by decide) (by rw [hxs]; rfl)
  have e4 : cs'.toList = (first224 ++ first256).map U32 := by
    rw [List.map_append, ← e2, ← e3]
    simp only [Nat.zero_mul, List.drop_zero, Nat.one_mul]
    have : (cs'.toList.drop 8).take 8 = cs'.toList.drop 8 := List.take_of_length_le (by simp; simp at hlen; omega)
    rw [this, List.take_append_drop]
  refine ⟨RdC.s ?_, RdC.s ?_⟩
  · rw [← e4]; exact rd_var gFirst hvar'
  · rw [← e1]; exact rd_var gCubes hvar

/-- An argument of bytes. -/
theorem open_bytes {H : Type} {enc : TypeId × Value → H} {W : World} {base : Nat} {v : Value} {d : DataW H} {p : List MemPlace} (hval : Value.okWide Tryd.prog W .any base 23 v) (h : DataW.Trod enc Tryd.prog W 0 (fun _ => true) true 23 v d p) :
    ∃ (q : Option Addr) (n c : Nat) (l : List UInt8), v = .slice q n c ∧ l.length = n ∧ (q = none → c = 0) ∧ n ≤ c ∧ c ≤ maxLen ∧ RdC W q (l.map B8) := by
  obtain ⟨a, n, c, rfl⟩ := okWide_slice un_23 hval
  obtain ⟨fuel, hf⟩ := h
  rcases open_ints un_23 un_5 co5 hf with ⟨hcs, hx⟩ | ⟨a', len, cap, zs, hcs, _, hl, hm, hz, hx, hcell, hwz⟩
  · simp [Value.cells] at hcs
    obtain ⟨rfl, rfl, rfl⟩ := hcs
    exact ⟨none, 0, 0, [], rfl, rfl, fun _ => rfl, Nat.le_refl _, Nat.zero_le _, RdC.nil⟩
  · simp [Value.cells] at hcs
    obtain ⟨rfl, rfl, rfl⟩ := hcs
    simp only [if_true] at hz
    refine ⟨some a', _, _, (zs.take n).map fun z => UInt8.ofNat z.toNat, rfl, by simp; omega, by simp, hl, hm, ?_⟩
    intro j u hj
    simp only [List.map_map, List.getElem?_map, Option.map_eq_some_iff] at hj
    obtain ⟨z, hzj, rfl⟩ := hj
    rw [List.getElem?_take] at hzj
    split at hzj
    · rename_i hjl
      have hjz : j < zs.length := by omega
      have hc := hcell j hjz
      have hzv : zs.getD j 0 = z := by simp [hzj]
      rw [hzv] at hc
      have hw := hwz z (List.mem_of_getElem? hzj)
      have hb : 0 ≤ z ∧ z < 256 := by
        simp [Lit.wf, IntKind.min, IntKind.max, IntKind.signed, IntKind.bits] at hw
        omega
      obtain ⟨b, o, sp⟩ := a'
      have hspot : sp = none := by
        have h0 := World.cell?_spot (hcell 0 (by omega))
        simpa [Addr.add] using h0
      subst hspot
      refine ⟨b, o, rfl, ?_⟩
      rw [add_at] at hc
      rw [hc]
      have : ((UInt8.ofNat z.toNat).toNat : Int) = z := by
        rw [UInt8.toNat_ofNat']
        omega
      exact congrArg (fun t : Int => some (Value.int .u8 t)) this.symm
    · cases hzj

theorem trodAll_below {H : Type} {enc : TypeId × Value → H} {W W' : World} (hb : Below W.heap.size W W') : ∀ {ts : List TypeId} {vs : List Value} {ds : List (DataW H)} {ps : List MemPlace}, (∀ t ∈ ts, Tryd.prog.readableRec t = true ∧ t < Tryd.prog.types.size) →
    DataW.TrodAll enc Tryd.prog W 0 (fun _ => true) true ts vs ds ps → (∀ x ∈ ps, x.block < W.heap.size) → DataW.TrodAll enc Tryd.prog W' 0 (fun b => decide (b < W.heap.size)) true ts vs ds ps
  | [], _, _, _, _, h, _ => by
    obtain ⟨rfl, rfl, rfl⟩ := trodAll_nil h
    exact trodAll_mk0
  | t :: ts, _, _, _, ht, h, hlt => by
    obtain ⟨v, vs, d, ds, p, q, rfl, rfl, rfl, h1, h2⟩ := trodAll_cons h
    exact trodAll_cons_mk (Below.trod laidOut (ht t (by simp)).1 (ht t (by simp)).2 h1 hb (fun x hx => hlt x (by simp [hx]))) (trodAll_below hb (fun u hu => ht u (by simp [hu])) h2 (fun x hx => hlt x (by simp [hx])))

/-- The post of a law: it answers true, and the input reads as it did. -/
theorem law_post {H : Type} {enc : TypeId × Value → H} {f : Func} {s : ChangeSpec} {W W' : World} {args : Array Value} {ds gs : List (DataW H)} {before : List MemPlace} (hW : DataW.Whole enc Tryd.prog f.params.toList s.vars false W args.toList ds gs before)
    (hrt : f.resultTypes = #[4]) (hv : s.vars = []) (hfn : (s.fn H (ds ++ gs)).results = [.lit (.bool true)] ∧ (s.fn H (ds ++ gs)).args = ds ∧ (s.fn H (ds ++ gs)).vars = []) (hread : ∀ t ∈ f.params.toList, Tryd.prog.readableRec t = true ∧ t < Tryd.prog.types.size)
    (hb : Below W.heap.size W W') : s.post enc Tryd.prog f false true false false W args (.bool true) W' := by
  have hW' := hW
  obtain ⟨p, q, hA, hV, rfl, _, _⟩ := hW
  rw [hv] at hV
  obtain ⟨rfl, rfl⟩ := trodVars_none hV
  obtain ⟨f1, f2, f3⟩ := hfn
  refine ⟨ds, [], p ++ [], [], p, [], hW', ?_, ?_, ?_, Below.frame hb _, fun h => by cases h⟩
  · rw [f1, hrt]; exact trodAll_cons_mk (shut_bool un_4 _) trodAll_mk0
  · rw [f2]; exact trodAll_below hb hread hA (fun x hx => hW'.lt x (by simp [hx]))
  · rw [f3, hv]; rfl
end Go.Proofs.YtokhediaibdkjaaDoor

/-! From C1 -/
/- Numbers of eight bytes among a row's arguments. -/
namespace Go.Proofs.YtokhediaibdkjaaDoor
set_option maxRecDepth 100000
open Go.Pm Go.ChangeShapes Go.WideShapes Go.ChangeAt Go.RowKit
theorem un_34 : Tryd.prog.underlying 34 = some (.int .u64) := by kernel_rfl
theorem u64_of {z : Int} (h : Lit.wf (.int .u64 z) = true) : ∃ N : BitVec 64, z = (N.toNat : Int) := by
  have hz : 0 ≤ z ∧ z < 18446744073709551616 := by
    simp [Lit.wf, IntKind.min, IntKind.max, IntKind.signed, IntKind.bits] at h
    omega
  refine ⟨BitVec.ofNat 64 z.toNat, ?_⟩
  rw [BitVec.toNat_ofNat, Nat.mod_eq_of_lt (by omega)]
  omega
theorem exists_list {α : Type} {P : Nat → α → Prop} : ∀ n, (∀ i, i < n → ∃ a, P i a) → ∃ l : List α, l.length = n ∧ ∀ i a, l[i]? = some a → P i a
  | 0, _ => ⟨[], rfl, fun i a h => by simp at h⟩
  | n + 1, h => by
    obtain ⟨l, hl, hp⟩ := exists_list n (fun i hi => h i (by omega))
    obtain ⟨a, ha⟩ := h n (by omega)
    refine ⟨l ++ [a], by simp [hl], fun i b hb => ?_⟩
    rcases Nat.lt_or_ge i n with hi | hi
    · rw [List.getElem?_append_left (by omega)] at hb; exact hp i b hb
    · rw [List.getElem?_append_right (by omega)] at hb
      have : i - l.length = 0 := by
        rcases Nat.eq_zero_or_pos (i - l.length) with h0 | h0
        · exact h0
        · rw [List.getElem?_eq_none (by simp; omega)] at hb; cases hb
      rw [this] at hb
      simp at hb
      subst hb
      rw [show i = n by omega]; exact ha
/-- Bytes, from what a row says of their cell. -/
theorem bytes_of_trod {H : Type} {enc : TypeId × Value → H} {W : World} {fuel : Nat} {cs : List Value} {x : DataW H × List MemPlace} (hf : DataW.trod enc Tryd.prog W 0 (fun _ => true) true fuel 23 cs = some x) : ∃ s : Sl, cs = [s.v] ∧ s.ok W ∧ s.c ≤ maxLen := by
  rcases open_ints un_23 un_5 co5 hf with ⟨hcs, hx⟩ | ⟨a', len, cap, zs, hcs, _, hl, hm, hz, hx, hcell, hwz⟩
  · exact ⟨⟨none, 0, 0, []⟩, hcs, ⟨rfl, fun _ => rfl, Nat.le_refl _, RdC.nil⟩, Nat.zero_le _⟩
  · simp only [if_true] at hz
    refine ⟨⟨some a', len, cap, (zs.take len).map fun z => UInt8.ofNat z.toNat⟩, hcs, ⟨by simp; omega, by simp, hl, ?_⟩, hm⟩
    intro j u hj
    simp only [List.map_map, List.getElem?_map, Option.map_eq_some_iff] at hj
    obtain ⟨z, hzj, rfl⟩ := hj
    rw [List.getElem?_take] at hzj
    split at hzj
    · rename_i hjl
      have hjz : j < zs.length := by omega
      have hc := hcell j hjz
      have hzv : zs.getD j 0 = z := by simp [hzj]
      rw [hzv] at hc
      have hw := hwz z (List.mem_of_getElem? hzj)
      have hb : 0 ≤ z ∧ z < 256 := by
        simp [Lit.wf, IntKind.min, IntKind.max, IntKind.signed, IntKind.bits] at hw
        omega
      obtain ⟨b, o, sp⟩ := a'
      have hspot : sp = none := by
        have h0 := World.cell?_spot (hcell 0 (by omega))
        simpa [Addr.add] using h0
      subst hspot
      refine ⟨b, o, rfl, ?_⟩
      rw [add_at] at hc
      rw [hc]
      have : ((UInt8.ofNat z.toNat).toNat : Int) = z := by
        rw [UInt8.toNat_ofNat']
        omega
      exact congrArg (fun t : Int => some (Value.int .u8 t)) this.symm
    · cases hzj
theorem un22 : Tryd.prog.underlying 22 = some (.slice 23) := by kernel_rfl
theorem co_23 : Tryd.prog.cellsOf 23 = 1 := by kernel_rfl
/-- An argument: slices of bytes. -/
theorem open_slices {H : Type} {enc : TypeId × Value → H} {W : World} {base : Nat} {v : Value} {d : DataW H} {p : List MemPlace} (hval : Value.okWide Tryd.prog W .any base 22 v) (h : DataW.Trod enc Tryd.prog W 0 (fun _ => true) true 22 v d p) :
    ∃ (q : Option Addr) (c : Nat) (ss : List Sl), v = .slice q ss.length c ∧ (q = none → c = 0) ∧ ss.length ≤ c ∧ c ≤ maxLen ∧ RdC W q (ss.map Sl.v) ∧ ∀ s ∈ ss, s.ok W := by
  obtain ⟨a, n, c, rfl⟩ := okWide_slice un22 hval
  obtain ⟨fuel, hf⟩ := h
  rcases DataW.trod_slice un22 hf with ⟨hcs, _⟩ | ⟨a', len, cap, elems, rest, m, _, hcs, _, _, hl, hm, hlen, hel, _, _⟩
  · simp [Value.cells] at hcs
    obtain ⟨rfl, rfl, rfl⟩ := hcs
    exact ⟨none, 0, [], rfl, fun _ => rfl, Nat.le_refl _, Nat.zero_le _, RdC.nil, by simp⟩
  · simp [Value.cells] at hcs
    obtain ⟨rfl, rfl, rfl⟩ := hcs
    have each : ∀ i, i < n → ∃ s : Sl, s.ok W ∧ W.cell? (a'.add i) = some s.v := fun i hi => by
      have he := hel i hi
      rw [co_23, Nat.mul_one, List.getElem?_eq_getElem (by omega)] at he
      obtain ⟨cs', hcs', hy⟩ := Option.bind_eq_some_iff.1 he
      obtain ⟨s, rfl, hok, _⟩ := bytes_of_trod hy
      exact ⟨s, hok, cell_of_cells?_one hcs'⟩
    obtain ⟨ss, hsl, hss⟩ := exists_list n each
    refine ⟨some a', c, ss, by rw [hsl], by simp, by omega, hm, ?_, fun s hs => ?_⟩
    · intro j u hj
      simp only [List.getElem?_map, Option.map_eq_some_iff] at hj
      obtain ⟨s, hsj, rfl⟩ := hj
      have hc := (hss j s hsj).2
      have hjn : j < n := by have := (List.getElem?_eq_some_iff.1 hsj).1; omega
      obtain ⟨s0, _, h0⟩ := each 0 (by omega)
      obtain ⟨b, o, sp⟩ := a'
      have hspot : sp = none := by
        have h1 := World.cell?_spot h0
        simpa [Addr.add] using h1
      subst hspot
      exact ⟨b, o, rfl, by rw [← hc, add_at]⟩
    · obtain ⟨i, hi⟩ := List.getElem?_of_mem hs
      exact (hss i s hi).1
theorem un_24 : Tryd.prog.underlying 24 = some (.int .i64) := by kernel_rfl
theorem un_2 : Tryd.prog.underlying 2 = some (.int .i64) := by kernel_rfl
theorem u8_of {z : Int} (h : Lit.wf (.int .u8 z) = true) : ∃ N : UInt8, z = (N.toNat : Int) := by
  have hz : 0 ≤ z ∧ z < 256 := by
    simp [Lit.wf, IntKind.min, IntKind.max, IntKind.signed, IntKind.bits] at h
    omega
  refine ⟨UInt8.ofNat z.toNat, ?_⟩
  rw [UInt8.toNat_ofNat']
  omega
theorem i64_of {z : Int} (h : Lit.wf (.int .i64 z) = true) : -9223372036854775808 ≤ z ∧ z < 9223372036854775808 := by
  simp [Lit.wf, IntKind.min, IntKind.max, IntKind.signed, IntKind.bits] at h
  omega
theorem un113 : Tryd.prog.underlying 113 = some (.slice 2) := by kernel_rfl
theorem co_2 : Tryd.prog.cellsOf 2 = 1 := by kernel_rfl
/-- An argument: whole numbers. -/
theorem open_i64s {H : Type} {enc : TypeId × Value → H} {W : World} {base : Nat} {v : Value} {d : DataW H} {p : List MemPlace} (hval : Value.okWide Tryd.prog W .any base 113 v) (h : DataW.Trod enc Tryd.prog W 0 (fun _ => true) true 113 v d p) :
    ∃ (q : Option Addr) (c : Nat) (zs : List Int), v = .slice q zs.length c ∧ (q = none → c = 0) ∧ zs.length ≤ c ∧ RdC W q (zs.map fun z => Value.int .i64 z) := by
  obtain ⟨a, n, c, rfl⟩ := okWide_slice un113 hval
  obtain ⟨fuel, hf⟩ := h
  rcases open_ints un113 un_2 co_2 hf with ⟨hcs, _⟩ | ⟨a', len, cap, zs, hcs, _, hl, hm, hz, hx, hcell, _⟩
  · simp [Value.cells] at hcs
    obtain ⟨rfl, rfl, rfl⟩ := hcs
    exact ⟨none, 0, [], rfl, fun _ => rfl, Nat.le_refl _, RdC.nil⟩
  · simp [Value.cells] at hcs
    obtain ⟨rfl, rfl, rfl⟩ := hcs
    simp only [if_true] at hz
    have hlen : (zs.take n).length = n := by rw [List.length_take]; omega
    refine ⟨some a', c, zs.take n, by rw [hlen], by simp, by omega, ?_⟩
    intro j u hj
    simp only [List.getElem?_map, Option.map_eq_some_iff] at hj
    obtain ⟨z, hzj, rfl⟩ := hj
    rw [List.getElem?_take] at hzj
    split at hzj
    · rename_i hjl
      have hc := hcell j (by omega)
      rw [show zs.getD j 0 = z by simp [hzj]] at hc
      obtain ⟨b, o, sp⟩ := a'
      have hspot : sp = none := by
        have h0 := World.cell?_spot (hcell 0 (by omega))
        simpa [Addr.add] using h0
      subst hspot
      exact ⟨b, o, rfl, by rw [← hc, add_at]⟩
    · cases hzj
end Go.Proofs.YtokhediaibdkjaaDoor

/-! From CB -/
/- Slices of bytes among a row's arguments, where their bulk is bounded. -/
namespace Go.Proofs.YtokhediaibdkjaaDoor
set_option maxRecDepth 100000
open Go.Pm Go.ChangeShapes Go.WideShapes Go.ChangeAt Go.RowKit
theorem bulk_one {H : Type} (d : DataW H) : 1 ≤ Rows.uptoBulk d := by
  cases d with
  | lit l => cases l <;> simp [Rows.uptoBulk]
  | nil => simp [Rows.uptoBulk]
  | ptr d => simp [Rows.uptoBulk]
  | slice elems spare => simp [Rows.uptoBulk]
  | agg parts => simp [Rows.uptoBulk]
  | iface t d => simp [Rows.uptoBulk]
  | map entries => simp [Rows.uptoBulk]
  | held h => simp [Rows.uptoBulk]
theorem bulk_length {H : Type} : ∀ l : List (DataW H), l.length ≤ Rows.uptoBulkAll l
  | [] => by simp [Rows.uptoBulkAll]
  | d :: r => by have := bulk_one d; have := bulk_length r; simp only [Rows.uptoBulkAll, List.length_cons]; omega
theorem bulk_part {H : Type} {d : DataW H} : ∀ {l : List (DataW H)}, d ∈ l → Rows.uptoBulk d ≤ Rows.uptoBulkAll l
  | x :: r, h => by
    simp only [Rows.uptoBulkAll]
    rcases List.mem_cons.1 h with rfl | h
    · omega
    · have := bulk_part h; omega
theorem bytes_bulk {H : Type} {enc : TypeId × Value → H} {W : World} {fuel : Nat} {s : Sl} {x : DataW H × List MemPlace} (hf : DataW.trod enc Tryd.prog W 0 (fun _ => true) true fuel 23 [s.v] = some x) : s.n ≤ Rows.uptoBulk x.1 := by
  obtain ⟨p, n, c, l⟩ := s
  rcases open_ints un_23 un_5 co5 hf with ⟨hcs, _⟩ | ⟨a', len, cap, zs, hcs, _, hl, _, hz, rfl, _, _⟩
  · have a1 : [Value.slice p n c] = [Value.slice none 0 0] := hcs
    simp only [List.cons.injEq, Value.slice.injEq, and_true] at a1
    show n ≤ _
    omega
  · have a1 : [Value.slice p n c] = [Value.slice (some a') len cap] := hcs
    simp only [List.cons.injEq, Value.slice.injEq, and_true] at a1
    simp only [if_true] at hz
    show n ≤ _
    have h1 := bulk_length (lits (H := H) .u8 (zs.take len))
    have h2 : (lits (H := H) .u8 (zs.take len)).length = len := by simp [lits]; omega
    simp only [Rows.uptoBulk]
    omega
theorem open_slicesB {H : Type} {enc : TypeId × Value → H} {W : World} {base : Nat} {v : Value} {d : DataW H} {p : List MemPlace} (hval : Value.okWide Tryd.prog W .any base 22 v) (h : DataW.Trod enc Tryd.prog W 0 (fun _ => true) true 22 v d p) {m : Nat} (hb : Rows.uptoBulk d ≤ m) :
    ∃ (q : Option Addr) (c : Nat) (ss : List Sl), v = .slice q ss.length c ∧ (∀ s ∈ ss, s.n ≤ m) ∧ RdC W q (ss.map Sl.v) ∧ ∀ s ∈ ss, s.ok W := by
  obtain ⟨a, n, c, rfl⟩ := okWide_slice un22 hval
  obtain ⟨fuel, hf⟩ := h
  rcases DataW.trod_slice un22 hf with ⟨hcs, _⟩ | ⟨a', len, cap, elems, rest, m', _, hcs, hx, _, _, _, hlen, hel, _, _⟩
  · simp [Value.cells] at hcs
    obtain ⟨rfl, rfl, rfl⟩ := hcs
    exact ⟨none, 0, [], rfl, by simp, RdC.nil, by simp⟩
  · simp [Value.cells] at hcs
    obtain ⟨rfl, rfl, rfl⟩ := hcs
    have hd : d = .slice (elems.map (·.1)) (rest.map (·.1)) := congrArg Prod.fst hx
    have each : ∀ i, i < n → ∃ s : Sl, (s.ok W ∧ s.n ≤ m) ∧ W.cell? (a'.add i) = some s.v := fun i hi => by
      have he := hel i hi
      rw [co_23, Nat.mul_one, List.getElem?_eq_getElem (by omega)] at he
      obtain ⟨cs', hcs', hy⟩ := Option.bind_eq_some_iff.1 he
      obtain ⟨s, rfl, hok, _⟩ := bytes_of_trod hy
      have h1 := bytes_bulk hy
      have h2 := bulk_part (List.mem_map_of_mem (f := (·.1)) (List.getElem_mem (l := elems) (n := i) (by omega)))
      have h3 : Rows.uptoBulkAll (elems.map (·.1)) ≤ Rows.uptoBulk d := by rw [hd]; simp only [Rows.uptoBulk]; omega
      exact ⟨s, ⟨hok, by omega⟩, cell_of_cells?_one hcs'⟩
    obtain ⟨ss, hsl, hss⟩ := exists_list n each
    refine ⟨some a', c, ss, by rw [hsl], fun s hs => ?_, ?_, fun s hs => ?_⟩
    · obtain ⟨i, hi⟩ := List.getElem?_of_mem hs
      exact (hss i s hi).1.2
    · intro j u hj
      simp only [List.getElem?_map, Option.map_eq_some_iff] at hj
      obtain ⟨s, hsj, rfl⟩ := hj
      have hc := (hss j s hsj).2
      have hjn : j < n := by have := (List.getElem?_eq_some_iff.1 hsj).1; omega
      obtain ⟨s0, _, h0⟩ := each 0 (by omega)
      obtain ⟨b, o, sp⟩ := a'
      have hspot : sp = none := by
        have h1 := World.cell?_spot h0
        simpa [Addr.add] using h1
      subst hspot
      exact ⟨b, o, rfl, by rw [← hc, add_at]⟩
    · obtain ⟨i, hi⟩ := List.getElem?_of_mem hs
      exact (hss i s hi).1.1
end Go.Proofs.YtokhediaibdkjaaDoor

/-! From H7 -/
/- The walk of ref04's Of, of 224 bits. (printed by gen1.py) -/
namespace Go.Proofs.YtokhediaibdkjaaDoor
open Go.Pm Go.RowKit
set_option maxRecDepth 100000
theorem f18_224 (p : Option Addr) (n c : Nat) (bs : List UInt8) (hb : bs.length = n) (hp : p = none → c = 0) (hn : n ≤ 1000000000) (w : World) (hr : RdC w p (bs.map B8)) : Calls Tryd.prog 18 [I64 224, .slice p n c].toArray w (fun en w2 => ∃ y : Option Addr × Nat, ((y.1 = none → y.2 = 0) ∧ 28 ≤ y.2) ∧ en = .returned (.tuple #[slv 28 y, I64 0]) ∧ Sat w (fps []) [vec (slv 28 y) 5 1 28 ((hashOf 224 bs).map B8)] w2) := by
  refine enter (n := 275) Tryd.func18 rfl rfl rfl (Sat.refl w) ?_
  refine seq ?_
  refine region ?_
  refine st (g_assign rfl) rfl ?_
  refine st (g_assign rfl) rfl ?_
  refine done ?_
  refine th_n ?_
  refine seq ?_
  refine seq ?_
  refine region ?_
  refine st (g_move rfl) rfl ?_
  refine st (g_F rfl rfl rfl (by decide)) rfl ?_
  refine st (g_move rfl) rfl ?_
  refine gf rfl rfl ?_
  refine gf rfl rfl ?_
  refine st (g_pickF rfl rfl) rfl ?_
  refine done ?_
  refine th_n ?_
  refine condF rfl ?_
  refine skip ?_
  refine th_n ?_
  refine seq ?_
  refine region ?_
  refine sq rfl (o_call Tryd.func60 rfl rfl rfl .nil (fun w hw hA => f60_spec w) rfl (fun y hy => ?_))
  refine At.up2 (fun w hw => vec_isSome (hw.get .here) (by decide)) (fun hys => ?_)
  refine st (g_move rfl) rfl ?_
  refine st (g_extract rfl rfl) rfl ?_
  refine st (g_extract rfl rfl) rfl ?_
  refine st (g_assign rfl) rfl ?_
  refine st (g_assign rfl) rfl ?_
  refine done ?_
  refine th_n ?_
  refine seq ?_
  refine region ?_
  refine sq rfl (o_alloc (zs := (z64.map U32)) zr_118 rfl (fun b8 => ?_))
  refine done ?_
  refine th_n ?_
  refine seq ?_
  refine region ?_
  refine sq rfl (o_alloc (zs := (z8w.map U32)) zr_39 rfl (fun b9 => ?_))
  refine done ?_
  refine th_n ?_
  refine seq ?_
  refine seq ?_
  refine region ?_
  refine st (g_assign rfl) rfl ?_
  refine done ?_
  refine th_n ?_
  refine block ?_
  refine loop (α := Nat) (fun i => i ≤ 64) (fun i => [(0, I64 224), (1, .slice p n c), (6, slv 64 y), (8, .pointer (some ⟨b8, 0, none⟩)), (9, .pointer (some ⟨b9, 0, none⟩)), (10, I64 (i : Nat))]) (fun i => [vec (slv 64 y) 3 1 64 (p64.map fun p : Nat => I64 (p : Int)), blk b8 118 ((kT i).map U32), blk b9 39 ((z8w).map U32)]) (fun i => 64 - i) 0 (Nat.zero_le _) ⟨rfl, rfl, rfl, rfl, rfl, rfl, trivial⟩ (.cons (.there (.there (.here))) (.cons (.there (.here)) (.cons .here .nil))) (fun i hI => ?_)
  have hkl := kT_length i
  refine seq ?_
  refine seq ?_
  refine region ?_
  refine st (g_move rfl) rfl ?_
  refine st (g_bin rfl rfl rfl) rfl ?_
  refine done ?_
  refine th_n ?_
  refine condS rfl (fun h40 => ?_) (fun h40 => ?_)
  · try simp only [decide_eq_true_eq] at h40
    have hi : i < 64 := by omega
    refine skip ?_
    refine th_n ?_
    refine seq ?_
    refine block ?_
    refine region ?_
    refine st (g_move rfl) rfl ?_
    refine st (g_move rfl) rfl ?_
    refine st (g_move rfl) rfl ?_
    refine st (g_indexP (m := i) el_115 rfl rfl (hys) (by omega) (by omega) (by omega)) rfl ?_
    refine st (g_load (v := I64 (p64.getD i 0 : Nat)) sc_3 rfl (Cell.rd (RdA.vec .here) (p64_get hi))) rfl ?_
    refine sq rfl (o_callP Tryd.func61 rfl rfl rfl (fun w hw => f61_c32 (p64.getD i 0) (p64_small i) w) rfl ?_)
    refine st (g_to32 it_34 it_38 rfl rfl) rfl ?_
    refine st (g_indexA (m := i) ar_118 rfl rfl (by omega) (by omega) (by omega)) rfl ?_
    refine sq rfl (o_store (cs' := (kT (i + 1)).map U32) sz_38 rfl rfl rfl (.there (.here)) (by rw [List.length_map]; omega) (by rw [← List.map_set]; rfl) ?_)
    refine done ?_
    refine ib_n ?_
    refine th_n ?_
    refine region ?_
    refine st (g_move rfl) rfl ?_
    refine st (g_iadd (c := ((i + 1 : Nat) : Int)) rfl rfl (by omega) (by omega) (by omega)) rfl ?_
    refine st (g_assign rfl) rfl ?_
    refine done ?_
    refine th_n ?_
    exact again (i + 1) (by omega) (by omega) ⟨rfl, rfl, rfl, rfl, rfl, rfl, trivial⟩ (.cons (.there (.here)) (.cons .here (.cons .here .nil)))
  · try simp only [decide_eq_false_iff_not] at h40
    have hie : i = 64 := by omega
    subst hie
    show At _ _ [vec (slv 64 y) 3 1 64 (p64.map fun p : Nat => I64 (p : Int)), blk b8 118 ((kT 64).map U32), blk b9 39 ((z8w).map U32)] _
    rw [kT_all]
    refine exitc ?_
    refine th_x ?_
    refine th_x ?_
    refine ib_x ?_
    refine th_n ?_
    refine seq ?_
    refine seq ?_
    refine region ?_
    refine st (g_assign rfl) rfl ?_
    refine done ?_
    refine th_n ?_
    refine block ?_
    refine loop (α := Nat) (fun i => i ≤ 8) (fun i => [(0, I64 224), (1, .slice p n c), (6, slv 64 y), (8, .pointer (some ⟨b8, 0, none⟩)), (9, .pointer (some ⟨b9, 0, none⟩)), (11, I64 (i : Nat))]) (fun i => [vec (slv 64 y) 3 1 64 (p64.map fun p : Nat => I64 (p : Int)), blk b8 118 ((cubesL).map U32), blk b9 39 ((hT 224 i).map U32)]) (fun i => 8 - i) 0 (Nat.zero_le _) ⟨rfl, rfl, rfl, rfl, rfl, rfl, trivial⟩ (.cons .here (.cons .here (.cons .here .nil))) (fun i hI => ?_)
    have hhl := hT_length 224 i
    refine seq ?_
    refine seq ?_
    refine region ?_
    refine st (g_move rfl) rfl ?_
    refine st (g_bin rfl rfl rfl) rfl ?_
    refine done ?_
    refine th_n ?_
    refine condS rfl (fun h52 => ?_) (fun h52 => ?_)
    · try simp only [decide_eq_true_eq] at h52
      have hi : i < 8 := by omega
      refine skip ?_
      refine th_n ?_
      refine seq ?_
      refine block ?_
      refine seq ?_
      refine region ?_
      refine st (g_move rfl) rfl ?_
      refine st (g_F rfl rfl rfl (by decide)) rfl ?_
      refine done ?_
      refine th_n ?_
      refine condF rfl ?_
      refine region ?_
      refine st (g_move rfl) rfl ?_
      refine st (g_move rfl) rfl ?_
      refine st (g_move rfl) rfl ?_
      refine st (g_iadd (c := ((i + 8 : Nat) : Int)) rfl rfl (by omega) (by omega) (by omega)) rfl ?_
      refine st (g_indexP (m := i + 8) el_115 rfl rfl (hys) (by omega) (by omega) (by omega)) rfl ?_
      refine st (g_load (v := I64 (p64.getD (i + 8) 0 : Nat)) sc_3 rfl (Cell.rd (RdA.vec .here) (p64_get (by omega)))) rfl ?_
      refine sq rfl (o_callP Tryd.func61 rfl rfl rfl (fun w hw => f61_s64 (p64.getD (i + 8) 0) (p64_small (i + 8)) w) rfl ?_)
      refine st (g_rem64 (b := 4294967296#64) rfl rfl (by decide)) rfl ?_
      refine st (g_to32 it_34 it_38 rfl rfl) rfl ?_
      refine st (g_indexA (m := i) ar_39 rfl rfl (by omega) (by omega) (by omega)) rfl ?_
      refine sq rfl (o_store (cs' := (hT 224 (i + 1)).map U32) sz_38 rfl rfl rfl (.there (.there (.here))) (by rw [List.length_map]; omega) (by rw [← List.map_set]; rfl) ?_)
      refine done ?_
      refine ib_n ?_
      refine th_n ?_
      refine region ?_
      refine st (g_move rfl) rfl ?_
      refine st (g_iadd (c := ((i + 1 : Nat) : Int)) rfl rfl (by omega) (by omega) (by omega)) rfl ?_
      refine st (g_assign rfl) rfl ?_
      refine done ?_
      refine th_n ?_
      exact again (i + 1) (by omega) (by omega) ⟨rfl, rfl, rfl, rfl, rfl, rfl, trivial⟩ (.cons (.there (.here)) (.cons (.there (.here)) (.cons .here .nil)))
    · try simp only [decide_eq_false_iff_not] at h52
      have hie : i = 8 := by omega
      subst hie
      show At _ _ [vec (slv 64 y) 3 1 64 (p64.map fun p : Nat => I64 (p : Int)), blk b8 118 ((cubesL).map U32), blk b9 39 ((hT 224 8).map U32)] _
      rw [hT_224]
      refine exitc ?_
      refine th_x ?_
      refine th_x ?_
      refine ib_x ?_
      refine th_n ?_
      refine seq ?_
      refine region ?_
      refine st (g_move rfl) rfl ?_
      refine sq rfl (o_call Tryd.func62 rfl rfl rfl .nil (fun w hw hA => f62_spec p n c bs hb hp hn w (RdS.c (S := []) (RdS.ofOld (A := []) hr.s hw .nil))) rfl (fun ym hym => ?_))
      have hfl : (fillW bs).length = fillN n := by rw [fillW_length, hb]
      have hf64 : fillN n = 64 * (fillN n / 64) := by unfold fillN zerosN; omega
      have hfn : fillN n ≤ 2000000000 := by unfold fillN zerosN; omega
      refine At.up2 (fun w hw => vec_isSome (hw.get .here) (by unfold fillN; omega)) (fun hms => ?_)
      obtain ⟨nb, hnb⟩ : ∃ nb, nb = fillN n / 64 := ⟨_, rfl⟩
      refine st (g_assign rfl) rfl ?_
      refine done ?_
      refine th_n ?_
      refine seq ?_
      refine seq ?_
      refine region ?_
      refine st (g_assign rfl) rfl ?_
      refine done ?_
      refine th_n ?_
      refine block ?_
      refine loop (α := Nat) (fun ib => ib ≤ nb) (fun ib => [(0, I64 224), (8, .pointer (some ⟨b8, 0, none⟩)), (9, .pointer (some ⟨b9, 0, none⟩)), (12, slv (fillN n) ym), (13, I64 ((64 * ib : Nat) : Int))]) (fun ib => [vec (slv (fillN n) ym) 5 1 (fillN n) ((fillW bs).map B8), blk b8 118 ((cubesL).map U32), blk b9 39 (((absorb (fillW bs) ib first224)).map U32)]) (fun ib => nb - ib) 0 (Nat.zero_le _) ⟨rfl, rfl, rfl, rfl, rfl, trivial⟩ (.cons .here (.cons (.there (.here)) (.cons (.there (.here)) .nil))) (fun ib hib => ?_)
      have hsl : (absorb (fillW bs) ib first224).length = 8 := absorb_length (by rfl)
      refine seq ?_
      refine seq ?_
      refine region ?_
      refine st (g_move rfl) rfl ?_
      refine st (g_move rfl) rfl ?_
      refine st (g_len el_23 rfl) rfl ?_
      refine st (g_bin rfl rfl rfl) rfl ?_
      refine done ?_
      refine th_n ?_
      refine condS rfl (fun h80 => ?_) (fun h80 => ?_)
      · try simp only [decide_eq_true_eq] at h80
        have hib2 : ib < nb := by omega
        refine skip ?_
        refine th_n ?_
        refine seq ?_
        refine block ?_
        refine seq ?_
        refine region ?_
        refine sq rfl (o_alloc (zs := (z64.map U32)) zr_118 rfl (fun b14 => ?_))
        refine done ?_
        refine th_n ?_
        refine seq ?_
        refine seq ?_
        refine region ?_
        refine st (g_assign rfl) rfl ?_
        refine done ?_
        refine th_n ?_
        refine block ?_
        refine loop (α := Nat) (fun i => i ≤ 16) (fun i => [(0, I64 224), (8, .pointer (some ⟨b8, 0, none⟩)), (9, .pointer (some ⟨b9, 0, none⟩)), (12, slv (fillN n) ym), (13, I64 ((64 * ib : Nat) : Int)), (14, .pointer (some ⟨b14, 0, none⟩)), (15, I64 (i : Nat))]) (fun i => [vec (slv (fillN n) ym) 5 1 (fillN n) ((fillW bs).map B8), blk b8 118 ((cubesL).map U32), blk b9 39 (((absorb (fillW bs) ib first224)).map U32), blk b14 118 (((iter (spStep (blkOf (fillW bs) ib)) (i) z64)).map U32)]) (fun i => 16 - i) 0 (Nat.zero_le _) ⟨rfl, rfl, rfl, rfl, rfl, rfl, rfl, trivial⟩ (.cons (.there (.here)) (.cons (.there (.here)) (.cons (.there (.here)) (.cons .here .nil)))) (fun i hI => ?_)
        have hspl := spIter_length (blkOf (fillW bs) ib) i
        refine seq ?_
        refine seq ?_
        refine region ?_
        refine st (g_move rfl) rfl ?_
        refine st (g_bin rfl rfl rfl) rfl ?_
        refine done ?_
        refine th_n ?_
        refine condS rfl (fun h84 => ?_) (fun h84 => ?_)
        · try simp only [decide_eq_true_eq] at h84
          have hi : i < 16 := by omega
          show At _ _ [vec (slv (fillN n) ym) 5 1 (fillN n) ((fillW bs).map B8), blk b8 118 ((cubesL).map U32), blk b9 39 (((absorb (fillW bs) ib first224)).map U32), blk b14 118 (((iter (spStep (blkOf (fillW bs) ib)) (i) z64)).map U32)] _
          rw [← sp_set0 (blkOf (fillW bs) ib) hi]
          refine skip ?_
          refine th_n ?_
          refine seq ?_
          refine block ?_
          refine seq ?_
          refine region ?_
          refine st (g_assign rfl) rfl ?_
          refine done ?_
          refine th_n ?_
          refine block ?_
          refine loop (α := Nat) (fun k => k ≤ 4) (fun k => [(0, I64 224), (8, .pointer (some ⟨b8, 0, none⟩)), (9, .pointer (some ⟨b9, 0, none⟩)), (12, slv (fillN n) ym), (13, I64 ((64 * ib : Nat) : Int)), (14, .pointer (some ⟨b14, 0, none⟩)), (15, I64 (i : Nat)), (16, I64 (k : Nat))]) (fun k => [vec (slv (fillN n) ym) 5 1 (fillN n) ((fillW bs).map B8), blk b8 118 ((cubesL).map U32), blk b9 39 (((absorb (fillW bs) ib first224)).map U32), blk b14 118 (((iter (spStep (blkOf (fillW bs) ib)) (i) z64).set i (be4p (blkOf (fillW bs) ib) i k)).map U32)]) (fun k => 4 - k) 0 (Nat.zero_le _) ⟨rfl, rfl, rfl, rfl, rfl, rfl, rfl, rfl, trivial⟩ (.cons .here (.cons .here (.cons .here (.cons .here .nil)))) (fun k hk => ?_)
          refine seq ?_
          refine seq ?_
          refine region ?_
          refine st (g_move rfl) rfl ?_
          refine st (g_bin rfl rfl rfl) rfl ?_
          refine done ?_
          refine th_n ?_
          refine condS rfl (fun h88 => ?_) (fun h88 => ?_)
          · try simp only [decide_eq_true_eq] at h88
            have hk4 : k < 4 := by omega
            refine skip ?_
            refine th_n ?_
            refine seq ?_
            refine block ?_
            refine regionX mixed (by decide +kernel) ?_
            refine Dr.st (g_move rfl) rfl ?_
            refine Dr.st (g_move rfl) rfl ?_
            refine Dr.st (g_indexA (m := i) ar_118 rfl rfl (by omega) (by omega) (by omega)) rfl ?_
            refine Dr.st (g_load (v := U32 (be4p (blkOf (fillW bs) ib) i k)) sc_38 rfl (Cell.own (.there (.there (.there (.here)))) (by rw [List.getElem?_map, List.getElem?_set_self (by omega)]; rfl))) rfl ?_
            refine Dr.st (g_mul32 (a := 256#32) rfl rfl) rfl ?_
            refine Dr.st (g_move rfl) rfl ?_
            refine Dr.st (g_move rfl) rfl ?_
            refine Dr.st (g_move rfl) rfl ?_
            refine Dr.st (g_imul (c := ((4 * i : Nat) : Int)) rfl rfl (by omega) (by omega) (by omega)) rfl ?_
            refine Dr.st (g_iadd (c := ((64 * ib + 4 * i : Nat) : Int)) rfl rfl (by omega) (by omega) (by omega)) rfl ?_
            refine Dr.st (g_move rfl) rfl ?_
            refine Dr.st (g_iadd (c := ((64 * ib + (4 * i + k) : Nat) : Int)) rfl rfl (by omega) (by omega) (by omega)) rfl ?_
            refine Dr.st (g_indexP (m := 64 * ib + (4 * i + k)) el_23 rfl rfl (hms) (by omega) (by omega) (by omega)) rfl ?_
            refine Dr.st (g_load (v := B8 ((blkOf (fillW bs) ib).getD (4 * i + k) 0)) sc_5 rfl (Cell.rd (RdA.vec .here) (blk_get (by omega) (by omega)))) rfl ?_
            refine Dr.st (g_to32 it_5 it_38 rfl rfl) rfl ?_
            refine Dr.st (g_add32 rfl rfl) rfl ?_
            refine Dr.st (g_indexA (m := i) ar_118 rfl rfl (by omega) (by omega) (by omega)) rfl ?_
            refine Dr.last ?_
            refine o_store (cs' := ((iter (spStep (blkOf (fillW bs) ib)) (i) z64).set i (be4p (blkOf (fillW bs) ib) i (k + 1))).map U32) sz_38 rfl rfl rfl (.there (.there (.there (.here)))) (by rw [List.length_map, List.length_set]; omega) (by rw [← List.map_set, List.set_set]; rfl) ?_
            refine ib_n ?_
            refine th_n ?_
            refine region ?_
            refine st (g_move rfl) rfl ?_
            refine st (g_iadd (c := ((k + 1 : Nat) : Int)) rfl rfl (by omega) (by omega) (by omega)) rfl ?_
            refine st (g_assign rfl) rfl ?_
            refine done ?_
            refine th_n ?_
            exact again (k + 1) (by omega) (by omega) ⟨rfl, rfl, rfl, rfl, rfl, rfl, rfl, rfl, trivial⟩ (.cons (.there (.here)) (.cons (.there (.here)) (.cons (.there (.here)) (.cons .here .nil))))
          · try simp only [decide_eq_false_iff_not] at h88
            have hke : k = 4 := by omega
            subst hke
            show At _ _ [vec (slv (fillN n) ym) 5 1 (fillN n) ((fillW bs).map B8), blk b8 118 ((cubesL).map U32), blk b9 39 (((absorb (fillW bs) ib first224)).map U32), blk b14 118 (((iter (spStep (blkOf (fillW bs) ib)) (i) z64).set i (be4p (blkOf (fillW bs) ib) i 4)).map U32)] _
            rw [sp_set4 (blkOf (fillW bs) ib) hi]
            refine exitc ?_
            refine th_x ?_
            refine th_x ?_
            refine ib_x ?_
            refine ib_n ?_
            refine th_n ?_
            refine region ?_
            refine st (g_move rfl) rfl ?_
            refine st (g_iadd (c := ((i + 1 : Nat) : Int)) rfl rfl (by omega) (by omega) (by omega)) rfl ?_
            refine st (g_assign rfl) rfl ?_
            refine done ?_
            refine th_n ?_
            exact again (i + 1) (by omega) (by omega) ⟨rfl, rfl, rfl, rfl, rfl, rfl, rfl, trivial⟩ (.cons .here (.cons .here (.cons .here (.cons .here .nil))))
        · try simp only [decide_eq_false_iff_not] at h84
          have hie : i = 16 := by omega
          subst hie
          refine exitc ?_
          refine th_x ?_
          refine th_x ?_
          refine ib_x ?_
          refine th_n ?_
          refine seq ?_
          refine seq ?_
          refine region ?_
          refine st (g_assign rfl) rfl ?_
          refine done ?_
          refine th_n ?_
          refine block ?_
          refine loop (α := Nat) (fun i => 16 ≤ i ∧ i ≤ 64) (fun i => [(0, I64 224), (8, .pointer (some ⟨b8, 0, none⟩)), (9, .pointer (some ⟨b9, 0, none⟩)), (12, slv (fillN n) ym), (13, I64 ((64 * ib : Nat) : Int)), (14, .pointer (some ⟨b14, 0, none⟩)), (17, I64 (i : Nat))]) (fun i => [vec (slv (fillN n) ym) 5 1 (fillN n) ((fillW bs).map B8), blk b8 118 ((cubesL).map U32), blk b9 39 (((absorb (fillW bs) ib first224)).map U32), blk b14 118 (((iter (spStep (blkOf (fillW bs) ib)) (i) z64)).map U32)]) (fun i => 64 - i) 16 ⟨Nat.le_refl _, by decide⟩ ⟨rfl, rfl, rfl, rfl, rfl, rfl, rfl, trivial⟩ (.cons .here (.cons .here (.cons .here (.cons .here .nil)))) (fun i ⟨hi16, hi64⟩ => ?_)
          have hspl := spIter_length (blkOf (fillW bs) ib) i
          refine seq ?_
          refine seq ?_
          refine region ?_
          refine st (g_move rfl) rfl ?_
          refine st (g_bin rfl rfl rfl) rfl ?_
          refine done ?_
          refine th_n ?_
          refine condS rfl (fun h109 => ?_) (fun h109 => ?_)
          · try simp only [decide_eq_true_eq] at h109
            have hi : i < 64 := by omega
            refine skip ?_
            refine th_n ?_
            refine seq ?_
            refine block ?_
            refine seq ?_
            refine region ?_
            refine st (g_move rfl) rfl ?_
            refine st (g_isub (c := ((i - 15 : Nat) : Int)) rfl rfl (by omega) (by omega) (by omega)) rfl ?_
            refine st (g_indexA (m := i - 15) ar_118 rfl rfl (by omega) (by omega) (by omega)) rfl ?_
            refine st (g_load (v := U32 (((iter (spStep (blkOf (fillW bs) ib)) (i) z64)).getD (i - 15) 0#32)) sc_38 rfl (Cell.own (.there (.there (.there (.here)))) (get_U32 (ws := (iter (spStep (blkOf (fillW bs) ib)) (i) z64)) (j := i - 15) (by omega) (by omega)))) rfl ?_
            refine st (g_assign rfl) rfl ?_
            refine done ?_
            refine th_n ?_
            refine seq ?_
            refine region ?_
            refine st (g_move rfl) rfl ?_
            refine st (g_isub (c := ((i - 2 : Nat) : Int)) rfl rfl (by omega) (by omega) (by omega)) rfl ?_
            refine st (g_indexA (m := i - 2) ar_118 rfl rfl (by omega) (by omega) (by omega)) rfl ?_
            refine st (g_load (v := U32 (((iter (spStep (blkOf (fillW bs) ib)) (i) z64)).getD (i - 2) 0#32)) sc_38 rfl (Cell.own (.there (.there (.there (.here)))) (get_U32 (ws := (iter (spStep (blkOf (fillW bs) ib)) (i) z64)) (j := i - 2) (by omega) (by omega)))) rfl ?_
            refine st (g_assign rfl) rfl ?_
            refine done ?_
            refine th_n ?_
            refine regionX mixed (by decide +kernel) ?_
            refine Dr.st (g_move rfl) rfl ?_
            refine Dr.st (g_move rfl) rfl ?_
            refine Dr.st (g_isub (c := ((i - 16 : Nat) : Int)) rfl rfl (by omega) (by omega) (by omega)) rfl ?_
            refine Dr.st (g_indexA (m := i - 16) ar_118 rfl rfl (by omega) (by omega) (by omega)) rfl ?_
            refine Dr.st (g_load (v := U32 (((iter (spStep (blkOf (fillW bs) ib)) (i) z64)).getD (i - 16) 0#32)) sc_38 rfl (Cell.own (.there (.there (.there (.here)))) (get_U32 (ws := (iter (spStep (blkOf (fillW bs) ib)) (i) z64)) (j := i - 16) (by omega) (by omega)))) rfl ?_
            refine Dr.st (g_move rfl) rfl ?_
            refine Dr.st (g_isub (c := ((i - 7 : Nat) : Int)) rfl rfl (by omega) (by omega) (by omega)) rfl ?_
            refine Dr.st (g_indexA (m := i - 7) ar_118 rfl rfl (by omega) (by omega) (by omega)) rfl ?_
            refine Dr.st (g_load (v := U32 (((iter (spStep (blkOf (fillW bs) ib)) (i) z64)).getD (i - 7) 0#32)) sc_38 rfl (Cell.own (.there (.there (.there (.here)))) (get_U32 (ws := (iter (spStep (blkOf (fillW bs) ib)) (i) z64)) (j := i - 7) (by omega) (by omega)))) rfl ?_
            refine Dr.st (g_add32 rfl rfl) rfl ?_
            refine Dr.st (g_move rfl) rfl ?_
            refine Dr.call (v := _) Tryd.func63 rfl rfl rfl (fun w hw => f63_spec _ 7 (by decide) w) rfl ?_
            refine Dr.st (g_move rfl) rfl ?_
            refine Dr.call (v := _) Tryd.func63 rfl rfl rfl (fun w hw => f63_spec _ 18 (by decide) w) rfl ?_
            refine Dr.st (g_xor32 rfl rfl) rfl ?_
            refine Dr.st (g_move rfl) rfl ?_
            refine Dr.call (v := _) Tryd.func64 rfl rfl rfl (fun w hw => f64_spec _ 3 (by decide) w) rfl ?_
            refine Dr.st (g_xor32 rfl rfl) rfl ?_
            refine Dr.st (g_add32 rfl rfl) rfl ?_
            refine Dr.st (g_move rfl) rfl ?_
            refine Dr.call (v := _) Tryd.func63 rfl rfl rfl (fun w hw => f63_spec _ 17 (by decide) w) rfl ?_
            refine Dr.st (g_move rfl) rfl ?_
            refine Dr.call (v := _) Tryd.func63 rfl rfl rfl (fun w hw => f63_spec _ 19 (by decide) w) rfl ?_
            refine Dr.st (g_xor32 rfl rfl) rfl ?_
            refine Dr.st (g_move rfl) rfl ?_
            refine Dr.call (v := _) Tryd.func64 rfl rfl rfl (fun w hw => f64_spec _ 10 (by decide) w) rfl ?_
            refine Dr.st (g_xor32 rfl rfl) rfl ?_
            refine Dr.st (g_add32 rfl rfl) rfl ?_
            refine Dr.st (g_indexA (m := i) ar_118 rfl rfl (by omega) (by omega) (by omega)) rfl ?_
            refine Dr.last ?_
            refine o_store (cs' := ((iter (spStep (blkOf (fillW bs) ib)) (i + 1) z64)).map U32) sz_38 rfl rfl rfl (.there (.there (.there (.here)))) (by rw [List.length_map]; omega) (by rw [mix_eq, ← List.map_set, spStep_ge (by omega)]; rfl) ?_
            refine ib_n ?_
            refine th_n ?_
            refine region ?_
            refine st (g_move rfl) rfl ?_
            refine st (g_iadd (c := ((i + 1 : Nat) : Int)) rfl rfl (by omega) (by omega) (by omega)) rfl ?_
            refine st (g_assign rfl) rfl ?_
            refine done ?_
            refine th_n ?_
            exact again (i + 1) ⟨by omega, by omega⟩ (by omega) ⟨rfl, rfl, rfl, rfl, rfl, rfl, rfl, trivial⟩ (.cons (.there (.here)) (.cons (.there (.here)) (.cons (.there (.here)) (.cons .here .nil))))
          · try simp only [decide_eq_false_iff_not] at h109
            have hie : i = 64 := by omega
            subst hie
            refine exitc ?_
            refine th_x ?_
            refine th_x ?_
            refine ib_x ?_
            refine th_n ?_
            refine seq ?_
            refine region ?_
            refine st (g_loadA (vs := ((absorb (fillW bs) ib first224)).map U32) ag_39 rfl (by rw [List.length_map, hsl]) (Cells.part (.there (.there (.here))) List.take_length)) rfl ?_
            refine sq rfl (o_alloc (zs := (z8w.map U32)) zr_39 rfl (fun b20 => ?_))
            refine sq rfl (o_storeA (cs' := ((absorb (fillW bs) ib first224)).map U32) sz_39 rfl rfl (by rw [List.length_map, hsl]) oneU32 .here (Nat.le_of_ble_eq_true rfl) (setR_whole (by rw [List.length_map, List.length_map, hsl]; rfl)) ?_)
            refine done ?_
            refine th_n ?_
            refine seq ?_
            refine seq ?_
            refine region ?_
            refine st (g_assign rfl) rfl ?_
            refine done ?_
            refine th_n ?_
            refine block ?_
            refine loop (α := Nat) (fun i => i ≤ 64) (fun i => [(0, I64 224), (8, .pointer (some ⟨b8, 0, none⟩)), (9, .pointer (some ⟨b9, 0, none⟩)), (12, slv (fillN n) ym), (13, I64 ((64 * ib : Nat) : Int)), (14, .pointer (some ⟨b14, 0, none⟩)), (20, .pointer (some ⟨b20, 0, none⟩)), (21, I64 (i : Nat))]) (fun i => [vec (slv (fillN n) ym) 5 1 (fillN n) ((fillW bs).map B8), blk b8 118 ((cubesL).map U32), blk b9 39 (((absorb (fillW bs) ib first224)).map U32), blk b14 118 (((spreadW (blkOf (fillW bs) ib))).map U32), blk b20 39 (((iter (tStep (spreadW (blkOf (fillW bs) ib))) (i) (absorb (fillW bs) ib first224))).map U32)]) (fun i => 64 - i) 0 (Nat.zero_le _) ⟨rfl, rfl, rfl, rfl, rfl, rfl, rfl, rfl, trivial⟩ (.cons (.there (.here)) (.cons (.there (.here)) (.cons (.there (.here)) (.cons (.there (.here)) (.cons .here .nil))))) (fun i hI => ?_)
            have hstl := (tIter_length (spreadW (blkOf (fillW bs) ib)) (absorb (fillW bs) ib first224) (absorb_length (by rfl)) (i))
            have hwl : (spreadW (blkOf (fillW bs) ib)).length = 64 := spIter_length _ 64
            refine seq ?_
            refine seq ?_
            refine region ?_
            refine st (g_move rfl) rfl ?_
            refine st (g_bin rfl rfl rfl) rfl ?_
            refine done ?_
            refine th_n ?_
            refine condS rfl (fun h151 => ?_) (fun h151 => ?_)
            · try simp only [decide_eq_true_eq] at h151
              have hi : i < 64 := by omega
              refine skip ?_
              refine th_n ?_
              refine seq ?_
              refine block ?_
              refine seq ?_
              refine region ?_
              refine st (g_indexA (m := 4) ar_39 rfl rfl (by decide) (by decide) (by omega)) rfl ?_
              refine st (g_load (v := U32 (((iter (tStep (spreadW (blkOf (fillW bs) ib))) (i) (absorb (fillW bs) ib first224))).getD (4) 0#32)) sc_38 rfl (Cell.own (.there (.there (.there (.there (.here))))) (get_U32 (ws := (iter (tStep (spreadW (blkOf (fillW bs) ib))) (i) (absorb (fillW bs) ib first224))) (j := 4) (by omega) (by omega)))) rfl ?_
              refine st (g_assign rfl) rfl ?_
              refine done ?_
              refine th_n ?_
              refine seq ?_
              refine region ?_
              refine st (g_indexA (m := 0) ar_39 rfl rfl (by decide) (by decide) (by omega)) rfl ?_
              refine st (g_load (v := U32 (((iter (tStep (spreadW (blkOf (fillW bs) ib))) (i) (absorb (fillW bs) ib first224))).getD (0) 0#32)) sc_38 rfl (Cell.own (.there (.there (.there (.there (.here))))) (get_U32 (ws := (iter (tStep (spreadW (blkOf (fillW bs) ib))) (i) (absorb (fillW bs) ib first224))) (j := 0) (by omega) (by omega)))) rfl ?_
              refine st (g_assign rfl) rfl ?_
              refine done ?_
              refine th_n ?_
              refine seq ?_
              refine regionQ mixed (by decide +kernel) (by decide +kernel) ?_
              refine Dr.st (g_indexA (m := 7) ar_39 rfl rfl (by decide) (by decide) (by omega)) rfl ?_
              refine Dr.st (g_load (v := U32 (((iter (tStep (spreadW (blkOf (fillW bs) ib))) (i) (absorb (fillW bs) ib first224))).getD (7) 0#32)) sc_38 rfl (Cell.own (.there (.there (.there (.there (.here))))) (get_U32 (ws := (iter (tStep (spreadW (blkOf (fillW bs) ib))) (i) (absorb (fillW bs) ib first224))) (j := 7) (by omega) (by omega)))) rfl ?_
              refine Dr.st (g_move rfl) rfl ?_
              refine Dr.st (g_indexA (m := i) ar_118 rfl rfl (by omega) (by omega) (by omega)) rfl ?_
              refine Dr.st (g_load (v := U32 ((cubesL).getD (i) 0#32)) sc_38 rfl (Cell.own (.there (.here)) (get_U32 (ws := cubesL) (j := i) (by omega) (by show i < 64; omega)))) rfl ?_
              refine Dr.st (g_add32 rfl rfl) rfl ?_
              refine Dr.st (g_move rfl) rfl ?_
              refine Dr.st (g_indexA (m := i) ar_118 rfl rfl (by omega) (by omega) (by omega)) rfl ?_
              refine Dr.st (g_load (v := U32 (((spreadW (blkOf (fillW bs) ib))).getD (i) 0#32)) sc_38 rfl (Cell.own (.there (.there (.there (.here)))) (get_U32 (ws := (spreadW (blkOf (fillW bs) ib))) (j := i) (by omega) (by omega)))) rfl ?_
              refine Dr.st (g_add32 rfl rfl) rfl ?_
              refine Dr.st (g_move rfl) rfl ?_
              refine Dr.call (v := _) Tryd.func63 rfl rfl rfl (fun w hw => f63_spec _ 6 (by decide) w) rfl ?_
              refine Dr.st (g_move rfl) rfl ?_
              refine Dr.call (v := _) Tryd.func63 rfl rfl rfl (fun w hw => f63_spec _ 11 (by decide) w) rfl ?_
              refine Dr.st (g_xor32 rfl rfl) rfl ?_
              refine Dr.st (g_move rfl) rfl ?_
              refine Dr.call (v := _) Tryd.func63 rfl rfl rfl (fun w hw => f63_spec _ 25 (by decide) w) rfl ?_
              refine Dr.st (g_xor32 rfl rfl) rfl ?_
              refine Dr.st (g_add32 rfl rfl) rfl ?_
              refine Dr.st (g_move rfl) rfl ?_
              refine Dr.st (g_indexA (m := 5) ar_39 rfl rfl (by decide) (by decide) (by omega)) rfl ?_
              refine Dr.st (g_load (v := U32 (((iter (tStep (spreadW (blkOf (fillW bs) ib))) (i) (absorb (fillW bs) ib first224))).getD (5) 0#32)) sc_38 rfl (Cell.own (.there (.there (.there (.there (.here))))) (get_U32 (ws := (iter (tStep (spreadW (blkOf (fillW bs) ib))) (i) (absorb (fillW bs) ib first224))) (j := 5) (by omega) (by omega)))) rfl ?_
              refine Dr.st (g_and32 rfl rfl) rfl ?_
              refine Dr.st (g_move rfl) rfl ?_
              refine Dr.st (g_sub32 (a := 4294967295#32) rfl rfl) rfl ?_
              refine Dr.st (g_indexA (m := 6) ar_39 rfl rfl (by decide) (by decide) (by omega)) rfl ?_
              refine Dr.st (g_load (v := U32 (((iter (tStep (spreadW (blkOf (fillW bs) ib))) (i) (absorb (fillW bs) ib first224))).getD (6) 0#32)) sc_38 rfl (Cell.own (.there (.there (.there (.there (.here))))) (get_U32 (ws := (iter (tStep (spreadW (blkOf (fillW bs) ib))) (i) (absorb (fillW bs) ib first224))) (j := 6) (by omega) (by omega)))) rfl ?_
              refine Dr.st (g_and32 rfl rfl) rfl ?_
              refine Dr.st (g_or32 rfl rfl) rfl ?_
              refine Dr.st (g_add32 rfl rfl) rfl ?_
              refine Dr.st (g_assign rfl) rfl ?_
              refine Dr.nil ?_
              refine th_n ?_
              refine seq ?_
              refine regionQ mixed (by decide +kernel) (by decide +kernel) ?_
              refine Dr.st (g_move rfl) rfl ?_
              refine Dr.call (v := _) Tryd.func63 rfl rfl rfl (fun w hw => f63_spec _ 2 (by decide) w) rfl ?_
              refine Dr.st (g_move rfl) rfl ?_
              refine Dr.call (v := _) Tryd.func63 rfl rfl rfl (fun w hw => f63_spec _ 13 (by decide) w) rfl ?_
              refine Dr.st (g_xor32 rfl rfl) rfl ?_
              refine Dr.st (g_move rfl) rfl ?_
              refine Dr.call (v := _) Tryd.func63 rfl rfl rfl (fun w hw => f63_spec _ 22 (by decide) w) rfl ?_
              refine Dr.st (g_xor32 rfl rfl) rfl ?_
              refine Dr.st (g_move rfl) rfl ?_
              refine Dr.st (g_indexA (m := 1) ar_39 rfl rfl (by decide) (by decide) (by omega)) rfl ?_
              refine Dr.st (g_load (v := U32 (((iter (tStep (spreadW (blkOf (fillW bs) ib))) (i) (absorb (fillW bs) ib first224))).getD (1) 0#32)) sc_38 rfl (Cell.own (.there (.there (.there (.there (.here))))) (get_U32 (ws := (iter (tStep (spreadW (blkOf (fillW bs) ib))) (i) (absorb (fillW bs) ib first224))) (j := 1) (by omega) (by omega)))) rfl ?_
              refine Dr.st (g_and32 rfl rfl) rfl ?_
              refine Dr.st (g_move rfl) rfl ?_
              refine Dr.st (g_indexA (m := 2) ar_39 rfl rfl (by decide) (by decide) (by omega)) rfl ?_
              refine Dr.st (g_load (v := U32 (((iter (tStep (spreadW (blkOf (fillW bs) ib))) (i) (absorb (fillW bs) ib first224))).getD (2) 0#32)) sc_38 rfl (Cell.own (.there (.there (.there (.there (.here))))) (get_U32 (ws := (iter (tStep (spreadW (blkOf (fillW bs) ib))) (i) (absorb (fillW bs) ib first224))) (j := 2) (by omega) (by omega)))) rfl ?_
              refine Dr.st (g_and32 rfl rfl) rfl ?_
              refine Dr.st (g_or32 rfl rfl) rfl ?_
              refine Dr.st (g_indexA (m := 1) ar_39 rfl rfl (by decide) (by decide) (by omega)) rfl ?_
              refine Dr.st (g_load (v := U32 (((iter (tStep (spreadW (blkOf (fillW bs) ib))) (i) (absorb (fillW bs) ib first224))).getD (1) 0#32)) sc_38 rfl (Cell.own (.there (.there (.there (.there (.here))))) (get_U32 (ws := (iter (tStep (spreadW (blkOf (fillW bs) ib))) (i) (absorb (fillW bs) ib first224))) (j := 1) (by omega) (by omega)))) rfl ?_
              refine Dr.st (g_indexA (m := 2) ar_39 rfl rfl (by decide) (by decide) (by omega)) rfl ?_
              refine Dr.st (g_load (v := U32 (((iter (tStep (spreadW (blkOf (fillW bs) ib))) (i) (absorb (fillW bs) ib first224))).getD (2) 0#32)) sc_38 rfl (Cell.own (.there (.there (.there (.there (.here))))) (get_U32 (ws := (iter (tStep (spreadW (blkOf (fillW bs) ib))) (i) (absorb (fillW bs) ib first224))) (j := 2) (by omega) (by omega)))) rfl ?_
              refine Dr.st (g_and32 rfl rfl) rfl ?_
              refine Dr.st (g_or32 rfl rfl) rfl ?_
              refine Dr.st (g_add32 rfl rfl) rfl ?_
              refine Dr.st (g_assign rfl) rfl ?_
              refine Dr.nil ?_
              refine th_n ?_
              refine region ?_
              refine st (g_move rfl) rfl ?_
              refine st (g_move rfl) rfl ?_
              refine st (g_add32 rfl rfl) rfl ?_
              refine st (g_move rfl) rfl ?_
              refine st (g_indexA (m := 1) ar_39 rfl rfl (by decide) (by decide) (by omega)) rfl ?_
              refine st (g_load (v := U32 (((iter (tStep (spreadW (blkOf (fillW bs) ib))) (i) (absorb (fillW bs) ib first224))).getD (1) 0#32)) sc_38 rfl (Cell.own (.there (.there (.there (.there (.here))))) (get_U32 (ws := (iter (tStep (spreadW (blkOf (fillW bs) ib))) (i) (absorb (fillW bs) ib first224))) (j := 1) (by omega) (by omega)))) rfl ?_
              refine st (g_indexA (m := 2) ar_39 rfl rfl (by decide) (by decide) (by omega)) rfl ?_
              refine st (g_load (v := U32 (((iter (tStep (spreadW (blkOf (fillW bs) ib))) (i) (absorb (fillW bs) ib first224))).getD (2) 0#32)) sc_38 rfl (Cell.own (.there (.there (.there (.there (.here))))) (get_U32 (ws := (iter (tStep (spreadW (blkOf (fillW bs) ib))) (i) (absorb (fillW bs) ib first224))) (j := 2) (by omega) (by omega)))) rfl ?_
              refine st (g_indexA (m := 3) ar_39 rfl rfl (by decide) (by decide) (by omega)) rfl ?_
              refine st (g_load (v := U32 (((iter (tStep (spreadW (blkOf (fillW bs) ib))) (i) (absorb (fillW bs) ib first224))).getD (3) 0#32)) sc_38 rfl (Cell.own (.there (.there (.there (.there (.here))))) (get_U32 (ws := (iter (tStep (spreadW (blkOf (fillW bs) ib))) (i) (absorb (fillW bs) ib first224))) (j := 3) (by omega) (by omega)))) rfl ?_
              refine st (g_move rfl) rfl ?_
              refine st (g_add32 rfl rfl) rfl ?_
              refine st (g_move rfl) rfl ?_
              refine st (g_indexA (m := 5) ar_39 rfl rfl (by decide) (by decide) (by omega)) rfl ?_
              refine st (g_load (v := U32 (((iter (tStep (spreadW (blkOf (fillW bs) ib))) (i) (absorb (fillW bs) ib first224))).getD (5) 0#32)) sc_38 rfl (Cell.own (.there (.there (.there (.there (.here))))) (get_U32 (ws := (iter (tStep (spreadW (blkOf (fillW bs) ib))) (i) (absorb (fillW bs) ib first224))) (j := 5) (by omega) (by omega)))) rfl ?_
              refine st (g_indexA (m := 6) ar_39 rfl rfl (by decide) (by decide) (by omega)) rfl ?_
              refine st (g_load (v := U32 (((iter (tStep (spreadW (blkOf (fillW bs) ib))) (i) (absorb (fillW bs) ib first224))).getD (6) 0#32)) sc_38 rfl (Cell.own (.there (.there (.there (.there (.here))))) (get_U32 (ws := (iter (tStep (spreadW (blkOf (fillW bs) ib))) (i) (absorb (fillW bs) ib first224))) (j := 6) (by omega) (by omega)))) rfl ?_
              refine st (g_build rfl (bu_39 _ _ _ _ _ _ _ _)) rfl ?_
              refine sq rfl (o_storeA (cs' := ((iter (tStep (spreadW (blkOf (fillW bs) ib))) (i + 1) (absorb (fillW bs) ib first224))).map U32) sz_39 rfl rfl rfl (by intro v hv; simp only [List.mem_cons, List.not_mem_nil, or_false] at hv; rcases hv with rfl | rfl | rfl | rfl | rfl | rfl | rfl | rfl <;> rfl) (.there (.there (.there (.there (.here))))) (by rw [List.length_map, hstl]; decide) (by rw [setR_whole (by rw [List.length_map, hstl]; rfl)]; show [U32 _, U32 _, U32 _, U32 _, U32 _, U32 _, U32 _, U32 _] = (tStep _ _ _).map U32; rw [t1_eq, t2_eq]; rfl) ?_)
              refine done ?_
              refine ib_n ?_
              refine th_n ?_
              refine region ?_
              refine st (g_move rfl) rfl ?_
              refine st (g_iadd (c := ((i + 1 : Nat) : Int)) rfl rfl (by omega) (by omega) (by omega)) rfl ?_
              refine st (g_assign rfl) rfl ?_
              refine done ?_
              refine th_n ?_
              exact again (i + 1) (by omega) (by omega) ⟨rfl, rfl, rfl, rfl, rfl, rfl, rfl, rfl, trivial⟩ (.cons (.there (.here)) (.cons (.there (.here)) (.cons (.there (.here)) (.cons (.there (.here)) (.cons .here .nil)))))
            · try simp only [decide_eq_false_iff_not] at h151
              have hie : i = 64 := by omega
              subst hie
              refine exitc ?_
              refine th_x ?_
              refine th_x ?_
              refine ib_x ?_
              refine th_n ?_
              refine seq ?_
              refine region ?_
              refine st (g_assign rfl) rfl ?_
              refine done ?_
              refine th_n ?_
              refine block ?_
              refine loop (α := Nat) (fun i => i ≤ 8) (fun i => [(0, I64 224), (8, .pointer (some ⟨b8, 0, none⟩)), (9, .pointer (some ⟨b9, 0, none⟩)), (12, slv (fillN n) ym), (13, I64 ((64 * ib : Nat) : Int)), (20, .pointer (some ⟨b20, 0, none⟩)), (26, I64 (i : Nat))]) (fun i => [vec (slv (fillN n) ym) 5 1 (fillN n) ((fillW bs).map B8), blk b8 118 ((cubesL).map U32), blk b9 39 (((iter (addStep (iter (tStep (spreadW (blkOf (fillW bs) ib))) 64 (absorb (fillW bs) ib first224))) (i) (absorb (fillW bs) ib first224))).map U32), blk b20 39 (((iter (tStep (spreadW (blkOf (fillW bs) ib))) 64 (absorb (fillW bs) ib first224))).map U32)]) (fun i => 8 - i) 0 (Nat.zero_le _) ⟨rfl, rfl, rfl, rfl, rfl, rfl, rfl, trivial⟩ (.cons .here (.cons .here (.cons .here (.cons (.there (.here)) .nil)))) (fun i hI => ?_)
              have hadl := (addIter_length (iter (tStep (spreadW (blkOf (fillW bs) ib))) 64 (absorb (fillW bs) ib first224)) (i) (absorb (fillW bs) ib first224) (absorb_length (by rfl)))
              have hfinl := (tIter_length (spreadW (blkOf (fillW bs) ib)) (absorb (fillW bs) ib first224) (absorb_length (by rfl)) (64))
              refine seq ?_
              refine seq ?_
              refine region ?_
              refine st (g_move rfl) rfl ?_
              refine st (g_bin rfl rfl rfl) rfl ?_
              refine done ?_
              refine th_n ?_
              refine condS rfl (fun h231 => ?_) (fun h231 => ?_)
              · try simp only [decide_eq_true_eq] at h231
                have hi : i < 8 := by omega
                refine skip ?_
                refine th_n ?_
                refine seq ?_
                refine block ?_
                refine regionX mixed (by decide +kernel) ?_
                refine Dr.st (g_move rfl) rfl ?_
                refine Dr.st (g_move rfl) rfl ?_
                refine Dr.st (g_indexA (m := i) ar_39 rfl rfl (by omega) (by omega) (by omega)) rfl ?_
                refine Dr.st (g_load (v := U32 (((iter (addStep (iter (tStep (spreadW (blkOf (fillW bs) ib))) 64 (absorb (fillW bs) ib first224))) (i) (absorb (fillW bs) ib first224))).getD (i) 0#32)) sc_38 rfl (Cell.own (.there (.there (.here))) (get_U32 (ws := (iter (addStep (iter (tStep (spreadW (blkOf (fillW bs) ib))) 64 (absorb (fillW bs) ib first224))) (i) (absorb (fillW bs) ib first224))) (j := i) (by omega) (by omega)))) rfl ?_
                refine Dr.st (g_move rfl) rfl ?_
                refine Dr.st (g_indexA (m := i) ar_39 rfl rfl (by omega) (by omega) (by omega)) rfl ?_
                refine Dr.st (g_load (v := U32 (((iter (tStep (spreadW (blkOf (fillW bs) ib))) 64 (absorb (fillW bs) ib first224))).getD (i) 0#32)) sc_38 rfl (Cell.own (.there (.there (.there (.here)))) (get_U32 (ws := (iter (tStep (spreadW (blkOf (fillW bs) ib))) 64 (absorb (fillW bs) ib first224))) (j := i) (by omega) (by omega)))) rfl ?_
                refine Dr.st (g_add32 rfl rfl) rfl ?_
                refine Dr.st (g_indexA (m := i) ar_39 rfl rfl (by omega) (by omega) (by omega)) rfl ?_
                refine Dr.last ?_
                refine o_store (cs' := ((iter (addStep (iter (tStep (spreadW (blkOf (fillW bs) ib))) 64 (absorb (fillW bs) ib first224))) (i + 1) (absorb (fillW bs) ib first224))).map U32) sz_38 rfl rfl rfl (.there (.there (.here))) (by rw [List.length_map]; omega) (by rw [← List.map_set]; rfl) ?_
                refine ib_n ?_
                refine th_n ?_
                refine region ?_
                refine st (g_move rfl) rfl ?_
                refine st (g_iadd (c := ((i + 1 : Nat) : Int)) rfl rfl (by omega) (by omega) (by omega)) rfl ?_
                refine st (g_assign rfl) rfl ?_
                refine done ?_
                refine th_n ?_
                exact again (i + 1) (by omega) (by omega) ⟨rfl, rfl, rfl, rfl, rfl, rfl, rfl, trivial⟩ (.cons (.there (.here)) (.cons (.there (.here)) (.cons .here (.cons .here .nil))))
              · try simp only [decide_eq_false_iff_not] at h231
                have hie : i = 8 := by omega
                subst hie
                refine exitc ?_
                refine th_x ?_
                refine th_x ?_
                refine ib_x ?_
                refine ib_n ?_
                refine th_n ?_
                refine region ?_
                refine st (g_move rfl) rfl ?_
                refine st (g_iadd (c := ((64 * (ib + 1) : Nat) : Int)) rfl rfl (by omega) (by omega) (by omega)) rfl ?_
                refine st (g_assign rfl) rfl ?_
                refine done ?_
                refine th_n ?_
                exact again (ib + 1) (by omega) (by omega) ⟨rfl, rfl, rfl, rfl, rfl, trivial⟩ (.cons .here (.cons .here (.cons .here .nil)))
      · try simp only [decide_eq_false_iff_not] at h80
        have hie : ib = nb := by omega
        subst hie
        refine exitc ?_
        refine th_x ?_
        refine th_x ?_
        refine ib_x ?_
        refine th_n ?_
        refine seq ?_
        refine At.up (fun w hw => new0_vec (T := 5) (s := 1) hw ⟨rfl, .inl ⟨rfl, rfl⟩⟩) ?_
        refine region ?_
        refine st (g_assign rfl) rfl ?_
        refine done ?_
        refine th_n ?_
        refine seq ?_
        refine seq ?_
        refine region ?_
        refine st (g_assign rfl) rfl ?_
        refine done ?_
        refine th_n ?_
        refine block ?_
        refine loop (α := Nat × (Option Addr × Nat)) (fun ⟨i, yo⟩ => i ≤ 7 ∧ (yo.1 = none → yo.2 = 0) ∧ 4 * i ≤ yo.2) (fun ⟨i, yo⟩ => [(0, I64 224), (9, .pointer (some ⟨b9, 0, none⟩)), (27, slv (4 * i) yo), (28, I64 (i : Nat))]) (fun ⟨i, yo⟩ => [vec (slv (4 * i) yo) 5 1 (4 * i) ((outB (absorb (fillW bs) ib first224) i).map B8), blk b9 39 (((absorb (fillW bs) ib first224)).map U32)]) (fun ⟨i, yo⟩ => 7 - i) (0, (none, 0)) ⟨Nat.zero_le _, fun _ => rfl, Nat.le_refl _⟩ ⟨rfl, rfl, rfl, rfl, trivial⟩ (.cons .here (.cons (.there (.there (.here))) .nil)) (fun ⟨i, yo⟩ ⟨hi, hyo, hyo2⟩ => ?_)
        show At _ [(0, I64 224), (9, .pointer (some ⟨b9, 0, none⟩)), (27, slv (4 * i) yo), (28, I64 (i : Nat))] [vec (slv (4 * i) yo) 5 1 (4 * i) ((outB (absorb (fillW bs) ib first224) i).map B8), blk b9 39 (((absorb (fillW bs) ib first224)).map U32)] _
        refine seq ?_
        refine seq ?_
        refine region ?_
        refine st (g_move rfl) rfl ?_
        refine st (g_move rfl) rfl ?_
        refine st (g_iquo (c := 7) rfl rfl (by omega) (by omega) (by omega) (by decide)) rfl ?_
        refine st (g_bin rfl rfl rfl) rfl ?_
        refine done ?_
        refine th_n ?_
        refine condS rfl (fun h246 => ?_) (fun h246 => ?_)
        · try simp only [decide_eq_true_eq] at h246
          have hi2 : i < 7 := by omega
          have hsl2 : (absorb (fillW bs) ib first224).length = 8 := hsl
          refine skip ?_
          refine th_n ?_
          refine seq ?_
          refine block ?_
          refine regionL ⟨[_], [], []⟩ mixed (by decide +kernel) (.cons (.there (.here)) .nil) .nil ?_
          refine An'.q 0 [] rfl (by decide +kernel) rfl rfl (g_move rfl) rfl ?_
          refine An'.q 1 [] rfl (by decide +kernel) rfl rfl (g_move rfl) rfl ?_
          refine An'.q 2 [] rfl (by decide +kernel) rfl rfl (g_indexA (m := i) ar_39 rfl rfl (by omega) (by omega) (by omega)) rfl ?_
          refine An'.q 3 [] rfl (by decide +kernel) rfl rfl (g_load (v := U32 (((absorb (fillW bs) ib first224)).getD (i) 0#32)) sc_38 rfl (Cell.own .here (get_U32 (ws := (absorb (fillW bs) ib first224)) (j := i) (by omega) (by omega)))) rfl ?_
          refine An'.q 4 [] rfl (by decide +kernel) rfl rfl (g_quo32 (b := 16777216#32) rfl rfl (by decide)) rfl ?_
          refine An'.q 5 [] rfl (by decide +kernel) rfl rfl (g_to8 it_38 it_5 rfl rfl) rfl ?_
          refine An'.q 6 [] rfl (by decide +kernel) rfl rfl (g_move rfl) rfl ?_
          refine An'.q 7 [] rfl (by decide +kernel) rfl rfl (g_indexA (m := i) ar_39 rfl rfl (by omega) (by omega) (by omega)) rfl ?_
          refine An'.q 8 [] rfl (by decide +kernel) rfl rfl (g_load (v := U32 (((absorb (fillW bs) ib first224)).getD (i) 0#32)) sc_38 rfl (Cell.own .here (get_U32 (ws := (absorb (fillW bs) ib first224)) (j := i) (by omega) (by omega)))) rfl ?_
          refine An'.q 9 [] rfl (by decide +kernel) rfl rfl (g_quo32 (b := 65536#32) rfl rfl (by decide)) rfl ?_
          refine An'.q 10 [] rfl (by decide +kernel) rfl rfl (g_rem32 (b := 256#32) rfl rfl (by decide)) rfl ?_
          refine An'.q 11 [] rfl (by decide +kernel) rfl rfl (g_to8 it_38 it_5 rfl rfl) rfl ?_
          refine An'.q 12 [] rfl (by decide +kernel) rfl rfl (g_move rfl) rfl ?_
          refine An'.q 13 [] rfl (by decide +kernel) rfl rfl (g_indexA (m := i) ar_39 rfl rfl (by omega) (by omega) (by omega)) rfl ?_
          refine An'.q 14 [] rfl (by decide +kernel) rfl rfl (g_load (v := U32 (((absorb (fillW bs) ib first224)).getD (i) 0#32)) sc_38 rfl (Cell.own .here (get_U32 (ws := (absorb (fillW bs) ib first224)) (j := i) (by omega) (by omega)))) rfl ?_
          refine An'.q 15 [] rfl (by decide +kernel) rfl rfl (g_quo32 (b := 256#32) rfl rfl (by decide)) rfl ?_
          refine An'.q 16 [] rfl (by decide +kernel) rfl rfl (g_rem32 (b := 256#32) rfl rfl (by decide)) rfl ?_
          refine An'.q 17 [] rfl (by decide +kernel) rfl rfl (g_to8 it_38 it_5 rfl rfl) rfl ?_
          refine An'.q 18 [] rfl (by decide +kernel) rfl rfl (g_move rfl) rfl ?_
          refine An'.q 19 [] rfl (by decide +kernel) rfl rfl (g_indexA (m := i) ar_39 rfl rfl (by omega) (by omega) (by omega)) rfl ?_
          refine An'.q 20 [] rfl (by decide +kernel) rfl rfl (g_load (v := U32 (((absorb (fillW bs) ib first224)).getD (i) 0#32)) sc_38 rfl (Cell.own .here (get_U32 (ws := (absorb (fillW bs) ib first224)) (j := i) (by omega) (by omega)))) rfl ?_
          refine An'.q 21 [] rfl (by decide +kernel) rfl rfl (g_rem32 (b := 256#32) rfl rfl (by decide)) rfl ?_
          refine An'.q 22 [] rfl (by decide +kernel) rfl rfl (g_to8 it_38 it_5 rfl rfl) rfl ?_
          refine An'.oneG 23 (by decide +kernel) rfl rfl ?_
          refine o_buildSlice1 (vs := ([UInt8.ofNat ((absorb (fillW bs) ib first224).getD i 0#32 / 16777216#32).toNat, UInt8.ofNat ((absorb (fillW bs) ib first224).getD i 0#32 / 65536#32 % 256#32).toNat, UInt8.ofNat ((absorb (fillW bs) ib first224).getD i 0#32 / 256#32 % 256#32).toNat, UInt8.ofNat ((absorb (fillW bs) ib first224).getD i 0#32 % 256#32).toNat] : List UInt8).map B8) un_23 zr_5 sz_5 (by decide) (by decide) rfl rfl rfl oneB8 rfl (fun b272 => ?_)
          rw [word_bytes]
          refine An'.on0 (.cons (.there (.there (.here))) .nil) .nil rfl ?_
          refine An'.oneG 24 (by decide +kernel) rfl rfl ?_
          refine o_append (n := 4 * i) (m := 4) (news := (w4 ((absorb (fillW bs) ib first224).getD i 0#32)).map B8) un_23 zr_5 sz_5 rfl bt_5 (by decide) rfl rfl (.there (.here)) rfl (RdA.own .here (fun j v hj => by rw [Nat.zero_add]; exact hj)) oneB8 nofun (by simp only [maxLen]; omega) (by omega) rfl (fun q9 cap9 hq9 hc9 hq09 => ?_)
          rw [← List.map_append, ← outB_succ, show 4 * i + 4 = 4 * (i + 1) by omega]
          refine An'.on0 (.cons (.there (.there (.here))) .nil) .nil rfl ?_
          refine An'.q 25 [] rfl (by decide +kernel) rfl rfl (g_assign rfl) rfl ?_
          refine An'.fin (by decide +kernel) ?_
          refine ib_n ?_
          refine th_n ?_
          refine region ?_
          refine st (g_move rfl) rfl ?_
          refine st (g_iadd (c := ((i + 1 : Nat) : Int)) rfl rfl (by omega) (by omega) (by omega)) rfl ?_
          refine st (g_assign rfl) rfl ?_
          refine done ?_
          refine th_n ?_
          exact again (i + 1, (q9, cap9)) ⟨by omega, hq09, by show 4 * (i + 1) ≤ cap9; omega⟩ (by show 7 - (i + 1) < 7 - i; omega) ⟨rfl, rfl, rfl, rfl, trivial⟩ (.cons .here (.cons (.there (.here)) .nil))
        · try simp only [decide_eq_false_iff_not] at h246
          have hie : i = 7 := by omega
          subst hie
          refine exitc ?_
          refine th_x ?_
          refine th_x ?_
          refine ib_x ?_
          refine th_n ?_
          refine seq ?_
          refine region ?_
          refine st (g_move rfl) rfl ?_
          refine st (g_assign rfl) rfl ?_
          refine st (g_assign rfl) rfl ?_
          refine done ?_
          refine th_n ?_
          refine ret ?_
          exact ret2 rfl rfl rfl rfl (fun w2 hw2 => ⟨yo, ⟨hyo, hyo2⟩, rfl, by
            have h := Sat.left (hw2.split (.cons .here .nil))
            have e : hashOf 224 bs = outB (absorb (fillW bs) ib first224) 7 := by
              rw [hnb, ← hfl, ref_hash first224 bs (by decide)]
              rfl
            rw [e]; exact h⟩)
end Go.Proofs.YtokhediaibdkjaaDoor

/-! From L3 -/
/- The walk of Sha256Sums. (printed by gen1.py) -/
namespace Go.Proofs.YtokhediaibdkjaaDoor
open Go.Pm Go.RowKit
set_option maxRecDepth 100000
/-- Pieces, the first i of them: their size, their bytes. -/
def tN (ss : List Sl) (i : Nat) : Nat := tot (ss.take i)
def cN (ss : List Sl) (i : Nat) : List UInt8 := cat (ss.take i)
theorem tN_zero (ss : List Sl) : tN ss 0 = 0 := by simp [tN, tot]
theorem cN_zero (ss : List Sl) : cN ss 0 = [] := by simp [cN, cat]
theorem tN_succ {ss : List Sl} {i : Nat} {s : Sl} (h : ss[i]? = some s) : tN ss (i + 1) = tN ss i + s.n := by
  rw [tN, tN, take_one h]; simp [tot]
theorem cN_succ {ss : List Sl} {i : Nat} {s : Sl} (h : ss[i]? = some s) : cN ss (i + 1) = cN ss i ++ s.l := by
  rw [cN, cN, take_one h]; simp [cat]
theorem cN_length {ss : List Sl} (h : ∀ s ∈ ss, s.l.length = s.n) : ∀ i, i ≤ ss.length → (cN ss i).length = tN ss i
  | 0, _ => by rw [cN_zero, tN_zero]; rfl
  | i + 1, hi => by
    have hg : ss[i]? = some ss[i] := List.getElem?_eq_getElem (by omega)
    rw [cN_succ hg, tN_succ hg, List.length_append, cN_length h i (by omega), h _ (List.getElem_mem (by omega))]
theorem tN_bound {ss : List Sl} {b : Nat} (h : ∀ s ∈ ss, s.n ≤ b) : ∀ i, i ≤ ss.length → tN ss i ≤ i * b
  | 0, _ => by rw [tN_zero]; exact Nat.zero_le _
  | i + 1, hi => by
    have hg : ss[i]? = some ss[i] := List.getElem?_eq_getElem (by omega)
    have := tN_bound h i (by omega)
    have := h _ (List.getElem_mem (l := ss) (n := i) (by omega))
    rw [tN_succ hg, Nat.add_mul, Nat.one_mul]; omega
theorem cN_pre (ss : List Sl) (i : Nat) : ∃ r, cN ss ss.length = cN ss i ++ r := by
  refine ⟨cat (ss.drop i), ?_⟩
  show List.flatMap Sl.l (ss.take ss.length) = List.flatMap Sl.l (ss.take i) ++ List.flatMap Sl.l (ss.drop i)
  rw [List.take_length, ← List.flatMap_append, List.take_append_drop]
theorem cN_take {ss : List Sl} (h : ∀ s ∈ ss, s.l.length = s.n) {i : Nat} (hi : i ≤ ss.length) : (cN ss ss.length).take (tN ss i) = cN ss i := by
  obtain ⟨r, hr⟩ := cN_pre ss i
  rw [hr, ← cN_length h i hi, List.take_left]
theorem tN_le {ss : List Sl} (h : ∀ s ∈ ss, s.l.length = s.n) {i : Nat} (hi : i ≤ ss.length) : tN ss i ≤ tN ss ss.length := by
  obtain ⟨r, hr⟩ := cN_pre ss i
  rw [← cN_length h i hi, ← cN_length h ss.length (Nat.le_refl _), hr, List.length_append]
  omega


theorem f3_bad (bits : Int) (h4 : bits ≠ 224) (h6 : bits ≠ 256) (q : Option Addr) (c : Nat) (ss : List Sl) (hbd : ∀ s ∈ ss, s.n ≤ 1048576) (w : World) (hrq : RdC w q (ss.map Sl.v)) (hok : ∀ s ∈ ss, s.ok w) : Calls Tryd.prog 3 [I64 bits, .slice q ss.length c].toArray w (fun en w2 => en = .returned (.bool true) ∧ Sat w [] [] w2) := by
  have hlen : ∀ s ∈ ss, s.l.length = s.n := fun s hs => (hok s hs).1
  have hall := cN_length hlen ss.length (Nat.le_refl _)
  refine used h4 (used h6 (used hbd (used hrq (used hok (?_)))))
  refine enter (n := 176) Tryd.func3 rfl rfl rfl (Sat.refl w) ?_
  refine seq ?_
  refine region ?_
  refine st (g_assign rfl) rfl ?_
  refine done ?_
  refine th_n ?_
  refine seq ?_
  refine seq ?_
  refine region ?_
  refine st (g_move rfl) rfl ?_
  refine st (g_len el_22 rfl) rfl ?_
  refine st (g_bin rfl rfl rfl) rfl ?_
  refine done ?_
  refine th_n ?_
  refine condS rfl (fun h24 => ?_) (fun h24 => ?_)
  · try simp only [decide_eq_true_eq] at h24
    refine seq ?_
    refine region ?_
    refine st (g_assign rfl) rfl ?_
    refine done ?_
    refine th_n ?_
    refine ret ?_
    refine th_r ?_
    exact ret1 rfl rfl rfl (fun w2 hw2 => ⟨rfl, hw2.clear⟩)
  · try simp only [decide_eq_false_iff_not] at h24
    refine skip ?_
    refine th_n ?_
    refine seq ?_
    refine At.up (fun w hw => new0_vec (T := 5) (s := 1) hw ⟨rfl, .inl ⟨rfl, rfl⟩⟩) ?_
    refine region ?_
    refine st (g_assign rfl) rfl ?_
    refine done ?_
    refine th_n ?_
    refine seq ?_
    refine seq ?_
    refine region ?_
    refine st (g_move rfl) rfl ?_
    refine st (g_len el_22 rfl) rfl ?_
    refine st (g_move rfl) rfl ?_
    refine done ?_
    refine th_n ?_
    refine block ?_
    rw [show (vec (.slice none 0 0) 5 1 0 [] : Res) = vec (slv (tN ss 0) (none, 0)) 5 1 (tN ss 0) ((cN ss 0).map B8) by rw [tN_zero, cN_zero]; rfl]
    refine loop (α := Nat × (Option Addr × Nat)) (fun ⟨i, x5⟩ => i ≤ ss.length ∧ (x5.1 = none → x5.2 = 0) ∧ tN ss i ≤ x5.2) (fun ⟨i, x5⟩ => [(0, I64 bits), (1, .slice q ss.length c), (5, slv (tN ss i) x5), (26, I64 (ss.length : Nat)), (27, I64 (i : Nat))]) (fun ⟨i, x5⟩ => [vec (slv (tN ss i) x5) 5 1 (tN ss i) ((cN ss i).map B8)]) (fun ⟨i, x5⟩ => ss.length - i) (0, (none, 0)) ⟨Nat.zero_le _, fun _ => rfl, by rw [tN_zero]; exact Nat.le_refl _⟩ ⟨rfl, rfl, by rw [tN_zero]; rfl, rfl, rfl, trivial⟩ (.cons .here .nil) (fun ⟨i, x5⟩ ⟨hi, hx5, hx52⟩ => ?_)
    show At _ [(0, I64 bits), (1, .slice q ss.length c), (5, slv (tN ss i) x5), (26, I64 (ss.length : Nat)), (27, I64 (i : Nat))] [vec (slv (tN ss i) x5) 5 1 (tN ss i) ((cN ss i).map B8)] _
    refine seq ?_
    refine region ?_
    refine st (g_bin rfl rfl rfl) rfl ?_
    refine done ?_
    refine th_n ?_
    refine seq ?_
    refine condS rfl (fun h28 => ?_) (fun h28 => ?_)
    · try simp only [decide_eq_true_eq] at h28
      have hi2 : i < ss.length := by omega
      obtain ⟨s, hs⟩ : ∃ s, ss[i]? = some s := ⟨ss[i], by simp [hi2]⟩
      obtain ⟨hsl, hsp, hsc, hsr⟩ := hok s (List.mem_of_getElem? hs)
      have hps : q.isSome = true := hrq.some (by intro h; simp at h; subst h; simp at hi2)
      have hsv := get_slv hs
      have hb1 := tN_bound hbd i (by omega)
      have hb2 := hbd s (List.mem_of_getElem? hs)
      refine skip ?_
      refine th_n ?_
      refine seq ?_
      refine block ?_
      refine seq ?_
      refine region ?_
      refine st (g_move rfl) rfl ?_
      refine st (g_assign rfl) rfl ?_
      refine done ?_
      refine th_n ?_
      refine region ?_
      refine st (g_move rfl) rfl ?_
      refine st (g_move rfl) rfl ?_
      refine st (g_move rfl) rfl ?_
      refine st (g_indexP (m := i) el_22 rfl rfl (hps) (by omega) (by omega) (by omega)) rfl ?_
      refine st (g_load (v := s.v) sc_23 rfl (Cell.rd (RdA.of hrq.s) hsv)) rfl ?_
      refine sq rfl (o_append (n := tN ss i) (m := s.n) (news := s.l.map B8) un_23 zr_5 sz_5 rfl bt_5 (by decide) rfl rfl .here (by simp [hsl]) (RdA.of hsr.s) oneB8 hsp (by simp only [maxLen]; omega) (by omega) rfl (fun q1 cap1 hq1 hc1 hq01 => ?_))
      refine st (g_assign rfl) rfl ?_
      refine done ?_
      refine ib_n ?_
      refine th_n ?_
      refine region ?_
      refine st (g_iadd (c := ((i + 1 : Nat) : Int)) rfl rfl (by omega) (by omega) (by omega)) rfl ?_
      refine st (g_move rfl) rfl ?_
      refine done ?_
      refine th_n ?_
      rw [← List.map_append, ← cN_succ hs, ← tN_succ hs]
      exact again (i + 1, (q1, cap1)) ⟨by omega, hq01, by rw [tN_succ hs]; exact hc1⟩ (by show ss.length - (i + 1) < ss.length - i; omega) ⟨rfl, rfl, by rw [tN_succ hs]; rfl, rfl, rfl, trivial⟩ (.cons .here .nil)
    · try simp only [decide_eq_false_iff_not] at h28
      have hie : i = ss.length := by omega
      subst hie
      refine exitc ?_
      refine th_x ?_
      refine th_x ?_
      refine ib_x ?_
      refine th_n ?_
      refine seq ?_
      refine seq ?_
      refine region ?_
      refine st (g_move rfl) rfl ?_
      refine st (g_len el_23 rfl) rfl ?_
      refine st (g_bin rfl rfl rfl) rfl ?_
      refine done ?_
      refine th_n ?_
      refine condS rfl (fun h39 => ?_) (fun h39 => ?_)
      · try simp only [decide_eq_true_eq] at h39
        refine seq ?_
        refine region ?_
        refine st (g_assign rfl) rfl ?_
        refine done ?_
        refine th_n ?_
        refine ret ?_
        refine th_r ?_
        exact ret1 rfl rfl rfl (fun w2 hw2 => ⟨rfl, hw2.clear⟩)
      · try simp only [decide_eq_false_iff_not] at h39
        refine skip ?_
        refine th_n ?_
        refine seq ?_
        refine region ?_
        refine st (g_move rfl) rfl ?_
        refine st (g_move rfl) rfl ?_
        refine sq rfl (o_callP Tryd.func17 rfl rfl rfl (fun w hw => f17_bad bits h4 h6 _ w) rfl ?_)
        refine st (g_move rfl) rfl ?_
        refine st (g_extract rfl rfl) rfl ?_
        refine st (g_extract rfl rfl) rfl ?_
        refine st (g_assign rfl) rfl ?_
        refine st (g_assign rfl) rfl ?_
        refine done ?_
        refine th_n ?_
        refine seq ?_
        refine region ?_
        refine st (g_move rfl) rfl ?_
        refine st (g_move rfl) rfl ?_
        refine sq rfl (o_callP Tryd.func18 rfl rfl rfl (fun w hw => f18_bad bits h4 h6 _ w) rfl ?_)
        refine st (g_move rfl) rfl ?_
        refine st (g_extract rfl rfl) rfl ?_
        refine st (g_extract rfl rfl) rfl ?_
        refine st (g_assign rfl) rfl ?_
        refine st (g_assign rfl) rfl ?_
        refine done ?_
        refine th_n ?_
        refine seq ?_
        refine region ?_
        refine st (g_move rfl) rfl ?_
        refine sq rfl (o_callP Tryd.func19 rfl rfl rfl (fun w hw => f19_bad bits h4 h6 w) rfl ?_)
        refine st (g_move rfl) rfl ?_
        refine st (g_extract rfl rfl) rfl ?_
        refine st (g_extract rfl rfl) rfl ?_
        refine st (g_assign rfl) rfl ?_
        refine st (g_assign rfl) rfl ?_
        refine done ?_
        refine th_n ?_
        refine seq ?_
        refine seq ?_
        refine region ?_
        refine st (g_move rfl) rfl ?_
        refine st (g_str (l := []) by_23 str_9 rfl rfl (RdA.of RdS.nil)) rfl ?_
        refine st (g_move rfl) rfl ?_
        refine st (g_str (l := []) by_23 str_9 rfl rfl (RdA.of RdS.nil)) rfl ?_
        refine st (g_neSF rfl rfl (rfl)) rfl ?_
        refine st (g_move rfl) rfl ?_
        refine gt rfl ?_
        refine st (g_move rfl) rfl ?_
        refine gt rfl ?_
        refine st (g_move rfl) rfl ?_
        refine gt rfl ?_
        refine st (g_F rfl rfl rfl (by decide)) rfl ?_
        refine st (g_pickF rfl rfl) rfl ?_
        refine st (g_move rfl) rfl ?_
        refine gt rfl ?_
        refine st (g_move rfl) rfl ?_
        refine gt rfl ?_
        refine st (g_move rfl) rfl ?_
        refine gt rfl ?_
        refine st (g_F rfl rfl rfl (by decide)) rfl ?_
        refine st (g_pickF rfl rfl) rfl ?_
        refine st (g_move rfl) rfl ?_
        refine gt rfl ?_
        refine st (g_move rfl) rfl ?_
        refine gt rfl ?_
        refine st (g_eqNil pt_29 rfl rfl) rfl ?_
        refine gt rfl ?_
        refine st (g_move rfl) rfl ?_
        refine gt rfl ?_
        refine st (g_T rfl rfl rfl (by decide)) rfl ?_
        refine gt rfl ?_
        refine st (g_neB bo_4 rfl rfl) rfl ?_
        refine st (g_pickF rfl rfl) rfl ?_
        refine done ?_
        refine th_n ?_
        refine condF rfl ?_
        refine skip ?_
        refine th_n ?_
        refine seq ?_
        refine seq ?_
        refine region ?_
        refine st (g_move rfl) rfl ?_
        refine st (g_T rfl rfl rfl (by decide)) rfl ?_
        refine done ?_
        refine th_n ?_
        refine condT rfl ?_
        refine seq ?_
        refine region ?_
        refine st (g_assign rfl) rfl ?_
        refine done ?_
        refine th_n ?_
        refine ret ?_
        refine th_r ?_
        exact ret1 rfl rfl rfl (fun w2 hw2 => ⟨rfl, hw2.clear⟩)

theorem f3_224 (q : Option Addr) (c : Nat) (ss : List Sl) (hbd : ∀ s ∈ ss, s.n ≤ 1048576) (w : World) (hrq : RdC w q (ss.map Sl.v)) (hok : ∀ s ∈ ss, s.ok w) (hG : Gl w []) : Calls Tryd.prog 3 [I64 224, .slice q ss.length c].toArray w (fun en w2 => en = .returned (.bool true) ∧ Sat w [] [] w2) := by
  have hlen : ∀ s ∈ ss, s.l.length = s.n := fun s hs => (hok s hs).1
  have hall := cN_length hlen ss.length (Nat.le_refl _)
  refine used hbd (used hrq (used hok (used hG (?_))))
  refine enter (n := 176) Tryd.func3 rfl rfl rfl (Sat.refl w) ?_
  refine seq ?_
  refine region ?_
  refine st (g_assign rfl) rfl ?_
  refine done ?_
  refine th_n ?_
  refine seq ?_
  refine seq ?_
  refine region ?_
  refine st (g_move rfl) rfl ?_
  refine st (g_len el_22 rfl) rfl ?_
  refine st (g_bin rfl rfl rfl) rfl ?_
  refine done ?_
  refine th_n ?_
  refine condS rfl (fun h24 => ?_) (fun h24 => ?_)
  · try simp only [decide_eq_true_eq] at h24
    refine seq ?_
    refine region ?_
    refine st (g_assign rfl) rfl ?_
    refine done ?_
    refine th_n ?_
    refine ret ?_
    refine th_r ?_
    exact ret1 rfl rfl rfl (fun w2 hw2 => ⟨rfl, hw2.clear⟩)
  · try simp only [decide_eq_false_iff_not] at h24
    refine skip ?_
    refine th_n ?_
    refine seq ?_
    refine At.up (fun w hw => new0_vec (T := 5) (s := 1) hw ⟨rfl, .inl ⟨rfl, rfl⟩⟩) ?_
    refine region ?_
    refine st (g_assign rfl) rfl ?_
    refine done ?_
    refine th_n ?_
    refine seq ?_
    refine seq ?_
    refine region ?_
    refine st (g_move rfl) rfl ?_
    refine st (g_len el_22 rfl) rfl ?_
    refine st (g_move rfl) rfl ?_
    refine done ?_
    refine th_n ?_
    refine block ?_
    rw [show (vec (.slice none 0 0) 5 1 0 [] : Res) = vec (slv (tN ss 0) (none, 0)) 5 1 (tN ss 0) ((cN ss 0).map B8) by rw [tN_zero, cN_zero]; rfl]
    refine loop (α := Nat × (Option Addr × Nat)) (fun ⟨i, x5⟩ => i ≤ ss.length ∧ (x5.1 = none → x5.2 = 0) ∧ tN ss i ≤ x5.2) (fun ⟨i, x5⟩ => [(0, I64 224), (1, .slice q ss.length c), (5, slv (tN ss i) x5), (26, I64 (ss.length : Nat)), (27, I64 (i : Nat))]) (fun ⟨i, x5⟩ => [vec (slv (tN ss i) x5) 5 1 (tN ss i) ((cN ss i).map B8)]) (fun ⟨i, x5⟩ => ss.length - i) (0, (none, 0)) ⟨Nat.zero_le _, fun _ => rfl, by rw [tN_zero]; exact Nat.le_refl _⟩ ⟨rfl, rfl, by rw [tN_zero]; rfl, rfl, rfl, trivial⟩ (.cons .here .nil) (fun ⟨i, x5⟩ ⟨hi, hx5, hx52⟩ => ?_)
    show At _ [(0, I64 224), (1, .slice q ss.length c), (5, slv (tN ss i) x5), (26, I64 (ss.length : Nat)), (27, I64 (i : Nat))] [vec (slv (tN ss i) x5) 5 1 (tN ss i) ((cN ss i).map B8)] _
    refine seq ?_
    refine region ?_
    refine st (g_bin rfl rfl rfl) rfl ?_
    refine done ?_
    refine th_n ?_
    refine seq ?_
    refine condS rfl (fun h28 => ?_) (fun h28 => ?_)
    · try simp only [decide_eq_true_eq] at h28
      have hi2 : i < ss.length := by omega
      obtain ⟨s, hs⟩ : ∃ s, ss[i]? = some s := ⟨ss[i], by simp [hi2]⟩
      obtain ⟨hsl, hsp, hsc, hsr⟩ := hok s (List.mem_of_getElem? hs)
      have hps : q.isSome = true := hrq.some (by intro h; simp at h; subst h; simp at hi2)
      have hsv := get_slv hs
      have hb1 := tN_bound hbd i (by omega)
      have hb2 := hbd s (List.mem_of_getElem? hs)
      refine skip ?_
      refine th_n ?_
      refine seq ?_
      refine block ?_
      refine seq ?_
      refine region ?_
      refine st (g_move rfl) rfl ?_
      refine st (g_assign rfl) rfl ?_
      refine done ?_
      refine th_n ?_
      refine region ?_
      refine st (g_move rfl) rfl ?_
      refine st (g_move rfl) rfl ?_
      refine st (g_move rfl) rfl ?_
      refine st (g_indexP (m := i) el_22 rfl rfl (hps) (by omega) (by omega) (by omega)) rfl ?_
      refine st (g_load (v := s.v) sc_23 rfl (Cell.rd (RdA.of hrq.s) hsv)) rfl ?_
      refine sq rfl (o_append (n := tN ss i) (m := s.n) (news := s.l.map B8) un_23 zr_5 sz_5 rfl bt_5 (by decide) rfl rfl .here (by simp [hsl]) (RdA.of hsr.s) oneB8 hsp (by simp only [maxLen]; omega) (by omega) rfl (fun q1 cap1 hq1 hc1 hq01 => ?_))
      refine st (g_assign rfl) rfl ?_
      refine done ?_
      refine ib_n ?_
      refine th_n ?_
      refine region ?_
      refine st (g_iadd (c := ((i + 1 : Nat) : Int)) rfl rfl (by omega) (by omega) (by omega)) rfl ?_
      refine st (g_move rfl) rfl ?_
      refine done ?_
      refine th_n ?_
      rw [← List.map_append, ← cN_succ hs, ← tN_succ hs]
      exact again (i + 1, (q1, cap1)) ⟨by omega, hq01, by rw [tN_succ hs]; exact hc1⟩ (by show ss.length - (i + 1) < ss.length - i; omega) ⟨rfl, rfl, by rw [tN_succ hs]; rfl, rfl, rfl, trivial⟩ (.cons .here .nil)
    · try simp only [decide_eq_false_iff_not] at h28
      have hie : i = ss.length := by omega
      subst hie
      refine exitc ?_
      refine th_x ?_
      refine th_x ?_
      refine ib_x ?_
      refine th_n ?_
      refine seq ?_
      refine seq ?_
      refine region ?_
      refine st (g_move rfl) rfl ?_
      refine st (g_len el_23 rfl) rfl ?_
      refine st (g_bin rfl rfl rfl) rfl ?_
      refine done ?_
      refine th_n ?_
      refine condS rfl (fun h39 => ?_) (fun h39 => ?_)
      · try simp only [decide_eq_true_eq] at h39
        refine seq ?_
        refine region ?_
        refine st (g_assign rfl) rfl ?_
        refine done ?_
        refine th_n ?_
        refine ret ?_
        refine th_r ?_
        exact ret1 rfl rfl rfl (fun w2 hw2 => ⟨rfl, hw2.clear⟩)
      · try simp only [decide_eq_false_iff_not] at h39
        refine skip ?_
        refine th_n ?_
        refine seq ?_
        refine region ?_
        refine st (g_move rfl) rfl ?_
        refine st (g_move rfl) rfl ?_
        refine sq rfl (o_call Tryd.func17 rfl rfl rfl .nil (fun w hw hA => f17_spec 224 (.inl rfl) x5.1 (tN ss ss.length) x5.2 (cN ss ss.length) hall hx5 hx52 (by omega) w (RdC.ofVec (hw.get .here)) (Gl.ofOld (A := []) hG hw .nil)) rfl (fun og _ => ?_))
        refine st (g_move rfl) rfl ?_
        refine st (g_extract rfl rfl) rfl ?_
        refine st (g_extract rfl rfl) rfl ?_
        refine st (g_assign rfl) rfl ?_
        refine st (g_assign rfl) rfl ?_
        refine done ?_
        refine th_n ?_
        refine seq ?_
        refine region ?_
        refine st (g_move rfl) rfl ?_
        refine st (g_move rfl) rfl ?_
        refine sq rfl (o_call Tryd.func18 rfl rfl rfl .nil (fun w hw hA => f18_224 x5.1 (tN ss ss.length) x5.2 (cN ss ss.length) hall hx5 (by omega) w (RdC.ofVec (hw.get (.there (.here))))) rfl (fun y hy => ?_))
        refine st (g_move rfl) rfl ?_
        refine st (g_extract rfl rfl) rfl ?_
        refine st (g_extract rfl rfl) rfl ?_
        refine st (g_assign rfl) rfl ?_
        refine st (g_assign rfl) rfl ?_
        refine done ?_
        refine th_n ?_
        refine seq ?_
        refine region ?_
        refine st (g_move rfl) rfl ?_
        refine sq rfl (o_call Tryd.func19 rfl rfl rfl .nil (fun w hw hA => new_spec 224 (.inl rfl) w (Gl.ofOld (A := []) hG hw .nil)) rfl (fun b _ => ?_))
        refine st (g_move rfl) rfl ?_
        refine st (g_extract rfl rfl) rfl ?_
        refine st (g_extract rfl rfl) rfl ?_
        refine st (g_assign rfl) rfl ?_
        refine st (g_assign rfl) rfl ?_
        refine done ?_
        refine th_n ?_
        refine seq ?_
        refine seq ?_
        refine region ?_
        refine st (g_move rfl) rfl ?_
        refine st (g_str (l := hashOf 224 (cN ss ss.length)) by_23 str_9 rfl (digest_length (by decide)) (RdA.own (.there (.there (.there (.here)))) rd_app)) rfl ?_
        refine st (g_move rfl) rfl ?_
        refine st (g_str (l := hashOf 224 (cN ss ss.length)) by_23 str_9 rfl (digest_length (by decide)) (RdA.vec (.there (.there (.here))))) rfl ?_
        refine st (g_neSF rfl rfl (rfl)) rfl ?_
        refine st (g_move rfl) rfl ?_
        refine gt rfl ?_
        refine st (g_move rfl) rfl ?_
        refine gt rfl ?_
        refine st (g_move rfl) rfl ?_
        refine gt rfl ?_
        refine st (g_F rfl rfl rfl (by decide)) rfl ?_
        refine st (g_pickF rfl rfl) rfl ?_
        refine st (g_move rfl) rfl ?_
        refine gt rfl ?_
        refine st (g_move rfl) rfl ?_
        refine gt rfl ?_
        refine st (g_move rfl) rfl ?_
        refine gt rfl ?_
        refine st (g_F rfl rfl rfl (by decide)) rfl ?_
        refine st (g_pickF rfl rfl) rfl ?_
        refine st (g_move rfl) rfl ?_
        refine gt rfl ?_
        refine st (g_move rfl) rfl ?_
        refine gt rfl ?_
        refine st (g_eqNil pt_29 rfl rfl) rfl ?_
        refine gt rfl ?_
        refine st (g_move rfl) rfl ?_
        refine gt rfl ?_
        refine st (g_F rfl rfl rfl (by decide)) rfl ?_
        refine gt rfl ?_
        refine st (g_neB bo_4 rfl rfl) rfl ?_
        refine st (g_pickF rfl rfl) rfl ?_
        refine done ?_
        refine th_n ?_
        refine condF rfl ?_
        refine skip ?_
        refine th_n ?_
        refine seq ?_
        refine seq ?_
        refine region ?_
        refine st (g_move rfl) rfl ?_
        refine st (g_F rfl rfl rfl (by decide)) rfl ?_
        refine done ?_
        refine th_n ?_
        refine condF rfl ?_
        refine skip ?_
        refine th_n ?_
        refine seq ?_
        refine region ?_
        refine st (g_assign rfl) rfl ?_
        refine done ?_
        refine th_n ?_
        refine seq ?_
        refine seq ?_
        refine region ?_
        refine st (g_move rfl) rfl ?_
        refine st (g_len el_22 rfl) rfl ?_
        refine st (g_move rfl) rfl ?_
        refine done ?_
        refine th_n ?_
        refine block ?_
        skip
        refine loop (α := Nat × (Option Addr × Nat)) (fun ⟨i, x⟩ => i ≤ ss.length ∧ stP (cN ss i) x) (fun ⟨i, x⟩ => [(0, I64 224), (1, .slice q ss.length c), (5, slv (tN ss ss.length) x5), (8, I64 0), (9, slv 28 y), (11, .pointer (some ⟨b, 0, none⟩)), (82, I64 (ss.length : Nat)), (83, I64 (i : Nat)), (13, I64 (tN ss i : Nat))]) (fun ⟨i, x⟩ => [blk b 41 (stCells 28 (shaH first224 (cN ss i)) (slv (shaR (cN ss i)).length x) (BitVec.ofNat 64 (cN ss i).length)), vec (slv (shaR (cN ss i)).length x) 5 1 (shaR (cN ss i)).length ((shaR (cN ss i)).map B8), vec (slv (tN ss ss.length) x5) 5 1 (tN ss ss.length) ((cN ss ss.length).map B8), vec (slv 28 y) 5 1 28 ((hashOf 224 (cN ss ss.length)).map B8)]) (fun ⟨i, x⟩ => ss.length - i) (0, (none, 0)) ⟨Nat.zero_le _, by rw [cN_zero]; exact ⟨fun _ => rfl, Nat.le_refl _⟩⟩ ⟨rfl, rfl, rfl, rfl, rfl, rfl, rfl, rfl, by rw [tN_zero]; rfl, trivial⟩ (.cons .here (.cons .here (.cons (.there (.there (.here))) (.cons .here .nil)))) (fun ⟨i, x⟩ ⟨hi, hx⟩ => ?_)
        show At _ [(0, I64 224), (1, .slice q ss.length c), (5, slv (tN ss ss.length) x5), (8, I64 0), (9, slv 28 y), (11, .pointer (some ⟨b, 0, none⟩)), (82, I64 (ss.length : Nat)), (83, I64 (i : Nat)), (13, I64 (tN ss i : Nat))] [blk b 41 (stCells 28 (shaH first224 (cN ss i)) (slv (shaR (cN ss i)).length x) (BitVec.ofNat 64 (cN ss i).length)), vec (slv (shaR (cN ss i)).length x) 5 1 (shaR (cN ss i)).length ((shaR (cN ss i)).map B8), vec (slv (tN ss ss.length) x5) 5 1 (tN ss ss.length) ((cN ss ss.length).map B8), vec (slv 28 y) 5 1 28 ((hashOf 224 (cN ss ss.length)).map B8)] _
        refine seq ?_
        refine region ?_
        refine st (g_bin rfl rfl rfl) rfl ?_
        refine done ?_
        refine th_n ?_
        refine seq ?_
        refine condS rfl (fun h84 => ?_) (fun h84 => ?_)
        · try simp only [decide_eq_true_eq] at h84
          have hi2 : i < ss.length := by omega
          obtain ⟨s, hs⟩ : ∃ s, ss[i]? = some s := ⟨ss[i], by simp [hi2]⟩
          obtain ⟨hsl, hsp, hsc, hsr⟩ := hok s (List.mem_of_getElem? hs)
          have hps : q.isSome = true := hrq.some (by intro h; simp at h; subst h; simp at hi2)
          have hsv := get_slv hs
          have hts := tN_succ hs
          have hcs := cN_succ hs
          have hle := tN_le hlen (i := i + 1) (by omega)
          have hcl := cN_length hlen (i + 1) (by omega)
          refine skip ?_
          refine th_n ?_
          refine seq ?_
          refine block ?_
          refine seq ?_
          refine region ?_
          refine st (g_move rfl) rfl ?_
          refine st (g_assign rfl) rfl ?_
          refine done ?_
          refine th_n ?_
          refine seq ?_
          refine region ?_
          refine sq rfl (o_buildSlice0 un_23 sz_5 rfl (fun b86 => ?_))
          refine st (g_move rfl) rfl ?_
          refine st (g_move rfl) rfl ?_
          refine st (g_indexP (m := i) el_22 rfl rfl (hps) (by omega) (by omega) (by omega)) rfl ?_
          refine st (g_load (v := s.v) sc_23 rfl (Cell.rd (RdA.of hrq.s) hsv)) rfl ?_
          refine sq rfl (o_append (n := 0) (m := s.n) (news := s.l.map B8) un_23 zr_5 sz_5 rfl bt_5 (by decide) rfl rfl .here (by simp [hsl]) (RdA.of hsr.s) oneB8 hsp (by simp only [maxLen]; omega) (by omega) rfl (fun q2 cap2 hq2 hc2 hq02 => ?_))
          rw [List.nil_append]
          refine st (g_assign rfl) rfl ?_
          refine done ?_
          refine th_n ?_
          refine seq ?_
          refine region ?_
          refine st (g_move rfl) rfl ?_
          refine st (g_move rfl) rfl ?_
          refine sq rfl (o_call Tryd.func20 rfl rfl rfl (.cons (.there (.here)) (.cons (.there (.here)) .nil)) (fun w hw hA => write_spec b 28 (by decide) first224 rfl (cN ss i) x hx q2 (0 + s.n) cap2 s.l (by omega) hq02 hc2 (by omega) w hA (RdS.ofOwn hw (.cons (.there (.here)) (.cons (.there (.here)) .nil)) .here (RdC.ofVec (hw.get .here)) (fun b o h => by rw [h]; exact List.mem_singleton.2 rfl)) (Gl.ofOld hG hw (.cons (.there (.here)) (.cons (.there (.here)) .nil)))) rfl (fun z hz => ?_))
          rw [← hcs]
          rw [← hcs] at hz
          refine done ?_
          refine th_n ?_
          refine seq ?_
          refine seq ?_
          refine regionQ mixed (by decide +kernel) (by decide +kernel) ?_
          refine Dr.st (g_move rfl) rfl ?_
          refine Dr.st (g_str (l := s.l) by_23 str_9 rfl (by omega) (RdA.vec (.there (.there (.here))))) rfl ?_
          refine Dr.st (g_move rfl) rfl ?_
          refine Dr.st (g_move rfl) rfl ?_
          refine Dr.st (g_indexP (m := i) el_22 rfl rfl (hps) (by omega) (by omega) (by omega)) rfl ?_
          refine Dr.st (g_load (v := s.v) sc_23 rfl (Cell.rd (RdA.of hrq.s) hsv)) rfl ?_
          refine Dr.st (g_str (l := s.l) by_23 str_9 rfl hsl (RdA.of hsr.s)) rfl ?_
          refine Dr.st (g_neSF rfl rfl (rfl)) rfl ?_
          refine Dr.nil ?_
          refine th_n ?_
          refine condF rfl ?_
          refine skip ?_
          refine th_n ?_
          refine seq ?_
          refine seq ?_
          refine region ?_
          refine st (g_move rfl) rfl ?_
          refine st (g_len el_23 rfl) rfl ?_
          refine st (g_move rfl) rfl ?_
          refine done ?_
          refine th_n ?_
          refine block ?_
          refine loop (α := Nat × List UInt8) (fun ⟨j, l1⟩ => j ≤ s.n ∧ l1.length = s.n) (fun ⟨j, l1⟩ => [(0, I64 224), (1, .slice q ss.length c), (5, slv (tN ss ss.length) x5), (8, I64 0), (9, slv 28 y), (11, .pointer (some ⟨b, 0, none⟩)), (82, I64 (ss.length : Nat)), (83, I64 (i : Nat)), (13, I64 (tN ss i : Nat)), (15, .slice q2 (0 + s.n) cap2), (104, I64 ((0 + s.n : Nat) : Int)), (105, I64 (j : Nat))]) (fun ⟨j, l1⟩ => [vec (.slice q2 (0 + s.n) cap2) 5 1 (0 + s.n) (l1.map B8), blk b 41 (stCells 28 (shaH first224 (cN ss (i + 1))) (slv (shaR (cN ss (i + 1))).length z) (BitVec.ofNat 64 (cN ss (i + 1)).length)), vec (slv (shaR (cN ss (i + 1))).length z) 5 1 (shaR (cN ss (i + 1))).length ((shaR (cN ss (i + 1))).map B8), vec (slv (tN ss ss.length) x5) 5 1 (tN ss ss.length) ((cN ss ss.length).map B8), vec (slv 28 y) 5 1 28 ((hashOf 224 (cN ss ss.length)).map B8)]) (fun ⟨j, l1⟩ => s.n - j) (0, s.l) ⟨Nat.zero_le _, hsl⟩ ⟨rfl, rfl, rfl, rfl, rfl, rfl, rfl, rfl, rfl, rfl, rfl, rfl, trivial⟩ (.cons (.there (.there (.here))) (.cons .here (.cons .here (.cons .here (.cons .here .nil))))) (fun ⟨j, l1⟩ ⟨hj, hl1⟩ => ?_)
          show At _ [(0, I64 224), (1, .slice q ss.length c), (5, slv (tN ss ss.length) x5), (8, I64 0), (9, slv 28 y), (11, .pointer (some ⟨b, 0, none⟩)), (82, I64 (ss.length : Nat)), (83, I64 (i : Nat)), (13, I64 (tN ss i : Nat)), (15, .slice q2 (0 + s.n) cap2), (104, I64 ((0 + s.n : Nat) : Int)), (105, I64 (j : Nat))] [vec (.slice q2 (0 + s.n) cap2) 5 1 (0 + s.n) (l1.map B8), blk b 41 (stCells 28 (shaH first224 (cN ss (i + 1))) (slv (shaR (cN ss (i + 1))).length z) (BitVec.ofNat 64 (cN ss (i + 1)).length)), vec (slv (shaR (cN ss (i + 1))).length z) 5 1 (shaR (cN ss (i + 1))).length ((shaR (cN ss (i + 1))).map B8), vec (slv (tN ss ss.length) x5) 5 1 (tN ss ss.length) ((cN ss ss.length).map B8), vec (slv 28 y) 5 1 28 ((hashOf 224 (cN ss ss.length)).map B8)] _
          refine seq ?_
          refine region ?_
          refine st (g_bin rfl rfl rfl) rfl ?_
          refine done ?_
          refine th_n ?_
          refine seq ?_
          refine condS rfl (fun h106 => ?_) (fun h106 => ?_)
          · try simp only [decide_eq_true_eq] at h106
            have hj2 : j < s.n := by omega
            refine vecOpen .here (by omega) (fun bx rx hqx ho1 ho2 ho3 ho4 => ?_)
            subst hqx
            rw [List.length_append, List.length_map] at ho3
            refine skip ?_
            refine th_n ?_
            refine seq ?_
            refine block ?_
            refine seq ?_
            refine region ?_
            refine st (g_move rfl) rfl ?_
            refine st (g_assign rfl) rfl ?_
            refine done ?_
            refine th_n ?_
            refine region ?_
            refine st (g_move rfl) rfl ?_
            refine st (g_move rfl) rfl ?_
            refine st (g_indexS (m := j) el_23 rfl rfl (by omega) (by omega) (by omega)) rfl ?_
            refine st (g_load (v := B8 (l1.getD j 0)) sc_5 rfl (Cell.own .here (get_app (l := l1) (i := j) (by omega)))) rfl ?_
            refine st (g_add8 (b := (1 : UInt8)) rfl rfl) rfl ?_
            refine st (g_indexS (m := j) el_23 rfl rfl (by omega) (by omega) (by omega)) rfl ?_
            refine sq rfl (o_store (cs' := (l1.set j (l1.getD j 0 + 1)).map B8 ++ rx) sz_5 rfl rfl rfl .here (by rw [List.length_append, List.length_map]; omega) (set_app (by omega)) ?_)
            refine vecShut (s := 1) (n := 0 + s.n) .here (by rw [List.length_map, List.length_set]; omega) ho1 ho2 (by rw [List.length_append, List.length_map, List.length_set]; omega) ?_
            refine done ?_
            refine ib_n ?_
            refine th_n ?_
            refine region ?_
            refine st (g_iadd (c := ((j + 1 : Nat) : Int)) rfl rfl (by omega) (by omega) (by omega)) rfl ?_
            refine st (g_move rfl) rfl ?_
            refine done ?_
            refine th_n ?_
            exact again (j + 1, l1.set j (l1.getD j 0 + 1)) ⟨by omega, by rw [List.length_set]; exact hl1⟩ (by show s.n - (j + 1) < s.n - j; omega) ⟨rfl, rfl, rfl, rfl, rfl, rfl, rfl, rfl, rfl, rfl, rfl, rfl, trivial⟩ (.cons .here (.cons .here (.cons .here (.cons .here (.cons .here .nil)))))
          · try simp only [decide_eq_false_iff_not] at h106
            refine exitc ?_
            refine th_x ?_
            refine th_x ?_
            refine ib_x ?_
            refine th_n ?_
            refine seq ?_
            refine region ?_
            refine st (g_move rfl) rfl ?_
            refine st (g_move rfl) rfl ?_
            refine st (g_len el_23 rfl) rfl ?_
            refine st (g_iadd (c := ((tN ss (i + 1) : Nat) : Int)) rfl rfl (by omega) (by omega) (by omega)) rfl ?_
            refine st (g_assign rfl) rfl ?_
            refine done ?_
            refine th_n ?_
            refine seq ?_
            refine region ?_
            refine st (g_move rfl) rfl ?_
            refine sq rfl (o_call Tryd.func21 rfl rfl rfl (.cons (.there (.here)) (.cons (.there (.here)) .nil)) (fun w hw hA => sum_spec b 28 (by decide) (by decide) first224 rfl (cN ss (i + 1)) z hz w hA (Gl.ofOld hG hw (.cons (.there (.here)) (.cons (.there (.here)) .nil)))) rfl (fun o2 _ => ?_))
            refine st (g_assign rfl) rfl ?_
            refine done ?_
            refine th_n ?_
            refine seq ?_
            refine region ?_
            refine st (g_move rfl) rfl ?_
            refine st (g_move rfl) rfl ?_
            refine st (g_move rfl) rfl ?_
            refine st (g_slice (l := 0) (h := ((tN ss (i + 1) : Nat) : Int)) (m := (x5.2 : Nat)) (p' := x5.1) (n' := tN ss (i + 1)) (c' := x5.2) el_23 rfl rfl rfl rfl (by simp) (by decide) (by omega) (by omega) (by omega) (adv_zero _ _ _) (by omega) (by omega)) rfl ?_
            refine sq rfl (o_call Tryd.func18 rfl rfl rfl .nil (fun w hw hA => f18_224 x5.1 (tN ss (i + 1)) x5.2 (cN ss (i + 1)) hcl hx5 (by omega) w (by have h0 := (RdC.ofVec (hw.get (.there (.there (.there (.there (.here))))))).take (tN ss (i + 1)); rw [← List.map_take, cN_take hlen (by omega)] at h0; exact h0)) rfl (fun yp hyp => ?_))
            refine st (g_move rfl) rfl ?_
            refine st (g_extract rfl rfl) rfl ?_
            refine st (g_extract rfl rfl) rfl ?_
            refine st (g_assign rfl) rfl ?_
            refine st (g_assign rfl) rfl ?_
            refine done ?_
            refine th_n ?_
            refine seq ?_
            refine seq ?_
            refine region ?_
            refine st (g_move rfl) rfl ?_
            refine st (g_F rfl rfl rfl (by decide)) rfl ?_
            refine st (g_move rfl) rfl ?_
            refine gt rfl ?_
            refine st (g_move rfl) rfl ?_
            refine gt rfl ?_
            refine st (g_str (l := hashOf 224 (cN ss (i + 1))) by_23 str_9 rfl (digest_length (by decide)) (RdA.own (.there (.here)) rd_app)) rfl ?_
            refine gt rfl ?_
            refine st (g_move rfl) rfl ?_
            refine gt rfl ?_
            refine st (g_str (l := hashOf 224 (cN ss (i + 1))) by_23 str_9 rfl (digest_length (by decide)) (RdA.vec .here)) rfl ?_
            refine gt rfl ?_
            refine st (g_neSF rfl rfl (rfl)) rfl ?_
            refine st (g_pickF rfl rfl) rfl ?_
            refine st (g_move rfl) rfl ?_
            refine gt rfl ?_
            refine st (g_move rfl) rfl ?_
            refine gt rfl ?_
            refine sq rfl (o_callP Tryd.func22 rfl rfl rfl (fun w hw => len_spec b 28 (by decide) first224 (cN ss (i + 1)) z w (RdC.ofBlk hw (.there (.there (.here))) rfl)) rfl ?_)
            refine gt rfl ?_
            refine st (g_move rfl) rfl ?_
            refine gt rfl ?_
            refine st (g_to64 it_3 it_34 rfl rfl) rfl ?_
            refine gt rfl ?_
            refine st (g_F rfl rfl rfl (by rw [hcl]; exact fun h => h rfl)) rfl ?_
            refine st (g_pickF rfl rfl) rfl ?_
            refine st (g_move rfl) rfl ?_
            refine gt rfl ?_
            refine st (g_move rfl) rfl ?_
            refine gt rfl ?_
            refine st (g_len el_23 rfl) rfl ?_
            refine gt rfl ?_
            refine st (g_move rfl) rfl ?_
            refine gt rfl ?_
            refine st (g_iquo (c := 28) rfl rfl (by omega) (by omega) (by omega) (by decide)) rfl ?_
            refine gt rfl ?_
            refine st (g_F rfl rfl rfl (by decide)) rfl ?_
            refine st (g_pickF rfl rfl) rfl ?_
            refine done ?_
            refine th_n ?_
            refine condF rfl ?_
            refine skip ?_
            refine th_n ?_
            refine seq ?_
            refine region ?_
            refine st (g_move rfl) rfl ?_
            refine st (g_len el_23 rfl) rfl ?_
            refine st (g_move rfl) rfl ?_
            refine done ?_
            refine th_n ?_
            refine block ?_
            refine loop (α := Nat × List UInt8) (fun ⟨j, l1⟩ => j ≤ 28 ∧ l1.length = 28) (fun ⟨j, l1⟩ => [(0, I64 224), (1, .slice q ss.length c), (5, slv (tN ss ss.length) x5), (8, I64 0), (9, slv 28 y), (11, .pointer (some ⟨b, 0, none⟩)), (82, I64 (ss.length : Nat)), (83, I64 (i : Nat)), (13, I64 (tN ss (i + 1) : Nat)), (17, .slice (some ⟨o2.1, 0, none⟩) 28 28), (153, I64 28), (154, I64 (j : Nat))]) (fun ⟨j, l1⟩ => [blk o2.1 5 (l1.map B8 ++ o2.2), blk b 41 (stCells 28 (shaH first224 (cN ss (i + 1))) (slv (shaR (cN ss (i + 1))).length z) (BitVec.ofNat 64 (cN ss (i + 1)).length)), vec (slv (shaR (cN ss (i + 1))).length z) 5 1 (shaR (cN ss (i + 1))).length ((shaR (cN ss (i + 1))).map B8), vec (slv (tN ss ss.length) x5) 5 1 (tN ss ss.length) ((cN ss ss.length).map B8), vec (slv 28 y) 5 1 28 ((hashOf 224 (cN ss ss.length)).map B8)]) (fun ⟨j, l1⟩ => 28 - j) (0, hashOf 224 (cN ss (i + 1))) ⟨Nat.zero_le _, digest_length (by decide)⟩ ⟨rfl, rfl, rfl, rfl, rfl, rfl, rfl, rfl, rfl, rfl, rfl, rfl, trivial⟩ (.cons (.there (.here)) (.cons (.there (.here)) (.cons (.there (.here)) (.cons (.there (.there (.here))) (.cons (.there (.there (.here))) .nil))))) (fun ⟨j, l1⟩ ⟨hj, hl1⟩ => ?_)
            show At _ [(0, I64 224), (1, .slice q ss.length c), (5, slv (tN ss ss.length) x5), (8, I64 0), (9, slv 28 y), (11, .pointer (some ⟨b, 0, none⟩)), (82, I64 (ss.length : Nat)), (83, I64 (i : Nat)), (13, I64 (tN ss (i + 1) : Nat)), (17, .slice (some ⟨o2.1, 0, none⟩) 28 28), (153, I64 28), (154, I64 (j : Nat))] [blk o2.1 5 (l1.map B8 ++ o2.2), blk b 41 (stCells 28 (shaH first224 (cN ss (i + 1))) (slv (shaR (cN ss (i + 1))).length z) (BitVec.ofNat 64 (cN ss (i + 1)).length)), vec (slv (shaR (cN ss (i + 1))).length z) 5 1 (shaR (cN ss (i + 1))).length ((shaR (cN ss (i + 1))).map B8), vec (slv (tN ss ss.length) x5) 5 1 (tN ss ss.length) ((cN ss ss.length).map B8), vec (slv 28 y) 5 1 28 ((hashOf 224 (cN ss ss.length)).map B8)] _
            refine seq ?_
            refine region ?_
            refine st (g_bin rfl rfl rfl) rfl ?_
            refine done ?_
            refine th_n ?_
            refine seq ?_
            refine condS rfl (fun h155 => ?_) (fun h155 => ?_)
            · try simp only [decide_eq_true_eq] at h155
              have hj2 : j < 28 := by omega
              refine skip ?_
              refine th_n ?_
              refine seq ?_
              refine block ?_
              refine seq ?_
              refine region ?_
              refine st (g_move rfl) rfl ?_
              refine st (g_assign rfl) rfl ?_
              refine done ?_
              refine th_n ?_
              refine region ?_
              refine st (g_move rfl) rfl ?_
              refine st (g_move rfl) rfl ?_
              refine st (g_indexS (m := j) el_23 rfl rfl (by omega) (by omega) (by omega)) rfl ?_
              refine st (g_load (v := B8 (l1.getD j 0)) sc_5 rfl (Cell.own .here (get_app (l := l1) (i := j) (by omega)))) rfl ?_
              refine st (g_add8 (b := (1 : UInt8)) rfl rfl) rfl ?_
              refine st (g_indexS (m := j) el_23 rfl rfl (by omega) (by omega) (by omega)) rfl ?_
              refine sq rfl (o_store (cs' := (l1.set j (l1.getD j 0 + 1)).map B8 ++ o2.2) sz_5 rfl rfl rfl .here (by rw [List.length_append, List.length_map]; omega) (set_app (by omega)) ?_)
              refine done ?_
              refine ib_n ?_
              refine th_n ?_
              refine region ?_
              refine st (g_iadd (c := ((j + 1 : Nat) : Int)) rfl rfl (by omega) (by omega) (by omega)) rfl ?_
              refine st (g_move rfl) rfl ?_
              refine done ?_
              refine th_n ?_
              exact again (j + 1, l1.set j (l1.getD j 0 + 1)) ⟨by omega, by rw [List.length_set]; exact hl1⟩ (by show 28 - (j + 1) < 28 - j; omega) ⟨rfl, rfl, rfl, rfl, rfl, rfl, rfl, rfl, rfl, rfl, rfl, rfl, trivial⟩ (.cons .here (.cons .here (.cons .here (.cons .here (.cons .here .nil)))))
            · try simp only [decide_eq_false_iff_not] at h155
              refine exitc ?_
              refine th_x ?_
              refine th_x ?_
              refine ib_x ?_
              refine ib_n ?_
              refine th_n ?_
              refine region ?_
              refine st (g_iadd (c := ((i + 1 : Nat) : Int)) rfl rfl (by omega) (by omega) (by omega)) rfl ?_
              refine st (g_move rfl) rfl ?_
              refine done ?_
              refine th_n ?_
              exact again (i + 1, z) ⟨by omega, hz⟩ (by show ss.length - (i + 1) < ss.length - i; omega) ⟨rfl, rfl, rfl, rfl, rfl, rfl, rfl, rfl, rfl, trivial⟩ (.cons (.there (.here)) (.cons (.there (.here)) (.cons (.there (.here)) (.cons (.there (.here)) .nil))))
        · try simp only [decide_eq_false_iff_not] at h84
          have hie : i = ss.length := by omega
          subst hie
          refine exitc ?_
          refine th_x ?_
          refine th_x ?_
          refine ib_x ?_
          refine th_n ?_
          refine seq ?_
          refine region ?_
          refine st (g_move rfl) rfl ?_
          refine sq rfl (o_call Tryd.func21 rfl rfl rfl (.cons .here (.cons .here .nil)) (fun w hw hA => sum_spec b 28 (by decide) (by decide) first224 rfl (cN ss ss.length) x hx w hA (Gl.ofOld hG hw (.cons .here (.cons .here .nil)))) rfl (fun o3 _ => ?_))
          refine st (g_assign rfl) rfl ?_
          refine done ?_
          refine th_n ?_
          refine seq ?_
          refine region ?_
          refine st (g_move rfl) rfl ?_
          refine st (g_str (l := hashOf 224 (cN ss ss.length)) by_23 str_9 rfl (digest_length (by decide)) (RdA.own .here rd_app)) rfl ?_
          refine st (g_move rfl) rfl ?_
          refine st (g_str (l := hashOf 224 (cN ss ss.length)) by_23 str_9 rfl (digest_length (by decide)) (RdA.vec (.there (.there (.there (.there (.here))))))) rfl ?_
          refine st (g_eqST rfl rfl (rfl)) rfl ?_
          refine st (g_move rfl) rfl ?_
          refine gt rfl ?_
          refine st (g_move rfl) rfl ?_
          refine gt rfl ?_
          refine st (g_T rfl rfl rfl (by decide)) rfl ?_
          refine st (g_pickT rfl rfl) rfl ?_
          refine st (g_assign rfl) rfl ?_
          refine done ?_
          refine th_n ?_
          refine ret ?_
          exact ret1 rfl rfl rfl (fun w2 hw2 => ⟨rfl, hw2.clear⟩)

theorem f3_256 (q : Option Addr) (c : Nat) (ss : List Sl) (hbd : ∀ s ∈ ss, s.n ≤ 1048576) (w : World) (hrq : RdC w q (ss.map Sl.v)) (hok : ∀ s ∈ ss, s.ok w) (hG : Gl w []) : Calls Tryd.prog 3 [I64 256, .slice q ss.length c].toArray w (fun en w2 => en = .returned (.bool true) ∧ Sat w [] [] w2) := by
  have hlen : ∀ s ∈ ss, s.l.length = s.n := fun s hs => (hok s hs).1
  have hall := cN_length hlen ss.length (Nat.le_refl _)
  refine used hbd (used hrq (used hok (used hG (?_))))
  refine enter (n := 176) Tryd.func3 rfl rfl rfl (Sat.refl w) ?_
  refine seq ?_
  refine region ?_
  refine st (g_assign rfl) rfl ?_
  refine done ?_
  refine th_n ?_
  refine seq ?_
  refine seq ?_
  refine region ?_
  refine st (g_move rfl) rfl ?_
  refine st (g_len el_22 rfl) rfl ?_
  refine st (g_bin rfl rfl rfl) rfl ?_
  refine done ?_
  refine th_n ?_
  refine condS rfl (fun h24 => ?_) (fun h24 => ?_)
  · try simp only [decide_eq_true_eq] at h24
    refine seq ?_
    refine region ?_
    refine st (g_assign rfl) rfl ?_
    refine done ?_
    refine th_n ?_
    refine ret ?_
    refine th_r ?_
    exact ret1 rfl rfl rfl (fun w2 hw2 => ⟨rfl, hw2.clear⟩)
  · try simp only [decide_eq_false_iff_not] at h24
    refine skip ?_
    refine th_n ?_
    refine seq ?_
    refine At.up (fun w hw => new0_vec (T := 5) (s := 1) hw ⟨rfl, .inl ⟨rfl, rfl⟩⟩) ?_
    refine region ?_
    refine st (g_assign rfl) rfl ?_
    refine done ?_
    refine th_n ?_
    refine seq ?_
    refine seq ?_
    refine region ?_
    refine st (g_move rfl) rfl ?_
    refine st (g_len el_22 rfl) rfl ?_
    refine st (g_move rfl) rfl ?_
    refine done ?_
    refine th_n ?_
    refine block ?_
    rw [show (vec (.slice none 0 0) 5 1 0 [] : Res) = vec (slv (tN ss 0) (none, 0)) 5 1 (tN ss 0) ((cN ss 0).map B8) by rw [tN_zero, cN_zero]; rfl]
    refine loop (α := Nat × (Option Addr × Nat)) (fun ⟨i, x5⟩ => i ≤ ss.length ∧ (x5.1 = none → x5.2 = 0) ∧ tN ss i ≤ x5.2) (fun ⟨i, x5⟩ => [(0, I64 256), (1, .slice q ss.length c), (5, slv (tN ss i) x5), (26, I64 (ss.length : Nat)), (27, I64 (i : Nat))]) (fun ⟨i, x5⟩ => [vec (slv (tN ss i) x5) 5 1 (tN ss i) ((cN ss i).map B8)]) (fun ⟨i, x5⟩ => ss.length - i) (0, (none, 0)) ⟨Nat.zero_le _, fun _ => rfl, by rw [tN_zero]; exact Nat.le_refl _⟩ ⟨rfl, rfl, by rw [tN_zero]; rfl, rfl, rfl, trivial⟩ (.cons .here .nil) (fun ⟨i, x5⟩ ⟨hi, hx5, hx52⟩ => ?_)
    show At _ [(0, I64 256), (1, .slice q ss.length c), (5, slv (tN ss i) x5), (26, I64 (ss.length : Nat)), (27, I64 (i : Nat))] [vec (slv (tN ss i) x5) 5 1 (tN ss i) ((cN ss i).map B8)] _
    refine seq ?_
    refine region ?_
    refine st (g_bin rfl rfl rfl) rfl ?_
    refine done ?_
    refine th_n ?_
    refine seq ?_
    refine condS rfl (fun h28 => ?_) (fun h28 => ?_)
    · try simp only [decide_eq_true_eq] at h28
      have hi2 : i < ss.length := by omega
      obtain ⟨s, hs⟩ : ∃ s, ss[i]? = some s := ⟨ss[i], by simp [hi2]⟩
      obtain ⟨hsl, hsp, hsc, hsr⟩ := hok s (List.mem_of_getElem? hs)
      have hps : q.isSome = true := hrq.some (by intro h; simp at h; subst h; simp at hi2)
      have hsv := get_slv hs
      have hb1 := tN_bound hbd i (by omega)
      have hb2 := hbd s (List.mem_of_getElem? hs)
      refine skip ?_
      refine th_n ?_
      refine seq ?_
      refine block ?_
      refine seq ?_
      refine region ?_
      refine st (g_move rfl) rfl ?_
      refine st (g_assign rfl) rfl ?_
      refine done ?_
      refine th_n ?_
      refine region ?_
      refine st (g_move rfl) rfl ?_
      refine st (g_move rfl) rfl ?_
      refine st (g_move rfl) rfl ?_
      refine st (g_indexP (m := i) el_22 rfl rfl (hps) (by omega) (by omega) (by omega)) rfl ?_
      refine st (g_load (v := s.v) sc_23 rfl (Cell.rd (RdA.of hrq.s) hsv)) rfl ?_
      refine sq rfl (o_append (n := tN ss i) (m := s.n) (news := s.l.map B8) un_23 zr_5 sz_5 rfl bt_5 (by decide) rfl rfl .here (by simp [hsl]) (RdA.of hsr.s) oneB8 hsp (by simp only [maxLen]; omega) (by omega) rfl (fun q1 cap1 hq1 hc1 hq01 => ?_))
      refine st (g_assign rfl) rfl ?_
      refine done ?_
      refine ib_n ?_
      refine th_n ?_
      refine region ?_
      refine st (g_iadd (c := ((i + 1 : Nat) : Int)) rfl rfl (by omega) (by omega) (by omega)) rfl ?_
      refine st (g_move rfl) rfl ?_
      refine done ?_
      refine th_n ?_
      rw [← List.map_append, ← cN_succ hs, ← tN_succ hs]
      exact again (i + 1, (q1, cap1)) ⟨by omega, hq01, by rw [tN_succ hs]; exact hc1⟩ (by show ss.length - (i + 1) < ss.length - i; omega) ⟨rfl, rfl, by rw [tN_succ hs]; rfl, rfl, rfl, trivial⟩ (.cons .here .nil)
    · try simp only [decide_eq_false_iff_not] at h28
      have hie : i = ss.length := by omega
      subst hie
      refine exitc ?_
      refine th_x ?_
      refine th_x ?_
      refine ib_x ?_
      refine th_n ?_
      refine seq ?_
      refine seq ?_
      refine region ?_
      refine st (g_move rfl) rfl ?_
      refine st (g_len el_23 rfl) rfl ?_
      refine st (g_bin rfl rfl rfl) rfl ?_
      refine done ?_
      refine th_n ?_
      refine condS rfl (fun h39 => ?_) (fun h39 => ?_)
      · try simp only [decide_eq_true_eq] at h39
        refine seq ?_
        refine region ?_
        refine st (g_assign rfl) rfl ?_
        refine done ?_
        refine th_n ?_
        refine ret ?_
        refine th_r ?_
        exact ret1 rfl rfl rfl (fun w2 hw2 => ⟨rfl, hw2.clear⟩)
      · try simp only [decide_eq_false_iff_not] at h39
        refine skip ?_
        refine th_n ?_
        refine seq ?_
        refine region ?_
        refine st (g_move rfl) rfl ?_
        refine st (g_move rfl) rfl ?_
        refine sq rfl (o_call Tryd.func17 rfl rfl rfl .nil (fun w hw hA => f17_spec 256 (.inr rfl) x5.1 (tN ss ss.length) x5.2 (cN ss ss.length) hall hx5 hx52 (by omega) w (RdC.ofVec (hw.get .here)) (Gl.ofOld (A := []) hG hw .nil)) rfl (fun og _ => ?_))
        refine st (g_move rfl) rfl ?_
        refine st (g_extract rfl rfl) rfl ?_
        refine st (g_extract rfl rfl) rfl ?_
        refine st (g_assign rfl) rfl ?_
        refine st (g_assign rfl) rfl ?_
        refine done ?_
        refine th_n ?_
        refine seq ?_
        refine region ?_
        refine st (g_move rfl) rfl ?_
        refine st (g_move rfl) rfl ?_
        refine sq rfl (o_call Tryd.func18 rfl rfl rfl .nil (fun w hw hA => f18_256 x5.1 (tN ss ss.length) x5.2 (cN ss ss.length) hall hx5 (by omega) w (RdC.ofVec (hw.get (.there (.here))))) rfl (fun y hy => ?_))
        refine st (g_move rfl) rfl ?_
        refine st (g_extract rfl rfl) rfl ?_
        refine st (g_extract rfl rfl) rfl ?_
        refine st (g_assign rfl) rfl ?_
        refine st (g_assign rfl) rfl ?_
        refine done ?_
        refine th_n ?_
        refine seq ?_
        refine region ?_
        refine st (g_move rfl) rfl ?_
        refine sq rfl (o_call Tryd.func19 rfl rfl rfl .nil (fun w hw hA => new_spec 256 (.inr rfl) w (Gl.ofOld (A := []) hG hw .nil)) rfl (fun b _ => ?_))
        refine st (g_move rfl) rfl ?_
        refine st (g_extract rfl rfl) rfl ?_
        refine st (g_extract rfl rfl) rfl ?_
        refine st (g_assign rfl) rfl ?_
        refine st (g_assign rfl) rfl ?_
        refine done ?_
        refine th_n ?_
        refine seq ?_
        refine seq ?_
        refine region ?_
        refine st (g_move rfl) rfl ?_
        refine st (g_str (l := hashOf 256 (cN ss ss.length)) by_23 str_9 rfl (digest_length (by decide)) (RdA.own (.there (.there (.there (.here)))) rd_app)) rfl ?_
        refine st (g_move rfl) rfl ?_
        refine st (g_str (l := hashOf 256 (cN ss ss.length)) by_23 str_9 rfl (digest_length (by decide)) (RdA.vec (.there (.there (.here))))) rfl ?_
        refine st (g_neSF rfl rfl (rfl)) rfl ?_
        refine st (g_move rfl) rfl ?_
        refine gt rfl ?_
        refine st (g_move rfl) rfl ?_
        refine gt rfl ?_
        refine st (g_move rfl) rfl ?_
        refine gt rfl ?_
        refine st (g_F rfl rfl rfl (by decide)) rfl ?_
        refine st (g_pickF rfl rfl) rfl ?_
        refine st (g_move rfl) rfl ?_
        refine gt rfl ?_
        refine st (g_move rfl) rfl ?_
        refine gt rfl ?_
        refine st (g_move rfl) rfl ?_
        refine gt rfl ?_
        refine st (g_F rfl rfl rfl (by decide)) rfl ?_
        refine st (g_pickF rfl rfl) rfl ?_
        refine st (g_move rfl) rfl ?_
        refine gt rfl ?_
        refine st (g_move rfl) rfl ?_
        refine gt rfl ?_
        refine st (g_eqNil pt_29 rfl rfl) rfl ?_
        refine gt rfl ?_
        refine st (g_move rfl) rfl ?_
        refine gt rfl ?_
        refine st (g_F rfl rfl rfl (by decide)) rfl ?_
        refine gt rfl ?_
        refine st (g_neB bo_4 rfl rfl) rfl ?_
        refine st (g_pickF rfl rfl) rfl ?_
        refine done ?_
        refine th_n ?_
        refine condF rfl ?_
        refine skip ?_
        refine th_n ?_
        refine seq ?_
        refine seq ?_
        refine region ?_
        refine st (g_move rfl) rfl ?_
        refine st (g_F rfl rfl rfl (by decide)) rfl ?_
        refine done ?_
        refine th_n ?_
        refine condF rfl ?_
        refine skip ?_
        refine th_n ?_
        refine seq ?_
        refine region ?_
        refine st (g_assign rfl) rfl ?_
        refine done ?_
        refine th_n ?_
        refine seq ?_
        refine seq ?_
        refine region ?_
        refine st (g_move rfl) rfl ?_
        refine st (g_len el_22 rfl) rfl ?_
        refine st (g_move rfl) rfl ?_
        refine done ?_
        refine th_n ?_
        refine block ?_
        skip
        refine loop (α := Nat × (Option Addr × Nat)) (fun ⟨i, x⟩ => i ≤ ss.length ∧ stP (cN ss i) x) (fun ⟨i, x⟩ => [(0, I64 256), (1, .slice q ss.length c), (5, slv (tN ss ss.length) x5), (8, I64 0), (9, slv 32 y), (11, .pointer (some ⟨b, 0, none⟩)), (82, I64 (ss.length : Nat)), (83, I64 (i : Nat)), (13, I64 (tN ss i : Nat))]) (fun ⟨i, x⟩ => [blk b 41 (stCells 32 (shaH first256 (cN ss i)) (slv (shaR (cN ss i)).length x) (BitVec.ofNat 64 (cN ss i).length)), vec (slv (shaR (cN ss i)).length x) 5 1 (shaR (cN ss i)).length ((shaR (cN ss i)).map B8), vec (slv (tN ss ss.length) x5) 5 1 (tN ss ss.length) ((cN ss ss.length).map B8), vec (slv 32 y) 5 1 32 ((hashOf 256 (cN ss ss.length)).map B8)]) (fun ⟨i, x⟩ => ss.length - i) (0, (none, 0)) ⟨Nat.zero_le _, by rw [cN_zero]; exact ⟨fun _ => rfl, Nat.le_refl _⟩⟩ ⟨rfl, rfl, rfl, rfl, rfl, rfl, rfl, rfl, by rw [tN_zero]; rfl, trivial⟩ (.cons .here (.cons .here (.cons (.there (.there (.here))) (.cons .here .nil)))) (fun ⟨i, x⟩ ⟨hi, hx⟩ => ?_)
        show At _ [(0, I64 256), (1, .slice q ss.length c), (5, slv (tN ss ss.length) x5), (8, I64 0), (9, slv 32 y), (11, .pointer (some ⟨b, 0, none⟩)), (82, I64 (ss.length : Nat)), (83, I64 (i : Nat)), (13, I64 (tN ss i : Nat))] [blk b 41 (stCells 32 (shaH first256 (cN ss i)) (slv (shaR (cN ss i)).length x) (BitVec.ofNat 64 (cN ss i).length)), vec (slv (shaR (cN ss i)).length x) 5 1 (shaR (cN ss i)).length ((shaR (cN ss i)).map B8), vec (slv (tN ss ss.length) x5) 5 1 (tN ss ss.length) ((cN ss ss.length).map B8), vec (slv 32 y) 5 1 32 ((hashOf 256 (cN ss ss.length)).map B8)] _
        refine seq ?_
        refine region ?_
        refine st (g_bin rfl rfl rfl) rfl ?_
        refine done ?_
        refine th_n ?_
        refine seq ?_
        refine condS rfl (fun h84 => ?_) (fun h84 => ?_)
        · try simp only [decide_eq_true_eq] at h84
          have hi2 : i < ss.length := by omega
          obtain ⟨s, hs⟩ : ∃ s, ss[i]? = some s := ⟨ss[i], by simp [hi2]⟩
          obtain ⟨hsl, hsp, hsc, hsr⟩ := hok s (List.mem_of_getElem? hs)
          have hps : q.isSome = true := hrq.some (by intro h; simp at h; subst h; simp at hi2)
          have hsv := get_slv hs
          have hts := tN_succ hs
          have hcs := cN_succ hs
          have hle := tN_le hlen (i := i + 1) (by omega)
          have hcl := cN_length hlen (i + 1) (by omega)
          refine skip ?_
          refine th_n ?_
          refine seq ?_
          refine block ?_
          refine seq ?_
          refine region ?_
          refine st (g_move rfl) rfl ?_
          refine st (g_assign rfl) rfl ?_
          refine done ?_
          refine th_n ?_
          refine seq ?_
          refine region ?_
          refine sq rfl (o_buildSlice0 un_23 sz_5 rfl (fun b86 => ?_))
          refine st (g_move rfl) rfl ?_
          refine st (g_move rfl) rfl ?_
          refine st (g_indexP (m := i) el_22 rfl rfl (hps) (by omega) (by omega) (by omega)) rfl ?_
          refine st (g_load (v := s.v) sc_23 rfl (Cell.rd (RdA.of hrq.s) hsv)) rfl ?_
          refine sq rfl (o_append (n := 0) (m := s.n) (news := s.l.map B8) un_23 zr_5 sz_5 rfl bt_5 (by decide) rfl rfl .here (by simp [hsl]) (RdA.of hsr.s) oneB8 hsp (by simp only [maxLen]; omega) (by omega) rfl (fun q2 cap2 hq2 hc2 hq02 => ?_))
          rw [List.nil_append]
          refine st (g_assign rfl) rfl ?_
          refine done ?_
          refine th_n ?_
          refine seq ?_
          refine region ?_
          refine st (g_move rfl) rfl ?_
          refine st (g_move rfl) rfl ?_
          refine sq rfl (o_call Tryd.func20 rfl rfl rfl (.cons (.there (.here)) (.cons (.there (.here)) .nil)) (fun w hw hA => write_spec b 32 (by decide) first256 rfl (cN ss i) x hx q2 (0 + s.n) cap2 s.l (by omega) hq02 hc2 (by omega) w hA (RdS.ofOwn hw (.cons (.there (.here)) (.cons (.there (.here)) .nil)) .here (RdC.ofVec (hw.get .here)) (fun b o h => by rw [h]; exact List.mem_singleton.2 rfl)) (Gl.ofOld hG hw (.cons (.there (.here)) (.cons (.there (.here)) .nil)))) rfl (fun z hz => ?_))
          rw [← hcs]
          rw [← hcs] at hz
          refine done ?_
          refine th_n ?_
          refine seq ?_
          refine seq ?_
          refine regionQ mixed (by decide +kernel) (by decide +kernel) ?_
          refine Dr.st (g_move rfl) rfl ?_
          refine Dr.st (g_str (l := s.l) by_23 str_9 rfl (by omega) (RdA.vec (.there (.there (.here))))) rfl ?_
          refine Dr.st (g_move rfl) rfl ?_
          refine Dr.st (g_move rfl) rfl ?_
          refine Dr.st (g_indexP (m := i) el_22 rfl rfl (hps) (by omega) (by omega) (by omega)) rfl ?_
          refine Dr.st (g_load (v := s.v) sc_23 rfl (Cell.rd (RdA.of hrq.s) hsv)) rfl ?_
          refine Dr.st (g_str (l := s.l) by_23 str_9 rfl hsl (RdA.of hsr.s)) rfl ?_
          refine Dr.st (g_neSF rfl rfl (rfl)) rfl ?_
          refine Dr.nil ?_
          refine th_n ?_
          refine condF rfl ?_
          refine skip ?_
          refine th_n ?_
          refine seq ?_
          refine seq ?_
          refine region ?_
          refine st (g_move rfl) rfl ?_
          refine st (g_len el_23 rfl) rfl ?_
          refine st (g_move rfl) rfl ?_
          refine done ?_
          refine th_n ?_
          refine block ?_
          refine loop (α := Nat × List UInt8) (fun ⟨j, l1⟩ => j ≤ s.n ∧ l1.length = s.n) (fun ⟨j, l1⟩ => [(0, I64 256), (1, .slice q ss.length c), (5, slv (tN ss ss.length) x5), (8, I64 0), (9, slv 32 y), (11, .pointer (some ⟨b, 0, none⟩)), (82, I64 (ss.length : Nat)), (83, I64 (i : Nat)), (13, I64 (tN ss i : Nat)), (15, .slice q2 (0 + s.n) cap2), (104, I64 ((0 + s.n : Nat) : Int)), (105, I64 (j : Nat))]) (fun ⟨j, l1⟩ => [vec (.slice q2 (0 + s.n) cap2) 5 1 (0 + s.n) (l1.map B8), blk b 41 (stCells 32 (shaH first256 (cN ss (i + 1))) (slv (shaR (cN ss (i + 1))).length z) (BitVec.ofNat 64 (cN ss (i + 1)).length)), vec (slv (shaR (cN ss (i + 1))).length z) 5 1 (shaR (cN ss (i + 1))).length ((shaR (cN ss (i + 1))).map B8), vec (slv (tN ss ss.length) x5) 5 1 (tN ss ss.length) ((cN ss ss.length).map B8), vec (slv 32 y) 5 1 32 ((hashOf 256 (cN ss ss.length)).map B8)]) (fun ⟨j, l1⟩ => s.n - j) (0, s.l) ⟨Nat.zero_le _, hsl⟩ ⟨rfl, rfl, rfl, rfl, rfl, rfl, rfl, rfl, rfl, rfl, rfl, rfl, trivial⟩ (.cons (.there (.there (.here))) (.cons .here (.cons .here (.cons .here (.cons .here .nil))))) (fun ⟨j, l1⟩ ⟨hj, hl1⟩ => ?_)
          show At _ [(0, I64 256), (1, .slice q ss.length c), (5, slv (tN ss ss.length) x5), (8, I64 0), (9, slv 32 y), (11, .pointer (some ⟨b, 0, none⟩)), (82, I64 (ss.length : Nat)), (83, I64 (i : Nat)), (13, I64 (tN ss i : Nat)), (15, .slice q2 (0 + s.n) cap2), (104, I64 ((0 + s.n : Nat) : Int)), (105, I64 (j : Nat))] [vec (.slice q2 (0 + s.n) cap2) 5 1 (0 + s.n) (l1.map B8), blk b 41 (stCells 32 (shaH first256 (cN ss (i + 1))) (slv (shaR (cN ss (i + 1))).length z) (BitVec.ofNat 64 (cN ss (i + 1)).length)), vec (slv (shaR (cN ss (i + 1))).length z) 5 1 (shaR (cN ss (i + 1))).length ((shaR (cN ss (i + 1))).map B8), vec (slv (tN ss ss.length) x5) 5 1 (tN ss ss.length) ((cN ss ss.length).map B8), vec (slv 32 y) 5 1 32 ((hashOf 256 (cN ss ss.length)).map B8)] _
          refine seq ?_
          refine region ?_
          refine st (g_bin rfl rfl rfl) rfl ?_
          refine done ?_
          refine th_n ?_
          refine seq ?_
          refine condS rfl (fun h106 => ?_) (fun h106 => ?_)
          · try simp only [decide_eq_true_eq] at h106
            have hj2 : j < s.n := by omega
            refine vecOpen .here (by omega) (fun bx rx hqx ho1 ho2 ho3 ho4 => ?_)
            subst hqx
            rw [List.length_append, List.length_map] at ho3
            refine skip ?_
            refine th_n ?_
            refine seq ?_
            refine block ?_
            refine seq ?_
            refine region ?_
            refine st (g_move rfl) rfl ?_
            refine st (g_assign rfl) rfl ?_
            refine done ?_
            refine th_n ?_
            refine region ?_
            refine st (g_move rfl) rfl ?_
            refine st (g_move rfl) rfl ?_
            refine st (g_indexS (m := j) el_23 rfl rfl (by omega) (by omega) (by omega)) rfl ?_
            refine st (g_load (v := B8 (l1.getD j 0)) sc_5 rfl (Cell.own .here (get_app (l := l1) (i := j) (by omega)))) rfl ?_
            refine st (g_add8 (b := (1 : UInt8)) rfl rfl) rfl ?_
            refine st (g_indexS (m := j) el_23 rfl rfl (by omega) (by omega) (by omega)) rfl ?_
            refine sq rfl (o_store (cs' := (l1.set j (l1.getD j 0 + 1)).map B8 ++ rx) sz_5 rfl rfl rfl .here (by rw [List.length_append, List.length_map]; omega) (set_app (by omega)) ?_)
            refine vecShut (s := 1) (n := 0 + s.n) .here (by rw [List.length_map, List.length_set]; omega) ho1 ho2 (by rw [List.length_append, List.length_map, List.length_set]; omega) ?_
            refine done ?_
            refine ib_n ?_
            refine th_n ?_
            refine region ?_
            refine st (g_iadd (c := ((j + 1 : Nat) : Int)) rfl rfl (by omega) (by omega) (by omega)) rfl ?_
            refine st (g_move rfl) rfl ?_
            refine done ?_
            refine th_n ?_
            exact again (j + 1, l1.set j (l1.getD j 0 + 1)) ⟨by omega, by rw [List.length_set]; exact hl1⟩ (by show s.n - (j + 1) < s.n - j; omega) ⟨rfl, rfl, rfl, rfl, rfl, rfl, rfl, rfl, rfl, rfl, rfl, rfl, trivial⟩ (.cons .here (.cons .here (.cons .here (.cons .here (.cons .here .nil)))))
          · try simp only [decide_eq_false_iff_not] at h106
            refine exitc ?_
            refine th_x ?_
            refine th_x ?_
            refine ib_x ?_
            refine th_n ?_
            refine seq ?_
            refine region ?_
            refine st (g_move rfl) rfl ?_
            refine st (g_move rfl) rfl ?_
            refine st (g_len el_23 rfl) rfl ?_
            refine st (g_iadd (c := ((tN ss (i + 1) : Nat) : Int)) rfl rfl (by omega) (by omega) (by omega)) rfl ?_
            refine st (g_assign rfl) rfl ?_
            refine done ?_
            refine th_n ?_
            refine seq ?_
            refine region ?_
            refine st (g_move rfl) rfl ?_
            refine sq rfl (o_call Tryd.func21 rfl rfl rfl (.cons (.there (.here)) (.cons (.there (.here)) .nil)) (fun w hw hA => sum_spec b 32 (by decide) (by decide) first256 rfl (cN ss (i + 1)) z hz w hA (Gl.ofOld hG hw (.cons (.there (.here)) (.cons (.there (.here)) .nil)))) rfl (fun o2 _ => ?_))
            refine st (g_assign rfl) rfl ?_
            refine done ?_
            refine th_n ?_
            refine seq ?_
            refine region ?_
            refine st (g_move rfl) rfl ?_
            refine st (g_move rfl) rfl ?_
            refine st (g_move rfl) rfl ?_
            refine st (g_slice (l := 0) (h := ((tN ss (i + 1) : Nat) : Int)) (m := (x5.2 : Nat)) (p' := x5.1) (n' := tN ss (i + 1)) (c' := x5.2) el_23 rfl rfl rfl rfl (by simp) (by decide) (by omega) (by omega) (by omega) (adv_zero _ _ _) (by omega) (by omega)) rfl ?_
            refine sq rfl (o_call Tryd.func18 rfl rfl rfl .nil (fun w hw hA => f18_256 x5.1 (tN ss (i + 1)) x5.2 (cN ss (i + 1)) hcl hx5 (by omega) w (by have h0 := (RdC.ofVec (hw.get (.there (.there (.there (.there (.here))))))).take (tN ss (i + 1)); rw [← List.map_take, cN_take hlen (by omega)] at h0; exact h0)) rfl (fun yp hyp => ?_))
            refine st (g_move rfl) rfl ?_
            refine st (g_extract rfl rfl) rfl ?_
            refine st (g_extract rfl rfl) rfl ?_
            refine st (g_assign rfl) rfl ?_
            refine st (g_assign rfl) rfl ?_
            refine done ?_
            refine th_n ?_
            refine seq ?_
            refine seq ?_
            refine region ?_
            refine st (g_move rfl) rfl ?_
            refine st (g_F rfl rfl rfl (by decide)) rfl ?_
            refine st (g_move rfl) rfl ?_
            refine gt rfl ?_
            refine st (g_move rfl) rfl ?_
            refine gt rfl ?_
            refine st (g_str (l := hashOf 256 (cN ss (i + 1))) by_23 str_9 rfl (digest_length (by decide)) (RdA.own (.there (.here)) rd_app)) rfl ?_
            refine gt rfl ?_
            refine st (g_move rfl) rfl ?_
            refine gt rfl ?_
            refine st (g_str (l := hashOf 256 (cN ss (i + 1))) by_23 str_9 rfl (digest_length (by decide)) (RdA.vec .here)) rfl ?_
            refine gt rfl ?_
            refine st (g_neSF rfl rfl (rfl)) rfl ?_
            refine st (g_pickF rfl rfl) rfl ?_
            refine st (g_move rfl) rfl ?_
            refine gt rfl ?_
            refine st (g_move rfl) rfl ?_
            refine gt rfl ?_
            refine sq rfl (o_callP Tryd.func22 rfl rfl rfl (fun w hw => len_spec b 32 (by decide) first256 (cN ss (i + 1)) z w (RdC.ofBlk hw (.there (.there (.here))) rfl)) rfl ?_)
            refine gt rfl ?_
            refine st (g_move rfl) rfl ?_
            refine gt rfl ?_
            refine st (g_to64 it_3 it_34 rfl rfl) rfl ?_
            refine gt rfl ?_
            refine st (g_F rfl rfl rfl (by rw [hcl]; exact fun h => h rfl)) rfl ?_
            refine st (g_pickF rfl rfl) rfl ?_
            refine st (g_move rfl) rfl ?_
            refine gt rfl ?_
            refine st (g_move rfl) rfl ?_
            refine gt rfl ?_
            refine st (g_len el_23 rfl) rfl ?_
            refine gt rfl ?_
            refine st (g_move rfl) rfl ?_
            refine gt rfl ?_
            refine st (g_iquo (c := 32) rfl rfl (by omega) (by omega) (by omega) (by decide)) rfl ?_
            refine gt rfl ?_
            refine st (g_F rfl rfl rfl (by decide)) rfl ?_
            refine st (g_pickF rfl rfl) rfl ?_
            refine done ?_
            refine th_n ?_
            refine condF rfl ?_
            refine skip ?_
            refine th_n ?_
            refine seq ?_
            refine region ?_
            refine st (g_move rfl) rfl ?_
            refine st (g_len el_23 rfl) rfl ?_
            refine st (g_move rfl) rfl ?_
            refine done ?_
            refine th_n ?_
            refine block ?_
            refine loop (α := Nat × List UInt8) (fun ⟨j, l1⟩ => j ≤ 32 ∧ l1.length = 32) (fun ⟨j, l1⟩ => [(0, I64 256), (1, .slice q ss.length c), (5, slv (tN ss ss.length) x5), (8, I64 0), (9, slv 32 y), (11, .pointer (some ⟨b, 0, none⟩)), (82, I64 (ss.length : Nat)), (83, I64 (i : Nat)), (13, I64 (tN ss (i + 1) : Nat)), (17, .slice (some ⟨o2.1, 0, none⟩) 32 32), (153, I64 32), (154, I64 (j : Nat))]) (fun ⟨j, l1⟩ => [blk o2.1 5 (l1.map B8 ++ o2.2), blk b 41 (stCells 32 (shaH first256 (cN ss (i + 1))) (slv (shaR (cN ss (i + 1))).length z) (BitVec.ofNat 64 (cN ss (i + 1)).length)), vec (slv (shaR (cN ss (i + 1))).length z) 5 1 (shaR (cN ss (i + 1))).length ((shaR (cN ss (i + 1))).map B8), vec (slv (tN ss ss.length) x5) 5 1 (tN ss ss.length) ((cN ss ss.length).map B8), vec (slv 32 y) 5 1 32 ((hashOf 256 (cN ss ss.length)).map B8)]) (fun ⟨j, l1⟩ => 32 - j) (0, hashOf 256 (cN ss (i + 1))) ⟨Nat.zero_le _, digest_length (by decide)⟩ ⟨rfl, rfl, rfl, rfl, rfl, rfl, rfl, rfl, rfl, rfl, rfl, rfl, trivial⟩ (.cons (.there (.here)) (.cons (.there (.here)) (.cons (.there (.here)) (.cons (.there (.there (.here))) (.cons (.there (.there (.here))) .nil))))) (fun ⟨j, l1⟩ ⟨hj, hl1⟩ => ?_)
            show At _ [(0, I64 256), (1, .slice q ss.length c), (5, slv (tN ss ss.length) x5), (8, I64 0), (9, slv 32 y), (11, .pointer (some ⟨b, 0, none⟩)), (82, I64 (ss.length : Nat)), (83, I64 (i : Nat)), (13, I64 (tN ss (i + 1) : Nat)), (17, .slice (some ⟨o2.1, 0, none⟩) 32 32), (153, I64 32), (154, I64 (j : Nat))] [blk o2.1 5 (l1.map B8 ++ o2.2), blk b 41 (stCells 32 (shaH first256 (cN ss (i + 1))) (slv (shaR (cN ss (i + 1))).length z) (BitVec.ofNat 64 (cN ss (i + 1)).length)), vec (slv (shaR (cN ss (i + 1))).length z) 5 1 (shaR (cN ss (i + 1))).length ((shaR (cN ss (i + 1))).map B8), vec (slv (tN ss ss.length) x5) 5 1 (tN ss ss.length) ((cN ss ss.length).map B8), vec (slv 32 y) 5 1 32 ((hashOf 256 (cN ss ss.length)).map B8)] _
            refine seq ?_
            refine region ?_
            refine st (g_bin rfl rfl rfl) rfl ?_
            refine done ?_
            refine th_n ?_
            refine seq ?_
            refine condS rfl (fun h155 => ?_) (fun h155 => ?_)
            · try simp only [decide_eq_true_eq] at h155
              have hj2 : j < 32 := by omega
              refine skip ?_
              refine th_n ?_
              refine seq ?_
              refine block ?_
              refine seq ?_
              refine region ?_
              refine st (g_move rfl) rfl ?_
              refine st (g_assign rfl) rfl ?_
              refine done ?_
              refine th_n ?_
              refine region ?_
              refine st (g_move rfl) rfl ?_
              refine st (g_move rfl) rfl ?_
              refine st (g_indexS (m := j) el_23 rfl rfl (by omega) (by omega) (by omega)) rfl ?_
              refine st (g_load (v := B8 (l1.getD j 0)) sc_5 rfl (Cell.own .here (get_app (l := l1) (i := j) (by omega)))) rfl ?_
              refine st (g_add8 (b := (1 : UInt8)) rfl rfl) rfl ?_
              refine st (g_indexS (m := j) el_23 rfl rfl (by omega) (by omega) (by omega)) rfl ?_
              refine sq rfl (o_store (cs' := (l1.set j (l1.getD j 0 + 1)).map B8 ++ o2.2) sz_5 rfl rfl rfl .here (by rw [List.length_append, List.length_map]; omega) (set_app (by omega)) ?_)
              refine done ?_
              refine ib_n ?_
              refine th_n ?_
              refine region ?_
              refine st (g_iadd (c := ((j + 1 : Nat) : Int)) rfl rfl (by omega) (by omega) (by omega)) rfl ?_
              refine st (g_move rfl) rfl ?_
              refine done ?_
              refine th_n ?_
              exact again (j + 1, l1.set j (l1.getD j 0 + 1)) ⟨by omega, by rw [List.length_set]; exact hl1⟩ (by show 32 - (j + 1) < 32 - j; omega) ⟨rfl, rfl, rfl, rfl, rfl, rfl, rfl, rfl, rfl, rfl, rfl, rfl, trivial⟩ (.cons .here (.cons .here (.cons .here (.cons .here (.cons .here .nil)))))
            · try simp only [decide_eq_false_iff_not] at h155
              refine exitc ?_
              refine th_x ?_
              refine th_x ?_
              refine ib_x ?_
              refine ib_n ?_
              refine th_n ?_
              refine region ?_
              refine st (g_iadd (c := ((i + 1 : Nat) : Int)) rfl rfl (by omega) (by omega) (by omega)) rfl ?_
              refine st (g_move rfl) rfl ?_
              refine done ?_
              refine th_n ?_
              exact again (i + 1, z) ⟨by omega, hz⟩ (by show ss.length - (i + 1) < ss.length - i; omega) ⟨rfl, rfl, rfl, rfl, rfl, rfl, rfl, rfl, rfl, trivial⟩ (.cons (.there (.here)) (.cons (.there (.here)) (.cons (.there (.here)) (.cons (.there (.here)) .nil))))
        · try simp only [decide_eq_false_iff_not] at h84
          have hie : i = ss.length := by omega
          subst hie
          refine exitc ?_
          refine th_x ?_
          refine th_x ?_
          refine ib_x ?_
          refine th_n ?_
          refine seq ?_
          refine region ?_
          refine st (g_move rfl) rfl ?_
          refine sq rfl (o_call Tryd.func21 rfl rfl rfl (.cons .here (.cons .here .nil)) (fun w hw hA => sum_spec b 32 (by decide) (by decide) first256 rfl (cN ss ss.length) x hx w hA (Gl.ofOld hG hw (.cons .here (.cons .here .nil)))) rfl (fun o3 _ => ?_))
          refine st (g_assign rfl) rfl ?_
          refine done ?_
          refine th_n ?_
          refine seq ?_
          refine region ?_
          refine st (g_move rfl) rfl ?_
          refine st (g_str (l := hashOf 256 (cN ss ss.length)) by_23 str_9 rfl (digest_length (by decide)) (RdA.own .here rd_app)) rfl ?_
          refine st (g_move rfl) rfl ?_
          refine st (g_str (l := hashOf 256 (cN ss ss.length)) by_23 str_9 rfl (digest_length (by decide)) (RdA.vec (.there (.there (.there (.there (.here))))))) rfl ?_
          refine st (g_eqST rfl rfl (rfl)) rfl ?_
          refine st (g_move rfl) rfl ?_
          refine gt rfl ?_
          refine st (g_move rfl) rfl ?_
          refine gt rfl ?_
          refine st (g_T rfl rfl rfl (by decide)) rfl ?_
          refine st (g_pickT rfl rfl) rfl ?_
          refine st (g_assign rfl) rfl ?_
          refine done ?_
          refine th_n ?_
          refine ret ?_
          exact ret1 rfl rfl rfl (fun w2 hw2 => ⟨rfl, hw2.clear⟩)

theorem f3_spec (bits : Int) (q : Option Addr) (c : Nat) (ss : List Sl) (hbd : ∀ s ∈ ss, s.n ≤ 1048576) (w : World) (hrq : RdC w q (ss.map Sl.v)) (hok : ∀ s ∈ ss, s.ok w) (hG : Gl w []) : Calls Tryd.prog 3 [I64 bits, .slice q ss.length c].toArray w (fun en w2 => en = .returned (.bool true) ∧ Sat w [] [] w2) := by
  by_cases h4 : bits = 224
  · subst h4; exact f3_224 q c ss hbd w hrq hok hG
  · by_cases h6 : bits = 256
    · subst h6; exact f3_256 q c ss hbd w hrq hok hG
    · exact f3_bad bits h4 h6 q c ss hbd w hrq hok
end Go.Proofs.YtokhediaibdkjaaDoor

/-! From CU -/
/- The law Sha256Sums: its row and its card. (printed by genC.py) -/
namespace Go.Proofs.YtokhediaibdkjaaDoor
set_option maxRecDepth 100000
open Go.Pm Go.ChangeShapes Go.WideShapes Go.ChangeAt Go.RowKit

theorem sha256Sums_contract (H : Type) (enc : TypeId × Value → H) (W : World) (base : Nat) (args : Array Value) (ds gs : List (DataW H)) (before : List MemPlace)
    (hval : ∀ (j : Nat) t v, Tryd.f3.params[j]? = some t → args[j]? = some v → Value.okWide Tryd.prog W .any base t v)
    (hW : DataW.Whole enc Tryd.prog Tryd.f3.params.toList Rows.sha256SumsSpec.vars false W args.toList ds gs before) (hL : laidMetH Tryd.prog Rows.sha256SumsRow.laid W) (hbulk : Rows.uptoSmall H (ds ++ gs) = true) :
    Calls Tryd.prog 3 args W fun e W' => ∃ v, e = .returned v ∧ Rows.sha256SumsSpec.post enc Tryd.prog Tryd.f3 false true false false W args v W' := by
  have hG : Gl W [] := gl_of_laid (.head _) (.tail _ (.head _)) (show laidMet Tryd.prog Rows.sha256SumsRow.laid W from hL)
  have hW' := hW
  obtain ⟨p, q, hA0, hV, rfl, hfz, hnd⟩ := hW
  have hAll : DataW.TrodAll enc Tryd.prog W 0 (fun _ => true) true Tryd.f3.params.toList args.toList ds p := hA0
  rw [Tryd.params3] at hAll hval
  obtain ⟨rfl, rfl⟩ := trodVars_none hV
  obtain ⟨vb, vs0, db, ds0, pb0, q0, hv0, rfl, rfl, hb, hAll⟩ := trodAll_cons hAll
  obtain ⟨vl, vs1, dl, ds1, pl0, q1, hv1, rfl, rfl, hl, hAll⟩ := trodAll_cons hAll
  obtain ⟨rfl, rfl, rfl⟩ := trodAll_nil hAll
  obtain rfl : args = #[vb, vl] := by cases args; simp_all
  obtain ⟨b, rfl, rfl, rfl, wfb⟩ := open_int un_3 (hval 0 3 _ rfl rfl) hb
  obtain ⟨pl, cl, ssl, rfl, hnl, hrl, hkl⟩ := open_slicesB (hval 1 22 _ rfl rfl) hl (m := 1048576) (by simp only [Rows.uptoSmall, List.append_nil, Rows.uptoBulkAll, decide_eq_true_eq] at hbulk; omega)
  clear hA0
  refine Calls.mono (R := fun e W' => e = .returned (.bool true) ∧ Sat W [] [] W') ?_ ?_
  · exact f3_spec b pl cl ssl hnl W hrl hkl hG
  · rintro e W' ⟨rfl, hs⟩
    exact ⟨_, rfl, law_post hW' (by kernel_rfl) rfl ⟨rfl, rfl, rfl⟩ (by rw [Tryd.params3]; decide +kernel) hs.below⟩

noncomputable def sha256Sums_world (os : Os) : World :=
  { World.holding Tryd.prog os ⟨#[], #[], []⟩ with heap := ((World.holding Tryd.prog os ⟨#[], #[], []⟩).heap.modify 0 (layTab ((first224 ++ first256).map U32))).modify 1 (layTab (cubesL.map U32)) }
theorem sha256Sums_laid (os : Os) : laidMet Tryd.prog Rows.sha256SumsRow.laid ((sha256Sums_world os).forCall (fun _ _ => 0) ⟨#[], #[.int .i64 0, .slice none 0 0], []⟩).memory :=
  laidMet_of_run' 8 (by kernel_rfl) (by kernel_rfl)
theorem sha256Sums_reads (os : Os) {H : Type} (enc : TypeId × Value → H) : ∃ places, DataW.whole enc Tryd.prog ((sha256Sums_world os).forCall (fun _ _ => 0) ⟨#[], #[.int .i64 0, .slice none 0 0], []⟩).memory Tryd.f3.params.toList Rows.sha256SumsSpec.vars false (#[.int .i64 0, .slice none 0 0] : Array Value).toList 8 = some ([.lit (.int .i64 0), .nil], [], places) :=
  ⟨[], by kernel_rfl⟩

theorem sha256Sums_lifted (os : Os) (started : os.Started) (H : Type) (enc : TypeId × Value → H) (F : Stop.Interp) :
    ReturnsInHanded {} Tryd.checked os 3 .any ((Rows.OpenSpec.upto Rows.sha256SumsSpec).preRow enc Tryd.prog Tryd.f3 Rows.sha256SumsUptoRow.domain false Rows.sha256SumsUptoRow.laid) (((Rows.OpenSpec.upto Rows.sha256SumsSpec).at F).post enc Tryd.prog Tryd.f3 false true false false) := by
  obtain ⟨places, hx⟩ := sha256Sums_reads os enc
  refine returnsInHanded_of_row (C := Tryd.checked) (s := Rows.OpenSpec.upto Rows.sha256SumsSpec) own started (by kernel_rfl) Tryd.func3
    (witness_row_at (enc := enc) (C := Tryd.checked) false (sha256Sums_world os) #[.int .i64 0, .slice none 0 0] rfl (by kernel_rfl) (by kernel_rfl) (by kernel_rfl)
      (OpenSpec.preRow_of_cond 8 hx (by kernel_rfl) (fun k hk => by cases hk; kernel_rfl) (by kernel_rfl) (sha256Sums_laid os))) ?_
  intro W base args ds gs before hval hW _ hcond _ hL _ _
  exact sha256Sums_contract H enc W base args ds gs before hval hW hL (hcond _ rfl)

theorem sha256Sums_said : Rows.Sha256SumsUptoSaid :=
  OpenClaim.holds_of_cond 3 Tryd.f3 rfl rfl rfl rfl rfl rfl rfl ⟨rfl, rfl, rfl, rfl, rfl⟩ rfl rfl rfl rfl rfl (by kernel_rfl) Tryd.func3 (by kernel_rfl)
    (of_decide_eq_true (by kernel_rfl)) (by unfold Func.isWrapper; first | (rw [if_pos (by decide +kernel)]; kernel_rfl) | (rw [if_neg (by decide +kernel)]; exact ⟨rfl, rfl⟩))
    (fun os started H enc _ F => by rw [OpenClaim.pre_eq_preRow]; exact sha256Sums_lifted os started H enc F)

theorem sha256Sums_plain (f : FuncId) (fn : Func) (hf : Tryd.pinned.checked.prog.funcNamed "postmark/postmarklaw04.Sha256Sums" = some f) (hfn : Tryd.pinned.checked.prog.funcs[f]? = some fn) :
    false = Tryd.pinned.checked.prog.looks [] ∧ ∀ (j : Nat) t, fn.params[j]? = some t → Tryd.pinned.checked.prog.wantsStandIn t = false := by
  obtain rfl : f = 3 := Option.some.inj ((show Tryd.prog.funcNamed "postmark/postmarklaw04.Sha256Sums" = some 3 by kernel_rfl).symm.trans hf) |>.symm
  obtain rfl : fn = Tryd.f3 := (Option.some.inj (Tryd.func3.symm.trans hfn)).symm
  refine ⟨by kernel_rfl, fun j t ht => ?_⟩
  rw [Tryd.params3] at ht
  have h : ∀ u ∈ ([3, 22] : List Nat), Tryd.prog.wantsStandIn u = false := by decide +kernel
  exact h t (by have := Array.mem_of_getElem? ht; simpa using this)

/-- The card. -/
theorem sha256Sums_card : Rows.Sha256SumsUptoCardSaid :=
  Claim7.holds_tied_plain_at .later [] _ _ _ _ sha256Sums_said (fun _ h => by cases h) (by kernel_rfl) (fun _ h => by cases h) sha256SumsUpto_row_tie rfl ⟨rfl, rfl⟩ (by kernel_rfl) rfl sha256Sums_plain (by kernel_rfl)
end Go.Proofs.YtokhediaibdkjaaDoor
