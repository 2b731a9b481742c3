/- The proof's texts, merged: C0 C1 R6 R7 R8 P9 L11 L15 C15. -/
import Derived.Test.YtokhediaibdkjaaDoorMB
import Derived.Test.YtokhediaibdkjaaDoorCards
import Derived.Test.YtokhediaibdkjaaDoorTie
import Derived.WalkKit
import Derived.ProofKit
import Derived.OpenShut
import Derived.Deep.DeepHandedRow
import Derived.Lib.LaidTab
import Derived.Carry
import Derived.Test.YtokhediaibdkjaaDoorMD
/-! From C0 -/
/- What all the rows' proofs share: the tables from the row's list; an argument of bytes, opened; the post. -/
namespace Go.Proofs.YtokhediaibdkjaaDoor
set_option maxRecDepth 100000
open Go.Pm Go.ChangeShapes Go.WideShapes Go.ChangeAt Go.RowKit

theorem own : ownKnob Tryd.prog.godebug = none := by kernel_rfl
theorem laidOut : laidOutB Tryd.prog = true := by kernel_rfl
theorem gCubes : Tryd.prog.globalNamed "postmark/sha256.cubes" = some 1 := by kernel_rfl
theorem gFirst : Tryd.prog.globalNamed "postmark/sha256.first" = some 0 := by kernel_rfl
theorem gCubesT : (Tryd.prog.globals[1]?).map (·.type) = some 118 := by kernel_rfl
theorem gFirstT : (Tryd.prog.globals[0]?).map (·.type) = some 122 := by kernel_rfl
theorem un_118 : Tryd.prog.underlying 118 = some (.array 64 38) := by kernel_rfl
theorem un_122 : Tryd.prog.underlying 122 = some (.array 2 39) := by kernel_rfl
theorem un_38 : Tryd.prog.underlying 38 = some (.int .u32) := by kernel_rfl
theorem un39 : Tryd.prog.underlying 39 = some (.array 8 38) := by kernel_rfl
theorem un_86 : Tryd.prog.underlying 86 = some (.int .u16) := by kernel_rfl
theorem un_4 : Tryd.prog.underlying 4 = some .bool := by kernel_rfl
theorem co_38 : Tryd.prog.cellsOf 38 = 1 := by kernel_rfl
theorem co_118 : Tryd.prog.cellsOf 118 = 64 := by kernel_rfl
theorem co_39 : Tryd.prog.cellsOf 39 = 8 := by kernel_rfl
theorem co_122 : Tryd.prog.cellsOf 122 = 16 := by kernel_rfl
theorem co5 : Tryd.prog.cellsOf 5 = 1 := by kernel_rfl

/-- A row in which a table is laid. -/
def layTab (cs : List Value) : Obj → Obj
  | .cells _ t fr => .cells cs.toArray t fr
  | o => o
theorem laidVars_mem {P : Program} {W : World} : ∀ {l : List (String × DataW Unit)} {ps : List MemPlace}, DataW.LaidVars P W l ps → ∀ {n : String} {d : DataW Unit}, (n, d) ∈ l →
    ∃ g t cs fuel p, P.globalNamed n = some g ∧ (P.globals[g]?).map (·.type) = some t ∧ W.var? P n = some cs ∧ DataW.trod (fun _ => ()) P W 0 (fun _ => true) false fuel t cs.toList = some (d, p)
  | [], _, _, _, _, hm => by cases hm
  | (n', d') :: r, ps, h, n, d, hm => by
    obtain ⟨g, t, cs, fuel, p, q, h1, h2, h3, h4, h5, _⟩ := h
    rcases List.mem_cons.1 hm with he | hm
    · cases he; exact ⟨g, t, cs, fuel, p, h1, h2, h3, h4⟩
    · exact laidVars_mem h5 hm

theorem rd_var {W : World} {n : String} {g : Nat} {cs : Array Value} (hg : Tryd.prog.globalNamed n = some g) (h : W.var? Tryd.prog n = some cs) : RdC W (some ⟨g, 0, none⟩) cs.toList := fun j u hj => by
  refine ⟨g, 0, rfl, ?_⟩
  have := World.var?_cell hg h j
  rw [Nat.zero_add, this]
  simpa using hj

/-- The tables, from the row's list. -/
theorem gl_of_laid {laid : List (String × DataW Unit)} (h1 : ("postmark/sha256.cubes", Rows.laid_postmark_sha256_cubes) ∈ laid) (h2 : ("postmark/sha256.first", Rows.laid_postmark_sha256_first) ∈ laid) {W : World} (h : laidMet Tryd.prog laid W) : Gl W [] := by
  obtain ⟨ps, hv, _⟩ := h
  obtain ⟨g, t, cs, fuel, p, hg, ht, hvar, hd⟩ := laidVars_mem hv h1
  obtain ⟨g', t', cs', fuel', p', hg', ht', hvar', hd'⟩ := laidVars_mem hv h2
  cases Option.some.inj (gCubes.symm.trans hg)
  cases Option.some.inj (gFirst.symm.trans hg')
  cases Option.some.inj (gCubesT.symm.trans ht)
  cases Option.some.inj (gFirstT.symm.trans ht')
  have e1 : cs.toList = cubesL.map U32 := by
    have := Lib.cells_of_tab (zs := cubesL.map fun x => (x.toNat : Int)) un_118 un_38 co_38 co_118 hd
    rw [this]; simp
  obtain ⟨xs, m, rfl, hx, hlen, hxl, hel⟩ := DataW.trod_array un_122 hd'
  rw [co_122] at hlen
  have hxs : xs.map (·.1) = [Lib.tabData .u32 (first224.map fun x => (x.toNat : Int)), Lib.tabData .u32 (first256.map fun x => (x.toNat : Int))] := by
    have := congrArg Prod.fst hx
    exact (DataW.agg.inj (show Rows.laid_postmark_sha256_first = DataW.agg (xs.map (·.1)) from this)).symm
  have hat : ∀ i (zs : List (BitVec 32)), i < 2 → (xs.map (·.1))[i]? = some (Lib.tabData .u32 (zs.map fun x => (x.toNat : Int))) → (cs'.toList.drop (i * 8)).take 8 = zs.map U32 := fun i zs hi hz => by
    have h3 := hel i hi
    rw [co_39] at h3
    rw [List.getElem?_map] at hz
    cases hxi : xs[i]? with
    | none => simp [hxi] at hz
    | some y =>
      rw [hxi] at h3 hz
      simp only [Option.map_some, Option.some.injEq] at hz
      obtain ⟨y1, y2⟩ := y
      subst hz
      have := Lib.cells_of_tab (zs := zs.map fun x => (x.toNat : Int)) un39 un_38 co_38 co_39 h3
      rw [this]; simp
  have e2 := hat 0 first224 (by decide) (by rw [hxs]; rfl)
  have e3 := hat 1 first256 (by decide) (by rw [hxs]; rfl)
  have e4 : cs'.toList = (first224 ++ first256).map U32 := by
    rw [List.map_append, ← e2, ← e3]
    simp only [Nat.zero_mul, List.drop_zero, Nat.one_mul]
    have : (cs'.toList.drop 8).take 8 = cs'.toList.drop 8 := List.take_of_length_le (by simp; simp at hlen; omega)
    rw [this, List.take_append_drop]
  refine ⟨RdC.s ?_, RdC.s ?_⟩
  · rw [← e4]; exact rd_var gFirst hvar'
  · rw [← e1]; exact rd_var gCubes hvar

/-- An argument of bytes. -/
theorem open_bytes {H : Type} {enc : TypeId × Value → H} {W : World} {base : Nat} {v : Value} {d : DataW H} {p : List MemPlace} (hval : Value.okWide Tryd.prog W .any base 23 v) (h : DataW.Trod enc Tryd.prog W 0 (fun _ => true) true 23 v d p) :
    ∃ (q : Option Addr) (n c : Nat) (l : List UInt8), v = .slice q n c ∧ l.length = n ∧ (q = none → c = 0) ∧ n ≤ c ∧ c ≤ maxLen ∧ RdC W q (l.map B8) := by
  obtain ⟨a, n, c, rfl⟩ := okWide_slice un_23 hval
  obtain ⟨fuel, hf⟩ := h
  rcases open_ints un_23 un_5 co5 hf with ⟨hcs, hx⟩ | ⟨a', len, cap, zs, hcs, _, hl, hm, hz, hx, hcell, hwz⟩
  · simp [Value.cells] at hcs
    obtain ⟨rfl, rfl, rfl⟩ := hcs
    exact ⟨none, 0, 0, [], rfl, rfl, fun _ => rfl, Nat.le_refl _, Nat.zero_le _, RdC.nil⟩
  · simp [Value.cells] at hcs
    obtain ⟨rfl, rfl, rfl⟩ := hcs
    simp only [if_true] at hz
    refine ⟨some a', _, _, (zs.take n).map fun z => UInt8.ofNat z.toNat, rfl, by simp; omega, by simp, hl, hm, ?_⟩
    intro j u hj
    simp only [List.map_map, List.getElem?_map, Option.map_eq_some_iff] at hj
    obtain ⟨z, hzj, rfl⟩ := hj
    rw [List.getElem?_take] at hzj
    split at hzj
    · rename_i hjl
      have hjz : j < zs.length := by omega
      have hc := hcell j hjz
      have hzv : zs.getD j 0 = z := by simp [hzj]
      rw [hzv] at hc
      have hw := hwz z (List.mem_of_getElem? hzj)
      have hb : 0 ≤ z ∧ z < 256 := by
        simp [Lit.wf, IntKind.min, IntKind.max, IntKind.signed, IntKind.bits] at hw
        omega
      obtain ⟨b, o, sp⟩ := a'
      have hspot : sp = none := by
        have h0 := World.cell?_spot (hcell 0 (by omega))
        simpa [Addr.add] using h0
      subst hspot
      refine ⟨b, o, rfl, ?_⟩
      rw [add_at] at hc
      rw [hc]
      have : ((UInt8.ofNat z.toNat).toNat : Int) = z := by
        rw [UInt8.toNat_ofNat']
        omega
      exact congrArg (fun t : Int => some (Value.int .u8 t)) this.symm
    · cases hzj

theorem trodAll_below {H : Type} {enc : TypeId × Value → H} {W W' : World} (hb : Below W.heap.size W W') : ∀ {ts : List TypeId} {vs : List Value} {ds : List (DataW H)} {ps : List MemPlace}, (∀ t ∈ ts, Tryd.prog.readableRec t = true ∧ t < Tryd.prog.types.size) →
    DataW.TrodAll enc Tryd.prog W 0 (fun _ => true) true ts vs ds ps → (∀ x ∈ ps, x.block < W.heap.size) → DataW.TrodAll enc Tryd.prog W' 0 (fun b => decide (b < W.heap.size)) true ts vs ds ps
  | [], _, _, _, _, h, _ => by
    obtain ⟨rfl, rfl, rfl⟩ := trodAll_nil h
    exact trodAll_mk0
  | t :: ts, _, _, _, ht, h, hlt => by
    obtain ⟨v, vs, d, ds, p, q, rfl, rfl, rfl, h1, h2⟩ := trodAll_cons h
    exact trodAll_cons_mk (Below.trod laidOut (ht t (by simp)).1 (ht t (by simp)).2 h1 hb (fun x hx => hlt x (by simp [hx]))) (trodAll_below hb (fun u hu => ht u (by simp [hu])) h2 (fun x hx => hlt x (by simp [hx])))

/-- The post of a law: it answers true, and the input reads as it did. -/
theorem law_post {H : Type} {enc : TypeId × Value → H} {f : Func} {s : ChangeSpec} {W W' : World} {args : Array Value} {ds gs : List (DataW H)} {before : List MemPlace} (hW : DataW.Whole enc Tryd.prog f.params.toList s.vars false W args.toList ds gs before)
    (hrt : f.resultTypes = #[4]) (hv : s.vars = []) (hfn : (s.fn H (ds ++ gs)).results = [.lit (.bool true)] ∧ (s.fn H (ds ++ gs)).args = ds ∧ (s.fn H (ds ++ gs)).vars = []) (hread : ∀ t ∈ f.params.toList, Tryd.prog.readableRec t = true ∧ t < Tryd.prog.types.size)
    (hb : Below W.heap.size W W') : s.post enc Tryd.prog f false true false false W args (.bool true) W' := by
  have hW' := hW
  obtain ⟨p, q, hA, hV, rfl, _, _⟩ := hW
  rw [hv] at hV
  obtain ⟨rfl, rfl⟩ := trodVars_none hV
  obtain ⟨f1, f2, f3⟩ := hfn
  refine ⟨ds, [], p ++ [], [], p, [], hW', ?_, ?_, ?_, Below.frame hb _, fun h => by cases h⟩
  · rw [f1, hrt]; exact trodAll_cons_mk (shut_bool un_4 _) trodAll_mk0
  · rw [f2]; exact trodAll_below hb hread hA (fun x hx => hW'.lt x (by simp [hx]))
  · rw [f3, hv]; rfl
end Go.Proofs.YtokhediaibdkjaaDoor

/-! From C1 -/
/- Numbers of eight bytes among a row's arguments. -/
namespace Go.Proofs.YtokhediaibdkjaaDoor
set_option maxRecDepth 100000
open Go.Pm Go.ChangeShapes Go.WideShapes Go.ChangeAt Go.RowKit
theorem un_34 : Tryd.prog.underlying 34 = some (.int .u64) := by kernel_rfl
theorem u64_of {z : Int} (h : Lit.wf (.int .u64 z) = true) : ∃ N : BitVec 64, z = (N.toNat : Int) := by
  have hz : 0 ≤ z ∧ z < 18446744073709551616 := by
    simp [Lit.wf, IntKind.min, IntKind.max, IntKind.signed, IntKind.bits] at h
    omega
  refine ⟨BitVec.ofNat 64 z.toNat, ?_⟩
  rw [BitVec.toNat_ofNat, Nat.mod_eq_of_lt (by omega)]
  omega
theorem exists_list {α : Type} {P : Nat → α → Prop} : ∀ n, (∀ i, i < n → ∃ a, P i a) → ∃ l : List α, l.length = n ∧ ∀ i a, l[i]? = some a → P i a
  | 0, _ => ⟨[], rfl, fun i a h => by simp at h⟩
  | n + 1, h => by
    obtain ⟨l, hl, hp⟩ := exists_list n (fun i hi => h i (by omega))
    obtain ⟨a, ha⟩ := h n (by omega)
    refine ⟨l ++ [a], by simp [hl], fun i b hb => ?_⟩
    rcases Nat.lt_or_ge i n with hi | hi
    · rw [List.getElem?_append_left (by omega)] at hb; exact hp i b hb
    · rw [List.getElem?_append_right (by omega)] at hb
      have : i - l.length = 0 := by
        rcases Nat.eq_zero_or_pos (i - l.length) with h0 | h0
        · exact h0
        · rw [List.getElem?_eq_none (by simp; omega)] at hb; cases hb
      rw [this] at hb
      simp at hb
      subst hb
      rw [show i = n by omega]; exact ha
/-- Bytes, from what a row says of their cell. -/
theorem bytes_of_trod {H : Type} {enc : TypeId × Value → H} {W : World} {fuel : Nat} {cs : List Value} {x : DataW H × List MemPlace} (hf : DataW.trod enc Tryd.prog W 0 (fun _ => true) true fuel 23 cs = some x) : ∃ s : Sl, cs = [s.v] ∧ s.ok W ∧ s.c ≤ maxLen := by
  rcases open_ints un_23 un_5 co5 hf with ⟨hcs, hx⟩ | ⟨a', len, cap, zs, hcs, _, hl, hm, hz, hx, hcell, hwz⟩
  · exact ⟨⟨none, 0, 0, []⟩, hcs, ⟨rfl, fun _ => rfl, Nat.le_refl _, RdC.nil⟩, Nat.zero_le _⟩
  · simp only [if_true] at hz
    refine ⟨⟨some a', len, cap, (zs.take len).map fun z => UInt8.ofNat z.toNat⟩, hcs, ⟨by simp; omega, by simp, hl, ?_⟩, hm⟩
    intro j u hj
    simp only [List.map_map, List.getElem?_map, Option.map_eq_some_iff] at hj
    obtain ⟨z, hzj, rfl⟩ := hj
    rw [List.getElem?_take] at hzj
    split at hzj
    · rename_i hjl
      have hjz : j < zs.length := by omega
      have hc := hcell j hjz
      have hzv : zs.getD j 0 = z := by simp [hzj]
      rw [hzv] at hc
      have hw := hwz z (List.mem_of_getElem? hzj)
      have hb : 0 ≤ z ∧ z < 256 := by
        simp [Lit.wf, IntKind.min, IntKind.max, IntKind.signed, IntKind.bits] at hw
        omega
      obtain ⟨b, o, sp⟩ := a'
      have hspot : sp = none := by
        have h0 := World.cell?_spot (hcell 0 (by omega))
        simpa [Addr.add] using h0
      subst hspot
      refine ⟨b, o, rfl, ?_⟩
      rw [add_at] at hc
      rw [hc]
      have : ((UInt8.ofNat z.toNat).toNat : Int) = z := by
        rw [UInt8.toNat_ofNat']
        omega
      exact congrArg (fun t : Int => some (Value.int .u8 t)) this.symm
    · cases hzj
theorem un22 : Tryd.prog.underlying 22 = some (.slice 23) := by kernel_rfl
theorem co_23 : Tryd.prog.cellsOf 23 = 1 := by kernel_rfl
/-- An argument: slices of bytes. -/
theorem open_slices {H : Type} {enc : TypeId × Value → H} {W : World} {base : Nat} {v : Value} {d : DataW H} {p : List MemPlace} (hval : Value.okWide Tryd.prog W .any base 22 v) (h : DataW.Trod enc Tryd.prog W 0 (fun _ => true) true 22 v d p) :
    ∃ (q : Option Addr) (c : Nat) (ss : List Sl), v = .slice q ss.length c ∧ (q = none → c = 0) ∧ ss.length ≤ c ∧ c ≤ maxLen ∧ RdC W q (ss.map Sl.v) ∧ ∀ s ∈ ss, s.ok W := by
  obtain ⟨a, n, c, rfl⟩ := okWide_slice un22 hval
  obtain ⟨fuel, hf⟩ := h
  rcases DataW.trod_slice un22 hf with ⟨hcs, _⟩ | ⟨a', len, cap, elems, rest, m, _, hcs, _, _, hl, hm, hlen, hel, _, _⟩
  · simp [Value.cells] at hcs
    obtain ⟨rfl, rfl, rfl⟩ := hcs
    exact ⟨none, 0, [], rfl, fun _ => rfl, Nat.le_refl _, Nat.zero_le _, RdC.nil, by simp⟩
  · simp [Value.cells] at hcs
    obtain ⟨rfl, rfl, rfl⟩ := hcs
    have each : ∀ i, i < n → ∃ s : Sl, s.ok W ∧ W.cell? (a'.add i) = some s.v := fun i hi => by
      have he := hel i hi
      rw [co_23, Nat.mul_one, List.getElem?_eq_getElem (by omega)] at he
      obtain ⟨cs', hcs', hy⟩ := Option.bind_eq_some_iff.1 he
      obtain ⟨s, rfl, hok, _⟩ := bytes_of_trod hy
      exact ⟨s, hok, cell_of_cells?_one hcs'⟩
    obtain ⟨ss, hsl, hss⟩ := exists_list n each
    refine ⟨some a', c, ss, by rw [hsl], by simp, by omega, hm, ?_, fun s hs => ?_⟩
    · intro j u hj
      simp only [List.getElem?_map, Option.map_eq_some_iff] at hj
      obtain ⟨s, hsj, rfl⟩ := hj
      have hc := (hss j s hsj).2
      have hjn : j < n := by have := (List.getElem?_eq_some_iff.1 hsj).1; omega
      obtain ⟨s0, _, h0⟩ := each 0 (by omega)
      obtain ⟨b, o, sp⟩ := a'
      have hspot : sp = none := by
        have h1 := World.cell?_spot h0
        simpa [Addr.add] using h1
      subst hspot
      exact ⟨b, o, rfl, by rw [← hc, add_at]⟩
    · obtain ⟨i, hi⟩ := List.getElem?_of_mem hs
      exact (hss i s hi).1
theorem un_24 : Tryd.prog.underlying 24 = some (.int .i64) := by kernel_rfl
theorem un_2 : Tryd.prog.underlying 2 = some (.int .i64) := by kernel_rfl
theorem u8_of {z : Int} (h : Lit.wf (.int .u8 z) = true) : ∃ N : UInt8, z = (N.toNat : Int) := by
  have hz : 0 ≤ z ∧ z < 256 := by
    simp [Lit.wf, IntKind.min, IntKind.max, IntKind.signed, IntKind.bits] at h
    omega
  refine ⟨UInt8.ofNat z.toNat, ?_⟩
  rw [UInt8.toNat_ofNat']
  omega
theorem i64_of {z : Int} (h : Lit.wf (.int .i64 z) = true) : -9223372036854775808 ≤ z ∧ z < 9223372036854775808 := by
  simp [Lit.wf, IntKind.min, IntKind.max, IntKind.signed, IntKind.bits] at h
  omega
theorem un113 : Tryd.prog.underlying 113 = some (.slice 2) := by kernel_rfl
theorem co_2 : Tryd.prog.cellsOf 2 = 1 := by kernel_rfl
/-- An argument: whole numbers. -/
theorem open_i64s {H : Type} {enc : TypeId × Value → H} {W : World} {base : Nat} {v : Value} {d : DataW H} {p : List MemPlace} (hval : Value.okWide Tryd.prog W .any base 113 v) (h : DataW.Trod enc Tryd.prog W 0 (fun _ => true) true 113 v d p) :
    ∃ (q : Option Addr) (c : Nat) (zs : List Int), v = .slice q zs.length c ∧ (q = none → c = 0) ∧ zs.length ≤ c ∧ RdC W q (zs.map fun z => Value.int .i64 z) := by
  obtain ⟨a, n, c, rfl⟩ := okWide_slice un113 hval
  obtain ⟨fuel, hf⟩ := h
  rcases open_ints un113 un_2 co_2 hf with ⟨hcs, _⟩ | ⟨a', len, cap, zs, hcs, _, hl, hm, hz, hx, hcell, _⟩
  · simp [Value.cells] at hcs
    obtain ⟨rfl, rfl, rfl⟩ := hcs
    exact ⟨none, 0, [], rfl, fun _ => rfl, Nat.le_refl _, RdC.nil⟩
  · simp [Value.cells] at hcs
    obtain ⟨rfl, rfl, rfl⟩ := hcs
    simp only [if_true] at hz
    have hlen : (zs.take n).length = n := by rw [List.length_take]; omega
    refine ⟨some a', c, zs.take n, by rw [hlen], by simp, by omega, ?_⟩
    intro j u hj
    simp only [List.getElem?_map, Option.map_eq_some_iff] at hj
    obtain ⟨z, hzj, rfl⟩ := hj
    rw [List.getElem?_take] at hzj
    split at hzj
    · rename_i hjl
      have hc := hcell j (by omega)
      rw [show zs.getD j 0 = z by simp [hzj]] at hc
      obtain ⟨b, o, sp⟩ := a'
      have hspot : sp = none := by
        have h0 := World.cell?_spot (hcell 0 (by omega))
        simpa [Addr.add] using h0
      subst hspot
      exact ⟨b, o, rfl, by rw [← hc, add_at]⟩
    · cases hzj
end Go.Proofs.YtokhediaibdkjaaDoor

/-! From R6 -/
/- The operations of law 19; the walk of its great. (printed by gen1.py) -/
namespace Go.Proofs.YtokhediaibdkjaaDoor
open Go.Pm Go.RowKit
set_option maxRecDepth 100000
theorem flat_at {α : Type} {l : List (List α)} {n i j : Nat} {x : List α} (h : ∀ y ∈ l, y.length = n) (hi : l[i]? = some x) (hj : j < n) : l.flatten[i * n + j]? = x[j]? := by
  have h1 := flat_get h hi
  have h2 := congrArg (fun z : List α => z[j]?) h1
  simp only [List.getElem?_take_of_lt hj, List.getElem?_drop] at h2
  exact h2
theorem Cell.rdO {cx : Cx} {Rs : List Res} {b o j m : Nat} {vs : List Value} {u : Value} (h : RdA cx Rs (some ⟨b, o, none⟩) vs) (hj : vs[j]? = some u) (hm : o + j = m) : Cell cx Rs ⟨b, m, none⟩ u := fun w hw => by
  subst hm
  exact (h w hw).cell hj
theorem RdC.head {w : World} {p : Option Addr} {vs : List Value} (h : RdC w p vs) (hn : vs ≠ []) : ∃ b o, p = some ⟨b, o, none⟩ := by
  cases vs with
  | nil => exact absurd rfl hn
  | cons v vs =>
    obtain ⟨b, o, e, _⟩ := h 0 v rfl
    exact ⟨b, o, e⟩
/-- An operation of law 19. -/
structure O19 where
  kind : Int
  time : Int
  first : Int
  n : Int
  s : Sl
def O19.cells (o : O19) : List Value := [I64 o.kind, I64 o.time, I64 o.first, I64 o.n, o.s.v]
def O19.ok (o : O19) (w : World) : Prop := o.s.ok w ∧ o.n < 9223372036854775808
def opC (os : List O19) : List Value := (os.map O19.cells).flatten
theorem op_get {os : List O19} {i j : Nat} {o : O19} (h : os[i]? = some o) (hj : j < 5) : (opC os)[i * 5 + j]? = o.cells[j]? :=
  flat_at (n := 5) (by intro y hy; obtain ⟨z, _, rfl⟩ := List.mem_map.1 hy; rfl) (by rw [List.getElem?_map, h]; rfl) hj
theorem op_ne {os : List O19} {i : Nat} {o : O19} (h : os[i]? = some o) : opC os ≠ [] := fun e => by
  have := op_get h (j := 0) (by decide)
  rw [e] at this
  cases this
/-- Are they more than the statements go through? -/
def great19 (os : List O19) : Bool := decide (80 < os.length) || os.any fun o => decide (100 < o.s.n)
theorem great_no {os : List O19} (h : great19 os = false) : os.length ≤ 80 ∧ ∀ o ∈ os, o.s.n ≤ 100 := by
  unfold great19 at h
  rw [Bool.or_eq_false_iff] at h
  refine ⟨by have := h.1; simp at this; exact this, fun o ho => ?_⟩
  have := List.any_eq_false.1 h.2 o ho
  simpa using this


theorem f27_spec (q : Option Addr) (c : Nat) (os : List O19) (hl : os.length ≤ 9223372036854775807) (w : World) (hrq : RdC w q (opC os)) : Calls Tryd.prog 27 [.slice q os.length c].toArray w (fun en w2 => en = .returned (.bool (great19 os)) ∧ Sat w [] [] w2) := by
  refine used hl (used hrq (?_))
  refine enter (n := 20) Tryd.func27 rfl rfl rfl (Sat.refl w) ?_
  refine seq ?_
  refine region ?_
  refine st (g_assign rfl) rfl ?_
  refine done ?_
  refine th_n ?_
  refine seq ?_
  refine seq ?_
  refine region ?_
  refine st (g_move rfl) rfl ?_
  refine st (g_len el_46 rfl) rfl ?_
  refine st (g_bin rfl rfl rfl) rfl ?_
  refine done ?_
  refine th_n ?_
  refine condS rfl (fun h6 => ?_) (fun h6 => ?_)
  · try simp only [decide_eq_true_eq] at h6
    have hg : great19 os = true := by unfold great19; rw [decide_eq_true (by omega)]; rfl
    refine seq ?_
    refine region ?_
    refine st (g_assign rfl) rfl ?_
    refine done ?_
    refine th_n ?_
    refine ret ?_
    refine th_r ?_
    exact ret1 rfl rfl rfl (fun w2 hw2 => ⟨by rw [hg], hw2.clear⟩)
  · try simp only [decide_eq_false_iff_not] at h6
    refine skip ?_
    refine th_n ?_
    refine seq ?_
    refine seq ?_
    refine region ?_
    refine st (g_move rfl) rfl ?_
    refine st (g_len el_46 rfl) rfl ?_
    refine st (g_move rfl) rfl ?_
    refine done ?_
    refine th_n ?_
    refine block ?_
    refine loop (α := Nat) (fun i => i ≤ os.length ∧ ∀ j o, j < i → os[j]? = some o → o.s.n ≤ 100) (fun i => [(0, .slice q os.length c), (8, I64 (os.length : Nat)), (9, I64 (i : Nat))]) (fun i => []) (fun i => os.length - i) 0 ⟨Nat.zero_le _, fun j o h => absurd h (Nat.not_lt_zero j)⟩ ⟨rfl, rfl, rfl, trivial⟩ .nil (fun i hI => ?_)
    refine seq ?_
    refine region ?_
    refine st (g_bin rfl rfl rfl) rfl ?_
    refine done ?_
    refine th_n ?_
    refine seq ?_
    refine condS rfl (fun h10 => ?_) (fun h10 => ?_)
    · try simp only [decide_eq_true_eq] at h10
      have hi : i < os.length := by omega
      obtain ⟨o, ho⟩ : ∃ o, os[i]? = some o := ⟨os[i], by simp [hi]⟩
      obtain ⟨qb, qo, rfl⟩ := RdC.head hrq (op_ne ho)
      refine skip ?_
      refine th_n ?_
      refine seq ?_
      refine block ?_
      refine seq ?_
      refine region ?_
      refine st (g_move rfl) rfl ?_
      refine st (g_assign rfl) rfl ?_
      refine done ?_
      refine th_n ?_
      refine seq ?_
      refine region ?_
      refine st (g_move rfl) rfl ?_
      refine st (g_move rfl) rfl ?_
      refine st (g_indexS (m := qo + i * 5) el_46 rfl rfl (by omega) (by omega) (by omega)) rfl ?_
      refine st (g_fieldAddr fo_59_4 rfl rfl) rfl ?_
      refine st (g_load (v := o.s.v) sc_23 rfl (Cell.rdO (RdA.of hrq.s) (op_get ho (j := 4) (by decide)) (by omega))) rfl ?_
      refine st (g_len el_23 rfl) rfl ?_
      refine st (g_bin rfl rfl rfl) rfl ?_
      refine done ?_
      refine th_n ?_
      refine condS rfl (fun h18 => ?_) (fun h18 => ?_)
      · try simp only [decide_eq_true_eq] at h18
        have hg : great19 os = true := by
          unfold great19
          rw [Bool.or_eq_true]
          exact .inr (List.any_eq_true.2 ⟨o, List.mem_of_getElem? ho, decide_eq_true (by omega)⟩)
        refine seq ?_
        refine region ?_
        refine st (g_assign rfl) rfl ?_
        refine done ?_
        refine th_n ?_
        refine ret ?_
        refine ib_r ?_
        refine th_r ?_
        refine th_r ?_
        refine ib_r ?_
        refine th_r ?_
        exact ret1 rfl rfl rfl (fun w2 hw2 => ⟨by rw [hg], hw2.clear⟩)
      · try simp only [decide_eq_false_iff_not] at h18
        have hnext : ∀ j o, j < i + 1 → os[j]? = some o → o.s.n ≤ 100 := fun j o1 hj h1 => by
          rcases Nat.lt_or_ge j i with h2 | h2
          · exact hI.2 j o1 h2 h1
          · rw [show j = i by omega, ho] at h1
            cases h1
            omega
        refine skip ?_
        refine ib_n ?_
        refine th_n ?_
        refine region ?_
        refine st (g_iadd (c := ((i + 1 : Nat) : Int)) rfl rfl (by omega) (by omega) (by omega)) rfl ?_
        refine st (g_move rfl) rfl ?_
        refine done ?_
        refine th_n ?_
        exact again (i + 1) ⟨by omega, hnext⟩ (by omega) ⟨rfl, rfl, rfl, trivial⟩ .nil
    · try simp only [decide_eq_false_iff_not] at h10
      have hie : i = os.length := by omega
      have hg : great19 os = false := by
        unfold great19
        rw [Bool.or_eq_false_iff]
        refine ⟨decide_eq_false (by omega), List.any_eq_false.2 fun o ho => ?_⟩
        obtain ⟨j, hj⟩ := List.getElem?_of_mem ho
        have hjl := (List.getElem?_eq_some_iff.1 hj).1
        have := hI.2 j o (by omega) hj
        simpa using this
      refine exitc ?_
      refine th_x ?_
      refine th_x ?_
      refine ib_x ?_
      refine th_n ?_
      refine seq ?_
      refine region ?_
      refine st (g_assign rfl) rfl ?_
      refine done ?_
      refine th_n ?_
      refine ret ?_
      exact ret1 rfl rfl rfl (fun w2 hw2 => ⟨by rw [hg], hw2.clear⟩)

theorem f27_as (q : Option Addr) (c : Nat) (os : List O19) (hl : os.length ≤ 9223372036854775807) {g : Bool} (hg : great19 os = g) (w : World) (hrq : RdC w q (opC os)) : Calls Tryd.prog 27 [.slice q os.length c].toArray w (fun en w2 => en = .returned (.bool g) ∧ Sat w [] [] w2) := by
  subst hg
  exact f27_spec q c os hl w hrq
end Go.Proofs.YtokhediaibdkjaaDoor

/-! From R7 -/
/- slot.sectors, slot.Load, diary.Open over no disk. (printed by gen1.py) -/
namespace Go.Proofs.YtokhediaibdkjaaDoor
open Go.Pm Go.RowKit
set_option maxRecDepth 100000
theorem f108_nil (lp bd : Nat) (LP : Bool → Res) (LL LL2 : List Res) (w : World) (hA : Sat w (fps (LP false :: blk bd 48 [.pointer none] :: LL)) (LP false :: blk bd 48 [.pointer none] :: LL) w)
    (hY : ∀ w', Sat w (fps (LP false :: blk bd 48 [.pointer none] :: LL)) (LP false :: blk bd 48 [.pointer none] :: LL) w' → Sat w' (fps (LP false :: blk bd 48 [.pointer none] :: LL)) (LP false :: blk bd 48 [.pointer none] :: LL) w' → YieldCall Tryd.prog lp [.slice none 0 0, I64 1] w' (fun b2 w2 => ∃ _x : Unit, b2 = false ∧ Sat w' (fps (LP false :: blk bd 48 [.pointer none] :: LL)) (LP true :: blk bd 48 [.pointer none] :: LL2) w2)) :
    Calls Tryd.prog 108 [.func (.yield lp) #[] #[], .pointer (some ⟨bd, 0, none⟩)].toArray w (fun en w2 => en = .returned (.tuple #[]) ∧ Sat w (fps (LP false :: blk bd 48 [.pointer none] :: LL)) (LP true :: blk bd 48 [.pointer none] :: LL2) w2) := by
  refine enter (n := 16) Tryd.func108 rfl rfl rfl hA ?_
  refine seq ?_
  refine region ?_
  refine st (g_move rfl) rfl ?_
  refine done ?_
  refine th_n ?_
  refine block ?_
  refine loop (α := Unit) (fun _ => True) (fun _ => [(0, .func (.yield lp) #[] #[]), (1, .pointer (some ⟨bd, 0, none⟩)), (4, I64 0)]) (fun _ => LP false :: blk bd 48 [.pointer none] :: LL) (fun _ => 0) () trivial ⟨rfl, rfl, rfl, trivial⟩ (Split.all _) (fun _ _ => ?_)
  refine seq ?_
  refine region ?_
  refine st (g_T rfl rfl rfl (by decide)) rfl ?_
  refine done ?_
  refine th_n ?_
  refine seq ?_
  refine condT rfl ?_
  refine skip ?_
  refine th_n ?_
  refine seq ?_
  refine block ?_
  refine seq ?_
  refine region ?_
  refine st (g_move rfl) rfl ?_
  refine st (g_assign rfl) rfl ?_
  refine done ?_
  refine th_n ?_
  refine seq ?_
  refine region ?_
  refine st (g_move rfl) rfl ?_
  refine st (g_load sc_48 rfl (Cell.own (.there (.here)) (rfl))) rfl ?_
  refine st (g_move rfl) rfl ?_
  refine sq rfl (o_callP Tryd.func109 rfl rfl rfl (fun w hw => f109_nil 0 w) rfl ?_)
  refine st (g_extract rfl rfl) rfl ?_
  refine st (g_extract rfl rfl) rfl ?_
  refine sq rfl (o_yield (vs := [.slice none 0 0, I64 1]) (β := Unit) (I := fun _ b2 => b2 = false) (A' := fun _ => (LP true :: blk bd 48 [.pointer none] :: LL2)) rfl rfl (Split.all _) (fun w' hw' hA' => hY w' hw' hA') rfl (fun _ b2 hs2 => ?_))
  subst hs2
  refine At.up (fun w hw => Sat.left hw) ?_
  refine st (g_not rfl) rfl ?_
  refine done ?_
  refine th_n ?_
  refine condT rfl ?_
  refine ret ?_
  refine ib_r ?_
  refine th_r ?_
  refine th_r ?_
  refine ib_r ?_
  exact ret0 rfl rfl (fun w2 hw2 => ⟨rfl, hw2⟩)

theorem f52_nil (w : World) : Calls Tryd.prog 52 [.pointer none].toArray w (fun en w2 => en = .returned (.tuple #[.agg [U64 0#64, .slice none 0 0].toArray, I64 0, I64 1]) ∧ Sat w [] [] w2) := by
  refine enterM (n := 45) Tryd.func52 rfl rfl rfl (Sat.refl w) ?_
  refine seq ?_
  refine region ?_
  refine sq rfl (o_alloc (zs := [U64 0#64, .slice none 0 0]) zr_73 rfl (fun b2 => ?_))
  refine st (g_assign rfl) rfl ?_
  refine st (g_assign rfl) rfl ?_
  refine done ?_
  refine th_n ?_
  refine scope ?_
  refine seq ?_
  refine region ?_
  refine sq rfl (o_alloc (zs := [U64 0#64, .slice none 0 0]) zr_73 rfl (fun b5 => ?_))
  refine done ?_
  refine th_n ?_
  refine seq ?_
  refine region ?_
  refine sq rfl (o_alloc zr_24 rfl (fun b6 => ?_))
  refine sq rfl (o_alloc zr_3 rfl (fun b7 => ?_))
  refine sq rfl (o_alloc zr_3 rfl (fun b8 => ?_))
  refine sq rfl (o_store sz_24 rfl rfl rfl (.there (.there (.here))) (Nat.le_of_ble_eq_true rfl) rfl ?_)
  refine sq rfl (o_store sz_3 rfl rfl rfl (.there (.there (.here))) (Nat.le_of_ble_eq_true rfl) rfl ?_)
  refine sq rfl (o_store sz_3 rfl rfl rfl (.there (.there (.here))) (Nat.le_of_ble_eq_true rfl) rfl ?_)
  refine done ?_
  refine th_n ?_
  refine seq ?_
  refine label ?_
  refine th_n ?_
  refine seq ?_
  refine seq ?_
  refine region ?_
  refine st (g_move rfl) rfl ?_
  refine sq rfl (o_call Tryd.func87 rfl rfl rfl .nil (fun w hw hA => f87_spec none w) rfl (fun bd _ => ?_))
  refine done ?_
  refine th_n ?_
  refine block ?_
  skip
  refine At.weaken (e' := [(2, .pointer (some ⟨b2, 0, none⟩)), (3, I64 0), (4, I64 0), (5, .pointer (some ⟨b5, 0, none⟩)), (6, .pointer (some ⟨b6, 0, none⟩)), (7, .pointer (some ⟨b7, 0, none⟩)), (8, .pointer (some ⟨b8, 0, none⟩)), (14, .func (.func 108) #[] [.pointer (some ⟨bd, 0, none⟩)].toArray)]) (Rs' := [blk bd 48 [.pointer none], blk b5 73 [U64 0#64, .slice none 0 0], blk b6 24 [I64 0], blk b7 3 [I64 0], blk b8 3 [I64 (-1)], blk b2 73 [U64 0#64, .slice none 0 0]]) ?_ ⟨rfl, rfl, rfl, rfl, rfl, rfl, rfl, rfl, trivial⟩ (.cons .here (.cons (.there (.there (.there (.here)))) (.cons (.there (.there (.here))) (.cons (.there (.here)) (.cons .here (.cons .here .nil))))))
  refine rangeF (β := Unit) (I := fun _ => True) (stt := fun _ => .done) (pend := fun _ => some (.exit 0)) (RR := fun _ => [blk bd 48 [.pointer none], blk b5 73 [U64 0#64, .slice none 0 0], blk b6 24 [I64 1], blk b7 3 [I64 0], blk b8 3 [I64 (-1)], blk b2 73 [U64 0#64, .slice none 0 0]]) rfl Tryd.func108 rfl rfl ?_ (fun _ _ => nofun) ?_ ?_
  · intro a fn D lp w1 hOk hS
    have hS1 := hS.split (A := [objR lp _, blk bd 48 [.pointer none], blk b5 73 [U64 0#64, .slice none 0 0], blk b6 24 [I64 0], blk b7 3 [I64 0], blk b8 3 [I64 (-1)], blk b2 73 [U64 0#64, .slice none 0 0], objR D (.deferred (some []))]) (.cons .here (.cons (.there (.here)) (.cons (.there (.here)) (.cons (.there (.here)) (.cons (.there (.here)) (.cons (.there (.here)) (.cons (.there (.here)) (.cons .here .nil))))))))
    refine (f108_nil lp bd (fun z : Bool => objR lp (.loop ⟨cond z .done .ready, cond z (some (.exit 0)) none, fn, a.tmps, _, _, _, D⟩)) [blk b5 73 [U64 0#64, .slice none 0 0], blk b6 24 [I64 0], blk b7 3 [I64 0], blk b8 3 [I64 (-1)], blk b2 73 [U64 0#64, .slice none 0 0], objR D (.deferred (some []))] [blk b5 73 [U64 0#64, .slice none 0 0], blk b6 24 [I64 1], blk b7 3 [I64 0], blk b8 3 [I64 (-1)], blk b2 73 [U64 0#64, .slice none 0 0], objR D (.deferred (some []))] w1 hS1.hand ?_).mono ?_
    · intro w3 h3 hA3
      refine yield_walk (n := 45) (ds := []) (e := [(2, .pointer (some ⟨b2, 0, none⟩)), (3, I64 0), (4, I64 0), (5, .pointer (some ⟨b5, 0, none⟩)), (6, .pointer (some ⟨b6, 0, none⟩)), (7, .pointer (some ⟨b7, 0, none⟩)), (8, .pointer (some ⟨b8, 0, none⟩)), (14, .func (.func 108) #[] [.pointer (some ⟨bd, 0, none⟩)].toArray)]) hA3 ⟨hOk.size, rfl, hOk.get⟩ rfl (by decide) ?_
      refine seq ?_
      refine region ?_
      refine st (g_assign rfl) rfl ?_
      refine done ?_
      refine th_n ?_
      refine region ?_
      refine st (g_assign rfl) rfl ?_
      refine done ?_
      refine th_n ?_
      refine begin_round .here rfl ?_
      refine block ?_
      refine seq ?_
      refine seq ?_
      refine region ?_
      refine st (g_move rfl) rfl ?_
      refine sq rfl (o_store (cs' := [I64 1]) sz_24 rfl rfl rfl (.there (.there (.there (.here)))) (Nat.le_of_ble_eq_true rfl) rfl ?_)
      refine done ?_
      refine th_n ?_
      refine seq ?_
      refine region ?_
      refine st (g_move rfl) rfl ?_
      refine st (g_T rfl rfl rfl (by decide)) rfl ?_
      refine done ?_
      refine th_n ?_
      refine condT rfl ?_
      refine exitc ?_
      refine th_x ?_
      refine ib_y rfl ?_
      exact round_exit (.there (.here)) (fun w4 h4 => ⟨(), rfl, Sat.left (h4.split (.cons .here (.cons (.there (.here)) (.cons (.there (.here)) (.cons .here (.cons .here (.cons .here (.cons .here (.cons .here .nil)))))))))⟩)
    · rintro en w2 ⟨he, hs2⟩
      exact ⟨⟨_, he⟩, (), trivial, Sat.app0 ((hS1.join hs2).split (.cons .here (.cons (.there (.there (.there (.there (.there (.there (.here))))))) (.cons .here (.cons .here (.cons .here (.cons .here (.cons .here (.cons .here .nil)))))))))⟩
  · intro D _ _ hp
    cases hp
  · intro D _ c _ hp
    cases hp
    refine exitc ?_
    refine ib_x ?_
    refine th_n ?_
    refine seq ?_
    refine seq ?_
    refine region ?_
    refine st (g_load sc_24 rfl (Cell.own (.there (.there (.there (.here)))) rfl)) rfl ?_
    refine st (g_T rfl rfl rfl (by decide)) rfl ?_
    refine done ?_
    refine th_n ?_
    refine condT rfl ?_
    refine seq ?_
    refine regionL ⟨[_], [], []⟩ mixed (by decide +kernel) (.cons (.there (.there (.there (.here)))) .nil) .nil ?_
    refine An'.q 0 [] rfl (by decide +kernel) rfl rfl (g_build rfl bu_73z) rfl ?_
    refine An'.q 1 [] rfl (by decide +kernel) rfl rfl (g_load sc_24 rfl (Cell.own .here rfl)) rfl ?_
    refine An'.oneG 2 (by decide +kernel) rfl rfl ?_
    refine o_storeA (cs' := [U64 0#64, .slice none 0 0]) sz_73 rfl rfl rfl (by simp [Value.oneCell']) (.there (.there (.there (.there (.there (.there (.here))))))) (Nat.le_of_ble_eq_true rfl) rfl ?_
    refine An'.on0 (.cons (.there (.there (.there (.there (.here))))) .nil) .nil rfl ?_
    refine An'.q 3 [] rfl (by decide +kernel) rfl rfl (g_assign rfl) rfl ?_
    refine An'.q 4 [] rfl (by decide +kernel) rfl rfl (g_assign rfl) rfl ?_
    refine An'.fin (by decide +kernel) ?_
    refine th_n ?_
    refine ret ?_
    refine th_r ?_
    refine ng_r ?_
    exact retM1 (vf := fun _ _ => .tuple #[.agg [U64 0#64, .slice none 0 0].toArray, I64 0, I64 1]) rfl (.there (.here)) (fun a w2 ha hw2 => ⟨resc3 ha rfl rfl rfl rfl ag_73 rfl (hw2.get .here), rfl, hw2.clear⟩)

theorem f42_nil (first : Int) (h0 : ¬ first < 0) (w : World) : Calls Tryd.prog 42 [.pointer none, I64 first].toArray w (fun en w2 => en = .returned (.tuple #[.pointer none, I64 1]) ∧ Sat w [] [] w2) := by
  refine enter (n := 46) Tryd.func42 rfl rfl rfl (Sat.refl w) ?_
  refine seq ?_
  refine region ?_
  refine st (g_assign rfl) rfl ?_
  refine st (g_assign rfl) rfl ?_
  refine done ?_
  refine th_n ?_
  refine seq ?_
  refine seq ?_
  refine region ?_
  refine st (g_move rfl) rfl ?_
  refine st (g_F rfl rfl rfl (h0)) rfl ?_
  refine done ?_
  refine th_n ?_
  refine condF rfl ?_
  refine skip ?_
  refine th_n ?_
  refine seq ?_
  refine region ?_
  refine st (g_move rfl) rfl ?_
  refine sq rfl (o_callP Tryd.func52 rfl rfl rfl (fun w hw => f52_nil w) rfl ?_)
  refine st (g_move rfl) rfl ?_
  refine st (g_extract rfl rfl) rfl ?_
  refine st (g_extract rfl rfl) rfl ?_
  refine st (g_extract rfl rfl) rfl ?_
  refine sq rfl (o_alloc (zs := [U64 0#64, .slice none 0 0]) zr_73 rfl (fun b6 => ?_))
  refine sq rfl (o_storeA (cs' := [U64 0#64, .slice none 0 0]) sz_73 rfl rfl rfl (by simp [Value.oneCell']) .here (Nat.le_of_ble_eq_true rfl) rfl ?_)
  refine st (g_assign rfl) rfl ?_
  refine st (g_assign rfl) rfl ?_
  refine done ?_
  refine th_n ?_
  refine seq ?_
  refine seq ?_
  refine region ?_
  refine st (g_move rfl) rfl ?_
  refine st (g_T rfl rfl rfl (by decide)) rfl ?_
  refine done ?_
  refine th_n ?_
  refine condT rfl ?_
  refine seq ?_
  refine region ?_
  refine st (g_move rfl) rfl ?_
  refine st (g_assign rfl) rfl ?_
  refine st (g_assign rfl) rfl ?_
  refine done ?_
  refine th_n ?_
  refine ret ?_
  refine th_r ?_
  exact ret2 rfl rfl rfl rfl (fun w2 hw2 => ⟨rfl, hw2.clear⟩)
end Go.Proofs.YtokhediaibdkjaaDoor

/-! From R8 -/
/- Law18's all, of other lengths; append that keeps what was ahead. (printed by gen1.py) -/
namespace Go.Proofs.YtokhediaibdkjaaDoor
open Go.Pm Go.RowKit
set_option maxRecDepth 100000
def allV (n : Nat) (v : UInt8) (i : Nat) : List UInt8 := List.replicate i v ++ List.replicate (n - i) 0
theorem allV_length {n : Nat} (v : UInt8) {i : Nat} (h : i ≤ n) : (allV n v i).length = n := by rw [allV, List.length_append, List.length_replicate, List.length_replicate]; omega
theorem allV_set {n : Nat} (v : UInt8) {i : Nat} (h : i < n) : (allV n v i).set i v = allV n v (i + 1) := by
  rw [allV, allV, List.set_append_right _ _ (by simp), List.length_replicate, Nat.sub_self, show n - i = (n - (i + 1)) + 1 by omega, List.replicate_succ (a := (0 : UInt8)), List.set_cons_zero, List.replicate_succ', List.append_assoc]
  rfl


theorem f50_23 (v : UInt8) (w : World) : Calls Tryd.prog 50 [B8 v, I64 23].toArray w (fun en w2 => ∃ g : Nat, True ∧ en = .returned (.slice (some ⟨g, 0, none⟩) 23 23) ∧ Sat w (fps []) [blk g 5 ((List.replicate 23 v).map B8)] w2) := by
  refine enter (n := 20) Tryd.func50 rfl rfl rfl (Sat.refl w) ?_
  refine seq ?_
  refine region ?_
  refine st (g_assign rfl) rfl ?_
  refine done ?_
  refine th_n ?_
  refine seq ?_
  refine region ?_
  refine st (g_move rfl) rfl ?_
  refine sq rfl (o_make (s := 1) (zv := B8 0) un_23 zr_5 sz_5 bt_5 (by decide) rfl rfl (by decide) (by decide) (by decide) rfl (fun b8 => ?_))
  refine st (g_assign rfl) rfl ?_
  refine done ?_
  refine th_n ?_
  refine seq ?_
  refine seq ?_
  refine region ?_
  refine st (g_move rfl) rfl ?_
  refine st (g_len el_23 rfl) rfl ?_
  refine st (g_move rfl) rfl ?_
  refine done ?_
  refine th_n ?_
  refine block ?_
  refine loop (α := Nat) (fun i => i ≤ 23) (fun i => [(0, B8 v), (5, .slice (some ⟨b8, 0, none⟩) 23 23), (10, I64 23), (11, I64 (i : Nat))]) (fun i => [blk b8 5 ((allV 23 v i).map B8)]) (fun i => 23 - i) 0 (Nat.zero_le _) ⟨rfl, rfl, rfl, rfl, trivial⟩ (.cons .here .nil) (fun i hI => ?_)
  refine seq ?_
  refine region ?_
  refine st (g_bin rfl rfl rfl) rfl ?_
  refine done ?_
  refine th_n ?_
  refine seq ?_
  refine condS rfl (fun h12 => ?_) (fun h12 => ?_)
  · try simp only [decide_eq_true_eq] at h12
    have hi : i < 23 := by omega
    have hal := allV_length v (n := 23) (i := i) (by omega)
    refine skip ?_
    refine th_n ?_
    refine seq ?_
    refine block ?_
    refine seq ?_
    refine region ?_
    refine st (g_move rfl) rfl ?_
    refine st (g_assign rfl) rfl ?_
    refine done ?_
    refine th_n ?_
    refine region ?_
    refine st (g_move rfl) rfl ?_
    refine st (g_move rfl) rfl ?_
    refine st (g_move rfl) rfl ?_
    refine st (g_indexS (m := i) el_23 rfl rfl (by omega) (by omega) (by omega)) rfl ?_
    refine sq rfl (o_store (cs' := (allV 23 v (i + 1)).map B8) sz_5 rfl rfl rfl .here (by simp only [List.length_map, hal]; omega) (by rw [← allV_set v hi, List.map_set]) ?_)
    refine done ?_
    refine ib_n ?_
    refine th_n ?_
    refine region ?_
    refine st (g_iadd rfl rfl rfl (by omega) (by omega)) rfl ?_
    refine st (g_move rfl) rfl ?_
    refine done ?_
    refine th_n ?_
    exact again (i + 1) (by omega) (by omega) ⟨rfl, rfl, rfl, rfl, trivial⟩ (.cons .here .nil)
  · try simp only [decide_eq_false_iff_not] at h12
    have hie : i = 23 := by omega
    subst hie
    refine exitc ?_
    refine th_x ?_
    refine th_x ?_
    refine ib_x ?_
    refine th_n ?_
    refine seq ?_
    refine region ?_
    refine st (g_move rfl) rfl ?_
    refine st (g_assign rfl) rfl ?_
    refine done ?_
    refine th_n ?_
    refine ret ?_
    exact ret1 rfl rfl rfl (fun w2 hw2 => ⟨b8, trivial, rfl, hw2⟩)

theorem f50_25 (v : UInt8) (w : World) : Calls Tryd.prog 50 [B8 v, I64 25].toArray w (fun en w2 => ∃ g : Nat, True ∧ en = .returned (.slice (some ⟨g, 0, none⟩) 25 25) ∧ Sat w (fps []) [blk g 5 ((List.replicate 25 v).map B8)] w2) := by
  refine enter (n := 20) Tryd.func50 rfl rfl rfl (Sat.refl w) ?_
  refine seq ?_
  refine region ?_
  refine st (g_assign rfl) rfl ?_
  refine done ?_
  refine th_n ?_
  refine seq ?_
  refine region ?_
  refine st (g_move rfl) rfl ?_
  refine sq rfl (o_make (s := 1) (zv := B8 0) un_23 zr_5 sz_5 bt_5 (by decide) rfl rfl (by decide) (by decide) (by decide) rfl (fun b8 => ?_))
  refine st (g_assign rfl) rfl ?_
  refine done ?_
  refine th_n ?_
  refine seq ?_
  refine seq ?_
  refine region ?_
  refine st (g_move rfl) rfl ?_
  refine st (g_len el_23 rfl) rfl ?_
  refine st (g_move rfl) rfl ?_
  refine done ?_
  refine th_n ?_
  refine block ?_
  refine loop (α := Nat) (fun i => i ≤ 25) (fun i => [(0, B8 v), (5, .slice (some ⟨b8, 0, none⟩) 25 25), (10, I64 25), (11, I64 (i : Nat))]) (fun i => [blk b8 5 ((allV 25 v i).map B8)]) (fun i => 25 - i) 0 (Nat.zero_le _) ⟨rfl, rfl, rfl, rfl, trivial⟩ (.cons .here .nil) (fun i hI => ?_)
  refine seq ?_
  refine region ?_
  refine st (g_bin rfl rfl rfl) rfl ?_
  refine done ?_
  refine th_n ?_
  refine seq ?_
  refine condS rfl (fun h12 => ?_) (fun h12 => ?_)
  · try simp only [decide_eq_true_eq] at h12
    have hi : i < 25 := by omega
    have hal := allV_length v (n := 25) (i := i) (by omega)
    refine skip ?_
    refine th_n ?_
    refine seq ?_
    refine block ?_
    refine seq ?_
    refine region ?_
    refine st (g_move rfl) rfl ?_
    refine st (g_assign rfl) rfl ?_
    refine done ?_
    refine th_n ?_
    refine region ?_
    refine st (g_move rfl) rfl ?_
    refine st (g_move rfl) rfl ?_
    refine st (g_move rfl) rfl ?_
    refine st (g_indexS (m := i) el_23 rfl rfl (by omega) (by omega) (by omega)) rfl ?_
    refine sq rfl (o_store (cs' := (allV 25 v (i + 1)).map B8) sz_5 rfl rfl rfl .here (by simp only [List.length_map, hal]; omega) (by rw [← allV_set v hi, List.map_set]) ?_)
    refine done ?_
    refine ib_n ?_
    refine th_n ?_
    refine region ?_
    refine st (g_iadd rfl rfl rfl (by omega) (by omega)) rfl ?_
    refine st (g_move rfl) rfl ?_
    refine done ?_
    refine th_n ?_
    exact again (i + 1) (by omega) (by omega) ⟨rfl, rfl, rfl, rfl, trivial⟩ (.cons .here .nil)
  · try simp only [decide_eq_false_iff_not] at h12
    have hie : i = 25 := by omega
    subst hie
    refine exitc ?_
    refine th_x ?_
    refine th_x ?_
    refine ib_x ?_
    refine th_n ?_
    refine seq ?_
    refine region ?_
    refine st (g_move rfl) rfl ?_
    refine st (g_assign rfl) rfl ?_
    refine done ?_
    refine th_n ?_
    refine ret ?_
    exact ret1 rfl rfl rfl (fun w2 hw2 => ⟨b8, trivial, rfl, hw2⟩)

theorem f50_64 (v : UInt8) (w : World) : Calls Tryd.prog 50 [B8 v, I64 64].toArray w (fun en w2 => ∃ g : Nat, True ∧ en = .returned (.slice (some ⟨g, 0, none⟩) 64 64) ∧ Sat w (fps []) [blk g 5 ((List.replicate 64 v).map B8)] w2) := by
  refine enter (n := 20) Tryd.func50 rfl rfl rfl (Sat.refl w) ?_
  refine seq ?_
  refine region ?_
  refine st (g_assign rfl) rfl ?_
  refine done ?_
  refine th_n ?_
  refine seq ?_
  refine region ?_
  refine st (g_move rfl) rfl ?_
  refine sq rfl (o_make (s := 1) (zv := B8 0) un_23 zr_5 sz_5 bt_5 (by decide) rfl rfl (by decide) (by decide) (by decide) rfl (fun b8 => ?_))
  refine st (g_assign rfl) rfl ?_
  refine done ?_
  refine th_n ?_
  refine seq ?_
  refine seq ?_
  refine region ?_
  refine st (g_move rfl) rfl ?_
  refine st (g_len el_23 rfl) rfl ?_
  refine st (g_move rfl) rfl ?_
  refine done ?_
  refine th_n ?_
  refine block ?_
  refine loop (α := Nat) (fun i => i ≤ 64) (fun i => [(0, B8 v), (5, .slice (some ⟨b8, 0, none⟩) 64 64), (10, I64 64), (11, I64 (i : Nat))]) (fun i => [blk b8 5 ((allV 64 v i).map B8)]) (fun i => 64 - i) 0 (Nat.zero_le _) ⟨rfl, rfl, rfl, rfl, trivial⟩ (.cons .here .nil) (fun i hI => ?_)
  refine seq ?_
  refine region ?_
  refine st (g_bin rfl rfl rfl) rfl ?_
  refine done ?_
  refine th_n ?_
  refine seq ?_
  refine condS rfl (fun h12 => ?_) (fun h12 => ?_)
  · try simp only [decide_eq_true_eq] at h12
    have hi : i < 64 := by omega
    have hal := allV_length v (n := 64) (i := i) (by omega)
    refine skip ?_
    refine th_n ?_
    refine seq ?_
    refine block ?_
    refine seq ?_
    refine region ?_
    refine st (g_move rfl) rfl ?_
    refine st (g_assign rfl) rfl ?_
    refine done ?_
    refine th_n ?_
    refine region ?_
    refine st (g_move rfl) rfl ?_
    refine st (g_move rfl) rfl ?_
    refine st (g_move rfl) rfl ?_
    refine st (g_indexS (m := i) el_23 rfl rfl (by omega) (by omega) (by omega)) rfl ?_
    refine sq rfl (o_store (cs' := (allV 64 v (i + 1)).map B8) sz_5 rfl rfl rfl .here (by simp only [List.length_map, hal]; omega) (by rw [← allV_set v hi, List.map_set]) ?_)
    refine done ?_
    refine ib_n ?_
    refine th_n ?_
    refine region ?_
    refine st (g_iadd rfl rfl rfl (by omega) (by omega)) rfl ?_
    refine st (g_move rfl) rfl ?_
    refine done ?_
    refine th_n ?_
    exact again (i + 1) (by omega) (by omega) ⟨rfl, rfl, rfl, rfl, trivial⟩ (.cons .here .nil)
  · try simp only [decide_eq_false_iff_not] at h12
    have hie : i = 64 := by omega
    subst hie
    refine exitc ?_
    refine th_x ?_
    refine th_x ?_
    refine ib_x ?_
    refine th_n ?_
    refine seq ?_
    refine region ?_
    refine st (g_move rfl) rfl ?_
    refine st (g_assign rfl) rfl ?_
    refine done ?_
    refine th_n ?_
    refine ret ?_
    exact ret1 rfl rfl rfl (fun w2 hw2 => ⟨b8, trivial, rfl, hw2⟩)

/-- append onto a slice that is there: where it fits, in place; else to new memory, and what was ahead stays. -/
theorem o_appendK {cx : Cx} {e : Env} {Rs : List Res} {r : Option Nat} {P : Program} {Q : Exit → Act → World → Prop} {K : Act → World → Prop} {d : Nat} {t : TypeId} {ps : String} {af : Array Edge} {gd : Option (Nat × Bool)}
    {T E s by_ : Nat} {x y : Operand} {g0 : Nat} {n m c cap : Nat} {ad : Addr} {xs news zs : List Value} {B : List Res} (hu : P.underlying T = some (.slice E)) (hz : zeroCs P E = some zs) (hsz : szT P E = some s) (hzl : zs.length = s) (hby : (P.info? E).map (·.bytes) = some by_) (hs : 0 < s)
    (hx : ev e x = some (.slice (some ⟨g0, 0, none⟩) n cap)) (hy : ev e y = some (.slice (some ad) m c)) (hk : Pick (vec (.slice (some ⟨g0, 0, none⟩) n cap) E s n xs) Rs B) (hl : news.length = m * s) (hr : RdA cx Rs (some ad) news) (h1 : ∀ u ∈ news, u.oneCell' = true)
    (h63 : n + m ≤ maxLen) (hbytes : (n + m) * by_ ≤ 140737488355328) (hd : Nat.blt d cx.n = true)
    (hfit : n + m ≤ cap → At cx ((d, .slice (some ⟨g0, 0, none⟩) (n + m) cap) :: e) (vec (.slice (some ⟨g0, 0, none⟩) (n + m) cap) E s (n + m) (xs ++ news) :: B) K)
    (hnew : ∀ g1 cap1, n + m ≤ cap1 → At cx ((d, .slice (some ⟨g1, 0, none⟩) (n + m) cap1) :: e) (vec (.slice (some ⟨g1, 0, none⟩) (n + m) cap1) E s (n + m) (xs ++ news) :: vec (.slice (some ⟨g0, 0, none⟩) n cap) E s n xs :: B) K) :
    OpAt cx e Rs r P Q ⟨some d, .call { callee := .builtin .append, args := #[x, y], argTypes := #[T, T] }, t, ps, af, gd⟩ K :=
  OpAt.of_run nofun fun a w ha hw => by
    obtain ⟨i, z, hi, hz0, hzc⟩ := zeroCs_spec hz
    have his : i.size = s := by simpa [szT, hi] using hsz
    have hib : i.bytes = by_ := by simpa [hi] using hby
    have hw' := hw.pick hk
    have hown : w.ownsRow 0 E s (.slice (some ⟨g0, 0, none⟩) n cap) n xs := hw'.holds (vec (.slice (some ⟨g0, 0, none⟩) n cap) E s n xs) (by simp)
    have hzs : z.cells.size = s := by have := congrArg List.length hzc; simp at this; omega
    have hnews : ∀ j u, news[j]? = some u → w.cell? (ad.add j) = some u := fun j u hj => by
      obtain ⟨b, o, he, hc⟩ := hr w hw j u hj
      simp only [Option.some.injEq] at he
      subst he
      rw [add_at]; exact hc
    by_cases hroom : n + m ≤ cap
    · obtain ⟨w', h1', h2', h3'⟩ := run_append_fits (P := P) w 0 T t E i s hu hi his g0 n cap xs hown ad m c news hl hnews h1 hroom
      have hrun : (execOp a.eval ⟨some d, .call { callee := .builtin .append, args := #[x, y], argTypes := #[T, T] }, t, ps, af, gd⟩).run P w = .ok (.value (.slice (some ⟨g0, 0, none⟩) (n + m) cap)) w' := by
        rw [BigFrame.execOp_builtin, BigFrame.builtin_append]
        simp [ha.eval hx, ha.eval hy, h1']
      show Oper.uponIn (FR r) 0 P _ a K Q _
      rw [hrun, Oper.uponIn_value]
      exact hfit hroom _ _ (ha.put hd _) (hw'.grown h3' h2' (.inl rfl))
    · obtain ⟨v', w', h1', h2', h3'⟩ := run_append_arg_grows (P := P) w T t E i z s by_ hu hi hz0 his hib hzs hs ⟨g0, 0, none⟩ n cap xs hown.1 (hown.cells (by rfl)) ad m c news hl hnews (by omega) h63 hbytes
      have hrun : (execOp a.eval ⟨some d, .call { callee := .builtin .append, args := #[x, y], argTypes := #[T, T] }, t, ps, af, gd⟩).run P w = .ok (.value v') w' := by
        rw [BigFrame.execOp_builtin, BigFrame.builtin_append]
        simp [ha.eval hx, ha.eval hy, h1']
      show Oper.uponIn (FR r) 0 P _ a K Q _
      rw [hrun, Oper.uponIn_value]
      have hup : w'.ownsRow 0 E s v' (n + m) (xs ++ news) := ⟨h2'.1, by
        rcases h2'.2 with hq | ⟨g, cp, cur, e1, _, e3⟩
        · exact .inl hq
        · exact .inr ⟨g, cp, cur, e1, Nat.zero_le _, e3⟩⟩
      rcases h2'.2 with ⟨_, hzr⟩ | ⟨g, cp, cur, e1, eg, _, e3, _⟩
      · exfalso
        have hc0 : n ≤ cap := by
          rcases hown.2 with ⟨he, _⟩ | ⟨_, _, _, he, _, _, h3, _⟩
          · cases he
          · simp only [Value.slice.injEq, true_and] at he; omega
        omega
      · subst e1
        -- the old row stays; the new one lies behind all that was there
        have hS : Sat cx.w0 cx.S0 (vec (.slice (some ⟨g, 0, none⟩) (n + m) cp) E s (n + m) (xs ++ news) :: vec (.slice (some ⟨g0, 0, none⟩) n cap) E s n xs :: B) w' := by
          have h0 : Sat cx.w0 cx.S0 (vec (.slice none 0 0) E s 0 [] :: vec (.slice (some ⟨g0, 0, none⟩) n cap) E s n xs :: B) w := new0_vec hw' ⟨by simp, .inl ⟨rfl, rfl⟩⟩
          exact h0.grown h3' hup (.inr (fun k hk => by simp [Value.ownBlock] at hk; omega))
        exact hnew g cp e3 _ _ (ha.put hd _) hS
section
variable {P : Program} {cx : Cx} {e : Env} {Rs : List Res} {d : Option Tmp} {t : TypeId} {ps : String} {af : Array Edge} {gd : Option (Nat × Bool)} {T T2 : TypeId} {x y : Operand}
theorem g_xor8 {a b : UInt8} (hx : ev e x = some (B8 a)) (hy : ev e y = some (B8 b)) : Gives P cx e Rs ⟨d, .binOp .xor T x y T2, t, ps, af, gd⟩ (B8 (a ^^^ b)) := by
  have ea : BitVec.ofInt 8 (a.toNat : Int) = a.toBitVec := bv_of a.toBitVec
  have eb : BitVec.ofInt 8 (b.toNat : Int) = b.toBitVec := bv_of b.toBitVec
  refine g_bin hx hy ?_
  show some (Value.int .u8 (IntKind.u8.wrap ((BitVec.ofInt 8 (a.toNat : Int) ^^^ BitVec.ofInt 8 (b.toNat : Int)).toNat : Int))) = _
  rw [ea, eb, wrap_u8]
  have hlt := (a ^^^ b).toNat_lt
  have e2 : (a.toBitVec ^^^ b.toBitVec).toNat = (a ^^^ b).toNat := rfl
  rw [e2]
  exact congrArg (fun z : Int => some (Value.int .u8 z)) (by omega)
end
theorem RdA.pre {cx : Cx} {Rs : List Res} {p : Option Addr} {xs ys : List Value} (h : RdA cx Rs p (xs ++ ys)) : RdA cx Rs p xs := fun w hw j u hj =>
  h w hw j u (by rw [List.getElem?_append_left (List.getElem?_eq_some_iff.1 hj).1]; exact hj)

end Go.Proofs.YtokhediaibdkjaaDoor

/-! From P9 -/
/- Plain facts: the examples of SlotNames. -/
namespace Go.Proofs.YtokhediaibdkjaaDoor
open Go.Pm Go.RowKit
set_option maxRecDepth 100000

theorem save_yes {k : Dk} {m : Nat} {d d' : List UInt8} (h : Gd k m d) (hd : k.down = false) (hm : m + 1 < 18446744073709551616) (h24 : d'.length = 24) (hr : 0 < k.room) (hs : k.steps = 0) :
    ∃ k', k.save d' = (⟨NB (m + 1), d', 0, 0, 0⟩, k') ∧ Gd k' (m + 1) d' ∧ k'.down = false ∧ k'.steps = 0 ∧ k'.room = k.room - 1 :=
  ⟨_, save_A h hd hm h24 hr (.inl hs), ⟨inv_set h.inv h24, rfl⟩, rfl, by show k.steps - 2 = 0; omega, rfl⟩
theorem save_len {k : Dk} {l : List UInt8} (hw : k.load.w = 0) (h : l.length ≠ 24) : k.save l = (Ld.err 180, k) := by
  unfold Dk.save; rw [if_neg (by simpa using hw), if_pos (.inl h)]
theorem save_max {k : Dk} {l : List UInt8} (hw : k.load.w = 0) (h : k.load.n = 18446744073709551615#64) : k.save l = (Ld.err 180, k) := by
  unfold Dk.save; rw [if_neg (by simpa using hw), if_pos (.inr h)]
theorem save_err {k : Dk} {l : List UInt8} (hw : k.load.w ≠ 0) : k.save l = (Ld.err k.load.w, k) := by
  unfold Dk.save; rw [if_pos hw]
theorem dkn_ok (n m : Nat) (h1 : 1 ≤ n) (h2 : n ≤ 64) (hm : m ≤ 10000) : (newDk n m).ok := by
  refine ⟨?_, ?_, ?_, ?_, ?_, by show 0 < 9223372036854775808; decide, by show 0 ≤ 70368744177664; decide⟩
  · intro x hx
    have : x = zero64 := (List.mem_replicate.1 hx).2
    rw [this]; rfl
  · show 1 ≤ (List.replicate n zero64).length; simpa using h1
  · show (List.replicate n zero64).length ≤ 64; simpa using h2
  · intro x hx; simp [newDk] at hx
  · simpa [newDk] using hm
/-- The disk, save by save. -/
theorem names_steps : ∃ k1 k2 k3 : Dk, aDk.save (List.replicate 24 7) = (⟨NB 1, List.replicate 24 7, 0, 0, 0⟩, k1) ∧ k1.save (List.replicate 24 8) = (⟨NB 2, List.replicate 24 8, 0, 0, 0⟩, k2) ∧
    k2.save (List.replicate 24 9) = (⟨NB 3, List.replicate 24 9, 0, 0, 0⟩, k3) ∧ Gd k3 3 (List.replicate 24 9) ∧ k3.down = false ∧ k1.ok ∧ k2.ok ∧ k3.ok ∧ 0 < k3.room ∧ k3.steps = 0 := by
  obtain ⟨k1, e1, g1, d1, s1, r1⟩ := save_yes (d' := List.replicate 24 7) (gd_new 100) rfl (by decide) (by decide) (by show 0 < 100; decide) rfl
  obtain ⟨k2, e2, g2, d2, s2, r2⟩ := save_yes (d' := List.replicate 24 8) g1 d1 (by decide) (by decide) (by rw [r1]; show 0 < 100 - 1; decide) s1
  obtain ⟨k3, e3, g3, d3, s3, r3⟩ := save_yes (d' := List.replicate 24 9) g2 d2 (by decide) (by decide) (by rw [r2, r1]; show 0 < 100 - 1 - 1; decide) s2
  have o1 := Dk.save_ok (dk2_ok 100 (by decide)) (List.replicate 24 7)
  rw [e1] at o1
  have o2 := Dk.save_ok (k := k1) o1 (List.replicate 24 8)
  rw [e2] at o2
  have o3 := Dk.save_ok (k := k2) o2 (List.replicate 24 9)
  rw [e3] at o3
  exact ⟨k1, k2, k3, e1, e2, e3, g3, d3, o1, o2, o3, by rw [r3, r2, r1]; show 0 < 100 - 1 - 1 - 1; decide, s3⟩
/-- A sector with the greatest number, in the first place, ahead of all. -/
def bigE : List UInt8 := encW 18446744073709551615#64 (List.replicate 24 1)
theorem bigE_length : bigE.length = 64 := encW_length _ (by decide)
theorem write_big {k : Dk} {m : Nat} {d : List UInt8} (h : Gd k m d) (hd : k.down = false) (hr : 0 < k.room) (hs : k.steps = 0) : ∃ k', k.write 0 bigE = (0, k') ∧ k'.load.w = 0 ∧ k'.load.n = 18446744073709551615#64 := by
  have hl := (inv_next h.inv).1
  have e0 : (k.put 0 bigE).step = (false, k.put 0 bigE) := by rw [Dk.step, if_pos (by exact hs)]
  refine ⟨k.put 0 bigE, ?_, ?_⟩
  · rw [Dk.write, if_neg (by rw [hd]; decide), if_neg (by rw [hl, bigE_length]; omega), if_pos hr]
    show ((if (k.put 0 bigE).step.1 then 171 else 0), (k.put 0 bigE).step.2) = _
    rw [e0]; rfl
  · have hw : (k.put 0 bigE).waits = [(0, bigE)] := by show k.waits ++ [(0, bigE)] = _; rw [h.wt]; rfl
    have hdn : (k.put 0 bigE).down = false := hd
    have hst : (k.put 0 bigE).stays = k.stays := rfl
    have r0 : (k.put 0 bigE).rd 0 = (0, bigE) := by
      rw [Dk.rd, if_neg (by rw [hdn]; decide), if_pos (by rw [hst, hl]; decide), Dk.look, hw]; rfl
    have r1 : ∃ s1, (k.put 0 bigE).rd 1 = (0, s1) := by
      rw [Dk.rd, if_neg (by rw [hdn]; decide), if_pos (by rw [hst, hl]; decide)]; exact ⟨_, rfl⟩
    obtain ⟨s1, r1⟩ := r1
    have hg : (k.put 0 bigE).go 0 = true := by rw [Dk.go, r0]; rfl
    have hld : (k.put 0 bigE).ld = (k.put 0 bigE).ldStep 1 ((k.put 0 bigE).ldStep 0 Ld.z) := by rw [Dk.ld, if_pos hg]; rfl
    have hw0 : (k.put 0 bigE).ld.w = 0 := by rw [hld, ldStep_w, r1]
    have d0 : decW bigE = some (18446744073709551615#64, List.replicate 24 1) := decW_enc (by decide) (by decide)
    have s0 := step_new (s := Ld.z) r0 d0 (by decide)
    have hle : ∀ n : BitVec 64, n ≤ 18446744073709551615#64 := fun n => by
      rw [BitVec.le_def]; have := n.isLt; show n.toNat ≤ 18446744073709551615; omega
    have hfin : ((k.put 0 bigE).ldStep 1 ((k.put 0 bigE).ldStep 0 Ld.z)).n = 18446744073709551615#64 := by
      cases hc : decW s1 with
      | none => rw [step_none r1 hc, s0]
      | some x => obtain ⟨n, y⟩ := x; rw [step_low r1 hc (by rw [s0]; exact hle n), s0]
    rw [Dk.load, if_pos hw0]
    exact ⟨hw0, by rw [hld]; exact hfin⟩
/-- One sector alone. -/
theorem one_load : (newDk 1 100).load.w = 170 ∧ (newDk 1 100).load.n = 0#64 ∧ (newDk 1 100).load.d = [] ∧ (newDk 1 100).load.nx = 0 := by decide +kernel
/-- No room. -/
theorem full_save : ∃ k', (newDk 2 0).save (List.replicate 24 1) = (Ld.err 172, k') :=
  ⟨_, save_D (gd_new 0) rfl (by decide) (by decide) rfl (by show (0 : Nat) ≠ 1; decide)⟩
/-- The sector of the example, and one bit of it turned. -/
def exE : List UInt8 := encW 258#64 (List.replicate 24 5)
theorem exE_length : exE.length = 64 := encW_length _ (by decide)
def flipE (i : Nat) : List UInt8 := exE.set i ((exE.getD i 0) ^^^ 1)
theorem flipE_length (i : Nat) : (flipE i).length = 64 := by rw [flipE, List.length_set, exE_length]
theorem flip_0 : ∀ i, i < 8 → (decR (flipE (0 + i))).2.2 = 180 := by decide +kernel
theorem flip_1 : ∀ i, i < 8 → (decR (flipE (8 + i))).2.2 = 180 := by decide +kernel
theorem flip_2 : ∀ i, i < 8 → (decR (flipE (16 + i))).2.2 = 180 := by decide +kernel
theorem flip_3 : ∀ i, i < 8 → (decR (flipE (24 + i))).2.2 = 180 := by decide +kernel
theorem flip_4 : ∀ i, i < 8 → (decR (flipE (32 + i))).2.2 = 180 := by decide +kernel
theorem flip_5 : ∀ i, i < 8 → (decR (flipE (40 + i))).2.2 = 180 := by decide +kernel
theorem flip_6 : ∀ i, i < 8 → (decR (flipE (48 + i))).2.2 = 180 := by decide +kernel
theorem flip_7 : ∀ i, i < 8 → (decR (flipE (56 + i))).2.2 = 180 := by decide +kernel
theorem flip_all (i : Nat) (hi : i < 64) : (decR (flipE i)).2.2 = 180 := by
  rcases Nat.lt_or_ge i 8 with h1 | h1
  · have := flip_0 i h1; rwa [Nat.zero_add] at this
  rcases Nat.lt_or_ge i 16 with h2 | h2
  · have := flip_1 (i - 8) (by omega); rwa [show 8 + (i - 8) = i by omega] at this
  rcases Nat.lt_or_ge i 24 with h3 | h3
  · have := flip_2 (i - 16) (by omega); rwa [show 16 + (i - 16) = i by omega] at this
  rcases Nat.lt_or_ge i 32 with h4 | h4
  · have := flip_3 (i - 24) (by omega); rwa [show 24 + (i - 24) = i by omega] at this
  rcases Nat.lt_or_ge i 40 with h5 | h5
  · have := flip_4 (i - 32) (by omega); rwa [show 32 + (i - 32) = i by omega] at this
  rcases Nat.lt_or_ge i 48 with h6 | h6
  · have := flip_5 (i - 40) (by omega); rwa [show 40 + (i - 40) = i by omega] at this
  rcases Nat.lt_or_ge i 56 with h7 | h7
  · have := flip_6 (i - 48) (by omega); rwa [show 48 + (i - 48) = i by omega] at this
  have := flip_7 (i - 56) (by omega)
  rwa [show 56 + (i - 56) = i by omega] at this
theorem zero_dec : (decR (List.replicate 64 0)).2.2 = 180 ∧ (decR (List.replicate 64 0)).1 = 0#64 ∧ (decR (List.replicate 64 0)).2.1 = [] := by decide +kernel
theorem more_dec : decW (exE ++ [0]) = none := decW_none (fun h => absurd h.1 (by rw [List.length_append, exE_length]; decide))
theorem exE_head : exE.take 12 = [80, 77, 1, 0, 0, 0, 0, 0, 0, 0, 1, 2] := by decide +kernel
theorem exE_tail : exE.drop 52 = [0, 0, 0, 0, 0, 0, 1, 2, 0, 0, 0, 0] := by decide +kernel
theorem exE_dec : decW exE = some (258#64, List.replicate 24 5) := decW_enc (by decide) (by decide)

end Go.Proofs.YtokhediaibdkjaaDoor

/-! From L11 -/
/- The walk of SlotNames. (printed by gen1.py) -/
namespace Go.Proofs.YtokhediaibdkjaaDoor
open Go.Pm Go.RowKit
set_option maxRecDepth 100000
theorem bu_73b (v : Value) (h : v.oneCell' = true) : Tryd.prog.built 73 [(1, v)] = some [U64 0#64, v].toArray := by
  have h1 : Tryd.prog.built 73 [(1, v)] = Instr.fill (fun i => ([(0, 1), (1, 1)] : List (Nat × Nat)).toArray[i]?) #[.int .u64 0, .slice none 0 0] [(1, v)] := by kernel_rfl
  rw [h1, fill_cons1 (off := 1) rfl h (by simp)]; rfl
theorem vec_head {w : World} {T s n : Nat} {y : Option Addr × Nat} {xs : List Value} (h : w.ownsRow 0 T s (slv n y) n xs) (hn : 0 < n) : ∃ g, y.1 = some ⟨g, 0, none⟩ := by
  rcases h.2 with ⟨_, h0⟩ | ⟨g, cap, cur, he, _⟩
  · omega
  · simp only [slv, Value.slice.injEq] at he; exact ⟨g, he.1⟩
theorem ex_get {i : Nat} (hi : i < 64) (rx : List Value) : (exE.map B8 ++ rx)[i]? = some (B8 (exE.getD i 0)) := by
  have hl := exE_length
  rw [List.getElem?_append_left (by rw [List.length_map]; omega), List.getElem?_map, getD_get (d := (0 : UInt8)) (by omega)]
  rfl
theorem ex_flip {i : Nat} (hi : i < 64) (rx : List Value) : (exE.map B8 ++ rx).set i (B8 (exE.getD i 0 ^^^ 1)) = (flipE i).map B8 ++ rx := by
  have hl := exE_length
  rw [List.set_append_left _ _ (by rw [List.length_map]; omega), flipE, List.map_set]
theorem f52_aw (b : Nat) (k : Dk) (r : Rp) {m : BitVec 64} {d : List UInt8} {nx ww : Int} (e1 : k.load.n = m) (e2 : k.load.d = d) (e3 : k.load.nx = nx) (e4 : k.load.w = ww) (w : World) (hA : Sat w (fps (dkR b k r)) (dkR b k r) w) (hG : Gl w (fps (dkR b k r))) (hk : k.ok) (hro : r.ok k) :
    Calls Tryd.prog 52 [.pointer (some ⟨b, 0, none⟩)].toArray w (fun en w2 => ∃ y : Option Addr × Nat, ((y.1 = none → y.2 = 0) ∧ d.length ≤ y.2) ∧ en = .returned (.tuple #[.agg [U64 m, slv d.length y].toArray, I64 nx, I64 ww]) ∧ Sat w (fps (dkR b k r)) (vec (slv d.length y) 5 1 d.length (d.map B8) :: dkR b k r) w2) := by
  have h := f52_spec b k hk r hro w hA hG
  unfold ldOk ldv ldR at h
  rw [e1, e2, e3, e4] at h
  exact h
theorem f53_as (b : Nat) (k : Dk) (hk : k.ok) (r : Rp) (hro : r.ok k) (a : Int) (p : Option Addr) (n c : Nat) (bs : List UInt8) (hl : bs.length = n) {e : Int} {k' : Dk} (he : k.write a bs = (e, k')) (w : World) (hA : Sat w (fps (dkR b k r)) (dkR b k r) w) (hr : RdS w (fps (dkR b k r)) p (bs.map B8)) :
    Calls Tryd.prog 53 [.pointer (some ⟨b, 0, none⟩), I64 a, .slice p n c].toArray w (fun en w2 => ∃ r2 : Rp, r2.ok k' ∧ en = .returned (I64 e) ∧ Sat w (fps (dkR b k r)) (dkR b k' r2) w2) := by
  have h := f53_spec b k hk r hro a p n c bs hl w hA hr
  rw [he] at h
  exact h
theorem one_save : (newDk 1 100).save (List.replicate 24 1) = (Ld.err 170, newDk 1 100) := by
  rw [save_err (by rw [one_load.1]; decide), one_load.1]
theorem big_good (t : Option Addr) (c : Nat) (h : t = none → c = 0) (hc : 24 ≤ c) (w : World) (hr : RdC w t ((List.replicate 24 1).map B8)) (hG : Gl w []) :
    Calls Tryd.prog 45 [.agg [U64 18446744073709551615#64, .slice t 24 c].toArray].toArray w (fun en w2 => ∃ x : Option Addr × Nat, ((x.1 = none → x.2 = 0) ∧ 64 ≤ x.2) ∧ en = .returned (.tuple #[slv 64 x, I64 0]) ∧ Sat w (fps []) [vec (slv 64 x) 5 1 64 (bigE.map B8)] w2) :=
  f45_good 18446744073709551615#64 t 24 c (List.replicate 24 1) rfl h hc (by decide) rfl w hr hG
theorem ex_good (t : Option Addr) (c : Nat) (h : t = none → c = 0) (hc : 24 ≤ c) (w : World) (hr : RdC w t ((List.replicate 24 5).map B8)) (hG : Gl w []) :
    Calls Tryd.prog 45 [.agg [U64 258#64, .slice t 24 c].toArray].toArray w (fun en w2 => ∃ x : Option Addr × Nat, ((x.1 = none → x.2 = 0) ∧ 64 ≤ x.2) ∧ en = .returned (.tuple #[slv 64 x, I64 0]) ∧ Sat w (fps []) [vec (slv 64 x) 5 1 64 (exE.map B8)] w2) :=
  f45_good 258#64 t 24 c (List.replicate 24 5) rfl h hc (by decide) rfl w hr hG
theorem z_dec : decW (List.replicate 64 0) = none := decW_none (fun hh => hh.2.1 (by decide +kernel))


theorem f11_spec (w : World) (hG : Gl w []) : Calls Tryd.prog 11 [].toArray w (fun en w2 => en = .returned (.bool true) ∧ Sat w [] [] w2) := by
  obtain ⟨k1, k2, k3, e1, e2, e3, g3, d3, o1, o2, o3, rm3, st3⟩ := names_steps
  obtain ⟨l4n, l4d, l4x, l4w⟩ := inv_load d3 g3.wt g3.inv (by decide)
  obtain ⟨kf, ef⟩ := full_save
  obtain ⟨k4, e4, l5w, l5n⟩ := write_big g3 d3 rm3 st3
  have o4 := Dk.write_ok o3 0 bigE
  rw [e4] at o4
  refine enter (n := 277) Tryd.func11 rfl rfl rfl (Sat.refl w) ?_
  refine seq ?_
  refine region ?_
  refine st (g_assign rfl) rfl ?_
  refine done ?_
  refine th_n ?_
  refine seq ?_
  refine region ?_
  refine sq rfl (o_call Tryd.func28 rfl rfl rfl .nil (fun w hw hA => f28_spec 2 100 (by decide) (by decide) (by decide) w) rfl (fun ⟨b, r0⟩ hro0 => ?_))
  refine st (g_move rfl) rfl ?_
  refine st (g_extract rfl rfl) rfl ?_
  refine st (g_extract rfl rfl) rfl ?_
  refine st (g_assign rfl) rfl ?_
  refine st (g_assign rfl) rfl ?_
  refine done ?_
  refine th_n ?_
  refine seq ?_
  refine region ?_
  refine st (g_move rfl) rfl ?_
  refine sq rfl (o_call Tryd.func50 rfl rfl rfl .nil (fun w hw hA => f50_spec 7 w) rfl (fun g7 _ => ?_))
  refine sq rfl (o_call Tryd.func39 rfl rfl rfl (.cons (.there (.here)) (.cons (.there (.here)) (.cons (.there (.here)) (.cons (.there (.here)) .nil)))) (fun w hw hA => f39_as b aDk r0 (some ⟨g7, 0, none⟩) 24 24 (List.replicate 24 7) rfl nofun (Nat.le_refl _) e1 w (by assumption) (Gl.ofOld (A := dkR b aDk r0) hG hw (.cons (.there (.here)) (.cons (.there (.here)) (.cons (.there (.here)) (.cons (.there (.here)) .nil))))) (RdS.ofOwn hw (.cons (.there (.here)) (.cons (.there (.here)) (.cons (.there (.here)) (.cons (.there (.here)) .nil)))) .here (RdC.ofBlk hw .here List.take_length) (fun b o h => by cases h; exact List.mem_singleton.2 rfl)) aOk hro0) rfl (fun ⟨y1, r1⟩ hx1 => ?_))
  refine done ?_
  refine th_n ?_
  refine seq ?_
  refine region ?_
  refine st (g_move rfl) rfl ?_
  refine sq rfl (o_call Tryd.func50 rfl rfl rfl .nil (fun w hw hA => f50_spec 8 w) rfl (fun g8 _ => ?_))
  refine sq rfl (o_call Tryd.func39 rfl rfl rfl (.cons (.there (.there (.here))) (.cons (.there (.there (.here))) (.cons (.there (.there (.here))) (.cons (.there (.there (.here))) .nil)))) (fun w hw hA => f39_as b k1 r1 (some ⟨g8, 0, none⟩) 24 24 (List.replicate 24 8) rfl nofun (Nat.le_refl _) e2 w (by assumption) (Gl.ofOld (A := dkR b k1 r1) hG hw (.cons (.there (.there (.here))) (.cons (.there (.there (.here))) (.cons (.there (.there (.here))) (.cons (.there (.there (.here))) .nil))))) (RdS.ofOwn hw (.cons (.there (.there (.here))) (.cons (.there (.there (.here))) (.cons (.there (.there (.here))) (.cons (.there (.there (.here))) .nil)))) .here (RdC.ofBlk hw .here List.take_length) (fun b o h => by cases h; exact List.mem_singleton.2 rfl)) o1 hx1.2) rfl (fun ⟨y2, r2⟩ hx2 => ?_))
  refine st (g_move rfl) rfl ?_
  refine st (g_extract rfl rfl) rfl ?_
  refine st (g_extract rfl rfl) rfl ?_
  refine sq rfl (o_alloc (zs := [U64 0#64, .slice none 0 0]) zr_73 rfl (fun b3 => ?_))
  refine sq rfl (o_storeA (cs' := [U64 (NB 2), slv 24 y2]) sz_73 rfl rfl rfl (by simp [ldv]; exact ⟨rfl, rfl⟩) .here (Nat.le_of_ble_eq_true rfl) rfl ?_)
  refine st (g_assign rfl) rfl ?_
  refine done ?_
  refine th_n ?_
  refine seq ?_
  refine region ?_
  refine st (g_move rfl) rfl ?_
  refine sq rfl (o_call Tryd.func50 rfl rfl rfl .nil (fun w hw hA => f50_spec 9 w) rfl (fun g9 _ => ?_))
  refine sq rfl (o_call Tryd.func39 rfl rfl rfl (.cons (.there (.there (.there (.here)))) (.cons (.there (.there (.there (.here)))) (.cons (.there (.there (.there (.here)))) (.cons (.there (.there (.there (.here)))) .nil)))) (fun w hw hA => f39_as b k2 r2 (some ⟨g9, 0, none⟩) 24 24 (List.replicate 24 9) rfl nofun (Nat.le_refl _) e3 w (by assumption) (Gl.ofOld (A := dkR b k2 r2) hG hw (.cons (.there (.there (.there (.here)))) (.cons (.there (.there (.there (.here)))) (.cons (.there (.there (.there (.here)))) (.cons (.there (.there (.there (.here)))) .nil))))) (RdS.ofOwn hw (.cons (.there (.there (.there (.here)))) (.cons (.there (.there (.there (.here)))) (.cons (.there (.there (.there (.here)))) (.cons (.there (.there (.there (.here)))) .nil)))) .here (RdC.ofBlk hw .here List.take_length) (fun b o h => by cases h; exact List.mem_singleton.2 rfl)) o2 hx2.2) rfl (fun ⟨y3, r3⟩ hx3 => ?_))
  refine st (g_move rfl) rfl ?_
  refine st (g_extract rfl rfl) rfl ?_
  refine st (g_extract rfl rfl) rfl ?_
  refine sq rfl (o_alloc (zs := [U64 0#64, .slice none 0 0]) zr_73 rfl (fun b5 => ?_))
  refine sq rfl (o_storeA (cs' := [U64 (NB 3), slv 24 y3]) sz_73 rfl rfl rfl (by simp [ldv]; exact ⟨rfl, rfl⟩) .here (Nat.le_of_ble_eq_true rfl) rfl ?_)
  refine st (g_assign rfl) rfl ?_
  refine done ?_
  refine th_n ?_
  refine seq ?_
  refine region ?_
  refine st (g_move rfl) rfl ?_
  refine sq rfl (o_call Tryd.func51 rfl rfl rfl (.cons (.there (.there (.here))) (.cons (.there (.there (.here))) (.cons (.there (.there (.here))) (.cons (.there (.there (.here))) .nil)))) (fun w hw hA => f51_tt b k3 o3 r3 hx3.2 3#64 1 l4w l4n l4x (by rw [l4d]; decide) w (by assumption) (Gl.ofOld (A := dkR b k3 r3) hG hw (.cons (.there (.there (.here))) (.cons (.there (.there (.here))) (.cons (.there (.there (.here))) (.cons (.there (.there (.here))) .nil)))))) rfl (fun _ _ => ?_))
  refine st (g_assign rfl) rfl ?_
  refine done ?_
  refine th_n ?_
  refine seq ?_
  refine region ?_
  refine st (g_move rfl) rfl ?_
  refine sq rfl (o_call Tryd.func50 rfl rfl rfl .nil (fun w hw hA => f50_23 1 w) rfl (fun gb _ => ?_))
  refine sq rfl (o_call Tryd.func39 rfl rfl rfl (.cons (.there (.here)) (.cons (.there (.here)) (.cons (.there (.here)) (.cons (.there (.here)) .nil)))) (fun w hw hA => f39_as b k3 r3 (some ⟨gb, 0, none⟩) 23 23 (List.replicate 23 1) rfl nofun (Nat.le_refl _) (save_len l4w (by decide)) w (by assumption) (Gl.ofOld (A := dkR b k3 r3) hG hw (.cons (.there (.here)) (.cons (.there (.here)) (.cons (.there (.here)) (.cons (.there (.here)) .nil))))) (RdS.ofOwn hw (.cons (.there (.here)) (.cons (.there (.here)) (.cons (.there (.here)) (.cons (.there (.here)) .nil)))) .here (RdC.ofBlk hw .here List.take_length) (fun b o h => by cases h; exact List.mem_singleton.2 rfl)) o3 hx3.2) rfl (fun ⟨y4, r4⟩ hx4 => ?_))
  refine st (g_move rfl) rfl ?_
  refine st (g_extract rfl rfl) rfl ?_
  refine st (g_extract rfl rfl) rfl ?_
  refine sq rfl (o_alloc (zs := [U64 0#64, .slice none 0 0]) zr_73 rfl (fun b8 => ?_))
  refine sq rfl (o_storeA (cs' := [U64 0#64, slv 0 y4]) sz_73 rfl rfl rfl (by simp [ldv]; exact ⟨rfl, rfl⟩) .here (Nat.le_of_ble_eq_true rfl) rfl ?_)
  refine st (g_assign rfl) rfl ?_
  refine done ?_
  refine th_n ?_
  refine seq ?_
  refine region ?_
  refine sq rfl (o_call Tryd.func50 rfl rfl rfl .nil (fun w hw hA => f50_spec 1 w) rfl (fun gc _ => ?_))
  refine st (g_build rfl (bu_73b _ rfl)) rfl ?_
  refine sq rfl (o_callP Tryd.func45 rfl rfl rfl (fun w hw => f45_bad 0#64 (some ⟨gc, 0, none⟩) 24 24 (.inl rfl) w) rfl ?_)
  refine st (g_move rfl) rfl ?_
  refine st (g_extract rfl rfl) rfl ?_
  refine st (g_extract rfl rfl) rfl ?_
  refine st (g_assign rfl) rfl ?_
  refine st (g_assign rfl) rfl ?_
  refine done ?_
  refine th_n ?_
  refine seq ?_
  refine region ?_
  refine sq rfl (o_call Tryd.func50 rfl rfl rfl .nil (fun w hw hA => f50_25 1 w) rfl (fun gd _ => ?_))
  refine st (g_build rfl (bu_73 1#64 _ rfl)) rfl ?_
  refine sq rfl (o_callP Tryd.func45 rfl rfl rfl (fun w hw => f45_bad 1#64 (some ⟨gd, 0, none⟩) 25 25 (.inr (by decide)) w) rfl ?_)
  refine st (g_move rfl) rfl ?_
  refine st (g_extract rfl rfl) rfl ?_
  refine st (g_extract rfl rfl) rfl ?_
  refine st (g_assign rfl) rfl ?_
  refine st (g_assign rfl) rfl ?_
  refine done ?_
  refine th_n ?_
  refine seq ?_
  refine region ?_
  refine sq rfl (o_call Tryd.func50 rfl rfl rfl .nil (fun w hw hA => f50_64 0 w) rfl (fun gz _ => ?_))
  refine sq rfl (o_callP Tryd.func47 rfl rfl rfl (fun w hw => f47_none (some ⟨gz, 0, none⟩) 64 64 (List.replicate 64 0) rfl nofun (Nat.le_refl _) (by decide) w (RdC.ofBlk hw .here List.take_length) (Gl.ofOld (A := []) hG hw .nil) z_dec) rfl ?_)
  refine st (g_move rfl) rfl ?_
  refine st (g_extract rfl rfl) rfl ?_
  refine st (g_extract rfl rfl) rfl ?_
  refine sq rfl (o_alloc (zs := [U64 0#64, .slice none 0 0]) zr_73 rfl (fun b14 => ?_))
  refine sq rfl (o_storeA (cs' := [U64 0#64, .slice none 0 0]) sz_73 rfl rfl rfl (by simp [Value.oneCell']) .here (Nat.le_of_ble_eq_true rfl) rfl ?_)
  refine st (g_assign rfl) rfl ?_
  refine done ?_
  refine th_n ?_
  refine seq ?_
  refine region ?_
  refine sq rfl (o_call Tryd.func50 rfl rfl rfl .nil (fun w hw hA => f50_spec 5 w) rfl (fun g5 _ => ?_))
  refine st (g_build rfl (bu_73 258#64 _ rfl)) rfl ?_
  refine sq rfl (o_call Tryd.func45 rfl rfl rfl .nil (fun w hw hA => ex_good (some ⟨g5, 0, none⟩) 24 nofun (Nat.le_refl _) w (RdC.ofBlk hw .here List.take_length) (Gl.ofOld (A := []) hG hw .nil)) rfl (fun s hs => ?_))
  refine At.up2 (fun w hw => vec_head (hw.get .here) (by decide)) (fun hsg => ?_)
  obtain ⟨s1, s2⟩ := s
  obtain ⟨sg, hsg⟩ := hsg
  simp only at hsg
  subst hsg
  have hsc : 64 ≤ s2 := hs.2
  refine st (g_move rfl) rfl ?_
  refine st (g_extract rfl rfl) rfl ?_
  refine st (g_extract rfl rfl) rfl ?_
  refine st (g_assign rfl) rfl ?_
  refine st (g_assign rfl) rfl ?_
  refine done ?_
  refine th_n ?_
  refine seq ?_
  refine region ?_
  refine st (g_move rfl) rfl ?_
  refine sq rfl (o_call Tryd.func47 rfl rfl rfl .nil (fun w hw hA => f47_some (some ⟨sg, 0, none⟩) 64 s2 exE exE_length nofun hsc (by decide) w (RdC.ofVec (hw.get .here)) (Gl.ofOld (A := []) hG hw .nil) 258#64 (List.replicate 24 5) exE_dec) rfl (fun y6 hy6 => ?_))
  refine st (g_move rfl) rfl ?_
  refine st (g_extract rfl rfl) rfl ?_
  refine st (g_extract rfl rfl) rfl ?_
  refine sq rfl (o_alloc (zs := [U64 0#64, .slice none 0 0]) zr_73 rfl (fun b18 => ?_))
  refine sq rfl (o_storeA (cs' := [U64 258#64, slv 24 y6]) sz_73 rfl rfl rfl (by simp []; exact ⟨rfl, rfl⟩) .here (Nat.le_of_ble_eq_true rfl) rfl ?_)
  refine st (g_assign rfl) rfl ?_
  refine done ?_
  refine th_n ?_
  refine seq ?_
  refine region ?_
  refine st (g_move rfl) rfl ?_
  refine st (g_len el_23 rfl) rfl ?_
  refine st (g_T rfl rfl rfl (rfl)) rfl ?_
  refine st (g_assign rfl) rfl ?_
  refine done ?_
  refine th_n ?_
  refine seq ?_
  refine seq ?_
  refine region ?_
  refine st (g_move rfl) rfl ?_
  refine st (g_len el_23 rfl) rfl ?_
  refine st (g_move rfl) rfl ?_
  refine done ?_
  refine th_n ?_
  refine block ?_
  refine loop (α := Nat) (fun i => i ≤ 64) (fun i => [(1, .pointer (some ⟨b, 0, none⟩)), (3, .pointer (some ⟨b3, 0, none⟩)), (4, I64 0), (5, .pointer (some ⟨b5, 0, none⟩)), (6, I64 0), (7, .bool true), (9, I64 180), (11, I64 180), (13, I64 180), (15, I64 180), (16, .slice (some ⟨sg, 0, none⟩) 64 s2), (17, I64 0), (18, .pointer (some ⟨b18, 0, none⟩)), (19, I64 0), (20, .bool true), (105, I64 64), (106, I64 (i : Nat))]) (fun i => [blk b3 73 [U64 (NB 2), slv 24 y2], blk b5 73 [U64 (NB 3), slv 24 y3], blk b18 73 [U64 258#64, slv 24 y6], vec (.slice (some ⟨sg, 0, none⟩) 64 s2) 5 1 64 (exE.map B8), dkB b k3 r4, dkS k3 r4, dkW k3 r4, dkC k3 r4]) (fun i => 64 - i) 0 (Nat.zero_le _) ⟨rfl, rfl, rfl, rfl, rfl, rfl, rfl, rfl, rfl, rfl, rfl, rfl, rfl, rfl, rfl, rfl, rfl, trivial⟩ (.cons (.there (.there (.there (.there (.there (.there (.there (.there (.there (.there (.there (.there (.there (.there (.there (.there (.there (.there (.here))))))))))))))))))) (.cons (.there (.there (.there (.there (.there (.there (.there (.there (.there (.there (.there (.there (.there (.there (.there (.here)))))))))))))))) (.cons .here (.cons (.there (.here)) (.cons (.there (.there (.there (.there (.there (.there (.there (.there (.here))))))))) (.cons (.there (.there (.there (.there (.there (.there (.there (.there (.here))))))))) (.cons (.there (.there (.there (.there (.there (.there (.there (.there (.here))))))))) (.cons (.there (.there (.there (.there (.there (.there (.there (.there (.here))))))))) .nil)))))))) (fun i hI => ?_)
  refine seq ?_
  refine region ?_
  refine st (g_bin rfl rfl rfl) rfl ?_
  refine done ?_
  refine th_n ?_
  refine seq ?_
  refine condS rfl (fun h107 => ?_) (fun h107 => ?_)
  · try simp only [decide_eq_true_eq] at h107
    have hi : i < 64 := by omega
    refine skip ?_
    refine th_n ?_
    refine seq ?_
    refine block ?_
    refine seq ?_
    refine region ?_
    refine st (g_move rfl) rfl ?_
    refine st (g_assign rfl) rfl ?_
    refine done ?_
    refine th_n ?_
    refine seq ?_
    refine region ?_
    refine sq rfl (o_buildSlice0 un_23 sz_5 rfl (fun b109 => ?_))
    refine st (g_move rfl) rfl ?_
    refine sq rfl (o_append (n := 0) (m := 64) (news := exE.map B8) un_23 zr_5 sz_5 rfl bt_5 (by decide) rfl rfl .here (by rw [List.length_map, exE_length]) (RdA.vec (.there (.there (.there (.there (.here)))))) oneB8 nofun (by decide) (by decide) rfl (fun q1 cap1 hq1 hc1 hq01 => ?_))
    refine blkOfVec .here (by decide) (fun bx rx hx => ?_)
    subst hx
    refine st (g_assign rfl) rfl ?_
    refine done ?_
    refine th_n ?_
    refine seq ?_
    refine region ?_
    refine st (g_move rfl) rfl ?_
    refine st (g_move rfl) rfl ?_
    refine st (g_move rfl) rfl ?_
    refine st (g_move rfl) rfl ?_
    refine st (g_indexS (m := i) el_23 rfl rfl (by omega) (by omega) (by omega)) rfl ?_
    refine st (g_load (v := B8 (exE.getD i 0)) sc_5 rfl (Cell.own .here (ex_get hi rx))) rfl ?_
    refine st (g_xor8 (b := (1 : UInt8)) rfl rfl) rfl ?_
    refine st (g_indexS (m := i) el_23 rfl rfl (by omega) (by omega) (by omega)) rfl ?_
    refine sq rfl (o_store (cs' := (flipE i).map B8 ++ rx) sz_5 rfl rfl rfl .here (by show i < (exE.map B8 ++ rx).length; rw [List.length_append, List.length_map, exE_length]; omega) (ex_flip hi rx) ?_)
    refine done ?_
    refine th_n ?_
    refine seq ?_
    refine region ?_
    refine st (g_move rfl) rfl ?_
    refine sq rfl (o_call Tryd.func47 rfl rfl rfl .nil (fun w hw hA => f47_all (some ⟨bx, 0, none⟩) 64 cap1 (flipE i) (flipE_length i) nofun (by omega) (by decide) w (RdC.ofBlk hw .here take_app) (Gl.ofOld (A := []) hG hw .nil)) rfl (fun y8 hy8 => ?_))
    refine st (g_move rfl) rfl ?_
    refine st (g_extract rfl rfl) rfl ?_
    refine st (g_extract rfl rfl) rfl ?_
    refine sq rfl (o_alloc (zs := [U64 0#64, .slice none 0 0]) zr_73 rfl (fun b23 => ?_))
    refine sq rfl (o_storeA (cs' := [U64 (decR (flipE i)).1, slv (decR (flipE i)).2.1.length y8]) sz_73 rfl rfl rfl (by simp []; exact ⟨rfl, rfl⟩) .here (Nat.le_of_ble_eq_true rfl) rfl ?_)
    refine st (g_assign rfl) rfl ?_
    refine done ?_
    refine th_n ?_
    refine region ?_
    refine st (g_move rfl) rfl ?_
    refine st (g_move rfl) rfl ?_
    refine gt rfl ?_
    refine st (g_move rfl) rfl ?_
    refine gt rfl ?_
    refine st (g_T rfl rfl rfl (flip_all i hi)) rfl ?_
    refine st (g_pickT rfl rfl) rfl ?_
    refine st (g_assign rfl) rfl ?_
    refine done ?_
    refine ib_n ?_
    refine th_n ?_
    refine region ?_
    refine st (g_iadd (c := ((i + 1 : Nat) : Int)) rfl rfl (by omega) (by omega) (by omega)) rfl ?_
    refine st (g_move rfl) rfl ?_
    refine done ?_
    refine th_n ?_
    exact again (i + 1) (by omega) (by omega) ⟨rfl, rfl, rfl, rfl, rfl, rfl, rfl, rfl, rfl, rfl, rfl, rfl, rfl, rfl, rfl, rfl, rfl, trivial⟩ (.cons (.there (.there (.there (.here)))) (.cons (.there (.there (.there (.here)))) (.cons (.there (.there (.there (.here)))) (.cons (.there (.there (.there (.here)))) (.cons (.there (.there (.there (.here)))) (.cons (.there (.there (.there (.here)))) (.cons (.there (.there (.there (.here)))) (.cons (.there (.there (.there (.here)))) .nil))))))))
  · try simp only [decide_eq_false_iff_not] at h107
    refine exitc ?_
    refine th_x ?_
    refine th_x ?_
    refine ib_x ?_
    refine th_n ?_
    refine seq ?_
    refine region ?_
    refine st (g_move rfl) rfl ?_
    refine sq rfl (o_buildSlice1 (vs := [B8 0]) un_23 zr_5 sz_5 (by decide) (by decide) rfl rfl rfl (by simp [Value.oneCell']) rfl (fun b133 => ?_))
    refine sq rfl (o_appendK (n := 64) (m := 1) (news := ([0] : List UInt8).map B8) un_23 zr_5 sz_5 rfl bt_5 (by decide) rfl rfl (.there (.there (.there (.there (.here))))) rfl (RdA.own .here (by simp)) oneB8 (by decide) (by decide) rfl (fun hfit => ?_) (fun g1 cap2 hfit => ?_))
    · rw [← List.map_append]
      refine sq rfl (o_callP Tryd.func47 rfl rfl rfl (fun w hw => f47_none (some ⟨sg, 0, none⟩) 65 s2 (exE ++ [0]) (by rw [List.length_append, exE_length]; rfl) nofun hfit (by decide) w (RdC.ofVec (hw.get .here)) (Gl.ofOld (A := []) hG hw .nil) more_dec) rfl ?_)
      refine st (g_move rfl) rfl ?_
      refine st (g_extract rfl rfl) rfl ?_
      refine st (g_extract rfl rfl) rfl ?_
      refine sq rfl (o_alloc (zs := [U64 0#64, .slice none 0 0]) zr_73 rfl (fun b25 => ?_))
      refine sq rfl (o_storeA (cs' := [U64 0#64, .slice none 0 0]) sz_73 rfl rfl rfl (by simp [Value.oneCell']) .here (Nat.le_of_ble_eq_true rfl) rfl ?_)
      refine st (g_assign rfl) rfl ?_
      refine done ?_
      refine th_n ?_
      refine seq ?_
      refine region ?_
      refine sq rfl (o_call Tryd.func28 rfl rfl rfl .nil (fun w hw hA => f28_spec 1 100 (by decide) (by decide) (by decide) w) rfl (fun ⟨bo, ro⟩ hroo => ?_))
      refine st (g_move rfl) rfl ?_
      refine st (g_extract rfl rfl) rfl ?_
      refine st (g_extract rfl rfl) rfl ?_
      refine st (g_assign rfl) rfl ?_
      refine st (g_assign rfl) rfl ?_
      refine done ?_
      refine th_n ?_
      refine seq ?_
      refine region ?_
      refine st (g_move rfl) rfl ?_
      refine sq rfl (o_call Tryd.func52 rfl rfl rfl (.cons .here (.cons .here (.cons .here (.cons .here .nil)))) (fun w hw hA => f52_aw bo (newDk 1 100) ro one_load.2.1 one_load.2.2.1 one_load.2.2.2 one_load.1 w (by assumption) (Gl.ofOld (A := dkR bo (newDk 1 100) ro) hG hw (.cons .here (.cons .here (.cons .here (.cons .here .nil))))) (dkn_ok 1 100 (by decide) (by decide) (by decide)) hroo) rfl (fun y9 hy9 => ?_))
      refine st (g_move rfl) rfl ?_
      refine st (g_extract rfl rfl) rfl ?_
      refine st (g_extract rfl rfl) rfl ?_
      refine st (g_extract rfl rfl) rfl ?_
      refine sq rfl (o_alloc (zs := [U64 0#64, .slice none 0 0]) zr_73 rfl (fun b29 => ?_))
      refine sq rfl (o_storeA (cs' := [U64 0#64, slv 0 y9]) sz_73 rfl rfl rfl (by simp []; exact ⟨rfl, rfl⟩) .here (Nat.le_of_ble_eq_true rfl) rfl ?_)
      refine st (g_assign rfl) rfl ?_
      refine st (g_assign rfl) rfl ?_
      refine done ?_
      refine th_n ?_
      refine seq ?_
      refine region ?_
      refine st (g_move rfl) rfl ?_
      refine sq rfl (o_call Tryd.func50 rfl rfl rfl .nil (fun w hw hA => f50_spec 1 w) rfl (fun ge _ => ?_))
      refine sq rfl (o_call Tryd.func39 rfl rfl rfl (.cons (.there (.there (.there (.here)))) (.cons (.there (.there (.there (.here)))) (.cons (.there (.there (.there (.here)))) (.cons (.there (.there (.there (.here)))) .nil)))) (fun w hw hA => f39_as bo (newDk 1 100) ro (some ⟨ge, 0, none⟩) 24 24 (List.replicate 24 1) rfl nofun (Nat.le_refl _) one_save w (by assumption) (Gl.ofOld (A := dkR bo (newDk 1 100) ro) hG hw (.cons (.there (.there (.there (.here)))) (.cons (.there (.there (.there (.here)))) (.cons (.there (.there (.there (.here)))) (.cons (.there (.there (.there (.here)))) .nil))))) (RdS.ofOwn hw (.cons (.there (.there (.there (.here)))) (.cons (.there (.there (.there (.here)))) (.cons (.there (.there (.there (.here)))) (.cons (.there (.there (.there (.here)))) .nil)))) .here (RdC.ofBlk hw .here List.take_length) (fun b o h => by cases h; exact List.mem_singleton.2 rfl)) (dkn_ok 1 100 (by decide) (by decide) (by decide)) hroo) rfl (fun ⟨y10, ro2⟩ hx10 => ?_))
      refine st (g_move rfl) rfl ?_
      refine st (g_extract rfl rfl) rfl ?_
      refine st (g_extract rfl rfl) rfl ?_
      refine sq rfl (o_alloc (zs := [U64 0#64, .slice none 0 0]) zr_73 rfl (fun b32 => ?_))
      refine sq rfl (o_storeA (cs' := [U64 0#64, slv 0 y10]) sz_73 rfl rfl rfl (by simp [ldv]; exact ⟨rfl, rfl⟩) .here (Nat.le_of_ble_eq_true rfl) rfl ?_)
      refine st (g_assign rfl) rfl ?_
      refine done ?_
      refine th_n ?_
      refine seq ?_
      refine region ?_
      refine sq rfl (o_callP Tryd.func52 rfl rfl rfl (fun w hw => f52_nil w) rfl ?_)
      refine st (g_move rfl) rfl ?_
      refine st (g_extract rfl rfl) rfl ?_
      refine st (g_extract rfl rfl) rfl ?_
      refine st (g_extract rfl rfl) rfl ?_
      refine sq rfl (o_alloc (zs := [U64 0#64, .slice none 0 0]) zr_73 rfl (fun b34 => ?_))
      refine sq rfl (o_storeA (cs' := [U64 0#64, .slice none 0 0]) sz_73 rfl rfl rfl (by simp [Value.oneCell']) .here (Nat.le_of_ble_eq_true rfl) rfl ?_)
      refine st (g_assign rfl) rfl ?_
      refine st (g_assign rfl) rfl ?_
      refine done ?_
      refine th_n ?_
      refine seq ?_
      refine region ?_
      refine sq rfl (o_call Tryd.func28 rfl rfl rfl .nil (fun w hw hA => f28_spec 2 0 (by decide) (by decide) (by decide) w) rfl (fun ⟨bf, rf⟩ hrof => ?_))
      refine st (g_move rfl) rfl ?_
      refine st (g_extract rfl rfl) rfl ?_
      refine st (g_extract rfl rfl) rfl ?_
      refine st (g_assign rfl) rfl ?_
      refine st (g_assign rfl) rfl ?_
      refine done ?_
      refine th_n ?_
      refine seq ?_
      refine region ?_
      refine st (g_move rfl) rfl ?_
      refine sq rfl (o_call Tryd.func50 rfl rfl rfl .nil (fun w hw hA => f50_spec 1 w) rfl (fun gf _ => ?_))
      refine sq rfl (o_call Tryd.func39 rfl rfl rfl (.cons (.there (.here)) (.cons (.there (.here)) (.cons (.there (.here)) (.cons (.there (.here)) .nil)))) (fun w hw hA => f39_as bf (newDk 2 0) rf (some ⟨gf, 0, none⟩) 24 24 (List.replicate 24 1) rfl nofun (Nat.le_refl _) ef w (by assumption) (Gl.ofOld (A := dkR bf (newDk 2 0) rf) hG hw (.cons (.there (.here)) (.cons (.there (.here)) (.cons (.there (.here)) (.cons (.there (.here)) .nil))))) (RdS.ofOwn hw (.cons (.there (.here)) (.cons (.there (.here)) (.cons (.there (.here)) (.cons (.there (.here)) .nil)))) .here (RdC.ofBlk hw .here List.take_length) (fun b o h => by cases h; exact List.mem_singleton.2 rfl)) (dk2_ok 0 (by decide)) hrof) rfl (fun ⟨y11, rf2⟩ hx11 => ?_))
      refine st (g_move rfl) rfl ?_
      refine st (g_extract rfl rfl) rfl ?_
      refine st (g_extract rfl rfl) rfl ?_
      refine sq rfl (o_alloc (zs := [U64 0#64, .slice none 0 0]) zr_73 rfl (fun b39 => ?_))
      refine sq rfl (o_storeA (cs' := [U64 0#64, slv 0 y11]) sz_73 rfl rfl rfl (by simp [ldv]; exact ⟨rfl, rfl⟩) .here (Nat.le_of_ble_eq_true rfl) rfl ?_)
      refine st (g_assign rfl) rfl ?_
      refine done ?_
      refine th_n ?_
      refine seq ?_
      refine region ?_
      refine sq rfl (o_call Tryd.func50 rfl rfl rfl .nil (fun w hw hA => f50_spec 1 w) rfl (fun gg _ => ?_))
      refine st (g_build rfl (bu_73 18446744073709551615#64 _ rfl)) rfl ?_
      refine sq rfl (o_call Tryd.func45 rfl rfl rfl .nil (fun w hw hA => big_good (some ⟨gg, 0, none⟩) 24 nofun (Nat.le_refl _) w (RdC.ofBlk hw .here List.take_length) (Gl.ofOld (A := []) hG hw .nil)) rfl (fun t ht => ?_))
      refine st (g_move rfl) rfl ?_
      refine st (g_extract rfl rfl) rfl ?_
      refine st (g_extract rfl rfl) rfl ?_
      refine st (g_assign rfl) rfl ?_
      refine st (g_assign rfl) rfl ?_
      refine done ?_
      refine th_n ?_
      refine seq ?_
      refine region ?_
      refine st (g_move rfl) rfl ?_
      refine st (g_move rfl) rfl ?_
      refine sq rfl (o_call Tryd.func53 rfl rfl rfl (.cons (.there (.there (.there (.there (.there (.there (.there (.there (.there (.there (.there (.there (.there (.there (.there (.there (.there (.there (.there (.there (.there (.there (.there (.there (.there (.here)))))))))))))))))))))))))) (.cons (.there (.there (.there (.there (.there (.there (.there (.there (.there (.there (.there (.there (.there (.there (.there (.there (.there (.there (.there (.there (.there (.there (.there (.there (.there (.here)))))))))))))))))))))))))) (.cons (.there (.there (.there (.there (.there (.there (.there (.there (.there (.there (.there (.there (.there (.there (.there (.there (.there (.there (.there (.there (.there (.there (.there (.there (.there (.here)))))))))))))))))))))))))) (.cons (.there (.there (.there (.there (.there (.there (.there (.there (.there (.there (.there (.there (.there (.there (.there (.there (.there (.there (.there (.there (.there (.there (.there (.there (.there (.here)))))))))))))))))))))))))) .nil)))) (fun w hw hA => f53_as b k3 o3 r4 hx4.2 0 t.1 64 t.2 bigE bigE_length e4 w (by assumption) (RdS.ofVec hw (.cons (.there (.there (.there (.there (.there (.there (.there (.there (.there (.there (.there (.there (.there (.there (.there (.there (.there (.there (.there (.there (.there (.there (.there (.there (.there (.here)))))))))))))))))))))))))) (.cons (.there (.there (.there (.there (.there (.there (.there (.there (.there (.there (.there (.there (.there (.there (.there (.there (.there (.there (.there (.there (.there (.there (.there (.there (.there (.here)))))))))))))))))))))))))) (.cons (.there (.there (.there (.there (.there (.there (.there (.there (.there (.there (.there (.there (.there (.there (.there (.there (.there (.there (.there (.there (.there (.there (.there (.there (.there (.here)))))))))))))))))))))))))) (.cons (.there (.there (.there (.there (.there (.there (.there (.there (.there (.there (.there (.there (.there (.there (.there (.there (.there (.there (.there (.there (.there (.there (.there (.there (.there (.here)))))))))))))))))))))))))) .nil)))) .here)) rfl (fun r5 hr5 => ?_))
      refine done ?_
      refine th_n ?_
      refine seq ?_
      refine region ?_
      refine st (g_move rfl) rfl ?_
      refine sq rfl (o_call Tryd.func50 rfl rfl rfl .nil (fun w hw hA => f50_spec 1 w) rfl (fun gh _ => ?_))
      refine sq rfl (o_call Tryd.func39 rfl rfl rfl (.cons (.there (.here)) (.cons (.there (.here)) (.cons (.there (.here)) (.cons (.there (.here)) .nil)))) (fun w hw hA => f39_as b k4 r5 (some ⟨gh, 0, none⟩) 24 24 (List.replicate 24 1) rfl nofun (Nat.le_refl _) (save_max l5w l5n) w (by assumption) (Gl.ofOld (A := dkR b k4 r5) hG hw (.cons (.there (.here)) (.cons (.there (.here)) (.cons (.there (.here)) (.cons (.there (.here)) .nil))))) (RdS.ofOwn hw (.cons (.there (.here)) (.cons (.there (.here)) (.cons (.there (.here)) (.cons (.there (.here)) .nil)))) .here (RdC.ofBlk hw .here List.take_length) (fun b o h => by cases h; exact List.mem_singleton.2 rfl)) o4 hr5) rfl (fun ⟨y12, r6⟩ hx12 => ?_))
      refine st (g_move rfl) rfl ?_
      refine st (g_extract rfl rfl) rfl ?_
      refine st (g_extract rfl rfl) rfl ?_
      refine sq rfl (o_alloc (zs := [U64 0#64, .slice none 0 0]) zr_73 rfl (fun b43 => ?_))
      refine sq rfl (o_storeA (cs' := [U64 0#64, slv 0 y12]) sz_73 rfl rfl rfl (by simp [ldv]; exact ⟨rfl, rfl⟩) .here (Nat.le_of_ble_eq_true rfl) rfl ?_)
      refine st (g_assign rfl) rfl ?_
      refine done ?_
      refine th_n ?_
      refine seq ?_
      refine region ?_
      refine st (g_move rfl) rfl ?_
      refine st (g_move rfl) rfl ?_
      refine gt rfl ?_
      refine st (g_move rfl) rfl ?_
      refine gt rfl ?_
      refine st (g_slice (l := 0) (h := 12) (m := (s2 : Int)) (p' := some ⟨sg, 0, none⟩) (n' := 12) (c' := s2) el_23 rfl rfl rfl rfl (by simp) (by decide) (by decide) (by omega) (by omega) (adv_zero _ _ _) rfl (by omega)) rfl ?_
      refine gt rfl ?_
      refine st (g_str (l := exE.take 12) by_23 str_9 rfl (by rw [List.length_take, exE_length]; rfl) (fun w hw => by rw [List.map_take]; exact RdC.take ((RdA.pre (ys := ([0] : List UInt8).map B8) (by rw [← List.map_append]; exact RdA.vec (.there (.there (.there (.there (.there (.there (.there (.there (.there (.there (.there (.there (.there (.there (.there (.there (.there (.there (.there (.there (.there (.there (.there (.there (.there (.there (.there (.here)))))))))))))))))))))))))))))) w hw) 12)) rfl ?_
      refine gt rfl ?_
      refine st (g_eqST rfl rfl (exE_head)) rfl ?_
      refine st (g_pickT rfl rfl) rfl ?_
      refine st (g_move rfl) rfl ?_
      refine gt rfl ?_
      refine st (g_move rfl) rfl ?_
      refine gt rfl ?_
      refine st (g_slice (l := 52) (h := 64) (m := (s2 : Int)) (p' := adv (some ⟨sg, 0, none⟩) s2 52 1) (n' := 12) (c' := s2 - 52) el_23 rfl rfl rfl rfl (by simp) (by decide) (by decide) (by omega) (by omega) rfl rfl (by omega)) rfl ?_
      refine gt rfl ?_
      refine st (g_str (l := exE.drop 52) by_23 str_9 rfl (by rw [List.length_drop, exE_length]) (fun w hw => by rw [List.map_drop]; exact RdC.adv (c := s2) (k := 52) (s := 1) ((RdA.pre (ys := ([0] : List UInt8).map B8) (by rw [← List.map_append]; exact RdA.vec (.there (.there (.there (.there (.there (.there (.there (.there (.there (.there (.there (.there (.there (.there (.there (.there (.there (.there (.there (.there (.there (.there (.there (.there (.there (.there (.there (.here)))))))))))))))))))))))))))))) w hw) (fun he => absurd he (by omega)))) rfl ?_
      refine gt rfl ?_
      refine st (g_eqST rfl rfl (exE_tail)) rfl ?_
      refine st (g_pickT rfl rfl) rfl ?_
      refine st (g_assign rfl) rfl ?_
      refine done ?_
      refine th_n ?_
      refine seq ?_
      refine region ?_
      refine st (g_move rfl) rfl ?_
      refine gt rfl ?_
      refine sq rfl (o_callP Tryd.func54 rfl rfl rfl (fun w hw => f54_spec w (Gl.ofOld (A := []) hG hw .nil)) rfl ?_)
      refine st (g_pickT rfl rfl) rfl ?_
      refine st (g_move rfl) rfl ?_
      refine gt rfl ?_
      refine st (g_fieldAddr fo_73_0 rfl rfl) rfl ?_
      refine gt rfl ?_
      refine st (g_load (v := U64 (NB 2)) sc_34 rfl (Cell.own (.there (.there (.there (.there (.there (.there (.there (.there (.there (.there (.there (.there (.there (.there (.there (.there (.there (.there (.there (.there (.there (.there (.there (.there (.there (.there (.there (.there (.there (.here)))))))))))))))))))))))))))))) rfl)) rfl ?_
      refine gt rfl ?_
      refine st (g_T rfl rfl rfl (by decide)) rfl ?_
      refine st (g_pickT rfl rfl) rfl ?_
      refine st (g_move rfl) rfl ?_
      refine gt rfl ?_
      refine st (g_move rfl) rfl ?_
      refine gt rfl ?_
      refine st (g_T rfl rfl rfl (rfl)) rfl ?_
      refine st (g_pickT rfl rfl) rfl ?_
      refine st (g_move rfl) rfl ?_
      refine gt rfl ?_
      refine st (g_fieldAddr fo_73_0 rfl rfl) rfl ?_
      refine gt rfl ?_
      refine st (g_load (v := U64 (NB 3)) sc_34 rfl (Cell.own (.there (.there (.there (.there (.there (.there (.there (.there (.there (.there (.there (.there (.there (.there (.there (.there (.there (.there (.there (.there (.there (.there (.there (.there (.there (.there (.there (.there (.there (.there (.here))))))))))))))))))))))))))))))) rfl)) rfl ?_
      refine gt rfl ?_
      refine st (g_T rfl rfl rfl (by decide)) rfl ?_
      refine st (g_pickT rfl rfl) rfl ?_
      refine st (g_move rfl) rfl ?_
      refine gt rfl ?_
      refine st (g_move rfl) rfl ?_
      refine gt rfl ?_
      refine st (g_T rfl rfl rfl (rfl)) rfl ?_
      refine st (g_pickT rfl rfl) rfl ?_
      refine st (g_move rfl) rfl ?_
      refine gt rfl ?_
      refine st (g_move rfl) rfl ?_
      refine st (g_pickT rfl rfl) rfl ?_
      refine st (g_move rfl) rfl ?_
      refine gt rfl ?_
      refine st (g_move rfl) rfl ?_
      refine gt rfl ?_
      refine st (g_T rfl rfl rfl (rfl)) rfl ?_
      refine st (g_pickT rfl rfl) rfl ?_
      refine st (g_move rfl) rfl ?_
      refine gt rfl ?_
      refine st (g_move rfl) rfl ?_
      refine gt rfl ?_
      refine st (g_T rfl rfl rfl (rfl)) rfl ?_
      refine st (g_pickT rfl rfl) rfl ?_
      refine st (g_move rfl) rfl ?_
      refine gt rfl ?_
      refine st (g_move rfl) rfl ?_
      refine gt rfl ?_
      refine st (g_T rfl rfl rfl (rfl)) rfl ?_
      refine st (g_pickT rfl rfl) rfl ?_
      refine st (g_move rfl) rfl ?_
      refine gt rfl ?_
      refine st (g_move rfl) rfl ?_
      refine gt rfl ?_
      refine st (g_T rfl rfl rfl (rfl)) rfl ?_
      refine st (g_pickT rfl rfl) rfl ?_
      refine st (g_move rfl) rfl ?_
      refine gt rfl ?_
      refine st (g_move rfl) rfl ?_
      refine st (g_pickT rfl rfl) rfl ?_
      refine st (g_move rfl) rfl ?_
      refine gt rfl ?_
      refine st (g_move rfl) rfl ?_
      refine gt rfl ?_
      refine st (g_T rfl rfl rfl (rfl)) rfl ?_
      refine st (g_pickT rfl rfl) rfl ?_
      refine st (g_move rfl) rfl ?_
      refine gt rfl ?_
      refine st (g_move rfl) rfl ?_
      refine gt rfl ?_
      refine st (g_T rfl rfl rfl (rfl)) rfl ?_
      refine st (g_pickT rfl rfl) rfl ?_
      refine st (g_move rfl) rfl ?_
      refine gt rfl ?_
      refine st (g_fieldAddr fo_73_0 rfl rfl) rfl ?_
      refine gt rfl ?_
      refine st (g_load (v := U64 258#64) sc_34 rfl (Cell.own (.there (.there (.there (.there (.there (.there (.there (.there (.there (.there (.there (.there (.there (.there (.there (.there (.there (.there (.there (.there (.there (.there (.there (.there (.there (.there (.there (.there (.there (.there (.there (.here)))))))))))))))))))))))))))))))) rfl)) rfl ?_
      refine gt rfl ?_
      refine st (g_T rfl rfl rfl (by decide)) rfl ?_
      refine st (g_pickT rfl rfl) rfl ?_
      refine st (g_move rfl) rfl ?_
      refine gt rfl ?_
      refine st (g_move rfl) rfl ?_
      refine gt rfl ?_
      refine st (g_T rfl rfl rfl (rfl)) rfl ?_
      refine st (g_pickT rfl rfl) rfl ?_
      refine st (g_move rfl) rfl ?_
      refine gt rfl ?_
      refine st (g_move rfl) rfl ?_
      refine gt rfl ?_
      refine st (g_T rfl rfl rfl (rfl)) rfl ?_
      refine st (g_pickT rfl rfl) rfl ?_
      refine st (g_move rfl) rfl ?_
      refine gt rfl ?_
      refine st (g_move rfl) rfl ?_
      refine gt rfl ?_
      refine st (g_T rfl rfl rfl (rfl)) rfl ?_
      refine st (g_pickT rfl rfl) rfl ?_
      refine st (g_move rfl) rfl ?_
      refine gt rfl ?_
      refine st (g_move rfl) rfl ?_
      refine gt rfl ?_
      refine st (g_T rfl rfl rfl (rfl)) rfl ?_
      refine st (g_pickT rfl rfl) rfl ?_
      refine st (g_move rfl) rfl ?_
      refine gt rfl ?_
      refine st (g_move rfl) rfl ?_
      refine gt rfl ?_
      refine st (g_T rfl rfl rfl (rfl)) rfl ?_
      refine st (g_pickT rfl rfl) rfl ?_
      refine st (g_move rfl) rfl ?_
      refine gt rfl ?_
      refine st (g_move rfl) rfl ?_
      refine gt rfl ?_
      refine st (g_T rfl rfl rfl (rfl)) rfl ?_
      refine st (g_pickT rfl rfl) rfl ?_
      refine st (g_assign rfl) rfl ?_
      refine done ?_
      refine th_n ?_
      refine ret ?_
      exact ret1 rfl rfl rfl (fun w2 hw2 => ⟨rfl, hw2.clear⟩)
    · rw [← List.map_append]
      refine sq rfl (o_callP Tryd.func47 rfl rfl rfl (fun w hw => f47_none (some ⟨g1, 0, none⟩) 65 cap2 (exE ++ [0]) (by rw [List.length_append, exE_length]; rfl) nofun hfit (by decide) w (RdC.ofVec (hw.get .here)) (Gl.ofOld (A := []) hG hw .nil) more_dec) rfl ?_)
      refine st (g_move rfl) rfl ?_
      refine st (g_extract rfl rfl) rfl ?_
      refine st (g_extract rfl rfl) rfl ?_
      refine sq rfl (o_alloc (zs := [U64 0#64, .slice none 0 0]) zr_73 rfl (fun b25 => ?_))
      refine sq rfl (o_storeA (cs' := [U64 0#64, .slice none 0 0]) sz_73 rfl rfl rfl (by simp [Value.oneCell']) .here (Nat.le_of_ble_eq_true rfl) rfl ?_)
      refine st (g_assign rfl) rfl ?_
      refine done ?_
      refine th_n ?_
      refine seq ?_
      refine region ?_
      refine sq rfl (o_call Tryd.func28 rfl rfl rfl .nil (fun w hw hA => f28_spec 1 100 (by decide) (by decide) (by decide) w) rfl (fun ⟨bo, ro⟩ hroo => ?_))
      refine st (g_move rfl) rfl ?_
      refine st (g_extract rfl rfl) rfl ?_
      refine st (g_extract rfl rfl) rfl ?_
      refine st (g_assign rfl) rfl ?_
      refine st (g_assign rfl) rfl ?_
      refine done ?_
      refine th_n ?_
      refine seq ?_
      refine region ?_
      refine st (g_move rfl) rfl ?_
      refine sq rfl (o_call Tryd.func52 rfl rfl rfl (.cons .here (.cons .here (.cons .here (.cons .here .nil)))) (fun w hw hA => f52_aw bo (newDk 1 100) ro one_load.2.1 one_load.2.2.1 one_load.2.2.2 one_load.1 w (by assumption) (Gl.ofOld (A := dkR bo (newDk 1 100) ro) hG hw (.cons .here (.cons .here (.cons .here (.cons .here .nil))))) (dkn_ok 1 100 (by decide) (by decide) (by decide)) hroo) rfl (fun y9 hy9 => ?_))
      refine st (g_move rfl) rfl ?_
      refine st (g_extract rfl rfl) rfl ?_
      refine st (g_extract rfl rfl) rfl ?_
      refine st (g_extract rfl rfl) rfl ?_
      refine sq rfl (o_alloc (zs := [U64 0#64, .slice none 0 0]) zr_73 rfl (fun b29 => ?_))
      refine sq rfl (o_storeA (cs' := [U64 0#64, slv 0 y9]) sz_73 rfl rfl rfl (by simp []; exact ⟨rfl, rfl⟩) .here (Nat.le_of_ble_eq_true rfl) rfl ?_)
      refine st (g_assign rfl) rfl ?_
      refine st (g_assign rfl) rfl ?_
      refine done ?_
      refine th_n ?_
      refine seq ?_
      refine region ?_
      refine st (g_move rfl) rfl ?_
      refine sq rfl (o_call Tryd.func50 rfl rfl rfl .nil (fun w hw hA => f50_spec 1 w) rfl (fun ge _ => ?_))
      refine sq rfl (o_call Tryd.func39 rfl rfl rfl (.cons (.there (.there (.there (.here)))) (.cons (.there (.there (.there (.here)))) (.cons (.there (.there (.there (.here)))) (.cons (.there (.there (.there (.here)))) .nil)))) (fun w hw hA => f39_as bo (newDk 1 100) ro (some ⟨ge, 0, none⟩) 24 24 (List.replicate 24 1) rfl nofun (Nat.le_refl _) one_save w (by assumption) (Gl.ofOld (A := dkR bo (newDk 1 100) ro) hG hw (.cons (.there (.there (.there (.here)))) (.cons (.there (.there (.there (.here)))) (.cons (.there (.there (.there (.here)))) (.cons (.there (.there (.there (.here)))) .nil))))) (RdS.ofOwn hw (.cons (.there (.there (.there (.here)))) (.cons (.there (.there (.there (.here)))) (.cons (.there (.there (.there (.here)))) (.cons (.there (.there (.there (.here)))) .nil)))) .here (RdC.ofBlk hw .here List.take_length) (fun b o h => by cases h; exact List.mem_singleton.2 rfl)) (dkn_ok 1 100 (by decide) (by decide) (by decide)) hroo) rfl (fun ⟨y10, ro2⟩ hx10 => ?_))
      refine st (g_move rfl) rfl ?_
      refine st (g_extract rfl rfl) rfl ?_
      refine st (g_extract rfl rfl) rfl ?_
      refine sq rfl (o_alloc (zs := [U64 0#64, .slice none 0 0]) zr_73 rfl (fun b32 => ?_))
      refine sq rfl (o_storeA (cs' := [U64 0#64, slv 0 y10]) sz_73 rfl rfl rfl (by simp [ldv]; exact ⟨rfl, rfl⟩) .here (Nat.le_of_ble_eq_true rfl) rfl ?_)
      refine st (g_assign rfl) rfl ?_
      refine done ?_
      refine th_n ?_
      refine seq ?_
      refine region ?_
      refine sq rfl (o_callP Tryd.func52 rfl rfl rfl (fun w hw => f52_nil w) rfl ?_)
      refine st (g_move rfl) rfl ?_
      refine st (g_extract rfl rfl) rfl ?_
      refine st (g_extract rfl rfl) rfl ?_
      refine st (g_extract rfl rfl) rfl ?_
      refine sq rfl (o_alloc (zs := [U64 0#64, .slice none 0 0]) zr_73 rfl (fun b34 => ?_))
      refine sq rfl (o_storeA (cs' := [U64 0#64, .slice none 0 0]) sz_73 rfl rfl rfl (by simp [Value.oneCell']) .here (Nat.le_of_ble_eq_true rfl) rfl ?_)
      refine st (g_assign rfl) rfl ?_
      refine st (g_assign rfl) rfl ?_
      refine done ?_
      refine th_n ?_
      refine seq ?_
      refine region ?_
      refine sq rfl (o_call Tryd.func28 rfl rfl rfl .nil (fun w hw hA => f28_spec 2 0 (by decide) (by decide) (by decide) w) rfl (fun ⟨bf, rf⟩ hrof => ?_))
      refine st (g_move rfl) rfl ?_
      refine st (g_extract rfl rfl) rfl ?_
      refine st (g_extract rfl rfl) rfl ?_
      refine st (g_assign rfl) rfl ?_
      refine st (g_assign rfl) rfl ?_
      refine done ?_
      refine th_n ?_
      refine seq ?_
      refine region ?_
      refine st (g_move rfl) rfl ?_
      refine sq rfl (o_call Tryd.func50 rfl rfl rfl .nil (fun w hw hA => f50_spec 1 w) rfl (fun gf _ => ?_))
      refine sq rfl (o_call Tryd.func39 rfl rfl rfl (.cons (.there (.here)) (.cons (.there (.here)) (.cons (.there (.here)) (.cons (.there (.here)) .nil)))) (fun w hw hA => f39_as bf (newDk 2 0) rf (some ⟨gf, 0, none⟩) 24 24 (List.replicate 24 1) rfl nofun (Nat.le_refl _) ef w (by assumption) (Gl.ofOld (A := dkR bf (newDk 2 0) rf) hG hw (.cons (.there (.here)) (.cons (.there (.here)) (.cons (.there (.here)) (.cons (.there (.here)) .nil))))) (RdS.ofOwn hw (.cons (.there (.here)) (.cons (.there (.here)) (.cons (.there (.here)) (.cons (.there (.here)) .nil)))) .here (RdC.ofBlk hw .here List.take_length) (fun b o h => by cases h; exact List.mem_singleton.2 rfl)) (dk2_ok 0 (by decide)) hrof) rfl (fun ⟨y11, rf2⟩ hx11 => ?_))
      refine st (g_move rfl) rfl ?_
      refine st (g_extract rfl rfl) rfl ?_
      refine st (g_extract rfl rfl) rfl ?_
      refine sq rfl (o_alloc (zs := [U64 0#64, .slice none 0 0]) zr_73 rfl (fun b39 => ?_))
      refine sq rfl (o_storeA (cs' := [U64 0#64, slv 0 y11]) sz_73 rfl rfl rfl (by simp [ldv]; exact ⟨rfl, rfl⟩) .here (Nat.le_of_ble_eq_true rfl) rfl ?_)
      refine st (g_assign rfl) rfl ?_
      refine done ?_
      refine th_n ?_
      refine seq ?_
      refine region ?_
      refine sq rfl (o_call Tryd.func50 rfl rfl rfl .nil (fun w hw hA => f50_spec 1 w) rfl (fun gg _ => ?_))
      refine st (g_build rfl (bu_73 18446744073709551615#64 _ rfl)) rfl ?_
      refine sq rfl (o_call Tryd.func45 rfl rfl rfl .nil (fun w hw hA => big_good (some ⟨gg, 0, none⟩) 24 nofun (Nat.le_refl _) w (RdC.ofBlk hw .here List.take_length) (Gl.ofOld (A := []) hG hw .nil)) rfl (fun t ht => ?_))
      refine st (g_move rfl) rfl ?_
      refine st (g_extract rfl rfl) rfl ?_
      refine st (g_extract rfl rfl) rfl ?_
      refine st (g_assign rfl) rfl ?_
      refine st (g_assign rfl) rfl ?_
      refine done ?_
      refine th_n ?_
      refine seq ?_
      refine region ?_
      refine st (g_move rfl) rfl ?_
      refine st (g_move rfl) rfl ?_
      refine sq rfl (o_call Tryd.func53 rfl rfl rfl (.cons (.there (.there (.there (.there (.there (.there (.there (.there (.there (.there (.there (.there (.there (.there (.there (.there (.there (.there (.there (.there (.there (.there (.there (.there (.there (.there (.here))))))))))))))))))))))))))) (.cons (.there (.there (.there (.there (.there (.there (.there (.there (.there (.there (.there (.there (.there (.there (.there (.there (.there (.there (.there (.there (.there (.there (.there (.there (.there (.there (.here))))))))))))))))))))))))))) (.cons (.there (.there (.there (.there (.there (.there (.there (.there (.there (.there (.there (.there (.there (.there (.there (.there (.there (.there (.there (.there (.there (.there (.there (.there (.there (.there (.here))))))))))))))))))))))))))) (.cons (.there (.there (.there (.there (.there (.there (.there (.there (.there (.there (.there (.there (.there (.there (.there (.there (.there (.there (.there (.there (.there (.there (.there (.there (.there (.there (.here))))))))))))))))))))))))))) .nil)))) (fun w hw hA => f53_as b k3 o3 r4 hx4.2 0 t.1 64 t.2 bigE bigE_length e4 w (by assumption) (RdS.ofVec hw (.cons (.there (.there (.there (.there (.there (.there (.there (.there (.there (.there (.there (.there (.there (.there (.there (.there (.there (.there (.there (.there (.there (.there (.there (.there (.there (.there (.here))))))))))))))))))))))))))) (.cons (.there (.there (.there (.there (.there (.there (.there (.there (.there (.there (.there (.there (.there (.there (.there (.there (.there (.there (.there (.there (.there (.there (.there (.there (.there (.there (.here))))))))))))))))))))))))))) (.cons (.there (.there (.there (.there (.there (.there (.there (.there (.there (.there (.there (.there (.there (.there (.there (.there (.there (.there (.there (.there (.there (.there (.there (.there (.there (.there (.here))))))))))))))))))))))))))) (.cons (.there (.there (.there (.there (.there (.there (.there (.there (.there (.there (.there (.there (.there (.there (.there (.there (.there (.there (.there (.there (.there (.there (.there (.there (.there (.there (.here))))))))))))))))))))))))))) .nil)))) .here)) rfl (fun r5 hr5 => ?_))
      refine done ?_
      refine th_n ?_
      refine seq ?_
      refine region ?_
      refine st (g_move rfl) rfl ?_
      refine sq rfl (o_call Tryd.func50 rfl rfl rfl .nil (fun w hw hA => f50_spec 1 w) rfl (fun gh _ => ?_))
      refine sq rfl (o_call Tryd.func39 rfl rfl rfl (.cons (.there (.here)) (.cons (.there (.here)) (.cons (.there (.here)) (.cons (.there (.here)) .nil)))) (fun w hw hA => f39_as b k4 r5 (some ⟨gh, 0, none⟩) 24 24 (List.replicate 24 1) rfl nofun (Nat.le_refl _) (save_max l5w l5n) w (by assumption) (Gl.ofOld (A := dkR b k4 r5) hG hw (.cons (.there (.here)) (.cons (.there (.here)) (.cons (.there (.here)) (.cons (.there (.here)) .nil))))) (RdS.ofOwn hw (.cons (.there (.here)) (.cons (.there (.here)) (.cons (.there (.here)) (.cons (.there (.here)) .nil)))) .here (RdC.ofBlk hw .here List.take_length) (fun b o h => by cases h; exact List.mem_singleton.2 rfl)) o4 hr5) rfl (fun ⟨y12, r6⟩ hx12 => ?_))
      refine st (g_move rfl) rfl ?_
      refine st (g_extract rfl rfl) rfl ?_
      refine st (g_extract rfl rfl) rfl ?_
      refine sq rfl (o_alloc (zs := [U64 0#64, .slice none 0 0]) zr_73 rfl (fun b43 => ?_))
      refine sq rfl (o_storeA (cs' := [U64 0#64, slv 0 y12]) sz_73 rfl rfl rfl (by simp [ldv]; exact ⟨rfl, rfl⟩) .here (Nat.le_of_ble_eq_true rfl) rfl ?_)
      refine st (g_assign rfl) rfl ?_
      refine done ?_
      refine th_n ?_
      refine seq ?_
      refine region ?_
      refine st (g_move rfl) rfl ?_
      refine st (g_move rfl) rfl ?_
      refine gt rfl ?_
      refine st (g_move rfl) rfl ?_
      refine gt rfl ?_
      refine st (g_slice (l := 0) (h := 12) (m := (s2 : Int)) (p' := some ⟨sg, 0, none⟩) (n' := 12) (c' := s2) el_23 rfl rfl rfl rfl (by simp) (by decide) (by decide) (by omega) (by omega) (adv_zero _ _ _) rfl (by omega)) rfl ?_
      refine gt rfl ?_
      refine st (g_str (l := exE.take 12) by_23 str_9 rfl (by rw [List.length_take, exE_length]; rfl) (fun w hw => by rw [List.map_take]; exact RdC.take ((RdA.vec (.there (.there (.there (.there (.there (.there (.there (.there (.there (.there (.there (.there (.there (.there (.there (.there (.there (.there (.there (.there (.there (.there (.there (.there (.there (.there (.there (.there (.here)))))))))))))))))))))))))))))) w hw) 12)) rfl ?_
      refine gt rfl ?_
      refine st (g_eqST rfl rfl (exE_head)) rfl ?_
      refine st (g_pickT rfl rfl) rfl ?_
      refine st (g_move rfl) rfl ?_
      refine gt rfl ?_
      refine st (g_move rfl) rfl ?_
      refine gt rfl ?_
      refine st (g_slice (l := 52) (h := 64) (m := (s2 : Int)) (p' := adv (some ⟨sg, 0, none⟩) s2 52 1) (n' := 12) (c' := s2 - 52) el_23 rfl rfl rfl rfl (by simp) (by decide) (by decide) (by omega) (by omega) rfl rfl (by omega)) rfl ?_
      refine gt rfl ?_
      refine st (g_str (l := exE.drop 52) by_23 str_9 rfl (by rw [List.length_drop, exE_length]) (fun w hw => by rw [List.map_drop]; exact RdC.adv (c := s2) (k := 52) (s := 1) ((RdA.vec (.there (.there (.there (.there (.there (.there (.there (.there (.there (.there (.there (.there (.there (.there (.there (.there (.there (.there (.there (.there (.there (.there (.there (.there (.there (.there (.there (.there (.here)))))))))))))))))))))))))))))) w hw) (fun he => absurd he (by omega)))) rfl ?_
      refine gt rfl ?_
      refine st (g_eqST rfl rfl (exE_tail)) rfl ?_
      refine st (g_pickT rfl rfl) rfl ?_
      refine st (g_assign rfl) rfl ?_
      refine done ?_
      refine th_n ?_
      refine seq ?_
      refine region ?_
      refine st (g_move rfl) rfl ?_
      refine gt rfl ?_
      refine sq rfl (o_callP Tryd.func54 rfl rfl rfl (fun w hw => f54_spec w (Gl.ofOld (A := []) hG hw .nil)) rfl ?_)
      refine st (g_pickT rfl rfl) rfl ?_
      refine st (g_move rfl) rfl ?_
      refine gt rfl ?_
      refine st (g_fieldAddr fo_73_0 rfl rfl) rfl ?_
      refine gt rfl ?_
      refine st (g_load (v := U64 (NB 2)) sc_34 rfl (Cell.own (.there (.there (.there (.there (.there (.there (.there (.there (.there (.there (.there (.there (.there (.there (.there (.there (.there (.there (.there (.there (.there (.there (.there (.there (.there (.there (.there (.there (.there (.there (.here))))))))))))))))))))))))))))))) rfl)) rfl ?_
      refine gt rfl ?_
      refine st (g_T rfl rfl rfl (by decide)) rfl ?_
      refine st (g_pickT rfl rfl) rfl ?_
      refine st (g_move rfl) rfl ?_
      refine gt rfl ?_
      refine st (g_move rfl) rfl ?_
      refine gt rfl ?_
      refine st (g_T rfl rfl rfl (rfl)) rfl ?_
      refine st (g_pickT rfl rfl) rfl ?_
      refine st (g_move rfl) rfl ?_
      refine gt rfl ?_
      refine st (g_fieldAddr fo_73_0 rfl rfl) rfl ?_
      refine gt rfl ?_
      refine st (g_load (v := U64 (NB 3)) sc_34 rfl (Cell.own (.there (.there (.there (.there (.there (.there (.there (.there (.there (.there (.there (.there (.there (.there (.there (.there (.there (.there (.there (.there (.there (.there (.there (.there (.there (.there (.there (.there (.there (.there (.there (.here)))))))))))))))))))))))))))))))) rfl)) rfl ?_
      refine gt rfl ?_
      refine st (g_T rfl rfl rfl (by decide)) rfl ?_
      refine st (g_pickT rfl rfl) rfl ?_
      refine st (g_move rfl) rfl ?_
      refine gt rfl ?_
      refine st (g_move rfl) rfl ?_
      refine gt rfl ?_
      refine st (g_T rfl rfl rfl (rfl)) rfl ?_
      refine st (g_pickT rfl rfl) rfl ?_
      refine st (g_move rfl) rfl ?_
      refine gt rfl ?_
      refine st (g_move rfl) rfl ?_
      refine st (g_pickT rfl rfl) rfl ?_
      refine st (g_move rfl) rfl ?_
      refine gt rfl ?_
      refine st (g_move rfl) rfl ?_
      refine gt rfl ?_
      refine st (g_T rfl rfl rfl (rfl)) rfl ?_
      refine st (g_pickT rfl rfl) rfl ?_
      refine st (g_move rfl) rfl ?_
      refine gt rfl ?_
      refine st (g_move rfl) rfl ?_
      refine gt rfl ?_
      refine st (g_T rfl rfl rfl (rfl)) rfl ?_
      refine st (g_pickT rfl rfl) rfl ?_
      refine st (g_move rfl) rfl ?_
      refine gt rfl ?_
      refine st (g_move rfl) rfl ?_
      refine gt rfl ?_
      refine st (g_T rfl rfl rfl (rfl)) rfl ?_
      refine st (g_pickT rfl rfl) rfl ?_
      refine st (g_move rfl) rfl ?_
      refine gt rfl ?_
      refine st (g_move rfl) rfl ?_
      refine gt rfl ?_
      refine st (g_T rfl rfl rfl (rfl)) rfl ?_
      refine st (g_pickT rfl rfl) rfl ?_
      refine st (g_move rfl) rfl ?_
      refine gt rfl ?_
      refine st (g_move rfl) rfl ?_
      refine st (g_pickT rfl rfl) rfl ?_
      refine st (g_move rfl) rfl ?_
      refine gt rfl ?_
      refine st (g_move rfl) rfl ?_
      refine gt rfl ?_
      refine st (g_T rfl rfl rfl (rfl)) rfl ?_
      refine st (g_pickT rfl rfl) rfl ?_
      refine st (g_move rfl) rfl ?_
      refine gt rfl ?_
      refine st (g_move rfl) rfl ?_
      refine gt rfl ?_
      refine st (g_T rfl rfl rfl (rfl)) rfl ?_
      refine st (g_pickT rfl rfl) rfl ?_
      refine st (g_move rfl) rfl ?_
      refine gt rfl ?_
      refine st (g_fieldAddr fo_73_0 rfl rfl) rfl ?_
      refine gt rfl ?_
      refine st (g_load (v := U64 258#64) sc_34 rfl (Cell.own (.there (.there (.there (.there (.there (.there (.there (.there (.there (.there (.there (.there (.there (.there (.there (.there (.there (.there (.there (.there (.there (.there (.there (.there (.there (.there (.there (.there (.there (.there (.there (.there (.here))))))))))))))))))))))))))))))))) rfl)) rfl ?_
      refine gt rfl ?_
      refine st (g_T rfl rfl rfl (by decide)) rfl ?_
      refine st (g_pickT rfl rfl) rfl ?_
      refine st (g_move rfl) rfl ?_
      refine gt rfl ?_
      refine st (g_move rfl) rfl ?_
      refine gt rfl ?_
      refine st (g_T rfl rfl rfl (rfl)) rfl ?_
      refine st (g_pickT rfl rfl) rfl ?_
      refine st (g_move rfl) rfl ?_
      refine gt rfl ?_
      refine st (g_move rfl) rfl ?_
      refine gt rfl ?_
      refine st (g_T rfl rfl rfl (rfl)) rfl ?_
      refine st (g_pickT rfl rfl) rfl ?_
      refine st (g_move rfl) rfl ?_
      refine gt rfl ?_
      refine st (g_move rfl) rfl ?_
      refine gt rfl ?_
      refine st (g_T rfl rfl rfl (rfl)) rfl ?_
      refine st (g_pickT rfl rfl) rfl ?_
      refine st (g_move rfl) rfl ?_
      refine gt rfl ?_
      refine st (g_move rfl) rfl ?_
      refine gt rfl ?_
      refine st (g_T rfl rfl rfl (rfl)) rfl ?_
      refine st (g_pickT rfl rfl) rfl ?_
      refine st (g_move rfl) rfl ?_
      refine gt rfl ?_
      refine st (g_move rfl) rfl ?_
      refine gt rfl ?_
      refine st (g_T rfl rfl rfl (rfl)) rfl ?_
      refine st (g_pickT rfl rfl) rfl ?_
      refine st (g_move rfl) rfl ?_
      refine gt rfl ?_
      refine st (g_move rfl) rfl ?_
      refine gt rfl ?_
      refine st (g_T rfl rfl rfl (rfl)) rfl ?_
      refine st (g_pickT rfl rfl) rfl ?_
      refine st (g_assign rfl) rfl ?_
      refine done ?_
      refine th_n ?_
      refine ret ?_
      exact ret1 rfl rfl rfl (fun w2 hw2 => ⟨rfl, hw2.clear⟩)
end Go.Proofs.YtokhediaibdkjaaDoor

/-! From L15 -/
/- The walk of DiaryNames. (printed by gen1.py) -/
namespace Go.Proofs.YtokhediaibdkjaaDoor
open Go.Pm Go.RowKit
set_option maxRecDepth 100000
def txt : List UInt8 := [49, 50, 51, 52, 53, 54, 55, 56, 57, 48, 49, 50, 51, 52, 53, 54, 55, 56, 57, 48, 97, 98, 99, 100]
theorem txt_read : (readW txt).2.2 = false := by decide +kernel
theorem recD_want : recD 43 5000 = [0, 0, 0, 0, 0, 0, 0, 43, 0, 0, 0, 0, 0, 0, 19, 136, 0, 0, 0, 0, 0, 0, 0, 0] := by decide +kernel
theorem resv_bad (k : Dk) (s t : Int) {time : Int} (h : time < 0 ∨ time > 253402300799999) : k.resv s t time = ((0, 0, 191), k, (s, t)) := by unfold Dk.resv; rw [if_pos h]
theorem resv_end (k : Dk) (t : Int) {time : Int} (h : ¬ (time < 0 ∨ time > 253402300799999)) : k.resv 9223372036854775807 t time = ((0, 0, 190), k, (9223372036854775807, t)) := by unfold Dk.resv; rw [if_neg h, if_pos rfl]
theorem dn_d : ∃ k1 k2 k6 : Dk, aDk.resv 41 0 5000 = ((42, 5000, 0), k1, (42, 5000)) ∧ k1.resv 42 5000 4000 = ((43, 5000, 0), k2, (43, 5000)) ∧ k1.ok ∧ k2.ok ∧ k2.open 7 = (0, 43, 5000) ∧
    (k2.load.n = 2#64 ∧ k2.load.d = recD 43 5000 ∧ k2.load.nx = 0 ∧ k2.load.w = 0) ∧ k2.save txt = (⟨NB 3, txt, 0, 0, 0⟩, k6) ∧ k6.ok ∧ k6.open 0 = (191, 0, 0) := by
  obtain ⟨k1, e1, g1, d1, r1, s1⟩ := told_yes dg_a rfl (by decide) (by show 0 < 100; decide) rfl (time := 5000) (by decide) (by decide) (by decide)
  obtain ⟨k2, e2, g2, d2, r2, s2⟩ := told_yes g1 d1 (by decide) (by rw [r1]; show 0 < 100 - 1; decide) s1 (time := 4000) (by decide) (by decide) (by decide)
  have o1 := Dk.resv_ok aOk 41 0 5000
  rw [e1] at o1
  have o2 := Dk.resv_ok (k := k1) o1 42 5000 4000
  have e2' : k1.resv 42 5000 4000 = ((43, 5000, 0), k2, (43, 5000)) := e2
  rw [e2'] at o2
  obtain ⟨k6, e6, g6, d6, _, _⟩ := save_yes (d' := txt) g2.gd d2 (by decide) rfl (by rw [r2, r1]; show 0 < 100 - 1 - 1; decide) s2
  have o6 := Dk.save_ok (k := k2) o2 txt
  rw [e6] at o6
  have hg7 : Dg 7 k2 2 43 5000 := ⟨g2.gd, fun h => absurd h (by decide), g2.s0, g2.s1, g2.t0, g2.t1⟩
  obtain ⟨l1, l2, l3, l4⟩ := inv_load d2 g2.gd.wt g2.gd.inv (by decide)
  obtain ⟨m1, m2, _, m4⟩ := inv_load d6 g6.wt g6.inv (by decide)
  refine ⟨k1, k2, k6, e1, e2, o1, o2, hg7.opens d2 (by decide) (by decide), ⟨l1, l2, l3, l4⟩, e6, o6, ?_⟩
  rw [Dk.open, if_neg (by decide), if_neg (by rw [m4]; decide), if_neg (by rw [m1]; decide), m2, if_neg (by rw [txt_read]; decide)]
theorem dn_o : ∃ k7 : Dk, aDk.resv 9223372036854775806 0 253402300799999 = ((9223372036854775807, 253402300799999, 0), k7, (9223372036854775807, 253402300799999)) ∧ k7.ok := by
  obtain ⟨k7, e7, _⟩ := told_yes (dg_new (first := 9223372036854775806) (by decide) (by decide) 100) rfl (by decide) (by show 0 < 100; decide) rfl (time := 253402300799999) (by decide) (by decide) (by decide)
  have e7' : aDk.resv 9223372036854775806 0 253402300799999 = ((9223372036854775807, 253402300799999, 0), k7, (9223372036854775807, 253402300799999)) := e7
  have o7 := Dk.resv_ok aOk 9223372036854775806 0 253402300799999
  rw [e7'] at o7
  exact ⟨k7, e7', o7⟩
theorem dn_f : ∃ k8 k9 : Dk, (newDk 2 1).resv 0 0 9 = ((1, 9, 0), k8, (1, 9)) ∧ k8.resv 1 9 10 = ((0, 0, 172), k9, (1, 9)) ∧ k8.ok := by
  obtain ⟨k8, e8, g8, d8, r8, s8⟩ := told_yes (dg_new (first := 0) (by decide) (by decide) 1) rfl (by decide) (by show 0 < 1; decide) rfl (time := 9) (by decide) (by decide) (by decide)
  have o8 := Dk.resv_ok (dk2_ok 1 (by decide)) 0 0 9
  have e8' : (newDk 2 1).resv 0 0 9 = ((1, 9, 0), k8, (1, 9)) := e8
  rw [e8'] at o8
  exact ⟨k8, _, e8', resv_no (by decide) (by decide) (save_D g8.gd d8 (by decide) (recD_length _ _) (by rw [r8]; rfl) (by rw [s8]; decide)) (show (172 : Int) ≠ 0 by decide), o8⟩


theorem f15_spec (w : World) (hG : Gl w []) : Calls Tryd.prog 15 [].toArray w (fun en w2 => en = .returned (.bool true) ∧ Sat w [] [] w2) := by
  obtain ⟨k1, k2, k6, z1, z2, o1, o2, zo7, l2, z6, o6, z60⟩ := dn_d
  obtain ⟨k7, z7, o7⟩ := dn_o
  obtain ⟨k8, k9, z8, z9, o8⟩ := dn_f
  refine enter (n := 280) Tryd.func15 rfl rfl rfl (Sat.refl w) ?_
  refine seq ?_
  refine region ?_
  refine st (g_assign rfl) rfl ?_
  refine done ?_
  refine th_n ?_
  refine seq ?_
  refine region ?_
  refine sq rfl (o_call Tryd.func28 rfl rfl rfl .nil (fun w hw hA => f28_spec 2 100 (by decide) (by decide) (by decide) w) rfl (fun ⟨b, r0⟩ hr0 => ?_))
  refine st (g_move rfl) rfl ?_
  refine st (g_extract rfl rfl) rfl ?_
  refine st (g_extract rfl rfl) rfl ?_
  refine st (g_assign rfl) rfl ?_
  refine st (g_assign rfl) rfl ?_
  refine done ?_
  refine th_n ?_
  refine seq ?_
  refine region ?_
  refine st (g_move rfl) rfl ?_
  refine sq rfl (o_call Tryd.func42 rfl rfl rfl (.cons .here (.cons .here (.cons .here (.cons .here .nil)))) (fun w hw hA => f42_ok b aDk aOk r0 hr0 41 (dg_a.opens rfl (by decide) (by decide)) w (by assumption) (Gl.ofOld (A := dkR b aDk r0) hG hw (.cons .here (.cons .here (.cons .here (.cons .here .nil)))))) rfl (fun x _ => ?_))
  refine st (g_move rfl) rfl ?_
  refine st (g_extract rfl rfl) rfl ?_
  refine st (g_extract rfl rfl) rfl ?_
  refine st (g_assign rfl) rfl ?_
  refine st (g_assign rfl) rfl ?_
  refine done ?_
  refine th_n ?_
  refine seq ?_
  refine region ?_
  refine st (g_move rfl) rfl ?_
  refine sq rfl (o_call Tryd.func31 rfl rfl rfl (.cons .here (.cons .here (.cons .here (.cons .here (.cons .here .nil))))) (fun w hw hA => f31_spec x b aDk aOk r0 hr0 41 0 5000 (by decide) (by decide) (by decide) (by decide) z1 w (by assumption) (Gl.ofOld (A := dyB x b 41 0 :: dkR b aDk r0) hG hw (.cons .here (.cons .here (.cons .here (.cons .here (.cons .here .nil))))))) rfl (fun r1 hr1 => ?_))
  refine done ?_
  refine th_n ?_
  refine seq ?_
  refine region ?_
  refine st (g_move rfl) rfl ?_
  refine sq rfl (o_call Tryd.func31 rfl rfl rfl (.cons .here (.cons .here (.cons .here (.cons .here (.cons .here .nil))))) (fun w hw hA => f31_spec x b k1 o1 r1 hr1 42 5000 4000 (by decide) (by decide) (by decide) (by decide) z2 w (by assumption) (Gl.ofOld (A := dyB x b 42 5000 :: dkR b k1 r1) hG hw (.cons .here (.cons .here (.cons .here (.cons .here (.cons .here .nil))))))) rfl (fun r2 hr2 => ?_))
  refine done ?_
  refine th_n ?_
  refine seq ?_
  refine region ?_
  refine st (g_move rfl) rfl ?_
  refine sq rfl (o_call Tryd.func31 rfl rfl rfl (.cons .here (.cons .here (.cons .here (.cons .here (.cons .here .nil))))) (fun w hw hA => f31_spec x b k2 o2 r2 hr2 43 5000 (-1) (by decide) (by decide) (by decide) (by decide) (resv_bad k2 43 5000 (by decide)) w (by assumption) (Gl.ofOld (A := dyB x b 43 5000 :: dkR b k2 r2) hG hw (.cons .here (.cons .here (.cons .here (.cons .here (.cons .here .nil))))))) rfl (fun r3 hr3 => ?_))
  refine st (g_move rfl) rfl ?_
  refine st (g_extract rfl rfl) rfl ?_
  refine st (g_extract rfl rfl) rfl ?_
  refine st (g_extract rfl rfl) rfl ?_
  refine st (g_assign rfl) rfl ?_
  refine st (g_assign rfl) rfl ?_
  refine st (g_assign rfl) rfl ?_
  refine done ?_
  refine th_n ?_
  refine seq ?_
  refine region ?_
  refine st (g_move rfl) rfl ?_
  refine sq rfl (o_call Tryd.func31 rfl rfl rfl (.cons .here (.cons .here (.cons .here (.cons .here (.cons .here .nil))))) (fun w hw hA => f31_spec x b k2 o2 r3 hr3 43 5000 253402300800000 (by decide) (by decide) (by decide) (by decide) (resv_bad k2 43 5000 (by decide)) w (by assumption) (Gl.ofOld (A := dyB x b 43 5000 :: dkR b k2 r3) hG hw (.cons .here (.cons .here (.cons .here (.cons .here (.cons .here .nil))))))) rfl (fun r4 hr4 => ?_))
  refine st (g_move rfl) rfl ?_
  refine st (g_extract rfl rfl) rfl ?_
  refine st (g_extract rfl rfl) rfl ?_
  refine st (g_extract rfl rfl) rfl ?_
  refine st (g_assign rfl) rfl ?_
  refine st (g_assign rfl) rfl ?_
  refine st (g_assign rfl) rfl ?_
  refine done ?_
  refine th_n ?_
  refine seq ?_
  refine region ?_
  refine st (g_move rfl) rfl ?_
  refine sq rfl (o_call Tryd.func42 rfl rfl rfl (.cons (.there (.here)) (.cons (.there (.here)) (.cons (.there (.here)) (.cons (.there (.here)) .nil)))) (fun w hw hA => f42_ok b k2 o2 r4 hr4 7 zo7 w (by assumption) (Gl.ofOld (A := dkR b k2 r4) hG hw (.cons (.there (.here)) (.cons (.there (.here)) (.cons (.there (.here)) (.cons (.there (.here)) .nil)))))) rfl (fun xx _ => ?_))
  refine st (g_move rfl) rfl ?_
  refine st (g_extract rfl rfl) rfl ?_
  refine st (g_extract rfl rfl) rfl ?_
  refine st (g_assign rfl) rfl ?_
  refine st (g_assign rfl) rfl ?_
  refine done ?_
  refine th_n ?_
  refine seq ?_
  refine region ?_
  refine st (g_move rfl) rfl ?_
  refine sq rfl (o_call Tryd.func40 rfl rfl rfl (.cons .here .nil) (fun w hw hA => f40_spec xx b 43 5000 w (by assumption)) rfl (fun _ _ => ?_))
  refine st (g_move rfl) rfl ?_
  refine st (g_extract rfl rfl) rfl ?_
  refine st (g_extract rfl rfl) rfl ?_
  refine st (g_assign rfl) rfl ?_
  refine st (g_assign rfl) rfl ?_
  refine done ?_
  refine th_n ?_
  refine seq ?_
  refine region ?_
  refine st (g_move rfl) rfl ?_
  refine sq rfl (o_call Tryd.func52 rfl rfl rfl (.cons (.there (.here)) (.cons (.there (.here)) (.cons (.there (.here)) (.cons (.there (.here)) .nil)))) (fun w hw hA => f52_aw b k2 r4 l2.1 l2.2.1 l2.2.2.1 l2.2.2.2 w (by assumption) (Gl.ofOld (A := dkR b k2 r4) hG hw (.cons (.there (.here)) (.cons (.there (.here)) (.cons (.there (.here)) (.cons (.there (.here)) .nil))))) o2 hr4) rfl (fun yv hyv => ?_))
  refine st (g_move rfl) rfl ?_
  refine st (g_extract rfl rfl) rfl ?_
  refine st (g_extract rfl rfl) rfl ?_
  refine st (g_extract rfl rfl) rfl ?_
  refine sq rfl (o_alloc (zs := [U64 0#64, .slice none 0 0]) zr_73 rfl (fun b15 => ?_))
  refine sq rfl (o_storeA (cs' := [U64 2#64, slv 24 yv]) sz_73 rfl rfl rfl (by simp []; exact ⟨rfl, rfl⟩) .here (Nat.le_of_ble_eq_true rfl) rfl ?_)
  refine st (g_assign rfl) rfl ?_
  refine st (g_assign rfl) rfl ?_
  refine done ?_
  refine th_n ?_
  refine seq ?_
  refine region ?_
  refine st (g_assign rfl) rfl ?_
  refine done ?_
  refine th_n ?_
  refine seq ?_
  refine region ?_
  refine sq rfl (o_call Tryd.func28 rfl rfl rfl .nil (fun w hw hA => f28_spec 2 100 (by decide) (by decide) (by decide) w) rfl (fun ⟨bo, p0⟩ hp0 => ?_))
  refine st (g_move rfl) rfl ?_
  refine st (g_extract rfl rfl) rfl ?_
  refine st (g_extract rfl rfl) rfl ?_
  refine st (g_assign rfl) rfl ?_
  refine st (g_assign rfl) rfl ?_
  refine done ?_
  refine th_n ?_
  refine seq ?_
  refine region ?_
  refine st (g_move rfl) rfl ?_
  refine sq rfl (o_call Tryd.func42 rfl rfl rfl (.cons .here (.cons .here (.cons .here (.cons .here .nil)))) (fun w hw hA => f42_ok bo aDk aOk p0 hp0 9223372036854775807 ((dg_new (first := 9223372036854775807) (by decide) (by decide) 100).opens rfl (by decide) (by decide)) w (by assumption) (Gl.ofOld (A := dkR bo aDk p0) hG hw (.cons .here (.cons .here (.cons .here (.cons .here .nil)))))) rfl (fun z _ => ?_))
  refine st (g_move rfl) rfl ?_
  refine st (g_extract rfl rfl) rfl ?_
  refine st (g_extract rfl rfl) rfl ?_
  refine st (g_assign rfl) rfl ?_
  refine st (g_assign rfl) rfl ?_
  refine done ?_
  refine th_n ?_
  refine seq ?_
  refine region ?_
  refine st (g_move rfl) rfl ?_
  refine sq rfl (o_call Tryd.func31 rfl rfl rfl (.cons .here (.cons .here (.cons .here (.cons .here (.cons .here .nil))))) (fun w hw hA => f31_spec z bo aDk aOk p0 hp0 9223372036854775807 0 0 (by decide) (by decide) (by decide) (by decide) (resv_end aDk 0 (by decide)) w (by assumption) (Gl.ofOld (A := dyB z bo 9223372036854775807 0 :: dkR bo aDk p0) hG hw (.cons .here (.cons .here (.cons .here (.cons .here (.cons .here .nil))))))) rfl (fun p1 hp1 => ?_))
  refine st (g_move rfl) rfl ?_
  refine st (g_extract rfl rfl) rfl ?_
  refine st (g_extract rfl rfl) rfl ?_
  refine st (g_extract rfl rfl) rfl ?_
  refine st (g_assign rfl) rfl ?_
  refine st (g_assign rfl) rfl ?_
  refine st (g_assign rfl) rfl ?_
  refine done ?_
  refine th_n ?_
  refine seq ?_
  refine region ?_
  refine st (g_move rfl) rfl ?_
  refine sq rfl (o_call Tryd.func42 rfl rfl rfl (.cons (.there (.here)) (.cons (.there (.here)) (.cons (.there (.here)) (.cons (.there (.here)) .nil)))) (fun w hw hA => f42_no bo aDk aOk p1 hp1 (-1) (show Dk.open aDk (-1) = (191, 0, 0) from by rw [Dk.open, if_pos (by decide)]) (by decide) w (by assumption) (Gl.ofOld (A := dkR bo aDk p1) hG hw (.cons (.there (.here)) (.cons (.there (.here)) (.cons (.there (.here)) (.cons (.there (.here)) .nil)))))) rfl (fun _ _ => ?_))
  refine st (g_move rfl) rfl ?_
  refine st (g_extract rfl rfl) rfl ?_
  refine st (g_extract rfl rfl) rfl ?_
  refine st (g_assign rfl) rfl ?_
  refine st (g_assign rfl) rfl ?_
  refine done ?_
  refine th_n ?_
  refine seq ?_
  refine region ?_
  refine sq rfl (o_callP Tryd.func42 rfl rfl rfl (fun w hw => f42_nil 0 (by decide) w) rfl ?_)
  refine st (g_move rfl) rfl ?_
  refine st (g_extract rfl rfl) rfl ?_
  refine st (g_extract rfl rfl) rfl ?_
  refine st (g_assign rfl) rfl ?_
  refine st (g_assign rfl) rfl ?_
  refine done ?_
  refine th_n ?_
  refine seq ?_
  refine region ?_
  refine st (g_move rfl) rfl ?_
  refine sq rfl (o_call Tryd.func42 rfl rfl rfl (.cons .here (.cons .here (.cons .here (.cons .here .nil)))) (fun w hw hA => f42_ok bo aDk aOk p1 hp1 9223372036854775806 ((dg_new (first := 9223372036854775806) (by decide) (by decide) 100).opens rfl (by decide) (by decide)) w (by assumption) (Gl.ofOld (A := dkR bo aDk p1) hG hw (.cons .here (.cons .here (.cons .here (.cons .here .nil)))))) rfl (fun xl _ => ?_))
  refine st (g_move rfl) rfl ?_
  refine st (g_extract rfl rfl) rfl ?_
  refine st (g_extract rfl rfl) rfl ?_
  refine st (g_assign rfl) rfl ?_
  refine st (g_assign rfl) rfl ?_
  refine done ?_
  refine th_n ?_
  refine seq ?_
  refine region ?_
  refine st (g_move rfl) rfl ?_
  refine sq rfl (o_call Tryd.func59 rfl rfl rfl (.cons .here (.cons .here (.cons .here (.cons .here (.cons .here .nil))))) (fun w hw hA => f59_tt xl bo aDk aOk p1 hp1 9223372036854775806 0 253402300799999 (by decide) (by decide) (by decide) (by decide) z7 w (by assumption) (Gl.ofOld (A := dyB xl bo 9223372036854775806 0 :: dkR bo aDk p1) hG hw (.cons .here (.cons .here (.cons .here (.cons .here (.cons .here .nil))))))) rfl (fun p2 hp2 => ?_))
  refine st (g_assign rfl) rfl ?_
  refine done ?_
  refine th_n ?_
  refine seq ?_
  refine region ?_
  refine st (g_move rfl) rfl ?_
  refine sq rfl (o_call Tryd.func31 rfl rfl rfl (.cons .here (.cons .here (.cons .here (.cons .here (.cons .here .nil))))) (fun w hw hA => f31_spec xl bo k7 o7 p2 hp2 9223372036854775807 253402300799999 0 (by decide) (by decide) (by decide) (by decide) (resv_end k7 253402300799999 (by decide)) w (by assumption) (Gl.ofOld (A := dyB xl bo 9223372036854775807 253402300799999 :: dkR bo k7 p2) hG hw (.cons .here (.cons .here (.cons .here (.cons .here (.cons .here .nil))))))) rfl (fun p3 hp3 => ?_))
  refine st (g_move rfl) rfl ?_
  refine st (g_extract rfl rfl) rfl ?_
  refine st (g_extract rfl rfl) rfl ?_
  refine st (g_extract rfl rfl) rfl ?_
  refine st (g_assign rfl) rfl ?_
  refine st (g_assign rfl) rfl ?_
  refine st (g_assign rfl) rfl ?_
  refine done ?_
  refine th_n ?_
  refine seq ?_
  refine region ?_
  refine sq rfl (o_call Tryd.func28 rfl rfl rfl .nil (fun w hw hA => f28_spec 2 1 (by decide) (by decide) (by decide) w) rfl (fun ⟨bf, s0⟩ hs0 => ?_))
  refine st (g_move rfl) rfl ?_
  refine st (g_extract rfl rfl) rfl ?_
  refine st (g_extract rfl rfl) rfl ?_
  refine st (g_assign rfl) rfl ?_
  refine st (g_assign rfl) rfl ?_
  refine done ?_
  refine th_n ?_
  refine seq ?_
  refine region ?_
  refine st (g_move rfl) rfl ?_
  refine sq rfl (o_call Tryd.func42 rfl rfl rfl (.cons .here (.cons .here (.cons .here (.cons .here .nil)))) (fun w hw hA => f42_ok bf (newDk 2 1) (dk2_ok 1 (by decide)) s0 hs0 0 ((dg_new (first := 0) (by decide) (by decide) 1).opens rfl (by decide) (by decide)) w (by assumption) (Gl.ofOld (A := dkR bf (newDk 2 1) s0) hG hw (.cons .here (.cons .here (.cons .here (.cons .here .nil)))))) rfl (fun xw _ => ?_))
  refine st (g_move rfl) rfl ?_
  refine st (g_extract rfl rfl) rfl ?_
  refine st (g_extract rfl rfl) rfl ?_
  refine st (g_assign rfl) rfl ?_
  refine st (g_assign rfl) rfl ?_
  refine done ?_
  refine th_n ?_
  refine seq ?_
  refine region ?_
  refine st (g_move rfl) rfl ?_
  refine sq rfl (o_call Tryd.func59 rfl rfl rfl (.cons .here (.cons .here (.cons .here (.cons .here (.cons .here .nil))))) (fun w hw hA => f59_tt xw bf (newDk 2 1) (dk2_ok 1 (by decide)) s0 hs0 0 0 9 (by decide) (by decide) (by decide) (by decide) z8 w (by assumption) (Gl.ofOld (A := dyB xw bf 0 0 :: dkR bf (newDk 2 1) s0) hG hw (.cons .here (.cons .here (.cons .here (.cons .here (.cons .here .nil))))))) rfl (fun s1 hs1 => ?_))
  refine st (g_assign rfl) rfl ?_
  refine done ?_
  refine th_n ?_
  refine seq ?_
  refine region ?_
  refine st (g_move rfl) rfl ?_
  refine sq rfl (o_call Tryd.func31 rfl rfl rfl (.cons .here (.cons .here (.cons .here (.cons .here (.cons .here .nil))))) (fun w hw hA => f31_spec xw bf k8 o8 s1 hs1 1 9 10 (by decide) (by decide) (by decide) (by decide) z9 w (by assumption) (Gl.ofOld (A := dyB xw bf 1 9 :: dkR bf k8 s1) hG hw (.cons .here (.cons .here (.cons .here (.cons .here (.cons .here .nil))))))) rfl (fun s2 hs2 => ?_))
  refine st (g_move rfl) rfl ?_
  refine st (g_extract rfl rfl) rfl ?_
  refine st (g_extract rfl rfl) rfl ?_
  refine st (g_extract rfl rfl) rfl ?_
  refine st (g_assign rfl) rfl ?_
  refine st (g_assign rfl) rfl ?_
  refine st (g_assign rfl) rfl ?_
  refine done ?_
  refine th_n ?_
  refine seq ?_
  refine region ?_
  refine st (g_move rfl) rfl ?_
  refine sq rfl (o_call Tryd.func40 rfl rfl rfl (.cons .here .nil) (fun w hw hA => f40_spec xw bf 1 9 w (by assumption)) rfl (fun _ _ => ?_))
  refine st (g_move rfl) rfl ?_
  refine st (g_extract rfl rfl) rfl ?_
  refine st (g_extract rfl rfl) rfl ?_
  refine st (g_assign rfl) rfl ?_
  refine st (g_assign rfl) rfl ?_
  refine done ?_
  refine th_n ?_
  refine seq ?_
  refine region ?_
  refine st (g_move rfl) rfl ?_
  refine sq rfl (o_buildSlice1 (vs := txt.map B8) un_23 zr_5 sz_5 (by decide) (by decide) rfl rfl rfl oneB8 rfl (fun b159 => ?_))
  refine sq rfl (o_mark un_23 un_5 rfl .here rfl ?_)
  refine sq rfl (o_call Tryd.func39 rfl rfl rfl (.cons (.there (.there (.there (.there (.there (.there (.there (.there (.there (.there (.there (.there (.there (.there (.here))))))))))))))) (.cons (.there (.there (.there (.there (.there (.there (.there (.there (.there (.there (.there (.there (.there (.there (.here))))))))))))))) (.cons (.there (.there (.there (.there (.there (.there (.there (.there (.there (.there (.there (.there (.there (.there (.here))))))))))))))) (.cons (.there (.there (.there (.there (.there (.there (.there (.there (.there (.there (.there (.there (.there (.there (.here))))))))))))))) .nil)))) (fun w hw hA => f39_as b k2 r4 (some ⟨b159, 0, none⟩) 24 24 txt rfl nofun (Nat.le_refl _) z6 w (by assumption) (Gl.ofOld (A := dkR b k2 r4) hG hw (.cons (.there (.there (.there (.there (.there (.there (.there (.there (.there (.there (.there (.there (.there (.there (.here))))))))))))))) (.cons (.there (.there (.there (.there (.there (.there (.there (.there (.there (.there (.there (.there (.there (.there (.here))))))))))))))) (.cons (.there (.there (.there (.there (.there (.there (.there (.there (.there (.there (.there (.there (.there (.there (.here))))))))))))))) (.cons (.there (.there (.there (.there (.there (.there (.there (.there (.there (.there (.there (.there (.there (.there (.here))))))))))))))) .nil))))) (RdS.ofOwn hw (.cons (.there (.there (.there (.there (.there (.there (.there (.there (.there (.there (.there (.there (.there (.there (.here))))))))))))))) (.cons (.there (.there (.there (.there (.there (.there (.there (.there (.there (.there (.there (.there (.there (.there (.here))))))))))))))) (.cons (.there (.there (.there (.there (.there (.there (.there (.there (.there (.there (.there (.there (.there (.there (.here))))))))))))))) (.cons (.there (.there (.there (.there (.there (.there (.there (.there (.there (.there (.there (.there (.there (.there (.here))))))))))))))) .nil)))) .here (RdA.ownF (cx := ⟨0, [], _, _⟩) .here (fun j v hj => by rw [Nat.zero_add]; exact hj) w hw) (fun b o h => by cases h; exact List.mem_singleton.2 rfl)) o2 hr4) rfl (fun ⟨y6, r6⟩ hx6 => ?_))
  refine done ?_
  refine th_n ?_
  refine seq ?_
  refine region ?_
  refine st (g_move rfl) rfl ?_
  refine sq rfl (o_call Tryd.func42 rfl rfl rfl (.cons (.there (.here)) (.cons (.there (.here)) (.cons (.there (.here)) (.cons (.there (.here)) .nil)))) (fun w hw hA => f42_no b k6 o6 r6 hx6.2 0 z60 (by decide) w (by assumption) (Gl.ofOld (A := dkR b k6 r6) hG hw (.cons (.there (.here)) (.cons (.there (.here)) (.cons (.there (.here)) (.cons (.there (.here)) .nil)))))) rfl (fun _ _ => ?_))
  refine st (g_move rfl) rfl ?_
  refine st (g_extract rfl rfl) rfl ?_
  refine st (g_extract rfl rfl) rfl ?_
  refine st (g_assign rfl) rfl ?_
  refine st (g_assign rfl) rfl ?_
  refine done ?_
  refine th_n ?_
  refine seq ?_
  refine region ?_
  refine st (g_assign rfl) rfl ?_
  refine done ?_
  refine th_n ?_
  refine seq ?_
  refine region ?_
  refine sq rfl (o_alloc (zs := [.pointer none, I64 0, I64 0]) zr_112 rfl (fun b49 => ?_))
  refine done ?_
  refine th_n ?_
  refine seq ?_
  refine region ?_
  refine st (g_move rfl) rfl ?_
  refine sq rfl (o_callP Tryd.func31 rfl rfl rfl (fun w hw => f31_nil 0 w) rfl ?_)
  refine st (g_move rfl) rfl ?_
  refine st (g_extract rfl rfl) rfl ?_
  refine st (g_extract rfl rfl) rfl ?_
  refine st (g_extract rfl rfl) rfl ?_
  refine st (g_assign rfl) rfl ?_
  refine st (g_assign rfl) rfl ?_
  refine st (g_assign rfl) rfl ?_
  refine done ?_
  refine th_n ?_
  refine seq ?_
  refine region ?_
  refine sq rfl (o_call Tryd.func31 rfl rfl rfl (.cons .here .nil) (fun w hw hA => f31_zero b49 [I64 0, I64 0] 0 w (by assumption)) rfl (fun _ _ => ?_))
  refine st (g_move rfl) rfl ?_
  refine st (g_extract rfl rfl) rfl ?_
  refine st (g_extract rfl rfl) rfl ?_
  refine st (g_extract rfl rfl) rfl ?_
  refine st (g_assign rfl) rfl ?_
  refine st (g_assign rfl) rfl ?_
  refine st (g_assign rfl) rfl ?_
  refine done ?_
  refine th_n ?_
  refine seq ?_
  refine region ?_
  refine st (g_move rfl) rfl ?_
  refine sq rfl (o_callP Tryd.func40 rfl rfl rfl (fun w hw => f40_nil w) rfl ?_)
  refine st (g_move rfl) rfl ?_
  refine st (g_extract rfl rfl) rfl ?_
  refine st (g_extract rfl rfl) rfl ?_
  refine st (g_assign rfl) rfl ?_
  refine st (g_assign rfl) rfl ?_
  refine done ?_
  refine th_n ?_
  refine seq ?_
  refine region ?_
  refine st (g_move rfl) rfl ?_
  refine gt rfl ?_
  refine sq rfl (o_callP Tryd.func41 rfl rfl rfl (fun w hw => f41_spec w (Gl.ofOld (A := []) hG hw .nil)) rfl ?_)
  refine st (g_pickT rfl rfl) rfl ?_
  refine st (g_move rfl) rfl ?_
  refine gt rfl ?_
  refine st (g_move rfl) rfl ?_
  refine gt rfl ?_
  refine st (g_T rfl rfl rfl (rfl)) rfl ?_
  refine st (g_pickT rfl rfl) rfl ?_
  refine st (g_move rfl) rfl ?_
  refine gt rfl ?_
  refine st (g_move rfl) rfl ?_
  refine gt rfl ?_
  refine st (g_T rfl rfl rfl (rfl)) rfl ?_
  refine st (g_pickT rfl rfl) rfl ?_
  refine st (g_move rfl) rfl ?_
  refine gt rfl ?_
  refine st (g_move rfl) rfl ?_
  refine gt rfl ?_
  refine st (g_T rfl rfl rfl (rfl)) rfl ?_
  refine st (g_pickT rfl rfl) rfl ?_
  refine st (g_move rfl) rfl ?_
  refine gt rfl ?_
  refine st (g_move rfl) rfl ?_
  refine gt rfl ?_
  refine st (g_T rfl rfl rfl (rfl)) rfl ?_
  refine st (g_pickT rfl rfl) rfl ?_
  refine st (g_move rfl) rfl ?_
  refine gt rfl ?_
  refine st (g_move rfl) rfl ?_
  refine gt rfl ?_
  refine st (g_T rfl rfl rfl (rfl)) rfl ?_
  refine st (g_pickT rfl rfl) rfl ?_
  refine st (g_move rfl) rfl ?_
  refine gt rfl ?_
  refine st (g_move rfl) rfl ?_
  refine gt rfl ?_
  refine st (g_T rfl rfl rfl (rfl)) rfl ?_
  refine st (g_pickT rfl rfl) rfl ?_
  refine st (g_move rfl) rfl ?_
  refine gt rfl ?_
  refine st (g_fieldAddr fo_73_0 rfl rfl) rfl ?_
  refine gt rfl ?_
  refine st (g_load (v := U64 2#64) sc_34 rfl (Cell.own (.there (.there (.there (.there (.there (.there (.there (.there (.there (.there (.there (.there (.there (.there (.there (.there (.there (.there (.here))))))))))))))))))) rfl)) rfl ?_
  refine gt rfl ?_
  refine st (g_T rfl rfl rfl (rfl)) rfl ?_
  refine st (g_pickT rfl rfl) rfl ?_
  refine st (g_move rfl) rfl ?_
  refine gt rfl ?_
  refine st (g_fieldAddr fo_73_1 rfl rfl) rfl ?_
  refine gt rfl ?_
  refine st (g_load (v := slv 24 yv) sc_23 rfl (Cell.own (.there (.there (.there (.there (.there (.there (.there (.there (.there (.there (.there (.there (.there (.there (.there (.there (.there (.there (.here))))))))))))))))))) rfl)) rfl ?_
  refine gt rfl ?_
  refine st (g_str (l := recD 43 5000) by_23 str_9 rfl rfl (RdA.vec (.there (.there (.there (.there (.there (.there (.there (.there (.there (.there (.there (.there (.there (.there (.there (.there (.there (.there (.there (.here)))))))))))))))))))))) rfl ?_
  refine gt rfl ?_
  refine st (g_move rfl) rfl ?_
  refine gt rfl ?_
  refine st (g_eqST rfl rfl (recD_want)) rfl ?_
  refine st (g_pickT rfl rfl) rfl ?_
  refine st (g_move rfl) rfl ?_
  refine gt rfl ?_
  refine st (g_move rfl) rfl ?_
  refine gt rfl ?_
  refine st (g_T rfl rfl rfl (rfl)) rfl ?_
  refine st (g_pickT rfl rfl) rfl ?_
  refine st (g_move rfl) rfl ?_
  refine gt rfl ?_
  refine st (g_move rfl) rfl ?_
  refine gt rfl ?_
  refine st (g_T rfl rfl rfl (rfl)) rfl ?_
  refine st (g_pickT rfl rfl) rfl ?_
  refine st (g_move rfl) rfl ?_
  refine gt rfl ?_
  refine st (g_move rfl) rfl ?_
  refine gt rfl ?_
  refine st (g_T rfl rfl rfl (rfl)) rfl ?_
  refine st (g_pickT rfl rfl) rfl ?_
  refine st (g_move rfl) rfl ?_
  refine gt rfl ?_
  refine st (g_move rfl) rfl ?_
  refine gt rfl ?_
  refine st (g_T rfl rfl rfl (rfl)) rfl ?_
  refine st (g_pickT rfl rfl) rfl ?_
  refine st (g_move rfl) rfl ?_
  refine gt rfl ?_
  refine st (g_move rfl) rfl ?_
  refine st (g_pickT rfl rfl) rfl ?_
  refine st (g_move rfl) rfl ?_
  refine gt rfl ?_
  refine st (g_move rfl) rfl ?_
  refine gt rfl ?_
  refine st (g_T rfl rfl rfl (rfl)) rfl ?_
  refine st (g_pickT rfl rfl) rfl ?_
  refine st (g_move rfl) rfl ?_
  refine gt rfl ?_
  refine st (g_move rfl) rfl ?_
  refine st (g_pickT rfl rfl) rfl ?_
  refine st (g_move rfl) rfl ?_
  refine gt rfl ?_
  refine st (g_move rfl) rfl ?_
  refine gt rfl ?_
  refine st (g_T rfl rfl rfl (rfl)) rfl ?_
  refine st (g_pickT rfl rfl) rfl ?_
  refine st (g_move rfl) rfl ?_
  refine gt rfl ?_
  refine st (g_move rfl) rfl ?_
  refine gt rfl ?_
  refine st (g_T rfl rfl rfl (rfl)) rfl ?_
  refine st (g_pickT rfl rfl) rfl ?_
  refine st (g_move rfl) rfl ?_
  refine gt rfl ?_
  refine st (g_move rfl) rfl ?_
  refine gt rfl ?_
  refine st (g_T rfl rfl rfl (rfl)) rfl ?_
  refine st (g_pickT rfl rfl) rfl ?_
  refine st (g_move rfl) rfl ?_
  refine gt rfl ?_
  refine st (g_move rfl) rfl ?_
  refine gt rfl ?_
  refine st (g_T rfl rfl rfl (rfl)) rfl ?_
  refine st (g_pickT rfl rfl) rfl ?_
  refine st (g_move rfl) rfl ?_
  refine gt rfl ?_
  refine st (g_move rfl) rfl ?_
  refine gt rfl ?_
  refine st (g_T rfl rfl rfl (rfl)) rfl ?_
  refine st (g_pickT rfl rfl) rfl ?_
  refine st (g_move rfl) rfl ?_
  refine gt rfl ?_
  refine st (g_move rfl) rfl ?_
  refine gt rfl ?_
  refine st (g_T rfl rfl rfl (rfl)) rfl ?_
  refine st (g_pickT rfl rfl) rfl ?_
  refine st (g_move rfl) rfl ?_
  refine gt rfl ?_
  refine st (g_move rfl) rfl ?_
  refine gt rfl ?_
  refine st (g_T rfl rfl rfl (rfl)) rfl ?_
  refine st (g_pickT rfl rfl) rfl ?_
  refine st (g_move rfl) rfl ?_
  refine gt rfl ?_
  refine st (g_move rfl) rfl ?_
  refine gt rfl ?_
  refine st (g_T rfl rfl rfl (rfl)) rfl ?_
  refine st (g_pickT rfl rfl) rfl ?_
  refine st (g_assign rfl) rfl ?_
  refine done ?_
  refine th_n ?_
  refine ret ?_
  exact ret1 rfl rfl rfl (fun w2 hw2 => ⟨rfl, hw2.clear⟩)
end Go.Proofs.YtokhediaibdkjaaDoor

/-! From C15 -/
/- The law DiaryNames: its row and its card. (printed by genC.py) -/
namespace Go.Proofs.YtokhediaibdkjaaDoor
set_option maxRecDepth 100000
open Go.Pm Go.ChangeShapes Go.WideShapes Go.ChangeAt Go.RowKit

theorem diaryNames_contract (H : Type) (enc : TypeId × Value → H) (W : World) (base : Nat) (args : Array Value) (ds gs : List (DataW H)) (before : List MemPlace)
    (hval : ∀ (j : Nat) t v, Tryd.f15.params[j]? = some t → args[j]? = some v → Value.okWide Tryd.prog W .any base t v)
    (hW : DataW.Whole enc Tryd.prog Tryd.f15.params.toList Rows.diaryNamesSpec.vars false W args.toList ds gs before) (hL : laidMetH Tryd.prog Rows.diaryNamesRow.laid W) :
    Calls Tryd.prog 15 args W fun e W' => ∃ v, e = .returned v ∧ Rows.diaryNamesSpec.post enc Tryd.prog Tryd.f15 false true false false W args v W' := by
  have hG : Gl W [] := gl_of_laid (.tail _ (.head _)) (.tail _ (.tail _ (.head _))) (show laidMet Tryd.prog Rows.diaryNamesRow.laid W from hL)
  have hW' := hW
  obtain ⟨p, q, hA0, hV, rfl, hfz, hnd⟩ := hW
  have hAll : DataW.TrodAll enc Tryd.prog W 0 (fun _ => true) true Tryd.f15.params.toList args.toList ds p := hA0
  rw [Tryd.params15] at hAll hval
  obtain ⟨rfl, rfl⟩ := trodVars_none hV
  obtain ⟨hargs0, rfl, rfl⟩ := trodAll_nil hAll
  obtain rfl : args = #[] := by cases args; simp_all
  clear hA0
  refine Calls.mono (R := fun e W' => e = .returned (.bool true) ∧ Sat W [] [] W') ?_ ?_
  · exact f15_spec W hG
  · rintro e W' ⟨rfl, hs⟩
    exact ⟨_, rfl, law_post hW' (by kernel_rfl) rfl ⟨rfl, rfl, rfl⟩ (by rw [Tryd.params15]; decide +kernel) hs.below⟩

noncomputable def diaryNames_world (os : Os) : World :=
  { World.holding Tryd.prog os ⟨#[], #[], []⟩ with heap := ((((World.holding Tryd.prog os ⟨#[], #[], []⟩).heap.modify 0 (layTab ((first224 ++ first256).map U32))).modify 1 (layTab (cubesL.map U32))).modify 2 (layTab (Go.Pinned.utf8FirstZ.map fun n : Nat => Value.int .u8 (n : Int)))).modify 3 (layTab (([128, 191, 160, 191, 128, 159, 144, 191, 128, 143] ++ List.replicate 22 0).map fun n : Nat => Value.int .u8 (n : Int))) }
theorem diaryNames_laid (os : Os) : laidMet Tryd.prog Rows.diaryNamesRow.laid ((diaryNames_world os).forCall (fun _ _ => 0) ⟨#[], #[], []⟩).memory :=
  laidMet_of_run' 8 (by kernel_rfl) (by kernel_rfl)
theorem diaryNames_reads (os : Os) {H : Type} (enc : TypeId × Value → H) : ∃ places, DataW.whole enc Tryd.prog ((diaryNames_world os).forCall (fun _ _ => 0) ⟨#[], #[], []⟩).memory Tryd.f15.params.toList Rows.diaryNamesSpec.vars false (#[] : Array Value).toList 8 = some ([], [], places) :=
  ⟨[], by kernel_rfl⟩

theorem diaryNames_lifted (os : Os) (started : os.Started) (H : Type) (enc : TypeId × Value → H) (F : Stop.Interp) :
    ReturnsInHanded {} Tryd.checked os 15 .any ((OpenSpec.ofChange Rows.diaryNamesSpec).preRow enc Tryd.prog Tryd.f15 Rows.diaryNamesRow.domain false Rows.diaryNamesRow.laid) (((OpenSpec.ofChange Rows.diaryNamesSpec).at F).post enc Tryd.prog Tryd.f15 false true false false) := by
  obtain ⟨places, hx⟩ := diaryNames_reads os enc
  refine returnsInHanded_of_row (C := Tryd.checked) (s := OpenSpec.ofChange Rows.diaryNamesSpec) own started (by kernel_rfl) Tryd.func15
    (witness_row_at (enc := enc) (C := Tryd.checked) false (diaryNames_world os) #[] rfl (by kernel_rfl) (by kernel_rfl) (by kernel_rfl)
      (OpenSpec.preRow_of_cond 8 hx (by kernel_rfl) (fun k hk => by cases hk) (by kernel_rfl) (diaryNames_laid os))) ?_
  intro W base args ds gs before hval hW _ _ _ hL _ _
  exact diaryNames_contract H enc W base args ds gs before hval hW hL

theorem diaryNames_said : Rows.DiaryNamesSaid :=
  OpenClaim.holds_of_cond 15 Tryd.f15 rfl rfl rfl rfl rfl rfl rfl ⟨rfl, rfl, rfl, rfl, rfl⟩ rfl rfl rfl rfl rfl (by kernel_rfl) Tryd.func15 (by kernel_rfl)
    (of_decide_eq_true (by kernel_rfl)) (by unfold Func.isWrapper; first | (rw [if_pos (by decide +kernel)]; kernel_rfl) | (rw [if_neg (by decide +kernel)]; exact ⟨rfl, rfl⟩))
    (fun os started H enc _ F => by rw [OpenClaim.pre_eq_preRow]; exact diaryNames_lifted os started H enc F)

theorem diaryNames_plain (f : FuncId) (fn : Func) (hf : Tryd.pinned.checked.prog.funcNamed "postmark/postmarklaw19.DiaryNames" = some f) (hfn : Tryd.pinned.checked.prog.funcs[f]? = some fn) :
    false = Tryd.pinned.checked.prog.looks [] ∧ ∀ (j : Nat) t, fn.params[j]? = some t → Tryd.pinned.checked.prog.wantsStandIn t = false := by
  obtain rfl : f = 15 := Option.some.inj ((show Tryd.prog.funcNamed "postmark/postmarklaw19.DiaryNames" = some 15 by kernel_rfl).symm.trans hf) |>.symm
  obtain rfl : fn = Tryd.f15 := (Option.some.inj (Tryd.func15.symm.trans hfn)).symm
  refine ⟨by kernel_rfl, fun j t ht => ?_⟩
  rw [Tryd.params15] at ht
  simp at ht

/-- The card. -/
theorem diaryNames_card : Rows.DiaryNamesCardSaid :=
  Claim7.holds_tied_plain_at .later [] _ _ _ _ diaryNames_said (fun _ h => by cases h) (by kernel_rfl) (fun _ h => by cases h) diaryNames_row_tie rfl ⟨rfl, rfl⟩ (by kernel_rfl) rfl diaryNames_plain (by kernel_rfl)
end Go.Proofs.YtokhediaibdkjaaDoor
