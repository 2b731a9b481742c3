/- The proof's texts, merged: C0 C1 R6 C2 ND CO NE L14 C14. -/
import Derived.Test.YtokhediaibdkjaaDoorMB
import Derived.Test.YtokhediaibdkjaaDoorCards
import Derived.Test.YtokhediaibdkjaaDoorTie
import Derived.WalkKit
import Derived.ProofKit
import Derived.OpenShut
import Derived.Deep.DeepHandedRow
import Derived.Lib.LaidTab
import Derived.Carry
import Derived.Test.YtokhediaibdkjaaDoorMD
import Derived.Test.YtokhediaibdkjaaDoorMH
/-! From C0 -/
/- What all the rows' proofs share: the tables from the row's list; an argument of bytes, opened; the post. -/
namespace Go.Proofs.YtokhediaibdkjaaDoor
set_option maxRecDepth 100000
open Go.Pm Go.ChangeShapes Go.WideShapes Go.ChangeAt Go.RowKit

theorem own : ownKnob Tryd.prog.godebug = none := by kernel_rfl
theorem laidOut : laidOutB Tryd.prog = true := by kernel_rfl
theorem gCubes : Tryd.prog.globalNamed "postmark/sha256.cubes" = some 1 := by kernel_rfl
theorem gFirst : Tryd.prog.globalNamed "postmark/sha256.first" = some 0 := by kernel_rfl
theorem gCubesT : (Tryd.prog.globals[1]?).map (·.type) = some 118 := by kernel_rfl
theorem gFirstT : (Tryd.prog.globals[0]?).map (·.type) = some 122 := by kernel_rfl
theorem un_118 : Tryd.prog.underlying 118 = some (.array 64 38) := by kernel_rfl
theorem un_122 : Tryd.prog.underlying 122 = some (.array 2 39) := by kernel_rfl
theorem un_38 : Tryd.prog.underlying 38 = some (.int .u32) := by kernel_rfl
theorem un39 : Tryd.prog.underlying 39 = some (.array 8 38) := by kernel_rfl
theorem un_86 : Tryd.prog.underlying 86 = some (.int .u16) := by kernel_rfl
theorem un_4 : Tryd.prog.underlying 4 = some .bool := by kernel_rfl
theorem co_38 : Tryd.prog.cellsOf 38 = 1 := by kernel_rfl
theorem co_118 : Tryd.prog.cellsOf 118 = 64 := by kernel_rfl
theorem co_39 : Tryd.prog.cellsOf 39 = 8 := by kernel_rfl
theorem co_122 : Tryd.prog.cellsOf 122 = 16 := by kernel_rfl
theorem co5 : Tryd.prog.cellsOf 5 = 1 := by kernel_rfl

/-- A row in which a table is laid. -/
def layTab (cs : List Value) : Obj → Obj
  | .cells _ t fr => .cells cs.toArray t fr
  | o => o
theorem laidVars_mem {P : Program} {W : World} : ∀ {l : List (String × DataW Unit)} {ps : List MemPlace}, DataW.LaidVars P W l ps → ∀ {n : String} {d : DataW Unit}, (n, d) ∈ l →
    ∃ g t cs fuel p, P.globalNamed n = some g ∧ (P.globals[g]?).map (·.type) = some t ∧ W.var? P n = some cs ∧ DataW.trod (fun _ => ()) P W 0 (fun _ => true) false fuel t cs.toList = some (d, p)
  | [], _, _, _, _, hm => by cases hm
  | (n', d') :: r, ps, h, n, d, hm => by
    obtain ⟨g, t, cs, fuel, p, q, h1, h2, h3, h4, h5, _⟩ := h
    rcases List.mem_cons.1 hm with he | hm
    · cases he; exact ⟨g, t, cs, fuel, p, h1, h2, h3, h4⟩
    · exact laidVars_mem h5 hm

theorem rd_var {W : World} {n : String} {g : Nat} {cs : Array Value} (hg : Tryd.prog.globalNamed n = some g) (h : W.var? Tryd.prog n = some cs) : RdC W (some ⟨g, 0, none⟩) cs.toList := fun j u hj => by
  refine ⟨g, 0, rfl, ?_⟩
  have := World.var?_cell hg h j
  rw [Nat.zero_add, this]
  simpa using hj

/-- The tables, from the row's list. -/
theorem gl_of_laid {laid : List (String × DataW Unit)} (h1 : ("postmark/sha256.cubes", Rows.laid_postmark_sha256_cubes) ∈ laid) (h2 : ("postmark/sha256.first", Rows.laid_postmark_sha256_first) ∈ laid) {W : World} (h : laidMet Tryd.prog laid W) : Gl W [] := by
  obtain ⟨ps, hv, _⟩ := h
  obtain ⟨g, t, cs, fuel, p, hg, ht, hvar, hd⟩ := laidVars_mem hv h1
  obtain ⟨g', t', cs', fuel', p', hg', ht', hvar', hd'⟩ := laidVars_mem hv h2
  cases Option.some.inj (gCubes.symm.trans hg)
  cases Option.some.inj (gFirst.symm.trans hg')
  cases Option.some.inj (gCubesT.symm.trans ht)
  cases Option.some.inj (gFirstT.symm.trans ht')
  have e1 : cs.toList = cubesL.map U32 := by
    have := Lib.cells_of_tab (zs := cubesL.map fun x => (x.toNat : Int)) un_118 un_38 co_38 co_118 hd
    rw [this]; simp
  obtain ⟨xs, m, rfl, hx, hlen, hxl, hel⟩ := DataW.trod_array un_122 hd'
  rw [co_122] at hlen
  have hxs : xs.map (·.1) = [Lib.tabData .u32 (first224.map fun x => (x.toNat : Int)), Lib.tabData .u32 (first256.map fun x => (x.toNat : Int))] := by
    have := congrArg Prod.fst hx
    exact (DataW.agg.inj (show Rows.laid_postmark_sha256_first = DataW.agg (xs.map (·.1)) from this)).symm
  have hat : ∀ i (zs : List (BitVec 32)), i < 2 → (xs.map (·.1))[i]? = some (Lib.tabData .u32 (zs.map fun x => (x.toNat : Int))) → (cs'.toList.drop (i * 8)).take 8 = zs.map U32 := fun i zs hi hz => by
    have h3 := hel i hi
    rw [co_39] at h3
    rw [List.getElem?_map] at hz
    cases hxi : xs[i]? with
    | none => simp [hxi] at hz
    | some y =>
      rw [hxi] at h3 hz
      simp only [Option.map_some, Option.some.injEq] at hz
      obtain ⟨y1, y2⟩ := y
      subst hz
      have := Lib.cells_of_tab (zs := zs.map fun x => (x.toNat : Int)) un39 un_38 co_38 co_39 h3
      rw [this]; simp
  have e2 := hat 0 first224 (by decide) (by rw [hxs]; rfl)
  have e3 := hat 1 first256 (by decide) (by rw [hxs]; rfl)
  have e4 : cs'.toList = (first224 ++ first256).map U32 := by
    rw [List.map_append, ← e2, ← e3]
    simp only [Nat.zero_mul, List.drop_zero, Nat.one_mul]
    have : (cs'.toList.drop 8).take 8 = cs'.toList.drop 8 := List.take_of_length_le (by simp; simp at hlen; omega)
    rw [this, List.take_append_drop]
  refine ⟨RdC.s ?_, RdC.s ?_⟩
  · rw [← e4]; exact rd_var gFirst hvar'
  · rw [← e1]; exact rd_var gCubes hvar

/-- An argument of bytes. -/
theorem open_bytes {H : Type} {enc : TypeId × Value → H} {W : World} {base : Nat} {v : Value} {d : DataW H} {p : List MemPlace} (hval : Value.okWide Tryd.prog W .any base 23 v) (h : DataW.Trod enc Tryd.prog W 0 (fun _ => true) true 23 v d p) :
    ∃ (q : Option Addr) (n c : Nat) (l : List UInt8), v = .slice q n c ∧ l.length = n ∧ (q = none → c = 0) ∧ n ≤ c ∧ c ≤ maxLen ∧ RdC W q (l.map B8) := by
  obtain ⟨a, n, c, rfl⟩ := okWide_slice un_23 hval
  obtain ⟨fuel, hf⟩ := h
  rcases open_ints un_23 un_5 co5 hf with ⟨hcs, hx⟩ | ⟨a', len, cap, zs, hcs, _, hl, hm, hz, hx, hcell, hwz⟩
  · simp [Value.cells] at hcs
    obtain ⟨rfl, rfl, rfl⟩ := hcs
    exact ⟨none, 0, 0, [], rfl, rfl, fun _ => rfl, Nat.le_refl _, Nat.zero_le _, RdC.nil⟩
  · simp [Value.cells] at hcs
    obtain ⟨rfl, rfl, rfl⟩ := hcs
    simp only [if_true] at hz
    refine ⟨some a', _, _, (zs.take n).map fun z => UInt8.ofNat z.toNat, rfl, by simp; omega, by simp, hl, hm, ?_⟩
    intro j u hj
    simp only [List.map_map, List.getElem?_map, Option.map_eq_some_iff] at hj
    obtain ⟨z, hzj, rfl⟩ := hj
    rw [List.getElem?_take] at hzj
    split at hzj
    · rename_i hjl
      have hjz : j < zs.length := by omega
      have hc := hcell j hjz
      have hzv : zs.getD j 0 = z := by simp [hzj]
      rw [hzv] at hc
      have hw := hwz z (List.mem_of_getElem? hzj)
      have hb : 0 ≤ z ∧ z < 256 := by
        simp [Lit.wf, IntKind.min, IntKind.max, IntKind.signed, IntKind.bits] at hw
        omega
      obtain ⟨b, o, sp⟩ := a'
      have hspot : sp = none := by
        have h0 := World.cell?_spot (hcell 0 (by omega))
        simpa [Addr.add] using h0
      subst hspot
      refine ⟨b, o, rfl, ?_⟩
      rw [add_at] at hc
      rw [hc]
      have : ((UInt8.ofNat z.toNat).toNat : Int) = z := by
        rw [UInt8.toNat_ofNat']
        omega
      exact congrArg (fun t : Int => some (Value.int .u8 t)) this.symm
    · cases hzj

theorem trodAll_below {H : Type} {enc : TypeId × Value → H} {W W' : World} (hb : Below W.heap.size W W') : ∀ {ts : List TypeId} {vs : List Value} {ds : List (DataW H)} {ps : List MemPlace}, (∀ t ∈ ts, Tryd.prog.readableRec t = true ∧ t < Tryd.prog.types.size) →
    DataW.TrodAll enc Tryd.prog W 0 (fun _ => true) true ts vs ds ps → (∀ x ∈ ps, x.block < W.heap.size) → DataW.TrodAll enc Tryd.prog W' 0 (fun b => decide (b < W.heap.size)) true ts vs ds ps
  | [], _, _, _, _, h, _ => by
    obtain ⟨rfl, rfl, rfl⟩ := trodAll_nil h
    exact trodAll_mk0
  | t :: ts, _, _, _, ht, h, hlt => by
    obtain ⟨v, vs, d, ds, p, q, rfl, rfl, rfl, h1, h2⟩ := trodAll_cons h
    exact trodAll_cons_mk (Below.trod laidOut (ht t (by simp)).1 (ht t (by simp)).2 h1 hb (fun x hx => hlt x (by simp [hx]))) (trodAll_below hb (fun u hu => ht u (by simp [hu])) h2 (fun x hx => hlt x (by simp [hx])))

/-- The post of a law: it answers true, and the input reads as it did. -/
theorem law_post {H : Type} {enc : TypeId × Value → H} {f : Func} {s : ChangeSpec} {W W' : World} {args : Array Value} {ds gs : List (DataW H)} {before : List MemPlace} (hW : DataW.Whole enc Tryd.prog f.params.toList s.vars false W args.toList ds gs before)
    (hrt : f.resultTypes = #[4]) (hv : s.vars = []) (hfn : (s.fn H (ds ++ gs)).results = [.lit (.bool true)] ∧ (s.fn H (ds ++ gs)).args = ds ∧ (s.fn H (ds ++ gs)).vars = []) (hread : ∀ t ∈ f.params.toList, Tryd.prog.readableRec t = true ∧ t < Tryd.prog.types.size)
    (hb : Below W.heap.size W W') : s.post enc Tryd.prog f false true false false W args (.bool true) W' := by
  have hW' := hW
  obtain ⟨p, q, hA, hV, rfl, _, _⟩ := hW
  rw [hv] at hV
  obtain ⟨rfl, rfl⟩ := trodVars_none hV
  obtain ⟨f1, f2, f3⟩ := hfn
  refine ⟨ds, [], p ++ [], [], p, [], hW', ?_, ?_, ?_, Below.frame hb _, fun h => by cases h⟩
  · rw [f1, hrt]; exact trodAll_cons_mk (shut_bool un_4 _) trodAll_mk0
  · rw [f2]; exact trodAll_below hb hread hA (fun x hx => hW'.lt x (by simp [hx]))
  · rw [f3, hv]; rfl
end Go.Proofs.YtokhediaibdkjaaDoor

/-! From C1 -/
/- Numbers of eight bytes among a row's arguments. -/
namespace Go.Proofs.YtokhediaibdkjaaDoor
set_option maxRecDepth 100000
open Go.Pm Go.ChangeShapes Go.WideShapes Go.ChangeAt Go.RowKit
theorem un_34 : Tryd.prog.underlying 34 = some (.int .u64) := by kernel_rfl
theorem u64_of {z : Int} (h : Lit.wf (.int .u64 z) = true) : ∃ N : BitVec 64, z = (N.toNat : Int) := by
  have hz : 0 ≤ z ∧ z < 18446744073709551616 := by
    simp [Lit.wf, IntKind.min, IntKind.max, IntKind.signed, IntKind.bits] at h
    omega
  refine ⟨BitVec.ofNat 64 z.toNat, ?_⟩
  rw [BitVec.toNat_ofNat, Nat.mod_eq_of_lt (by omega)]
  omega
theorem exists_list {α : Type} {P : Nat → α → Prop} : ∀ n, (∀ i, i < n → ∃ a, P i a) → ∃ l : List α, l.length = n ∧ ∀ i a, l[i]? = some a → P i a
  | 0, _ => ⟨[], rfl, fun i a h => by simp at h⟩
  | n + 1, h => by
    obtain ⟨l, hl, hp⟩ := exists_list n (fun i hi => h i (by omega))
    obtain ⟨a, ha⟩ := h n (by omega)
    refine ⟨l ++ [a], by simp [hl], fun i b hb => ?_⟩
    rcases Nat.lt_or_ge i n with hi | hi
    · rw [List.getElem?_append_left (by omega)] at hb; exact hp i b hb
    · rw [List.getElem?_append_right (by omega)] at hb
      have : i - l.length = 0 := by
        rcases Nat.eq_zero_or_pos (i - l.length) with h0 | h0
        · exact h0
        · rw [List.getElem?_eq_none (by simp; omega)] at hb; cases hb
      rw [this] at hb
      simp at hb
      subst hb
      rw [show i = n by omega]; exact ha
/-- Bytes, from what a row says of their cell. -/
theorem bytes_of_trod {H : Type} {enc : TypeId × Value → H} {W : World} {fuel : Nat} {cs : List Value} {x : DataW H × List MemPlace} (hf : DataW.trod enc Tryd.prog W 0 (fun _ => true) true fuel 23 cs = some x) : ∃ s : Sl, cs = [s.v] ∧ s.ok W ∧ s.c ≤ maxLen := by
  rcases open_ints un_23 un_5 co5 hf with ⟨hcs, hx⟩ | ⟨a', len, cap, zs, hcs, _, hl, hm, hz, hx, hcell, hwz⟩
  · exact ⟨⟨none, 0, 0, []⟩, hcs, ⟨rfl, fun _ => rfl, Nat.le_refl _, RdC.nil⟩, Nat.zero_le _⟩
  · simp only [if_true] at hz
    refine ⟨⟨some a', len, cap, (zs.take len).map fun z => UInt8.ofNat z.toNat⟩, hcs, ⟨by simp; omega, by simp, hl, ?_⟩, hm⟩
    intro j u hj
    simp only [List.map_map, List.getElem?_map, Option.map_eq_some_iff] at hj
    obtain ⟨z, hzj, rfl⟩ := hj
    rw [List.getElem?_take] at hzj
    split at hzj
    · rename_i hjl
      have hjz : j < zs.length := by omega
      have hc := hcell j hjz
      have hzv : zs.getD j 0 = z := by simp [hzj]
      rw [hzv] at hc
      have hw := hwz z (List.mem_of_getElem? hzj)
      have hb : 0 ≤ z ∧ z < 256 := by
        simp [Lit.wf, IntKind.min, IntKind.max, IntKind.signed, IntKind.bits] at hw
        omega
      obtain ⟨b, o, sp⟩ := a'
      have hspot : sp = none := by
        have h0 := World.cell?_spot (hcell 0 (by omega))
        simpa [Addr.add] using h0
      subst hspot
      refine ⟨b, o, rfl, ?_⟩
      rw [add_at] at hc
      rw [hc]
      have : ((UInt8.ofNat z.toNat).toNat : Int) = z := by
        rw [UInt8.toNat_ofNat']
        omega
      exact congrArg (fun t : Int => some (Value.int .u8 t)) this.symm
    · cases hzj
theorem un22 : Tryd.prog.underlying 22 = some (.slice 23) := by kernel_rfl
theorem co_23 : Tryd.prog.cellsOf 23 = 1 := by kernel_rfl
/-- An argument: slices of bytes. -/
theorem open_slices {H : Type} {enc : TypeId × Value → H} {W : World} {base : Nat} {v : Value} {d : DataW H} {p : List MemPlace} (hval : Value.okWide Tryd.prog W .any base 22 v) (h : DataW.Trod enc Tryd.prog W 0 (fun _ => true) true 22 v d p) :
    ∃ (q : Option Addr) (c : Nat) (ss : List Sl), v = .slice q ss.length c ∧ (q = none → c = 0) ∧ ss.length ≤ c ∧ c ≤ maxLen ∧ RdC W q (ss.map Sl.v) ∧ ∀ s ∈ ss, s.ok W := by
  obtain ⟨a, n, c, rfl⟩ := okWide_slice un22 hval
  obtain ⟨fuel, hf⟩ := h
  rcases DataW.trod_slice un22 hf with ⟨hcs, _⟩ | ⟨a', len, cap, elems, rest, m, _, hcs, _, _, hl, hm, hlen, hel, _, _⟩
  · simp [Value.cells] at hcs
    obtain ⟨rfl, rfl, rfl⟩ := hcs
    exact ⟨none, 0, [], rfl, fun _ => rfl, Nat.le_refl _, Nat.zero_le _, RdC.nil, by simp⟩
  · simp [Value.cells] at hcs
    obtain ⟨rfl, rfl, rfl⟩ := hcs
    have each : ∀ i, i < n → ∃ s : Sl, s.ok W ∧ W.cell? (a'.add i) = some s.v := fun i hi => by
      have he := hel i hi
      rw [co_23, Nat.mul_one, List.getElem?_eq_getElem (by omega)] at he
      obtain ⟨cs', hcs', hy⟩ := Option.bind_eq_some_iff.1 he
      obtain ⟨s, rfl, hok, _⟩ := bytes_of_trod hy
      exact ⟨s, hok, cell_of_cells?_one hcs'⟩
    obtain ⟨ss, hsl, hss⟩ := exists_list n each
    refine ⟨some a', c, ss, by rw [hsl], by simp, by omega, hm, ?_, fun s hs => ?_⟩
    · intro j u hj
      simp only [List.getElem?_map, Option.map_eq_some_iff] at hj
      obtain ⟨s, hsj, rfl⟩ := hj
      have hc := (hss j s hsj).2
      have hjn : j < n := by have := (List.getElem?_eq_some_iff.1 hsj).1; omega
      obtain ⟨s0, _, h0⟩ := each 0 (by omega)
      obtain ⟨b, o, sp⟩ := a'
      have hspot : sp = none := by
        have h1 := World.cell?_spot h0
        simpa [Addr.add] using h1
      subst hspot
      exact ⟨b, o, rfl, by rw [← hc, add_at]⟩
    · obtain ⟨i, hi⟩ := List.getElem?_of_mem hs
      exact (hss i s hi).1
theorem un_24 : Tryd.prog.underlying 24 = some (.int .i64) := by kernel_rfl
theorem un_2 : Tryd.prog.underlying 2 = some (.int .i64) := by kernel_rfl
theorem u8_of {z : Int} (h : Lit.wf (.int .u8 z) = true) : ∃ N : UInt8, z = (N.toNat : Int) := by
  have hz : 0 ≤ z ∧ z < 256 := by
    simp [Lit.wf, IntKind.min, IntKind.max, IntKind.signed, IntKind.bits] at h
    omega
  refine ⟨UInt8.ofNat z.toNat, ?_⟩
  rw [UInt8.toNat_ofNat']
  omega
theorem i64_of {z : Int} (h : Lit.wf (.int .i64 z) = true) : -9223372036854775808 ≤ z ∧ z < 9223372036854775808 := by
  simp [Lit.wf, IntKind.min, IntKind.max, IntKind.signed, IntKind.bits] at h
  omega
theorem un113 : Tryd.prog.underlying 113 = some (.slice 2) := by kernel_rfl
theorem co_2 : Tryd.prog.cellsOf 2 = 1 := by kernel_rfl
/-- An argument: whole numbers. -/
theorem open_i64s {H : Type} {enc : TypeId × Value → H} {W : World} {base : Nat} {v : Value} {d : DataW H} {p : List MemPlace} (hval : Value.okWide Tryd.prog W .any base 113 v) (h : DataW.Trod enc Tryd.prog W 0 (fun _ => true) true 113 v d p) :
    ∃ (q : Option Addr) (c : Nat) (zs : List Int), v = .slice q zs.length c ∧ (q = none → c = 0) ∧ zs.length ≤ c ∧ RdC W q (zs.map fun z => Value.int .i64 z) := by
  obtain ⟨a, n, c, rfl⟩ := okWide_slice un113 hval
  obtain ⟨fuel, hf⟩ := h
  rcases open_ints un113 un_2 co_2 hf with ⟨hcs, _⟩ | ⟨a', len, cap, zs, hcs, _, hl, hm, hz, hx, hcell, _⟩
  · simp [Value.cells] at hcs
    obtain ⟨rfl, rfl, rfl⟩ := hcs
    exact ⟨none, 0, [], rfl, fun _ => rfl, Nat.le_refl _, RdC.nil⟩
  · simp [Value.cells] at hcs
    obtain ⟨rfl, rfl, rfl⟩ := hcs
    simp only [if_true] at hz
    have hlen : (zs.take n).length = n := by rw [List.length_take]; omega
    refine ⟨some a', c, zs.take n, by rw [hlen], by simp, by omega, ?_⟩
    intro j u hj
    simp only [List.getElem?_map, Option.map_eq_some_iff] at hj
    obtain ⟨z, hzj, rfl⟩ := hj
    rw [List.getElem?_take] at hzj
    split at hzj
    · rename_i hjl
      have hc := hcell j (by omega)
      rw [show zs.getD j 0 = z by simp [hzj]] at hc
      obtain ⟨b, o, sp⟩ := a'
      have hspot : sp = none := by
        have h0 := World.cell?_spot (hcell 0 (by omega))
        simpa [Addr.add] using h0
      subst hspot
      exact ⟨b, o, rfl, by rw [← hc, add_at]⟩
    · cases hzj
end Go.Proofs.YtokhediaibdkjaaDoor

/-! From R6 -/
/- The operations of law 19; the walk of its great. (printed by gen1.py) -/
namespace Go.Proofs.YtokhediaibdkjaaDoor
open Go.Pm Go.RowKit
set_option maxRecDepth 100000
theorem flat_at {α : Type} {l : List (List α)} {n i j : Nat} {x : List α} (h : ∀ y ∈ l, y.length = n) (hi : l[i]? = some x) (hj : j < n) : l.flatten[i * n + j]? = x[j]? := by
  have h1 := flat_get h hi
  have h2 := congrArg (fun z : List α => z[j]?) h1
  simp only [List.getElem?_take_of_lt hj, List.getElem?_drop] at h2
  exact h2
theorem Cell.rdO {cx : Cx} {Rs : List Res} {b o j m : Nat} {vs : List Value} {u : Value} (h : RdA cx Rs (some ⟨b, o, none⟩) vs) (hj : vs[j]? = some u) (hm : o + j = m) : Cell cx Rs ⟨b, m, none⟩ u := fun w hw => by
  subst hm
  exact (h w hw).cell hj
theorem RdC.head {w : World} {p : Option Addr} {vs : List Value} (h : RdC w p vs) (hn : vs ≠ []) : ∃ b o, p = some ⟨b, o, none⟩ := by
  cases vs with
  | nil => exact absurd rfl hn
  | cons v vs =>
    obtain ⟨b, o, e, _⟩ := h 0 v rfl
    exact ⟨b, o, e⟩
/-- An operation of law 19. -/
structure O19 where
  kind : Int
  time : Int
  first : Int
  n : Int
  s : Sl
def O19.cells (o : O19) : List Value := [I64 o.kind, I64 o.time, I64 o.first, I64 o.n, o.s.v]
def O19.ok (o : O19) (w : World) : Prop := o.s.ok w ∧ o.n < 9223372036854775808
def opC (os : List O19) : List Value := (os.map O19.cells).flatten
theorem op_get {os : List O19} {i j : Nat} {o : O19} (h : os[i]? = some o) (hj : j < 5) : (opC os)[i * 5 + j]? = o.cells[j]? :=
  flat_at (n := 5) (by intro y hy; obtain ⟨z, _, rfl⟩ := List.mem_map.1 hy; rfl) (by rw [List.getElem?_map, h]; rfl) hj
theorem op_ne {os : List O19} {i : Nat} {o : O19} (h : os[i]? = some o) : opC os ≠ [] := fun e => by
  have := op_get h (j := 0) (by decide)
  rw [e] at this
  cases this
/-- Are they more than the statements go through? -/
def great19 (os : List O19) : Bool := decide (80 < os.length) || os.any fun o => decide (100 < o.s.n)
theorem great_no {os : List O19} (h : great19 os = false) : os.length ≤ 80 ∧ ∀ o ∈ os, o.s.n ≤ 100 := by
  unfold great19 at h
  rw [Bool.or_eq_false_iff] at h
  refine ⟨by have := h.1; simp at this; exact this, fun o ho => ?_⟩
  have := List.any_eq_false.1 h.2 o ho
  simpa using this


theorem f27_spec (q : Option Addr) (c : Nat) (os : List O19) (hl : os.length ≤ 9223372036854775807) (w : World) (hrq : RdC w q (opC os)) : Calls Tryd.prog 27 [.slice q os.length c].toArray w (fun en w2 => en = .returned (.bool (great19 os)) ∧ Sat w [] [] w2) := by
  refine used hl (used hrq (?_))
  refine enter (n := 20) Tryd.func27 rfl rfl rfl (Sat.refl w) ?_
  refine seq ?_
  refine region ?_
  refine st (g_assign rfl) rfl ?_
  refine done ?_
  refine th_n ?_
  refine seq ?_
  refine seq ?_
  refine region ?_
  refine st (g_move rfl) rfl ?_
  refine st (g_len el_46 rfl) rfl ?_
  refine st (g_bin rfl rfl rfl) rfl ?_
  refine done ?_
  refine th_n ?_
  refine condS rfl (fun h6 => ?_) (fun h6 => ?_)
  · try simp only [decide_eq_true_eq] at h6
    have hg : great19 os = true := by unfold great19; rw [decide_eq_true (by omega)]; rfl
    refine seq ?_
    refine region ?_
    refine st (g_assign rfl) rfl ?_
    refine done ?_
    refine th_n ?_
    refine ret ?_
    refine th_r ?_
    exact ret1 rfl rfl rfl (fun w2 hw2 => ⟨by rw [hg], hw2.clear⟩)
  · try simp only [decide_eq_false_iff_not] at h6
    refine skip ?_
    refine th_n ?_
    refine seq ?_
    refine seq ?_
    refine region ?_
    refine st (g_move rfl) rfl ?_
    refine st (g_len el_46 rfl) rfl ?_
    refine st (g_move rfl) rfl ?_
    refine done ?_
    refine th_n ?_
    refine block ?_
    refine loop (α := Nat) (fun i => i ≤ os.length ∧ ∀ j o, j < i → os[j]? = some o → o.s.n ≤ 100) (fun i => [(0, .slice q os.length c), (8, I64 (os.length : Nat)), (9, I64 (i : Nat))]) (fun i => []) (fun i => os.length - i) 0 ⟨Nat.zero_le _, fun j o h => absurd h (Nat.not_lt_zero j)⟩ ⟨rfl, rfl, rfl, trivial⟩ .nil (fun i hI => ?_)
    refine seq ?_
    refine region ?_
    refine st (g_bin rfl rfl rfl) rfl ?_
    refine done ?_
    refine th_n ?_
    refine seq ?_
    refine condS rfl (fun h10 => ?_) (fun h10 => ?_)
    · try simp only [decide_eq_true_eq] at h10
      have hi : i < os.length := by omega
      obtain ⟨o, ho⟩ : ∃ o, os[i]? = some o := ⟨os[i], by simp [hi]⟩
      obtain ⟨qb, qo, rfl⟩ := RdC.head hrq (op_ne ho)
      refine skip ?_
      refine th_n ?_
      refine seq ?_
      refine block ?_
      refine seq ?_
      refine region ?_
      refine st (g_move rfl) rfl ?_
      refine st (g_assign rfl) rfl ?_
      refine done ?_
      refine th_n ?_
      refine seq ?_
      refine region ?_
      refine st (g_move rfl) rfl ?_
      refine st (g_move rfl) rfl ?_
      refine st (g_indexS (m := qo + i * 5) el_46 rfl rfl (by omega) (by omega) (by omega)) rfl ?_
      refine st (g_fieldAddr fo_59_4 rfl rfl) rfl ?_
      refine st (g_load (v := o.s.v) sc_23 rfl (Cell.rdO (RdA.of hrq.s) (op_get ho (j := 4) (by decide)) (by omega))) rfl ?_
      refine st (g_len el_23 rfl) rfl ?_
      refine st (g_bin rfl rfl rfl) rfl ?_
      refine done ?_
      refine th_n ?_
      refine condS rfl (fun h18 => ?_) (fun h18 => ?_)
      · try simp only [decide_eq_true_eq] at h18
        have hg : great19 os = true := by
          unfold great19
          rw [Bool.or_eq_true]
          exact .inr (List.any_eq_true.2 ⟨o, List.mem_of_getElem? ho, decide_eq_true (by omega)⟩)
        refine seq ?_
        refine region ?_
        refine st (g_assign rfl) rfl ?_
        refine done ?_
        refine th_n ?_
        refine ret ?_
        refine ib_r ?_
        refine th_r ?_
        refine th_r ?_
        refine ib_r ?_
        refine th_r ?_
        exact ret1 rfl rfl rfl (fun w2 hw2 => ⟨by rw [hg], hw2.clear⟩)
      · try simp only [decide_eq_false_iff_not] at h18
        have hnext : ∀ j o, j < i + 1 → os[j]? = some o → o.s.n ≤ 100 := fun j o1 hj h1 => by
          rcases Nat.lt_or_ge j i with h2 | h2
          · exact hI.2 j o1 h2 h1
          · rw [show j = i by omega, ho] at h1
            cases h1
            omega
        refine skip ?_
        refine ib_n ?_
        refine th_n ?_
        refine region ?_
        refine st (g_iadd (c := ((i + 1 : Nat) : Int)) rfl rfl (by omega) (by omega) (by omega)) rfl ?_
        refine st (g_move rfl) rfl ?_
        refine done ?_
        refine th_n ?_
        exact again (i + 1) ⟨by omega, hnext⟩ (by omega) ⟨rfl, rfl, rfl, trivial⟩ .nil
    · try simp only [decide_eq_false_iff_not] at h10
      have hie : i = os.length := by omega
      have hg : great19 os = false := by
        unfold great19
        rw [Bool.or_eq_false_iff]
        refine ⟨decide_eq_false (by omega), List.any_eq_false.2 fun o ho => ?_⟩
        obtain ⟨j, hj⟩ := List.getElem?_of_mem ho
        have hjl := (List.getElem?_eq_some_iff.1 hj).1
        have := hI.2 j o (by omega) hj
        simpa using this
      refine exitc ?_
      refine th_x ?_
      refine th_x ?_
      refine ib_x ?_
      refine th_n ?_
      refine seq ?_
      refine region ?_
      refine st (g_assign rfl) rfl ?_
      refine done ?_
      refine th_n ?_
      refine ret ?_
      exact ret1 rfl rfl rfl (fun w2 hw2 => ⟨by rw [hg], hw2.clear⟩)

theorem f27_as (q : Option Addr) (c : Nat) (os : List O19) (hl : os.length ≤ 9223372036854775807) {g : Bool} (hg : great19 os = g) (w : World) (hrq : RdC w q (opC os)) : Calls Tryd.prog 27 [.slice q os.length c].toArray w (fun en w2 => en = .returned (.bool g) ∧ Sat w [] [] w2) := by
  subst hg
  exact f27_spec q c os hl w hrq
end Go.Proofs.YtokhediaibdkjaaDoor

/-! From C2 -/
/- Structs among a row's arguments; the operations of law 19. -/
namespace Go.Proofs.YtokhediaibdkjaaDoor
set_option maxRecDepth 100000
open Go.Pm Go.ChangeShapes Go.WideShapes Go.ChangeAt Go.RowKit
/-- A struct's fields: their types and where they lie. -/
def fieldsOf (P : Program) (t : TypeId) : Option (List (Nat × Nat)) :=
  match P.underlying t with
  | some (.struct fs) => some (fs.toList.map fun f => (f.type, f.offset))
  | _ => none
theorem fieldsOf_spec {P : Program} {t : TypeId} {l : List (Nat × Nat)} (h : fieldsOf P t = some l) : ∃ fs, P.underlying t = some (.struct fs) ∧ fs.toList.map (fun f => (f.type, f.offset)) = l := by
  unfold fieldsOf at h
  split at h
  · rename_i fs hfs; exact ⟨fs, hfs, Option.some.inj h⟩
  · cases h
/-- A struct's cells, field by field. -/
theorem open_fields {H : Type} {enc : TypeId × Value → H} {P : Program} {W : World} {base : Nat} {sp : Nat → Bool} {hd : Bool} {fuel : Nat} {t : TypeId} {l : List (Nat × Nat)} {cs : List Value} {x : DataW H × List MemPlace} (hf : fieldsOf P t = some l) (h : DataW.trod enc P W base sp hd fuel t cs = some x) :
    cs.length = P.cellsOf t ∧ ∀ (j u o : Nat), l[j]? = some (u, o) → ∃ n y, DataW.trod enc P W base sp hd n u ((cs.drop o).take (P.cellsOf u)) = some y := by
  obtain ⟨fs, hu, hl⟩ := fieldsOf_spec hf
  obtain ⟨xs, n, _, _, h1, h2, h3⟩ := DataW.trod_struct hu h
  refine ⟨h1, fun j u o hj => ?_⟩
  rw [← hl, List.getElem?_map] at hj
  cases hfj : fs.toList[j]? with
  | none => rw [hfj] at hj; cases hj
  | some f =>
    rw [hfj] at hj
    simp only [Option.map_some, Option.some.injEq, Prod.mk.injEq] at hj
    obtain ⟨rfl, rfl⟩ := hj
    have hfa : fs[j]? = some f := by rw [← Array.getElem?_toList]; exact hfj
    have h4 := h3 j f hfa
    have hjl : j < xs.length := by
      have := (Array.getElem?_eq_some_iff.1 hfa).1
      omega
    rw [List.getElem?_eq_getElem hjl] at h4
    exact ⟨n, _, h4⟩
theorem fs_59 : fieldsOf Tryd.prog 59 = some [(3, 0), (2, 1), (2, 2), (3, 3), (23, 4)] := by kernel_rfl
theorem un_46 : Tryd.prog.underlying 46 = some (.slice 59) := by kernel_rfl
theorem co_59 : Tryd.prog.cellsOf 59 = 5 := by kernel_rfl
theorem co_3 : Tryd.prog.cellsOf 3 = 1 := by kernel_rfl
theorem op_of_trod {H : Type} {enc : TypeId × Value → H} {W : World} {fuel : Nat} {cs : List Value} {x : DataW H × List MemPlace} (h : DataW.trod enc Tryd.prog W 0 (fun _ => true) true fuel 59 cs = some x) : ∃ o : O19, cs = o.cells ∧ o.ok W := by
  obtain ⟨hl, hf⟩ := open_fields fs_59 h
  rw [co_59] at hl
  match cs, hl with
  | [c0, c1, c2, c3, c4], _ =>
    obtain ⟨_, _, h0⟩ := hf 0 3 0 rfl
    obtain ⟨_, _, h1⟩ := hf 1 2 1 rfl
    obtain ⟨_, _, h2⟩ := hf 2 2 2 rfl
    obtain ⟨_, _, h3⟩ := hf 3 3 3 rfl
    obtain ⟨_, _, h4⟩ := hf 4 23 4 rfl
    rw [co_3] at h0 h3
    rw [co_2] at h1 h2
    rw [co_23] at h4
    obtain ⟨k, e0, _, _⟩ := DataW.trod_int un_3 h0
    obtain ⟨t, e1, _, _⟩ := DataW.trod_int un_2 h1
    obtain ⟨f, e2, _, _⟩ := DataW.trod_int un_2 h2
    obtain ⟨n, e3, _, w3⟩ := DataW.trod_int un_3 h3
    obtain ⟨s, e4, hs, _⟩ := bytes_of_trod h4
    have a0 : [c0] = [Value.int .i64 k] := e0
    have a1 : [c1] = [Value.int .i64 t] := e1
    have a2 : [c2] = [Value.int .i64 f] := e2
    have a3 : [c3] = [Value.int .i64 n] := e3
    have a4 : [c4] = [s.v] := e4
    simp only [List.cons.injEq, and_true] at a0 a1 a2 a3 a4
    subst a0 a1 a2 a3 a4
    exact ⟨⟨k, t, f, n, s⟩, rfl, hs, (i64_of w3).2⟩
theorem flat_in {α : Type} {l : List (List α)} {n j : Nat} {u : α} (h : ∀ y ∈ l, y.length = n) (hn : 0 < n) (hj : l.flatten[j]? = some u) : ∃ x, l[j / n]? = some x ∧ x[j % n]? = some u := by
  have hl := flat_length h
  have hjl : j < l.length * n := by rw [← hl]; exact (List.getElem?_eq_some_iff.1 hj).1
  have hi : j / n < l.length := (Nat.div_lt_iff_lt_mul hn).2 hjl
  refine ⟨l[j / n], List.getElem?_eq_getElem hi, ?_⟩
  rw [← flat_at h (List.getElem?_eq_getElem hi) (Nat.mod_lt j hn), Nat.mul_comm, Nat.div_add_mod, hj]
/-- An argument: the operations of law 19. -/
theorem open_ops {H : Type} {enc : TypeId × Value → H} {W : World} {base : Nat} {v : Value} {d : DataW H} {p : List MemPlace} (hval : Value.okWide Tryd.prog W .any base 46 v) (h : DataW.Trod enc Tryd.prog W 0 (fun _ => true) true 46 v d p) :
    ∃ (q : Option Addr) (c : Nat) (os : List O19), v = .slice q os.length c ∧ os.length ≤ 9223372036854775807 ∧ RdC W q (opC os) ∧ ∀ o ∈ os, o.ok W := by
  obtain ⟨a, n, c, rfl⟩ := okWide_slice un_46 hval
  obtain ⟨fuel, hf⟩ := h
  rcases DataW.trod_slice un_46 hf with ⟨hcs, _⟩ | ⟨a', len, cap, elems, rest, m, _, hcs, _, _, hl, hm, hlen, hel, _, _⟩
  · simp [Value.cells] at hcs
    obtain ⟨rfl, rfl, rfl⟩ := hcs
    exact ⟨none, 0, [], rfl, Nat.zero_le _, RdC.nil, by simp⟩
  · simp [Value.cells] at hcs
    obtain ⟨rfl, rfl, rfl⟩ := hcs
    have each : ∀ i, i < n → ∃ o : O19, o.ok W ∧ ∀ r, r < 5 → W.cell? ((a'.add (i * 5)).add r) = o.cells[r]? := fun i hi => by
      have he := hel i hi
      rw [co_59, List.getElem?_eq_getElem (by omega)] at he
      obtain ⟨cs', hcs', hy⟩ := Option.bind_eq_some_iff.1 he
      obtain ⟨o, rfl, hok⟩ := op_of_trod hy
      exact ⟨o, hok, (World.cells?_some hcs').2.2⟩
    obtain ⟨os, hsl, hss⟩ := exists_list n each
    refine ⟨some a', c, os, by rw [hsl], by simp only [maxLen] at hm; omega, ?_, fun o ho => ?_⟩
    · intro j u hj
      obtain ⟨x, hx, hxr⟩ := flat_in (n := 5) (by intro y hy; obtain ⟨z, _, rfl⟩ := List.mem_map.1 hy; rfl) (by decide) hj
      rw [List.getElem?_map] at hx
      obtain ⟨o, ho, rfl⟩ := Option.map_eq_some_iff.1 hx
      have hc := (hss (j / 5) o ho).2 (j % 5) (Nat.mod_lt _ (by decide))
      rw [hxr] at hc
      obtain ⟨b, of, spt⟩ := a'
      have hspot : spt = none := by
        have hn0 : 0 < n := by have := (List.getElem?_eq_some_iff.1 ho).1; omega
        obtain ⟨o0, _, h0⟩ := each 0 hn0
        have h1 := World.cell?_spot (v := I64 o0.kind) (h0 0 (by decide))
        simpa [Addr.add] using h1
      subst hspot
      refine ⟨b, of, rfl, ?_⟩
      rw [add_at, add_at] at hc
      rw [← hc]
      congr 2
      omega
    · obtain ⟨i, hi⟩ := List.getElem?_of_mem ho
      exact (hss i o hi).1
end Go.Proofs.YtokhediaibdkjaaDoor

/-! From ND -/
/- Law18's operations: great, sector. (printed by gen1.py) -/
namespace Go.Proofs.YtokhediaibdkjaaDoor
open Go.Pm Go.RowKit
set_option maxRecDepth 100000
/-- An operation of law 18. -/
structure O18 where
  kind : Int
  sector : Int
  n : Int
  s : Sl
def O18.cells (o : O18) : List Value := [I64 o.kind, I64 o.sector, I64 o.n, o.s.v]
def O18.ok (o : O18) (w : World) : Prop := o.s.ok w ∧ o.n < 9223372036854775808
def op8C (os : List O18) : List Value := (os.map O18.cells).flatten
theorem op8_get {os : List O18} {i j : Nat} {o : O18} (h : os[i]? = some o) (hj : j < 4) : (op8C os)[i * 4 + j]? = o.cells[j]? :=
  flat_at (n := 4) (by intro y hy; obtain ⟨z, _, rfl⟩ := List.mem_map.1 hy; rfl) (by rw [List.getElem?_map, h]; rfl) hj
theorem op8_ne {os : List O18} {i : Nat} {o : O18} (h : os[i]? = some o) : op8C os ≠ [] := fun e => by
  have := op8_get h (j := 0) (by decide)
  rw [e] at this
  cases this
/-- Are they more than the statement goes through? -/
def great18 (os : List O18) : Bool := decide (60 < os.length) || os.any fun o => decide (100 < o.s.n)
theorem great8_no {os : List O18} (h : great18 os = false) : os.length ≤ 60 ∧ ∀ o ∈ os, o.s.n ≤ 100 := by
  unfold great18 at h
  rw [Bool.or_eq_false_iff] at h
  refine ⟨by have := h.1; simp at this; exact this, fun o ho => ?_⟩
  have := List.any_eq_false.1 h.2 o ho
  simpa using this
/-- 64 bytes, of any. -/
def secW (l : List UInt8) : List UInt8 := l.take 64 ++ List.replicate (64 - l.length) 0
theorem sec_cells (l : List UInt8) : setR (List.replicate 64 (B8 0)) 0 ((l.take 64).map B8) = (secW l).map B8 := by
  have e : 64 - min 64 l.length = 64 - l.length := by omega
  simp only [setR, secW, List.map_append, List.map_replicate, List.length_map, List.length_take, Nat.zero_add, List.drop_replicate, List.take_zero, List.nil_append, e]
theorem sec_length (l : List UInt8) : (secW l).length = 64 := by rw [secW, List.length_append, List.length_take, List.length_replicate]; omega
/-- What an operation makes of a disk. -/
def Dk.do18 (k : Dk) (o : O18) : Dk :=
  if o.kind = 0 then (k.save o.s.l).2
  else if o.kind = 1 then k
  else if o.kind = 2 then (k.crash o.s.l).2
  else if o.kind = 3 then (k.armed o.n o.s.l).2
  else if o.kind = 4 then { k with down := false }
  else if o.kind = 5 then (k.write o.sector (secW o.s.l)).2
  else k.flush.2
theorem Dk.do18_ok {k : Dk} (hk : k.ok) {o : O18} (hn : o.n < 9223372036854775808) (hs : o.s.l.length ≤ 1000) : (k.do18 o).ok := by
  unfold Dk.do18
  split
  · exact Dk.save_ok hk _
  · split
    · exact hk
    · split
      · exact Dk.crash_ok hk _
      · split
        · exact Dk.arm_ok hk hn (by omega)
        · split
          · exact Dk.ok_down hk false
          · split
            · exact Dk.write_ok hk _ _
            · exact Dk.flush_ok hk
abbrev twoR (b : Nat) (k : Dk) (r : Rp) (c : Nat) (s : Rr) : List Res := [dkB b k r, dkS k r, dkW k r, dkC k r, rkB c k s, rkS s, rkW s, rkC k s, poolR s.ps]


theorem f56_spec (q : Option Addr) (c : Nat) (os : List O18) (hl : os.length ≤ 9223372036854775807) (w : World) (hrq : RdC w q (op8C os)) : Calls Tryd.prog 56 [.slice q os.length c].toArray w (fun en w2 => en = .returned (.bool (great18 os)) ∧ Sat w [] [] w2) := by
  refine used hl (used hrq (?_))
  refine enter (n := 20) Tryd.func56 rfl rfl rfl (Sat.refl w) ?_
  refine seq ?_
  refine region ?_
  refine st (g_assign rfl) rfl ?_
  refine done ?_
  refine th_n ?_
  refine seq ?_
  refine seq ?_
  refine region ?_
  refine st (g_move rfl) rfl ?_
  refine st (g_len el_102 rfl) rfl ?_
  refine st (g_bin rfl rfl rfl) rfl ?_
  refine done ?_
  refine th_n ?_
  refine condS rfl (fun h6 => ?_) (fun h6 => ?_)
  · try simp only [decide_eq_true_eq] at h6
    have hg : great18 os = true := by unfold great18; rw [decide_eq_true (by omega)]; rfl
    refine seq ?_
    refine region ?_
    refine st (g_assign rfl) rfl ?_
    refine done ?_
    refine th_n ?_
    refine ret ?_
    refine th_r ?_
    exact ret1 rfl rfl rfl (fun w2 hw2 => ⟨by rw [hg], hw2.clear⟩)
  · try simp only [decide_eq_false_iff_not] at h6
    refine skip ?_
    refine th_n ?_
    refine seq ?_
    refine seq ?_
    refine region ?_
    refine st (g_move rfl) rfl ?_
    refine st (g_len el_102 rfl) rfl ?_
    refine st (g_move rfl) rfl ?_
    refine done ?_
    refine th_n ?_
    refine block ?_
    refine loop (α := Nat) (fun i => i ≤ os.length ∧ ∀ j o, j < i → os[j]? = some o → o.s.n ≤ 100) (fun i => [(0, .slice q os.length c), (8, I64 (os.length : Nat)), (9, I64 (i : Nat))]) (fun i => []) (fun i => os.length - i) 0 ⟨Nat.zero_le _, fun j o h => absurd h (Nat.not_lt_zero j)⟩ ⟨rfl, rfl, rfl, trivial⟩ .nil (fun i hI => ?_)
    refine seq ?_
    refine region ?_
    refine st (g_bin rfl rfl rfl) rfl ?_
    refine done ?_
    refine th_n ?_
    refine seq ?_
    refine condS rfl (fun h10 => ?_) (fun h10 => ?_)
    · try simp only [decide_eq_true_eq] at h10
      have hi : i < os.length := by omega
      obtain ⟨o, ho⟩ : ∃ o, os[i]? = some o := ⟨os[i], by simp [hi]⟩
      obtain ⟨qb, qo, rfl⟩ := RdC.head hrq (op8_ne ho)
      refine skip ?_
      refine th_n ?_
      refine seq ?_
      refine block ?_
      refine seq ?_
      refine region ?_
      refine st (g_move rfl) rfl ?_
      refine st (g_assign rfl) rfl ?_
      refine done ?_
      refine th_n ?_
      refine seq ?_
      refine region ?_
      refine st (g_move rfl) rfl ?_
      refine st (g_move rfl) rfl ?_
      refine st (g_indexS (m := qo + i * 4) el_102 rfl rfl (by omega) (by omega) (by omega)) rfl ?_
      refine st (g_fieldAddr fo_106_3 rfl rfl) rfl ?_
      refine st (g_load (v := o.s.v) sc_23 rfl (Cell.rdO (RdA.of hrq.s) (op8_get ho (j := 3) (by decide)) (by omega))) rfl ?_
      refine st (g_len el_23 rfl) rfl ?_
      refine st (g_bin rfl rfl rfl) rfl ?_
      refine done ?_
      refine th_n ?_
      refine condS rfl (fun h18 => ?_) (fun h18 => ?_)
      · try simp only [decide_eq_true_eq] at h18
        have hg : great18 os = true := by
          unfold great18
          rw [Bool.or_eq_true]
          exact .inr (List.any_eq_true.2 ⟨o, List.mem_of_getElem? ho, decide_eq_true (by omega)⟩)
        refine seq ?_
        refine region ?_
        refine st (g_assign rfl) rfl ?_
        refine done ?_
        refine th_n ?_
        refine ret ?_
        refine ib_r ?_
        refine th_r ?_
        refine th_r ?_
        refine ib_r ?_
        refine th_r ?_
        exact ret1 rfl rfl rfl (fun w2 hw2 => ⟨by rw [hg], hw2.clear⟩)
      · try simp only [decide_eq_false_iff_not] at h18
        have hnext : ∀ j o, j < i + 1 → os[j]? = some o → o.s.n ≤ 100 := fun j o1 hj h1 => by
          rcases Nat.lt_or_ge j i with h2 | h2
          · exact hI.2 j o1 h2 h1
          · rw [show j = i by omega, ho] at h1
            cases h1
            omega
        refine skip ?_
        refine ib_n ?_
        refine th_n ?_
        refine region ?_
        refine st (g_iadd (c := ((i + 1 : Nat) : Int)) rfl rfl (by omega) (by omega) (by omega)) rfl ?_
        refine st (g_move rfl) rfl ?_
        refine done ?_
        refine th_n ?_
        exact again (i + 1) ⟨by omega, hnext⟩ (by omega) ⟨rfl, rfl, rfl, trivial⟩ .nil
    · try simp only [decide_eq_false_iff_not] at h10
      have hie : i = os.length := by omega
      have hg : great18 os = false := by
        unfold great18
        rw [Bool.or_eq_false_iff]
        refine ⟨decide_eq_false (by omega), List.any_eq_false.2 fun o ho => ?_⟩
        obtain ⟨j, hj⟩ := List.getElem?_of_mem ho
        have hjl := (List.getElem?_eq_some_iff.1 hj).1
        have := hI.2 j o (by omega) hj
        simpa using this
      refine exitc ?_
      refine th_x ?_
      refine th_x ?_
      refine ib_x ?_
      refine th_n ?_
      refine seq ?_
      refine region ?_
      refine st (g_assign rfl) rfl ?_
      refine done ?_
      refine th_n ?_
      refine ret ?_
      exact ret1 rfl rfl rfl (fun w2 hw2 => ⟨by rw [hg], hw2.clear⟩)

theorem f56_as (q : Option Addr) (c : Nat) (os : List O18) (hl : os.length ≤ 9223372036854775807) {g : Bool} (hg : great18 os = g) (w : World) (hrq : RdC w q (op8C os)) : Calls Tryd.prog 56 [.slice q os.length c].toArray w (fun en w2 => en = .returned (.bool g) ∧ Sat w [] [] w2) := by
  subst hg
  exact f56_spec q c os hl w hrq
section
variable (b : Nat) (k : Dk) (r : Rr)
theorem f38_as (p : Option Addr) (n c : Nat) (l : List UInt8) (hl : l.length = n) (hpn : p = none → c = 0) (hnc : n ≤ c) {L : Ld} {k' : Dk} (e : k.save l = (L, k')) (w : World) (hA : Sat w (fps (rkR b k r)) (rkR b k r) w) (hr : RdS w (fps (rkR b k r)) p (l.map B8)) (hk : k.ok) (hro : r.ok k) :
    Calls Tryd.prog 38 [.pointer (some ⟨b, 0, none⟩), .slice p n c].toArray w (fun en w2 => ∃ x : (Option Addr × Nat) × Rr, (ldOk L x.1 ∧ x.2.ok k') ∧ en = .returned (.tuple #[.agg (ldv L x.1).toArray, I64 L.w]) ∧ Sat w (fps (rkR b k r)) (ldR L x.1 :: rkR b k' x.2) w2) := by
  have h := f38_spec b k hk r hro p n c l hl hpn hnc w hA hr
  rw [e] at h
  exact h
theorem f58_as {L : Ld} (e : k.load = L) (w : World) (hA : Sat w (fps (rkR b k r)) (rkR b k r) w) (hk : k.ok) (hro : r.ok k) :
    Calls Tryd.prog 58 [.pointer (some ⟨b, 0, none⟩)].toArray w (fun en w2 => ∃ y : Option Addr × Nat, ldOk L y ∧ en = .returned (.tuple #[.agg (ldv L y).toArray, I64 L.nx, I64 L.w]) ∧ Sat w (fps (rkR b k r)) (ldR L y :: rkR b k r) w2) := by
  subst e
  exact f58_spec b k hk r hro w hA
theorem f52_ld (s : Rp) {L : Ld} (e : k.load = L) (w : World) (hA : Sat w (fps (dkR b k s)) (dkR b k s) w) (hG : Gl w (fps (dkR b k s))) (hk : k.ok) (hro : s.ok k) :
    Calls Tryd.prog 52 [.pointer (some ⟨b, 0, none⟩)].toArray w (fun en w2 => ∃ y : Option Addr × Nat, ldOk L y ∧ en = .returned (.tuple #[.agg (ldv L y).toArray, I64 L.nx, I64 L.w]) ∧ Sat w (fps (dkR b k s)) (ldR L y :: dkR b k s) w2) := by
  subst e
  exact f52_spec b k hk s hro w hA hG
end
theorem ld_vec {w : World} {L : Ld} {y : Option Addr × Nat} (h : (ldR L y).P w) : w.ownsRow 0 5 1 (slv L.d.length y) L.d.length (L.d.map B8) := h


theorem f89_spec (p : Option Addr) (n c : Nat) (l : List UInt8) (hl : l.length = n) (w : World) (hr : RdC w p (l.map B8)) : Calls Tryd.prog 89 [.slice p n c].toArray w (fun en w2 => ∃ g : Nat, True ∧ en = .returned (.slice (some ⟨g, 0, none⟩) 64 64) ∧ Sat w (fps []) [blk g 5 ((secW l).map B8)] w2) := by
  refine enter (n := 9) Tryd.func89 rfl rfl rfl (Sat.refl w) ?_
  refine seq ?_
  refine region ?_
  refine st (g_assign rfl) rfl ?_
  refine done ?_
  refine th_n ?_
  refine seq ?_
  refine region ?_
  refine sq rfl (o_make (s := 1) (zv := B8 0) un_23 zr_5 sz_5 bt_5 (by decide) rfl rfl (by decide) (by decide) (by decide) rfl (fun b4 => ?_))
  refine st (g_assign rfl) rfl ?_
  refine done ?_
  refine th_n ?_
  refine seq ?_
  refine region ?_
  refine st (g_move rfl) rfl ?_
  refine st (g_move rfl) rfl ?_
  refine sq rfl (o_copy (vs := (l.take 64).map B8) (cs' := (secW l).map B8) un_23 sz_5 rfl rfl .here (by rw [List.length_map, List.length_take, hl]; exact Nat.min_comm _ _) (RdA.of (by rw [List.map_take]; exact hr.s.take 64)) oneB8 (by rw [List.length_map, List.length_take]; show 0 + min 64 l.length ≤ 64; omega) (sec_cells l) rfl ?_)
  refine done ?_
  refine th_n ?_
  refine seq ?_
  refine region ?_
  refine st (g_move rfl) rfl ?_
  refine st (g_assign rfl) rfl ?_
  refine done ?_
  refine th_n ?_
  refine ret ?_
  exact ret1 rfl rfl rfl (fun w2 hw2 => ⟨b4, trivial, rfl, hw2⟩)
end Go.Proofs.YtokhediaibdkjaaDoor

/-! From CO -/
/- The operations of law 18 among a row's arguments. -/
namespace Go.Proofs.YtokhediaibdkjaaDoor
set_option maxRecDepth 100000
open Go.Pm Go.ChangeShapes Go.WideShapes Go.ChangeAt Go.RowKit
theorem fs_106 : fieldsOf Tryd.prog 106 = some [(3, 0), (3, 1), (3, 2), (23, 3)] := by kernel_rfl
theorem un_102 : Tryd.prog.underlying 102 = some (.slice 106) := by kernel_rfl
theorem co_106 : Tryd.prog.cellsOf 106 = 4 := by kernel_rfl
theorem op8_of_trod {H : Type} {enc : TypeId × Value → H} {W : World} {fuel : Nat} {cs : List Value} {x : DataW H × List MemPlace} (h : DataW.trod enc Tryd.prog W 0 (fun _ => true) true fuel 106 cs = some x) : ∃ o : O18, cs = o.cells ∧ o.ok W := by
  obtain ⟨hl, hf⟩ := open_fields fs_106 h
  rw [co_106] at hl
  match cs, hl with
  | [c0, c1, c2, c3], _ =>
    obtain ⟨_, _, h0⟩ := hf 0 3 0 rfl
    obtain ⟨_, _, h1⟩ := hf 1 3 1 rfl
    obtain ⟨_, _, h2⟩ := hf 2 3 2 rfl
    obtain ⟨_, _, h3⟩ := hf 3 23 3 rfl
    rw [co_3] at h0 h1 h2
    rw [co_23] at h3
    obtain ⟨k, e0, _, _⟩ := DataW.trod_int un_3 h0
    obtain ⟨t, e1, _, _⟩ := DataW.trod_int un_3 h1
    obtain ⟨n, e2, _, w2⟩ := DataW.trod_int un_3 h2
    obtain ⟨s, e3, hs, _⟩ := bytes_of_trod h3
    have a0 : [c0] = [Value.int .i64 k] := e0
    have a1 : [c1] = [Value.int .i64 t] := e1
    have a2 : [c2] = [Value.int .i64 n] := e2
    have a3 : [c3] = [s.v] := e3
    simp only [List.cons.injEq, and_true] at a0 a1 a2 a3
    subst a0 a1 a2 a3
    exact ⟨⟨k, t, n, s⟩, rfl, hs, (i64_of w2).2⟩
/-- An argument: the operations of law 18. -/
theorem open_ops8 {H : Type} {enc : TypeId × Value → H} {W : World} {base : Nat} {v : Value} {d : DataW H} {p : List MemPlace} (hval : Value.okWide Tryd.prog W .any base 102 v) (h : DataW.Trod enc Tryd.prog W 0 (fun _ => true) true 102 v d p) :
    ∃ (q : Option Addr) (c : Nat) (os : List O18), v = .slice q os.length c ∧ os.length ≤ 9223372036854775807 ∧ RdC W q (op8C os) ∧ ∀ o ∈ os, o.ok W := by
  obtain ⟨a, n, c, rfl⟩ := okWide_slice un_102 hval
  obtain ⟨fuel, hf⟩ := h
  rcases DataW.trod_slice un_102 hf with ⟨hcs, _⟩ | ⟨a', len, cap, elems, rest, m, _, hcs, _, _, hl, hm, hlen, hel, _, _⟩
  · simp [Value.cells] at hcs
    obtain ⟨rfl, rfl, rfl⟩ := hcs
    exact ⟨none, 0, [], rfl, Nat.zero_le _, RdC.nil, by simp⟩
  · simp [Value.cells] at hcs
    obtain ⟨rfl, rfl, rfl⟩ := hcs
    have each : ∀ i, i < n → ∃ o : O18, o.ok W ∧ ∀ r, r < 4 → W.cell? ((a'.add (i * 4)).add r) = o.cells[r]? := fun i hi => by
      have he := hel i hi
      rw [co_106, List.getElem?_eq_getElem (by omega)] at he
      obtain ⟨cs', hcs', hy⟩ := Option.bind_eq_some_iff.1 he
      obtain ⟨o, rfl, hok⟩ := op8_of_trod hy
      exact ⟨o, hok, (World.cells?_some hcs').2.2⟩
    obtain ⟨os, hsl, hss⟩ := exists_list n each
    refine ⟨some a', c, os, by rw [hsl], by simp only [maxLen] at hm; omega, ?_, fun o ho => ?_⟩
    · intro j u hj
      obtain ⟨x, hx, hxr⟩ := flat_in (n := 4) (by intro y hy; obtain ⟨z, _, rfl⟩ := List.mem_map.1 hy; rfl) (by decide) hj
      rw [List.getElem?_map] at hx
      obtain ⟨o, ho, rfl⟩ := Option.map_eq_some_iff.1 hx
      have hc := (hss (j / 4) o ho).2 (j % 4) (Nat.mod_lt _ (by decide))
      rw [hxr] at hc
      obtain ⟨b, of, spt⟩ := a'
      have hspot : spt = none := by
        have hn0 : 0 < n := by have := (List.getElem?_eq_some_iff.1 ho).1; omega
        obtain ⟨o0, _, h0⟩ := each 0 hn0
        have h1 := World.cell?_spot (v := I64 o0.kind) (h0 0 (by decide))
        simpa [Addr.add] using h1
      subst hspot
      refine ⟨b, of, rfl, ?_⟩
      rw [add_at, add_at] at hc
      rw [← hc]
      congr 2
      omega
    · obtain ⟨i, hi⟩ := List.getElem?_of_mem ho
      exact (hss i o hi).1
end Go.Proofs.YtokhediaibdkjaaDoor

/-! From NE -/
/- Law18's do. (printed by gen1.py) -/
namespace Go.Proofs.YtokhediaibdkjaaDoor
open Go.Pm Go.RowKit
set_option maxRecDepth 100000
theorem f57_save (b : Nat) (k : Dk) (hk : k.ok) (r : Rp) (hro : r.ok k) (c : Nat) (s : Rr) (hso : s.ok k) (o : O18) (hs1 : o.s.l.length = o.s.n) (hs2 : o.s.p = none → o.s.c = 0) (hs3 : o.s.n ≤ o.s.c) (hs4 : o.s.n ≤ 100) (hon : o.n < 9223372036854775808) (h0 : o.kind = 0) {L : Ld} {k' : Dk} (hsv : k.save o.s.l = (L, k')) (w : World) (hA : Sat w (fps (twoR b k r c s)) (twoR b k r c s) w) (hG : Gl w (fps (twoR b k r c s))) (hr : RdS w (fps (twoR b k r c s)) o.s.p (o.s.l.map B8)) : Calls Tryd.prog 57 [.pointer (some ⟨b, 0, none⟩), .pointer (some ⟨c, 0, none⟩), .agg o.cells.toArray].toArray w (fun en w2 => ∃ x : Rp × Rr, (x.1.ok k' ∧ x.2.ok k') ∧ en = .returned (.bool true) ∧ Sat w (fps (twoR b k r c s)) (twoR b k' x.1 c x.2) w2) := by
  refine used hk (used hro (used hso (used hs1 (used hs2 (used hs3 (used hs4 (used hon (used h0 (used hsv (used hA (used hG (used hr (?_)))))))))))))
  refine enter (n := 154) Tryd.func57 rfl rfl rfl hA ?_
  refine seq ?_
  refine region ?_
  refine sq rfl (o_box (cs := o.cells) rfl rfl rfl (fun b5 => ?_))
  refine st (g_assign rfl) rfl ?_
  refine done ?_
  refine th_n ?_
  refine seq ?_
  refine seq ?_
  refine region ?_
  refine st (g_fieldAddr fo_106_0 rfl rfl) rfl ?_
  refine st (g_load (v := I64 o.kind) sc_3 rfl (Cell.own .here rfl)) rfl ?_
  refine done ?_
  refine th_n ?_
  refine block ?_
  refine seq ?_
  refine region ?_
  refine st (g_T rfl rfl rfl (by omega)) rfl ?_
  refine st (g_assign rfl) rfl ?_
  refine done ?_
  refine th_n ?_
  refine condT rfl ?_
  refine seq ?_
  refine region ?_
  refine st (g_fieldAddr fo_106_3 rfl rfl) rfl ?_
  refine st (g_load (v := o.s.v) sc_23 rfl (Cell.own .here rfl)) rfl ?_
  refine sq rfl (o_call Tryd.func44 rfl rfl rfl .nil (fun w hw hA => f44_spec o.s.p o.s.n o.s.c o.s.l hs1 hs2 (by omega) w (RdS.ofOld (A := []) hr hw .nil).c) rfl (fun ⟨yp, yc⟩ hy => ?_))
  refine st (g_assign rfl) rfl ?_
  refine done ?_
  refine th_n ?_
  refine seq ?_
  refine region ?_
  refine st (g_move rfl) rfl ?_
  refine st (g_move rfl) rfl ?_
  refine sq rfl (o_call Tryd.func39 rfl rfl rfl (.cons (.there (.there (.here))) (.cons (.there (.there (.here))) (.cons (.there (.there (.here))) (.cons (.there (.there (.here))) .nil)))) (fun w hw hA => f39_as b k r yp o.s.n yc o.s.l hs1 (fun h => by have h1 := hy.1 h; have h2 := hy.2; exact ⟨by simp only at h1 h2; omega, h1⟩) hy.2 hsv w hA (Gl.ofOld hG hw (.cons (.there (.there (.here))) (.cons (.there (.there (.here))) (.cons (.there (.there (.here))) (.cons (.there (.there (.here))) .nil))))) (RdS.ofVec hw (.cons (.there (.there (.here))) (.cons (.there (.there (.here))) (.cons (.there (.there (.here))) (.cons (.there (.there (.here))) .nil)))) .here) hk hro) rfl (fun x8 hx8 => ?_))
  refine st (g_move rfl) rfl ?_
  refine st (g_extract rfl rfl) rfl ?_
  refine st (g_extract rfl rfl) rfl ?_
  refine sq rfl (o_alloc (zs := [U64 0#64, .slice none 0 0]) zr_73 rfl (fun b8 => ?_))
  refine sq rfl (o_storeA (cs' := ldv L x8.1) sz_73 rfl rfl rfl (by simp [ldv]; exact ⟨rfl, rfl⟩) .here (Nat.le_of_ble_eq_true rfl) rfl ?_)
  refine st (g_assign rfl) rfl ?_
  refine done ?_
  refine th_n ?_
  refine seq ?_
  refine region ?_
  refine st (g_move rfl) rfl ?_
  refine st (g_fieldAddr fo_106_3 rfl rfl) rfl ?_
  refine st (g_load (v := o.s.v) sc_23 rfl (Cell.own (.there (.there (.there (.there (.there (.there (.there (.here)))))))) rfl)) rfl ?_
  refine sq rfl (o_call Tryd.func38 rfl rfl rfl (.cons (.there (.there (.there (.there (.there (.there (.there (.there (.here))))))))) (.cons (.there (.there (.there (.there (.there (.there (.there (.there (.here))))))))) (.cons (.there (.there (.there (.there (.there (.there (.there (.there (.here))))))))) (.cons (.there (.there (.there (.there (.there (.there (.there (.there (.here))))))))) (.cons (.there (.there (.there (.there (.there (.there (.there (.there (.here))))))))) .nil))))) (fun w hw hA => f38_as c k s o.s.p o.s.n o.s.c o.s.l hs1 hs2 hs3 hsv w hA (RdS.ofOld hr hw (.cons (.there (.there (.there (.there (.there (.there (.there (.there (.here))))))))) (.cons (.there (.there (.there (.there (.there (.there (.there (.there (.here))))))))) (.cons (.there (.there (.there (.there (.there (.there (.there (.there (.here))))))))) (.cons (.there (.there (.there (.there (.there (.there (.there (.there (.here))))))))) (.cons (.there (.there (.there (.there (.there (.there (.there (.there (.here))))))))) .nil)))))) hk hso) rfl (fun x9 hx9 => ?_))
  refine st (g_move rfl) rfl ?_
  refine st (g_extract rfl rfl) rfl ?_
  refine st (g_extract rfl rfl) rfl ?_
  refine sq rfl (o_alloc (zs := [U64 0#64, .slice none 0 0]) zr_73 rfl (fun b10 => ?_))
  refine sq rfl (o_storeA (cs' := ldv L x9.1) sz_73 rfl rfl rfl (by simp [ldv]; exact ⟨rfl, rfl⟩) .here (Nat.le_of_ble_eq_true rfl) rfl ?_)
  refine st (g_assign rfl) rfl ?_
  refine done ?_
  refine th_n ?_
  refine seq ?_
  refine region ?_
  refine st (g_loadA (vs := ldv L x8.1) ag_73 rfl rfl (Cells.part (.there (.there (.there (.there (.there (.there (.there (.here)))))))) rfl)) rfl ?_
  refine st (g_loadA (vs := ldv L x9.1) ag_73 rfl rfl (Cells.part .here rfl)) rfl ?_
  refine sq rfl (o_callP Tryd.func49 rfl rfl rfl (fun w hw => f49_tt L.n L.n L.d L.d _ _ rfl rfl x8.1 x9.1 rfl rfl w (RdC.ofVec (ld_vec (hw.get (.there (.there (.there (.there (.there (.there (.there (.there (.here)))))))))))) (RdC.ofVec (ld_vec (hw.get (.there (.here)))))) rfl ?_)
  refine st (g_move rfl) rfl ?_
  refine gt rfl ?_
  refine st (g_move rfl) rfl ?_
  refine gt rfl ?_
  refine st (g_move rfl) rfl ?_
  refine gt rfl ?_
  refine st (g_T rfl rfl rfl (rfl)) rfl ?_
  refine st (g_pickT rfl rfl) rfl ?_
  refine st (g_move rfl) rfl ?_
  refine gt rfl ?_
  refine st (g_move rfl) rfl ?_
  refine gt rfl ?_
  refine st (g_str (l := o.s.l) by_23 str_9 rfl hs1 (RdA.vec (.there (.there (.there (.there (.there (.there (.there (.there (.there (.there (.there (.there (.there (.here)))))))))))))))) rfl ?_
  refine gt rfl ?_
  refine st (g_fieldAddr fo_106_3 rfl rfl) rfl ?_
  refine gt rfl ?_
  refine st (g_load (v := o.s.v) sc_23 rfl (Cell.own (.there (.there (.there (.there (.there (.there (.there (.there (.there (.there (.there (.there (.there (.there (.here))))))))))))))) rfl)) rfl ?_
  refine gt rfl ?_
  refine st (g_str (l := o.s.l) by_23 str_9 rfl hs1 (RdA.of hr)) rfl ?_
  refine gt rfl ?_
  refine st (g_eqST rfl rfl (rfl)) rfl ?_
  refine st (g_pickT rfl rfl) rfl ?_
  refine st (g_assign rfl) rfl ?_
  refine done ?_
  refine th_n ?_
  refine seq ?_
  refine seq ?_
  refine region ?_
  refine st (g_move rfl) rfl ?_
  refine st (g_len el_23 rfl) rfl ?_
  refine st (g_move rfl) rfl ?_
  refine done ?_
  refine th_n ?_
  refine block ?_
  refine loop (α := Nat × List UInt8) (fun ⟨j, l1⟩ => j ≤ o.s.n ∧ l1.length = o.s.n) (fun ⟨j, l1⟩ => [(7, .slice yp o.s.n yc), (12, .bool true), (57, I64 (o.s.n : Nat)), (58, I64 (j : Nat))]) (fun ⟨j, l1⟩ => [vec (.slice yp o.s.n yc) 5 1 o.s.n (l1.map B8), dkB b k' x8.2, dkS k' x8.2, dkW k' x8.2, dkC k' x8.2, rkB c k' x9.2, rkS x9.2, rkW x9.2, rkC k' x9.2, poolR x9.2.ps]) (fun ⟨j, l1⟩ => o.s.n - j) (0, o.s.l) ⟨Nat.zero_le _, hs1⟩ ⟨rfl, rfl, rfl, rfl, trivial⟩ (.cons (.there (.there (.there (.there (.there (.there (.there (.there (.there (.there (.there (.there (.there (.here)))))))))))))) (.cons (.there (.there (.there (.there (.there (.there (.there (.there (.there (.here)))))))))) (.cons (.there (.there (.there (.there (.there (.there (.there (.there (.there (.here)))))))))) (.cons (.there (.there (.there (.there (.there (.there (.there (.there (.there (.here)))))))))) (.cons (.there (.there (.there (.there (.there (.there (.there (.there (.there (.here)))))))))) (.cons (.there (.there (.here))) (.cons (.there (.there (.here))) (.cons (.there (.there (.here))) (.cons (.there (.there (.here))) (.cons (.there (.there (.here))) .nil)))))))))) (fun ⟨j, l1⟩ ⟨hj, hl1⟩ => ?_)
  show At _ [(7, .slice yp o.s.n yc), (12, .bool true), (57, I64 (o.s.n : Nat)), (58, I64 (j : Nat))] [vec (.slice yp o.s.n yc) 5 1 o.s.n (l1.map B8), dkB b k' x8.2, dkS k' x8.2, dkW k' x8.2, dkC k' x8.2, rkB c k' x9.2, rkS x9.2, rkW x9.2, rkC k' x9.2, poolR x9.2.ps] _
  refine seq ?_
  refine region ?_
  refine st (g_bin rfl rfl rfl) rfl ?_
  refine done ?_
  refine th_n ?_
  refine seq ?_
  refine condS rfl (fun h59 => ?_) (fun h59 => ?_)
  · try simp only [decide_eq_true_eq] at h59
    have hj2 : j < o.s.n := by omega
    refine vecOpen .here (by omega) (fun bx rx hqx ho1 ho2 ho3 ho4 => ?_)
    subst hqx
    rw [List.length_append, List.length_map] at ho3
    refine skip ?_
    refine th_n ?_
    refine seq ?_
    refine block ?_
    refine seq ?_
    refine region ?_
    refine st (g_move rfl) rfl ?_
    refine st (g_assign rfl) rfl ?_
    refine done ?_
    refine th_n ?_
    refine region ?_
    refine st (g_move rfl) rfl ?_
    refine st (g_move rfl) rfl ?_
    refine st (g_move rfl) rfl ?_
    refine st (g_move rfl) rfl ?_
    refine st (g_indexS (m := j) el_23 rfl rfl (by omega) (by omega) (by omega)) rfl ?_
    refine st (g_load (v := B8 (l1.getD j 0)) sc_5 rfl (Cell.own .here (get_app (l := l1) (i := j) (by omega)))) rfl ?_
    refine st (g_add8 (b := (1 : UInt8)) rfl rfl) rfl ?_
    refine st (g_indexS (m := j) el_23 rfl rfl (by omega) (by omega) (by omega)) rfl ?_
    refine sq rfl (o_store (cs' := (l1.set j (l1.getD j 0 + 1)).map B8 ++ rx) sz_5 rfl rfl rfl .here (by rw [List.length_append, List.length_map]; omega) (set_app (by omega)) ?_)
    refine vecShut (s := 1) (n := o.s.n) .here (by rw [List.length_map, List.length_set]; omega) ho1 ho2 (by rw [List.length_append, List.length_map, List.length_set]; omega) ?_
    refine done ?_
    refine ib_n ?_
    refine th_n ?_
    refine region ?_
    refine st (g_iadd (c := ((j + 1 : Nat) : Int)) rfl rfl (by omega) (by omega) (by omega)) rfl ?_
    refine st (g_move rfl) rfl ?_
    refine done ?_
    refine th_n ?_
    exact again (j + 1, l1.set j (l1.getD j 0 + 1)) ⟨by omega, by rw [List.length_set]; exact hl1⟩ (by show o.s.n - (j + 1) < o.s.n - j; omega) ⟨rfl, rfl, rfl, rfl, trivial⟩ (.cons .here (.cons .here (.cons .here (.cons .here (.cons .here (.cons .here (.cons .here (.cons .here (.cons .here (.cons .here .nil))))))))))
  · try simp only [decide_eq_false_iff_not] at h59
    refine exitc ?_
    refine th_x ?_
    refine th_x ?_
    refine ib_x ?_
    refine th_n ?_
    refine seq ?_
    refine region ?_
    refine st (g_move rfl) rfl ?_
    refine st (g_assign rfl) rfl ?_
    refine done ?_
    refine th_n ?_
    refine ret ?_
    refine ib_r ?_
    refine th_r ?_
    exact ret1 rfl rfl rfl (fun w2 hw2 => ⟨(x8.2, x9.2), ⟨hx8.2, hx9.2⟩, rfl, Sat.left (hw2.split (A := [_, _, _, _, _, _, _, _, _]) (.cons (.there (.here)) (.cons (.there (.here)) (.cons (.there (.here)) (.cons (.there (.here)) (.cons (.there (.here)) (.cons (.there (.here)) (.cons (.there (.here)) (.cons (.there (.here)) (.cons (.there (.here)) .nil))))))))))⟩)

theorem f57_load (b : Nat) (k : Dk) (hk : k.ok) (r : Rp) (hro : r.ok k) (c : Nat) (s : Rr) (hso : s.ok k) (o : O18) (hs1 : o.s.l.length = o.s.n) (hs2 : o.s.p = none → o.s.c = 0) (hs3 : o.s.n ≤ o.s.c) (hs4 : o.s.n ≤ 100) (hon : o.n < 9223372036854775808) (h0 : o.kind = 1) {L : Ld} (hld : k.load = L) (w : World) (hA : Sat w (fps (twoR b k r c s)) (twoR b k r c s) w) (hG : Gl w (fps (twoR b k r c s))) (hr : RdS w (fps (twoR b k r c s)) o.s.p (o.s.l.map B8)) : Calls Tryd.prog 57 [.pointer (some ⟨b, 0, none⟩), .pointer (some ⟨c, 0, none⟩), .agg o.cells.toArray].toArray w (fun en w2 => ∃ x : Rp × Rr, (x.1.ok k ∧ x.2.ok k) ∧ en = .returned (.bool true) ∧ Sat w (fps (twoR b k r c s)) (twoR b k x.1 c x.2) w2) := by
  refine used hk (used hro (used hso (used hs1 (used hs2 (used hs3 (used hs4 (used hon (used h0 (used hld (used hA (used hG (used hr (?_)))))))))))))
  refine enter (n := 154) Tryd.func57 rfl rfl rfl hA ?_
  refine seq ?_
  refine region ?_
  refine sq rfl (o_box (cs := o.cells) rfl rfl rfl (fun b5 => ?_))
  refine st (g_assign rfl) rfl ?_
  refine done ?_
  refine th_n ?_
  refine seq ?_
  refine seq ?_
  refine region ?_
  refine st (g_fieldAddr fo_106_0 rfl rfl) rfl ?_
  refine st (g_load (v := I64 o.kind) sc_3 rfl (Cell.own .here rfl)) rfl ?_
  refine done ?_
  refine th_n ?_
  refine block ?_
  refine seq ?_
  refine region ?_
  refine st (g_F rfl rfl rfl (by omega)) rfl ?_
  refine st (g_assign rfl) rfl ?_
  refine done ?_
  refine th_n ?_
  refine condF rfl ?_
  refine seq ?_
  refine region ?_
  refine st (g_T rfl rfl rfl (by omega)) rfl ?_
  refine st (g_assign rfl) rfl ?_
  refine done ?_
  refine th_n ?_
  refine condT rfl ?_
  refine seq ?_
  refine region ?_
  refine st (g_move rfl) rfl ?_
  refine sq rfl (o_call Tryd.func52 rfl rfl rfl (.cons (.there (.here)) (.cons (.there (.here)) (.cons (.there (.here)) (.cons (.there (.here)) .nil)))) (fun w hw hA => f52_ld b k r hld w hA (Gl.ofOld hG hw (.cons (.there (.here)) (.cons (.there (.here)) (.cons (.there (.here)) (.cons (.there (.here)) .nil))))) hk hro) rfl (fun y8 hy8 => ?_))
  refine st (g_move rfl) rfl ?_
  refine st (g_extract rfl rfl) rfl ?_
  refine st (g_extract rfl rfl) rfl ?_
  refine st (g_extract rfl rfl) rfl ?_
  refine sq rfl (o_alloc (zs := [U64 0#64, .slice none 0 0]) zr_73 rfl (fun b14 => ?_))
  refine sq rfl (o_storeA (cs' := ldv L y8) sz_73 rfl rfl rfl (by simp [ldv]; exact ⟨rfl, rfl⟩) .here (Nat.le_of_ble_eq_true rfl) rfl ?_)
  refine st (g_assign rfl) rfl ?_
  refine st (g_assign rfl) rfl ?_
  refine done ?_
  refine th_n ?_
  refine seq ?_
  refine region ?_
  refine st (g_move rfl) rfl ?_
  refine sq rfl (o_call Tryd.func58 rfl rfl rfl (.cons (.there (.there (.there (.there (.there (.there (.there (.here)))))))) (.cons (.there (.there (.there (.there (.there (.there (.there (.here)))))))) (.cons (.there (.there (.there (.there (.there (.there (.there (.here)))))))) (.cons (.there (.there (.there (.there (.there (.there (.there (.here)))))))) (.cons (.there (.there (.there (.there (.there (.there (.there (.here)))))))) .nil))))) (fun w hw hA => f58_as c k s hld w hA hk hso) rfl (fun y9 hy9 => ?_))
  refine st (g_move rfl) rfl ?_
  refine st (g_extract rfl rfl) rfl ?_
  refine st (g_extract rfl rfl) rfl ?_
  refine st (g_extract rfl rfl) rfl ?_
  refine sq rfl (o_alloc (zs := [U64 0#64, .slice none 0 0]) zr_73 rfl (fun b17 => ?_))
  refine sq rfl (o_storeA (cs' := ldv L y9) sz_73 rfl rfl rfl (by simp [ldv]; exact ⟨rfl, rfl⟩) .here (Nat.le_of_ble_eq_true rfl) rfl ?_)
  refine st (g_assign rfl) rfl ?_
  refine st (g_assign rfl) rfl ?_
  refine done ?_
  refine th_n ?_
  refine seq ?_
  refine region ?_
  refine st (g_loadA (vs := ldv L y8) ag_73 rfl rfl (Cells.part (.there (.there (.there (.there (.there (.there (.there (.here)))))))) rfl)) rfl ?_
  refine st (g_loadA (vs := ldv L y9) ag_73 rfl rfl (Cells.part .here rfl)) rfl ?_
  refine sq rfl (o_callP Tryd.func49 rfl rfl rfl (fun w hw => f49_tt L.n L.n L.d L.d _ _ rfl rfl y8 y9 rfl rfl w (RdC.ofVec (ld_vec (hw.get (.there (.there (.there (.there (.there (.there (.there (.there (.here)))))))))))) (RdC.ofVec (ld_vec (hw.get (.there (.here)))))) rfl ?_)
  refine st (g_move rfl) rfl ?_
  refine gt rfl ?_
  refine st (g_move rfl) rfl ?_
  refine gt rfl ?_
  refine st (g_move rfl) rfl ?_
  refine gt rfl ?_
  refine st (g_T rfl rfl rfl (rfl)) rfl ?_
  refine st (g_pickT rfl rfl) rfl ?_
  refine st (g_move rfl) rfl ?_
  refine gt rfl ?_
  refine st (g_move rfl) rfl ?_
  refine gt rfl ?_
  refine st (g_move rfl) rfl ?_
  refine gt rfl ?_
  refine st (g_T rfl rfl rfl (rfl)) rfl ?_
  refine st (g_pickT rfl rfl) rfl ?_
  refine st (g_assign rfl) rfl ?_
  refine done ?_
  refine th_n ?_
  refine ret ?_
  refine ib_r ?_
  refine th_r ?_
  exact ret1 rfl rfl rfl (fun w2 hw2 => ⟨(r, s), ⟨hro, hso⟩, rfl, Sat.left (hw2.split (A := [_, _, _, _, _, _, _, _, _]) (.cons (.there (.there (.there (.there (.there (.there (.there (.there (.there (.here)))))))))) (.cons (.there (.there (.there (.there (.there (.there (.there (.there (.there (.here)))))))))) (.cons (.there (.there (.there (.there (.there (.there (.there (.there (.there (.here)))))))))) (.cons (.there (.there (.there (.there (.there (.there (.there (.there (.there (.here)))))))))) (.cons (.there (.there (.here))) (.cons (.there (.there (.here))) (.cons (.there (.there (.here))) (.cons (.there (.there (.here))) (.cons (.there (.there (.here))) .nil))))))))))⟩)

theorem f57_crash (b : Nat) (k : Dk) (hk : k.ok) (r : Rp) (hro : r.ok k) (c : Nat) (s : Rr) (hso : s.ok k) (o : O18) (hs1 : o.s.l.length = o.s.n) (hs2 : o.s.p = none → o.s.c = 0) (hs3 : o.s.n ≤ o.s.c) (hs4 : o.s.n ≤ 100) (hon : o.n < 9223372036854775808) (h0 : o.kind = 2) {e : Int} {k' : Dk} (he : k.crash o.s.l = (e, k')) (w : World) (hA : Sat w (fps (twoR b k r c s)) (twoR b k r c s) w) (hG : Gl w (fps (twoR b k r c s))) (hr : RdS w (fps (twoR b k r c s)) o.s.p (o.s.l.map B8)) : Calls Tryd.prog 57 [.pointer (some ⟨b, 0, none⟩), .pointer (some ⟨c, 0, none⟩), .agg o.cells.toArray].toArray w (fun en w2 => ∃ x : Rp × Rr, (x.1.ok k' ∧ x.2.ok k') ∧ en = .returned (.bool true) ∧ Sat w (fps (twoR b k r c s)) (twoR b k' x.1 c x.2) w2) := by
  refine used hk (used hro (used hso (used hs1 (used hs2 (used hs3 (used hs4 (used hon (used h0 (used he (used hA (used hG (used hr (?_)))))))))))))
  refine enter (n := 154) Tryd.func57 rfl rfl rfl hA ?_
  refine seq ?_
  refine region ?_
  refine sq rfl (o_box (cs := o.cells) rfl rfl rfl (fun b5 => ?_))
  refine st (g_assign rfl) rfl ?_
  refine done ?_
  refine th_n ?_
  refine seq ?_
  refine seq ?_
  refine region ?_
  refine st (g_fieldAddr fo_106_0 rfl rfl) rfl ?_
  refine st (g_load (v := I64 o.kind) sc_3 rfl (Cell.own .here rfl)) rfl ?_
  refine done ?_
  refine th_n ?_
  refine block ?_
  refine seq ?_
  refine region ?_
  refine st (g_F rfl rfl rfl (by omega)) rfl ?_
  refine st (g_assign rfl) rfl ?_
  refine done ?_
  refine th_n ?_
  refine condF rfl ?_
  refine seq ?_
  refine region ?_
  refine st (g_F rfl rfl rfl (by omega)) rfl ?_
  refine st (g_assign rfl) rfl ?_
  refine done ?_
  refine th_n ?_
  refine condF rfl ?_
  refine seq ?_
  refine region ?_
  refine st (g_T rfl rfl rfl (by omega)) rfl ?_
  refine st (g_assign rfl) rfl ?_
  refine done ?_
  refine th_n ?_
  refine condT rfl ?_
  refine seq ?_
  refine regionL ⟨[_], [], []⟩ mixed (by decide +kernel) (.cons .here .nil) .nil ?_
  refine An'.q 0 [] rfl (by decide +kernel) rfl rfl (g_move rfl) rfl ?_
  refine An'.q 1 [] rfl (by decide +kernel) rfl rfl (g_fieldAddr fo_106_3 rfl rfl) rfl ?_
  refine An'.q 2 [] rfl (by decide +kernel) rfl rfl (g_load (v := o.s.v) sc_23 rfl (Cell.own .here rfl)) rfl ?_
  refine An'.q 4 [] rfl (by decide +kernel) rfl rfl (g_move rfl) rfl ?_
  refine An'.q 5 [] rfl (by decide +kernel) rfl rfl (g_fieldAddr fo_106_3 rfl rfl) rfl ?_
  refine An'.q 6 [] rfl (by decide +kernel) rfl rfl (g_load (v := o.s.v) sc_23 rfl (Cell.own .here rfl)) rfl ?_
  refine An'.oneG 3 (by decide +kernel) rfl rfl ?_
  refine o_call Tryd.func33 rfl rfl rfl (.cons (.there (.here)) (.cons (.there (.here)) (.cons (.there (.here)) (.cons (.there (.here)) .nil)))) (fun w hw hA => (by have h := f33_spec b k hk r hro o.s.p o.s.n o.s.c o.s.l hs1 w hA (RdS.ofOld hr hw (.cons (.there (.here)) (.cons (.there (.here)) (.cons (.there (.here)) (.cons (.there (.here)) .nil))))); rw [he] at h; exact h)) rfl (fun r2 hr2 => ?_)
  refine An'.on0 (.cons (.there (.there (.there (.there (.here))))) .nil) .nil rfl ?_
  refine An'.oneG 7 (by decide +kernel) rfl rfl ?_
  refine o_call Tryd.func34 rfl rfl rfl (.cons (.there (.there (.there (.there (.there (.here)))))) (.cons (.there (.there (.there (.there (.there (.here)))))) (.cons (.there (.there (.there (.there (.there (.here)))))) (.cons (.there (.there (.there (.there (.there (.here)))))) (.cons (.there (.there (.there (.there (.there (.here)))))) .nil))))) (fun w hw hA => (by have h := f34_spec c k hk s hso o.s.p o.s.n o.s.c o.s.l hs1 w hA (RdS.ofOld hr hw (.cons (.there (.there (.there (.there (.there (.here)))))) (.cons (.there (.there (.there (.there (.there (.here)))))) (.cons (.there (.there (.there (.there (.there (.here)))))) (.cons (.there (.there (.there (.there (.there (.here)))))) (.cons (.there (.there (.there (.there (.there (.here)))))) .nil)))))); rw [he] at h; exact h)) rfl (fun s2 hs2_ => ?_)
  refine An'.on0 (.cons (.there (.there (.there (.there (.there (.there (.there (.there (.there (.here)))))))))) .nil) .nil rfl ?_
  refine An'.q 8 [] rfl (by decide +kernel) rfl rfl (g_T rfl rfl rfl (rfl)) rfl ?_
  refine An'.q 9 [] rfl (by decide +kernel) rfl rfl (g_assign rfl) rfl ?_
  refine An'.fin (by decide +kernel) ?_
  refine th_n ?_
  refine ret ?_
  refine ib_r ?_
  refine th_r ?_
  exact ret1 rfl rfl rfl (fun w2 hw2 => ⟨(r2, s2), ⟨hr2, hs2_⟩, rfl, Sat.left (hw2.split (A := [_, _, _, _, _, _, _, _, _]) (.cons (.there (.there (.there (.there (.there (.here)))))) (.cons (.there (.there (.there (.there (.there (.here)))))) (.cons (.there (.there (.there (.there (.there (.here)))))) (.cons (.there (.there (.there (.there (.there (.here)))))) (.cons .here (.cons .here (.cons .here (.cons .here (.cons .here .nil))))))))))⟩)

theorem f57_arm (b : Nat) (k : Dk) (hk : k.ok) (r : Rp) (hro : r.ok k) (c : Nat) (s : Rr) (hso : s.ok k) (o : O18) (hs1 : o.s.l.length = o.s.n) (hs2 : o.s.p = none → o.s.c = 0) (hs3 : o.s.n ≤ o.s.c) (hs4 : o.s.n ≤ 100) (hon : o.n < 9223372036854775808) (h0 : o.kind = 3) {e : Int} {k' : Dk} (he : k.armed o.n o.s.l = (e, k')) (w : World) (hA : Sat w (fps (twoR b k r c s)) (twoR b k r c s) w) (hG : Gl w (fps (twoR b k r c s))) (hr : RdS w (fps (twoR b k r c s)) o.s.p (o.s.l.map B8)) : Calls Tryd.prog 57 [.pointer (some ⟨b, 0, none⟩), .pointer (some ⟨c, 0, none⟩), .agg o.cells.toArray].toArray w (fun en w2 => ∃ x : Rp × Rr, (x.1.ok k' ∧ x.2.ok k') ∧ en = .returned (.bool true) ∧ Sat w (fps (twoR b k r c s)) (twoR b k' x.1 c x.2) w2) := by
  refine used hk (used hro (used hso (used hs1 (used hs2 (used hs3 (used hs4 (used hon (used h0 (used he (used hA (used hG (used hr (?_)))))))))))))
  refine enter (n := 154) Tryd.func57 rfl rfl rfl hA ?_
  refine seq ?_
  refine region ?_
  refine sq rfl (o_box (cs := o.cells) rfl rfl rfl (fun b5 => ?_))
  refine st (g_assign rfl) rfl ?_
  refine done ?_
  refine th_n ?_
  refine seq ?_
  refine seq ?_
  refine region ?_
  refine st (g_fieldAddr fo_106_0 rfl rfl) rfl ?_
  refine st (g_load (v := I64 o.kind) sc_3 rfl (Cell.own .here rfl)) rfl ?_
  refine done ?_
  refine th_n ?_
  refine block ?_
  refine seq ?_
  refine region ?_
  refine st (g_F rfl rfl rfl (by omega)) rfl ?_
  refine st (g_assign rfl) rfl ?_
  refine done ?_
  refine th_n ?_
  refine condF rfl ?_
  refine seq ?_
  refine region ?_
  refine st (g_F rfl rfl rfl (by omega)) rfl ?_
  refine st (g_assign rfl) rfl ?_
  refine done ?_
  refine th_n ?_
  refine condF rfl ?_
  refine seq ?_
  refine region ?_
  refine st (g_F rfl rfl rfl (by omega)) rfl ?_
  refine st (g_assign rfl) rfl ?_
  refine done ?_
  refine th_n ?_
  refine condF rfl ?_
  refine seq ?_
  refine region ?_
  refine st (g_T rfl rfl rfl (by omega)) rfl ?_
  refine st (g_assign rfl) rfl ?_
  refine done ?_
  refine th_n ?_
  refine condT rfl ?_
  refine seq ?_
  refine regionL ⟨[_], [], []⟩ mixed (by decide +kernel) (.cons .here .nil) .nil ?_
  refine An'.q 0 [] rfl (by decide +kernel) rfl rfl (g_move rfl) rfl ?_
  refine An'.q 1 [] rfl (by decide +kernel) rfl rfl (g_fieldAddr fo_106_2 rfl rfl) rfl ?_
  refine An'.q 2 [] rfl (by decide +kernel) rfl rfl (g_load (v := I64 o.n) sc_3 rfl (Cell.own .here rfl)) rfl ?_
  refine An'.q 3 [] rfl (by decide +kernel) rfl rfl (g_fieldAddr fo_106_3 rfl rfl) rfl ?_
  refine An'.q 4 [] rfl (by decide +kernel) rfl rfl (g_load (v := o.s.v) sc_23 rfl (Cell.own .here rfl)) rfl ?_
  refine An'.q 6 [] rfl (by decide +kernel) rfl rfl (g_move rfl) rfl ?_
  refine An'.q 7 [] rfl (by decide +kernel) rfl rfl (g_fieldAddr fo_106_2 rfl rfl) rfl ?_
  refine An'.q 8 [] rfl (by decide +kernel) rfl rfl (g_load (v := I64 o.n) sc_3 rfl (Cell.own .here rfl)) rfl ?_
  refine An'.q 9 [] rfl (by decide +kernel) rfl rfl (g_fieldAddr fo_106_3 rfl rfl) rfl ?_
  refine An'.q 10 [] rfl (by decide +kernel) rfl rfl (g_load (v := o.s.v) sc_23 rfl (Cell.own .here rfl)) rfl ?_
  refine An'.oneG 5 (by decide +kernel) rfl rfl ?_
  refine o_call Tryd.func35 rfl rfl rfl (.cons (.there (.here)) (.cons (.there (.here)) (.cons (.there (.here)) (.cons (.there (.here)) .nil)))) (fun w hw hA => (by have h := f35_spec b k hk r hro o.n hon o.s.p o.s.n o.s.c o.s.l hs1 hs2 hs3 (by omega) w hA (RdS.ofOld hr hw (.cons (.there (.here)) (.cons (.there (.here)) (.cons (.there (.here)) (.cons (.there (.here)) .nil))))); rw [he] at h; exact h)) rfl (fun r2 hr2 => ?_)
  refine An'.on0 (.cons (.there (.there (.there (.there (.here))))) .nil) .nil rfl ?_
  refine An'.oneG 11 (by decide +kernel) rfl rfl ?_
  refine o_call Tryd.func36 rfl rfl rfl (.cons (.there (.there (.there (.there (.there (.here)))))) (.cons (.there (.there (.there (.there (.there (.here)))))) (.cons (.there (.there (.there (.there (.there (.here)))))) (.cons (.there (.there (.there (.there (.there (.here)))))) (.cons (.there (.there (.there (.there (.there (.here)))))) .nil))))) (fun w hw hA => (by have h := f36_spec c k hk s hso o.n hon o.s.p o.s.n o.s.c o.s.l hs1 hs2 hs3 (by omega) w hA (RdS.ofOld hr hw (.cons (.there (.there (.there (.there (.there (.here)))))) (.cons (.there (.there (.there (.there (.there (.here)))))) (.cons (.there (.there (.there (.there (.there (.here)))))) (.cons (.there (.there (.there (.there (.there (.here)))))) (.cons (.there (.there (.there (.there (.there (.here)))))) .nil)))))); rw [he] at h; exact h)) rfl (fun s2 hs2_ => ?_)
  refine An'.on0 (.cons (.there (.there (.there (.there (.there (.there (.there (.there (.there (.here)))))))))) .nil) .nil rfl ?_
  refine An'.q 12 [] rfl (by decide +kernel) rfl rfl (g_T rfl rfl rfl (rfl)) rfl ?_
  refine An'.q 13 [] rfl (by decide +kernel) rfl rfl (g_assign rfl) rfl ?_
  refine An'.fin (by decide +kernel) ?_
  refine th_n ?_
  refine ret ?_
  refine ib_r ?_
  refine th_r ?_
  exact ret1 rfl rfl rfl (fun w2 hw2 => ⟨(r2, s2), ⟨hr2, hs2_⟩, rfl, Sat.left (hw2.split (A := [_, _, _, _, _, _, _, _, _]) (.cons (.there (.there (.there (.there (.there (.here)))))) (.cons (.there (.there (.there (.there (.there (.here)))))) (.cons (.there (.there (.there (.there (.there (.here)))))) (.cons (.there (.there (.there (.there (.there (.here)))))) (.cons .here (.cons .here (.cons .here (.cons .here (.cons .here .nil))))))))))⟩)

theorem f57_boot (b : Nat) (k : Dk) (hk : k.ok) (r : Rp) (hro : r.ok k) (c : Nat) (s : Rr) (hso : s.ok k) (o : O18) (hs1 : o.s.l.length = o.s.n) (hs2 : o.s.p = none → o.s.c = 0) (hs3 : o.s.n ≤ o.s.c) (hs4 : o.s.n ≤ 100) (hon : o.n < 9223372036854775808) (h0 : o.kind = 4) (w : World) (hA : Sat w (fps (twoR b k r c s)) (twoR b k r c s) w) (hG : Gl w (fps (twoR b k r c s))) (hr : RdS w (fps (twoR b k r c s)) o.s.p (o.s.l.map B8)) : Calls Tryd.prog 57 [.pointer (some ⟨b, 0, none⟩), .pointer (some ⟨c, 0, none⟩), .agg o.cells.toArray].toArray w (fun en w2 => ∃ x : Rp × Rr, (x.1.ok { k with down := false } ∧ x.2.ok { k with down := false }) ∧ en = .returned (.bool true) ∧ Sat w (fps (twoR b k r c s)) (twoR b { k with down := false } x.1 c x.2) w2) := by
  refine used hk (used hro (used hso (used hs1 (used hs2 (used hs3 (used hs4 (used hon (used h0 (used hA (used hG (used hr (?_))))))))))))
  refine enter (n := 154) Tryd.func57 rfl rfl rfl hA ?_
  refine seq ?_
  refine region ?_
  refine sq rfl (o_box (cs := o.cells) rfl rfl rfl (fun b5 => ?_))
  refine st (g_assign rfl) rfl ?_
  refine done ?_
  refine th_n ?_
  refine seq ?_
  refine seq ?_
  refine region ?_
  refine st (g_fieldAddr fo_106_0 rfl rfl) rfl ?_
  refine st (g_load (v := I64 o.kind) sc_3 rfl (Cell.own .here rfl)) rfl ?_
  refine done ?_
  refine th_n ?_
  refine block ?_
  refine seq ?_
  refine region ?_
  refine st (g_F rfl rfl rfl (by omega)) rfl ?_
  refine st (g_assign rfl) rfl ?_
  refine done ?_
  refine th_n ?_
  refine condF rfl ?_
  refine seq ?_
  refine region ?_
  refine st (g_F rfl rfl rfl (by omega)) rfl ?_
  refine st (g_assign rfl) rfl ?_
  refine done ?_
  refine th_n ?_
  refine condF rfl ?_
  refine seq ?_
  refine region ?_
  refine st (g_F rfl rfl rfl (by omega)) rfl ?_
  refine st (g_assign rfl) rfl ?_
  refine done ?_
  refine th_n ?_
  refine condF rfl ?_
  refine seq ?_
  refine region ?_
  refine st (g_F rfl rfl rfl (by omega)) rfl ?_
  refine st (g_assign rfl) rfl ?_
  refine done ?_
  refine th_n ?_
  refine condF rfl ?_
  refine seq ?_
  refine region ?_
  refine st (g_T rfl rfl rfl (by omega)) rfl ?_
  refine st (g_assign rfl) rfl ?_
  refine done ?_
  refine th_n ?_
  refine condT rfl ?_
  refine seq ?_
  refine region ?_
  refine st (g_move rfl) rfl ?_
  refine st (g_nilCheck rfl) rfl ?_
  refine st (g_fieldAddr fo_71_3 rfl rfl) rfl ?_
  refine sq rfl (o_store (cs' := rkCells { k with down := false } s) sz_4 rfl rfl rfl (.there (.there (.there (.there (.there (.here)))))) (Nat.le_of_ble_eq_true rfl) rfl ?_)
  refine done ?_
  refine th_n ?_
  refine seq ?_
  refine region ?_
  refine st (g_move rfl) rfl ?_
  refine sq rfl (o_call Tryd.func37 rfl rfl rfl (.cons (.there (.there (.here))) .nil) (fun w hw hA => f37_spec b k hk r w hA) rfl (fun _ _ => ?_))
  refine st (g_T rfl rfl rfl (rfl)) rfl ?_
  refine st (g_assign rfl) rfl ?_
  refine done ?_
  refine th_n ?_
  refine ret ?_
  refine ib_r ?_
  refine th_r ?_
  exact ret1 rfl rfl rfl (fun w2 hw2 => ⟨(r, s), ⟨⟨hro.w0, hro.w1, hro.c0, hro.c1⟩, ⟨hso.s, hso.w, hso.sn, hso.sm, hso.wm, hso.pl, hso.c0, hso.c1⟩⟩, rfl, Sat.left (hw2.split (A := [_, _, _, _, _, _, _, _, _]) (.cons .here (.cons (.there (.there (.here))) (.cons (.there (.there (.here))) (.cons (.there (.there (.here))) (.cons .here (.cons (.there (.here)) (.cons (.there (.here)) (.cons (.there (.here)) (.cons (.there (.here)) .nil))))))))))⟩)

theorem f57_write (b : Nat) (k : Dk) (hk : k.ok) (r : Rp) (hro : r.ok k) (c : Nat) (s : Rr) (hso : s.ok k) (o : O18) (hs1 : o.s.l.length = o.s.n) (hs2 : o.s.p = none → o.s.c = 0) (hs3 : o.s.n ≤ o.s.c) (hs4 : o.s.n ≤ 100) (hon : o.n < 9223372036854775808) (h0 : o.kind = 5) {e : Int} {k' : Dk} (he : k.write o.sector (secW o.s.l) = (e, k')) (w : World) (hA : Sat w (fps (twoR b k r c s)) (twoR b k r c s) w) (hG : Gl w (fps (twoR b k r c s))) (hr : RdS w (fps (twoR b k r c s)) o.s.p (o.s.l.map B8)) : Calls Tryd.prog 57 [.pointer (some ⟨b, 0, none⟩), .pointer (some ⟨c, 0, none⟩), .agg o.cells.toArray].toArray w (fun en w2 => ∃ x : Rp × Rr, (x.1.ok k' ∧ x.2.ok k') ∧ en = .returned (.bool true) ∧ Sat w (fps (twoR b k r c s)) (twoR b k' x.1 c x.2) w2) := by
  refine used hk (used hro (used hso (used hs1 (used hs2 (used hs3 (used hs4 (used hon (used h0 (used he (used hA (used hG (used hr (?_)))))))))))))
  refine enter (n := 154) Tryd.func57 rfl rfl rfl hA ?_
  refine seq ?_
  refine region ?_
  refine sq rfl (o_box (cs := o.cells) rfl rfl rfl (fun b5 => ?_))
  refine st (g_assign rfl) rfl ?_
  refine done ?_
  refine th_n ?_
  refine seq ?_
  refine seq ?_
  refine region ?_
  refine st (g_fieldAddr fo_106_0 rfl rfl) rfl ?_
  refine st (g_load (v := I64 o.kind) sc_3 rfl (Cell.own .here rfl)) rfl ?_
  refine done ?_
  refine th_n ?_
  refine block ?_
  refine seq ?_
  refine region ?_
  refine st (g_F rfl rfl rfl (by omega)) rfl ?_
  refine st (g_assign rfl) rfl ?_
  refine done ?_
  refine th_n ?_
  refine condF rfl ?_
  refine seq ?_
  refine region ?_
  refine st (g_F rfl rfl rfl (by omega)) rfl ?_
  refine st (g_assign rfl) rfl ?_
  refine done ?_
  refine th_n ?_
  refine condF rfl ?_
  refine seq ?_
  refine region ?_
  refine st (g_F rfl rfl rfl (by omega)) rfl ?_
  refine st (g_assign rfl) rfl ?_
  refine done ?_
  refine th_n ?_
  refine condF rfl ?_
  refine seq ?_
  refine region ?_
  refine st (g_F rfl rfl rfl (by omega)) rfl ?_
  refine st (g_assign rfl) rfl ?_
  refine done ?_
  refine th_n ?_
  refine condF rfl ?_
  refine seq ?_
  refine region ?_
  refine st (g_F rfl rfl rfl (by omega)) rfl ?_
  refine st (g_assign rfl) rfl ?_
  refine done ?_
  refine th_n ?_
  refine condF rfl ?_
  refine seq ?_
  refine region ?_
  refine st (g_T rfl rfl rfl (by omega)) rfl ?_
  refine st (g_assign rfl) rfl ?_
  refine done ?_
  refine th_n ?_
  refine condT rfl ?_
  refine seq ?_
  refine regionL ⟨[_], [], []⟩ mixed (by decide +kernel) (.cons .here .nil) .nil ?_
  refine An'.q 0 [] rfl (by decide +kernel) rfl rfl (g_move rfl) rfl ?_
  refine An'.q 1 [] rfl (by decide +kernel) rfl rfl (g_fieldAddr fo_106_1 rfl rfl) rfl ?_
  refine An'.q 2 [] rfl (by decide +kernel) rfl rfl (g_load (v := I64 o.sector) sc_3 rfl (Cell.own .here rfl)) rfl ?_
  refine An'.q 3 [] rfl (by decide +kernel) rfl rfl (g_fieldAddr fo_106_3 rfl rfl) rfl ?_
  refine An'.q 4 [] rfl (by decide +kernel) rfl rfl (g_load (v := o.s.v) sc_23 rfl (Cell.own .here rfl)) rfl ?_
  refine An'.q 7 [] rfl (by decide +kernel) rfl rfl (g_move rfl) rfl ?_
  refine An'.q 8 [] rfl (by decide +kernel) rfl rfl (g_fieldAddr fo_106_1 rfl rfl) rfl ?_
  refine An'.q 9 [] rfl (by decide +kernel) rfl rfl (g_load (v := I64 o.sector) sc_3 rfl (Cell.own .here rfl)) rfl ?_
  refine An'.q 10 [] rfl (by decide +kernel) rfl rfl (g_fieldAddr fo_106_3 rfl rfl) rfl ?_
  refine An'.q 11 [] rfl (by decide +kernel) rfl rfl (g_load (v := o.s.v) sc_23 rfl (Cell.own .here rfl)) rfl ?_
  refine An'.oneG 5 (by decide +kernel) rfl rfl ?_
  refine o_call Tryd.func89 rfl rfl rfl .nil (fun w hw hA => f89_spec o.s.p o.s.n o.s.c o.s.l hs1 w (RdS.ofOld (A := []) hr hw .nil).c) rfl (fun gsa _ => ?_)
  refine An'.on0 (.cons (.there (.here)) .nil) .nil rfl ?_
  refine An'.oneG 6 (by decide +kernel) rfl rfl ?_
  refine o_call Tryd.func53 rfl rfl rfl (.cons (.there (.there (.here))) (.cons (.there (.there (.here))) (.cons (.there (.there (.here))) (.cons (.there (.there (.here))) .nil)))) (fun w hw hA => (by have h := f53_spec b k hk r hro o.sector (some ⟨gsa, 0, none⟩) 64 64 (secW o.s.l) (sec_length _) w hA (RdS.ofOwn hw (.cons (.there (.there (.here))) (.cons (.there (.there (.here))) (.cons (.there (.there (.here))) (.cons (.there (.there (.here))) .nil)))) .here (RdC.ofBlk hw .here List.take_length) (fun b o h => by cases h; exact List.mem_singleton.2 rfl)); rw [he] at h; exact h)) rfl (fun r2 hr2 => ?_)
  refine An'.on0 (.cons (.there (.there (.there (.there (.there (.here)))))) .nil) .nil rfl ?_
  refine An'.oneG 12 (by decide +kernel) rfl rfl ?_
  refine o_call Tryd.func89 rfl rfl rfl .nil (fun w hw hA => f89_spec o.s.p o.s.n o.s.c o.s.l hs1 w (RdS.ofOld (A := []) hr hw .nil).c) rfl (fun gsb _ => ?_)
  refine An'.on0 (.cons (.there (.there (.there (.there (.there (.there (.here))))))) .nil) .nil rfl ?_
  refine An'.oneG 13 (by decide +kernel) rfl rfl ?_
  refine o_call Tryd.func79 rfl rfl rfl (.cons (.there (.there (.there (.there (.there (.there (.there (.here)))))))) (.cons (.there (.there (.there (.there (.there (.there (.there (.here)))))))) (.cons (.there (.there (.there (.there (.there (.there (.there (.here)))))))) (.cons (.there (.there (.there (.there (.there (.there (.there (.here)))))))) (.cons (.there (.there (.there (.there (.there (.there (.there (.here)))))))) .nil))))) (fun w hw hA => (by have h := f79_spec c k hk s hso o.sector (some ⟨gsb, 0, none⟩) 64 64 (secW o.s.l) (sec_length _) nofun w hA (RdS.ofOwn hw (.cons (.there (.there (.there (.there (.there (.there (.there (.here)))))))) (.cons (.there (.there (.there (.there (.there (.there (.there (.here)))))))) (.cons (.there (.there (.there (.there (.there (.there (.there (.here)))))))) (.cons (.there (.there (.there (.there (.there (.there (.there (.here)))))))) (.cons (.there (.there (.there (.there (.there (.there (.there (.here)))))))) .nil))))) .here (RdC.ofBlk hw .here List.take_length) (fun b o h => by cases h; exact List.mem_singleton.2 rfl)); rw [he] at h; exact h)) rfl (fun s2 hs2_ => ?_)
  refine An'.on0 (.cons (.there (.there (.there (.there (.there (.there (.there (.there (.there (.there (.there (.here)))))))))))) .nil) .nil rfl ?_
  refine An'.q 14 [] rfl (by decide +kernel) rfl rfl (g_T rfl rfl rfl (rfl)) rfl ?_
  refine An'.q 15 [] rfl (by decide +kernel) rfl rfl (g_assign rfl) rfl ?_
  refine An'.fin (by decide +kernel) ?_
  refine th_n ?_
  refine ret ?_
  refine ib_r ?_
  refine th_r ?_
  exact ret1 rfl rfl rfl (fun w2 hw2 => ⟨(r2, s2), ⟨hr2, hs2_⟩, rfl, Sat.left (hw2.split (A := [_, _, _, _, _, _, _, _, _]) (.cons (.there (.there (.there (.there (.there (.there (.here))))))) (.cons (.there (.there (.there (.there (.there (.there (.here))))))) (.cons (.there (.there (.there (.there (.there (.there (.here))))))) (.cons (.there (.there (.there (.there (.there (.there (.here))))))) (.cons .here (.cons .here (.cons .here (.cons .here (.cons .here .nil))))))))))⟩)

theorem f57_flush (b : Nat) (k : Dk) (hk : k.ok) (r : Rp) (hro : r.ok k) (c : Nat) (s : Rr) (hso : s.ok k) (o : O18) (hs1 : o.s.l.length = o.s.n) (hs2 : o.s.p = none → o.s.c = 0) (hs3 : o.s.n ≤ o.s.c) (hs4 : o.s.n ≤ 100) (hon : o.n < 9223372036854775808) (h0 : o.kind ≠ 0) (h1 : o.kind ≠ 1) (h2 : o.kind ≠ 2) (h3 : o.kind ≠ 3) (h4 : o.kind ≠ 4) (h5 : o.kind ≠ 5) {e : Int} {k' : Dk} (he : k.flush = (e, k')) (w : World) (hA : Sat w (fps (twoR b k r c s)) (twoR b k r c s) w) (hG : Gl w (fps (twoR b k r c s))) (hr : RdS w (fps (twoR b k r c s)) o.s.p (o.s.l.map B8)) : Calls Tryd.prog 57 [.pointer (some ⟨b, 0, none⟩), .pointer (some ⟨c, 0, none⟩), .agg o.cells.toArray].toArray w (fun en w2 => ∃ x : Rp × Rr, (x.1.ok k' ∧ x.2.ok k') ∧ en = .returned (.bool true) ∧ Sat w (fps (twoR b k r c s)) (twoR b k' x.1 c x.2) w2) := by
  refine used hk (used hro (used hso (used hs1 (used hs2 (used hs3 (used hs4 (used hon (used h0 (used h1 (used h2 (used h3 (used h4 (used h5 (used he (used hA (used hG (used hr (?_))))))))))))))))))
  refine enter (n := 154) Tryd.func57 rfl rfl rfl hA ?_
  refine seq ?_
  refine region ?_
  refine sq rfl (o_box (cs := o.cells) rfl rfl rfl (fun b5 => ?_))
  refine st (g_assign rfl) rfl ?_
  refine done ?_
  refine th_n ?_
  refine seq ?_
  refine seq ?_
  refine region ?_
  refine st (g_fieldAddr fo_106_0 rfl rfl) rfl ?_
  refine st (g_load (v := I64 o.kind) sc_3 rfl (Cell.own .here rfl)) rfl ?_
  refine done ?_
  refine th_n ?_
  refine block ?_
  refine seq ?_
  refine region ?_
  refine st (g_F rfl rfl rfl (by omega)) rfl ?_
  refine st (g_assign rfl) rfl ?_
  refine done ?_
  refine th_n ?_
  refine condF rfl ?_
  refine seq ?_
  refine region ?_
  refine st (g_F rfl rfl rfl (by omega)) rfl ?_
  refine st (g_assign rfl) rfl ?_
  refine done ?_
  refine th_n ?_
  refine condF rfl ?_
  refine seq ?_
  refine region ?_
  refine st (g_F rfl rfl rfl (by omega)) rfl ?_
  refine st (g_assign rfl) rfl ?_
  refine done ?_
  refine th_n ?_
  refine condF rfl ?_
  refine seq ?_
  refine region ?_
  refine st (g_F rfl rfl rfl (by omega)) rfl ?_
  refine st (g_assign rfl) rfl ?_
  refine done ?_
  refine th_n ?_
  refine condF rfl ?_
  refine seq ?_
  refine region ?_
  refine st (g_F rfl rfl rfl (by omega)) rfl ?_
  refine st (g_assign rfl) rfl ?_
  refine done ?_
  refine th_n ?_
  refine condF rfl ?_
  refine seq ?_
  refine region ?_
  refine st (g_F rfl rfl rfl (by omega)) rfl ?_
  refine st (g_assign rfl) rfl ?_
  refine done ?_
  refine th_n ?_
  refine condF rfl ?_
  refine skip ?_
  refine ib_n ?_
  refine th_n ?_
  refine seq ?_
  refine region ?_
  refine st (g_move rfl) rfl ?_
  refine sq rfl (o_call Tryd.func81 rfl rfl rfl (.cons (.there (.here)) (.cons (.there (.here)) (.cons (.there (.here)) (.cons (.there (.here)) .nil)))) (fun w hw hA => (by have h := f81_spec b k hk r hro w hA; rw [he] at h; exact h)) rfl (fun r2 hr2 => ?_))
  refine st (g_move rfl) rfl ?_
  refine sq rfl (o_call Tryd.func80 rfl rfl rfl (.cons (.there (.there (.there (.there (.there (.here)))))) (.cons (.there (.there (.there (.there (.there (.here)))))) (.cons (.there (.there (.there (.there (.there (.here)))))) (.cons (.there (.there (.there (.there (.there (.here)))))) (.cons (.there (.there (.there (.there (.there (.here)))))) .nil))))) (fun w hw hA => (by have h := f80_spec c k hk s hso w hA; rw [he] at h; exact h)) rfl (fun s2 hs2_ => ?_))
  refine st (g_T rfl rfl rfl (rfl)) rfl ?_
  refine st (g_assign rfl) rfl ?_
  refine done ?_
  refine th_n ?_
  refine ret ?_
  exact ret1 rfl rfl rfl (fun w2 hw2 => ⟨(r2, s2), ⟨hr2, hs2_⟩, rfl, Sat.left (hw2.split (A := [_, _, _, _, _, _, _, _, _]) (.cons (.there (.there (.there (.there (.there (.here)))))) (.cons (.there (.there (.there (.there (.there (.here)))))) (.cons (.there (.there (.there (.there (.there (.here)))))) (.cons (.there (.there (.there (.there (.there (.here)))))) (.cons .here (.cons .here (.cons .here (.cons .here (.cons .here .nil))))))))))⟩)

theorem f57_spec (b : Nat) (k : Dk) (hk : k.ok) (r : Rp) (hro : r.ok k) (c : Nat) (s : Rr) (hso : s.ok k) (o : O18) (hs1 : o.s.l.length = o.s.n) (hs2 : o.s.p = none → o.s.c = 0) (hs3 : o.s.n ≤ o.s.c) (hs4 : o.s.n ≤ 100) (hon : o.n < 9223372036854775808)  (w : World) (hA : Sat w (fps (twoR b k r c s)) (twoR b k r c s) w) (hG : Gl w (fps (twoR b k r c s))) (hr : RdS w (fps (twoR b k r c s)) o.s.p (o.s.l.map B8)) : Calls Tryd.prog 57 [.pointer (some ⟨b, 0, none⟩), .pointer (some ⟨c, 0, none⟩), .agg o.cells.toArray].toArray w (fun en w2 => ∃ x : Rp × Rr, (x.1.ok (k.do18 o) ∧ x.2.ok (k.do18 o)) ∧ en = .returned (.bool true) ∧ Sat w (fps (twoR b k r c s)) (twoR b (k.do18 o) x.1 c x.2) w2) := by
  by_cases h0 : o.kind = 0
  · have e : k.do18 o = (k.save o.s.l).2 := by unfold Dk.do18; rw [if_pos h0]
    rw [e]; exact f57_save b k hk r hro c s hso o hs1 hs2 hs3 hs4 hon h0 rfl w hA hG hr
  · by_cases h1 : o.kind = 1
    · have e : k.do18 o = k := by unfold Dk.do18; rw [if_neg h0, if_pos h1]
      rw [e]; exact f57_load b k hk r hro c s hso o hs1 hs2 hs3 hs4 hon h1 rfl w hA hG hr
    · by_cases h2 : o.kind = 2
      · have e : k.do18 o = (k.crash o.s.l).2 := by unfold Dk.do18; rw [if_neg h0, if_neg h1, if_pos h2]
        rw [e]; exact f57_crash b k hk r hro c s hso o hs1 hs2 hs3 hs4 hon h2 rfl w hA hG hr
      · by_cases h3 : o.kind = 3
        · have e : k.do18 o = (k.armed o.n o.s.l).2 := by unfold Dk.do18; rw [if_neg h0, if_neg h1, if_neg h2, if_pos h3]
          rw [e]; exact f57_arm b k hk r hro c s hso o hs1 hs2 hs3 hs4 hon h3 rfl w hA hG hr
        · by_cases h4 : o.kind = 4
          · have e : k.do18 o = { k with down := false } := by unfold Dk.do18; rw [if_neg h0, if_neg h1, if_neg h2, if_neg h3, if_pos h4]
            rw [e]; exact f57_boot b k hk r hro c s hso o hs1 hs2 hs3 hs4 hon h4 w hA hG hr
          · by_cases h5 : o.kind = 5
            · have e : k.do18 o = (k.write o.sector (secW o.s.l)).2 := by unfold Dk.do18; rw [if_neg h0, if_neg h1, if_neg h2, if_neg h3, if_neg h4, if_pos h5]
              rw [e]; exact f57_write b k hk r hro c s hso o hs1 hs2 hs3 hs4 hon h5 rfl w hA hG hr
            · have e : k.do18 o = k.flush.2 := by unfold Dk.do18; rw [if_neg h0, if_neg h1, if_neg h2, if_neg h3, if_neg h4, if_neg h5]
              rw [e]; exact f57_flush b k hk r hro c s hso o hs1 hs2 hs3 hs4 hon h0 h1 h2 h3 h4 h5 rfl w hA hG hr
end Go.Proofs.YtokhediaibdkjaaDoor

/-! From L14 -/
/- The walk of SlotPlays. (printed by gen1.py) -/
namespace Go.Proofs.YtokhediaibdkjaaDoor
open Go.Pm Go.RowKit
set_option maxRecDepth 100000
def opsK (k : Dk) (os : List O18) (i : Nat) : Dk := iter (fun j k => k.do18 (os.getD j ⟨0, 0, 0, ⟨none, 0, 0, []⟩⟩)) i k
theorem opsK_succ {k : Dk} {os : List O18} {i : Nat} {o : O18} (h : os[i]? = some o) : opsK k os (i + 1) = (opsK k os i).do18 o := by
  show Dk.do18 (opsK k os i) (os.getD i _) = _
  rw [List.getD_eq_getElem?_getD, h]; rfl
theorem opsK_ok {k : Dk} (hk : k.ok) {os : List O18} (h : ∀ o ∈ os, o.n < 9223372036854775808 ∧ o.s.l.length ≤ 1000) : ∀ i, i ≤ os.length → (opsK k os i).ok
  | 0, _ => hk
  | i + 1, hi => by
    have hg : os[i]? = some os[i] := List.getElem?_eq_getElem (by omega)
    obtain ⟨h1, h2⟩ := h _ (List.getElem_mem (l := os) (n := i) (by omega))
    rw [opsK_succ hg]
    exact Dk.do18_ok (opsK_ok hk h i (by omega)) h1 h2
theorem newDk_ok {n m : Nat} (h1 : 1 ≤ n) (h2 : n ≤ 64) (h3 : m ≤ 10000) : (newDk n m).ok := by
  have hl : (newDk n m).stays.length = n := List.length_replicate
  refine ⟨?_, by rw [hl]; exact h1, by rw [hl]; exact h2, ?_, by show m + 0 ≤ 10000; omega, by show 0 < 9223372036854775808; decide, by show 0 ≤ 70368744177664; decide⟩
  · intro x hx
    have : x = zero64 := (List.mem_replicate.1 hx).2
    rw [this]; rfl
  · intro x hx; cases hx
theorem op8_row {os : List O18} {i : Nat} {o : O18} (h : os[i]? = some o) : ((op8C os).drop (i * 4)).take 4 = o.cells :=
  flat_get (n := 4) (by intro y hy; obtain ⟨z, _, rfl⟩ := List.mem_map.1 hy; rfl) (by rw [List.getElem?_map, h]; rfl)


theorem f14_great (n m : Int) (q : Option Addr) (c : Nat) (os : List O18) (hl : os.length ≤ 9223372036854775807) (w : World) (hrq : RdC w q (op8C os)) (hg : great18 os = true) : Calls Tryd.prog 14 [I64 n, I64 m, .slice q os.length c].toArray w (fun en w2 => en = .returned (.bool true) ∧ Sat w [] [] w2) := by
  refine used hl (used hrq (used hg (?_)))
  refine enter (n := 88) Tryd.func14 rfl rfl rfl (Sat.refl w) ?_
  refine seq ?_
  refine region ?_
  refine st (g_assign rfl) rfl ?_
  refine done ?_
  refine th_n ?_
  refine seq ?_
  refine seq ?_
  refine region ?_
  refine st (g_move rfl) rfl ?_
  refine sq rfl (o_callP Tryd.func56 rfl rfl rfl (fun w hw => f56_as q c os hl hg w (RdS.ofOld (A := []) hrq.s hw .nil).c) rfl ?_)
  refine done ?_
  refine th_n ?_
  refine condT rfl ?_
  refine seq ?_
  refine region ?_
  refine st (g_assign rfl) rfl ?_
  refine done ?_
  refine th_n ?_
  refine ret ?_
  refine th_r ?_
  exact ret1 rfl rfl rfl (fun w2 hw2 => ⟨rfl, hw2.clear⟩)

theorem f14_bad (n m : Int) (q : Option Addr) (c : Nat) (os : List O18) (hl : os.length ≤ 9223372036854775807) (w : World) (hrq : RdC w q (op8C os)) (hg : great18 os = false) (hb : n < 1 ∨ n > 64 ∨ m < 0 ∨ m > 10000) : Calls Tryd.prog 14 [I64 n, I64 m, .slice q os.length c].toArray w (fun en w2 => en = .returned (.bool true) ∧ Sat w [] [] w2) := by
  refine used hl (used hrq (used hg (used hb (?_))))
  refine enter (n := 88) Tryd.func14 rfl rfl rfl (Sat.refl w) ?_
  refine seq ?_
  refine region ?_
  refine st (g_assign rfl) rfl ?_
  refine done ?_
  refine th_n ?_
  refine seq ?_
  refine seq ?_
  refine region ?_
  refine st (g_move rfl) rfl ?_
  refine sq rfl (o_callP Tryd.func56 rfl rfl rfl (fun w hw => f56_as q c os hl hg w (RdS.ofOld (A := []) hrq.s hw .nil).c) rfl ?_)
  refine done ?_
  refine th_n ?_
  refine condF rfl ?_
  refine skip ?_
  refine th_n ?_
  refine seq ?_
  refine region ?_
  refine st (g_move rfl) rfl ?_
  refine st (g_move rfl) rfl ?_
  refine sq rfl (o_callP Tryd.func28 rfl rfl rfl (fun w hw => f28_bad n m hb w) rfl ?_)
  refine st (g_move rfl) rfl ?_
  refine st (g_extract rfl rfl) rfl ?_
  refine st (g_extract rfl rfl) rfl ?_
  refine st (g_assign rfl) rfl ?_
  refine st (g_assign rfl) rfl ?_
  refine done ?_
  refine th_n ?_
  refine seq ?_
  refine region ?_
  refine st (g_move rfl) rfl ?_
  refine st (g_move rfl) rfl ?_
  refine sq rfl (o_callP Tryd.func29 rfl rfl rfl (fun w hw => f29_bad n m hb w) rfl ?_)
  refine st (g_move rfl) rfl ?_
  refine st (g_extract rfl rfl) rfl ?_
  refine st (g_extract rfl rfl) rfl ?_
  refine st (g_assign rfl) rfl ?_
  refine st (g_assign rfl) rfl ?_
  refine done ?_
  refine th_n ?_
  refine seq ?_
  refine seq ?_
  refine region ?_
  refine st (g_move rfl) rfl ?_
  refine st (g_move rfl) rfl ?_
  refine st (g_F rfl rfl rfl (by decide)) rfl ?_
  refine st (g_move rfl) rfl ?_
  refine gt rfl ?_
  refine st (g_move rfl) rfl ?_
  refine gt rfl ?_
  refine st (g_T rfl rfl rfl (by decide)) rfl ?_
  refine st (g_pickF rfl rfl) rfl ?_
  refine done ?_
  refine th_n ?_
  refine condT rfl ?_
  refine seq ?_
  refine region ?_
  refine st (g_move rfl) rfl ?_
  refine st (g_move rfl) rfl ?_
  refine st (g_T rfl rfl rfl (by decide)) rfl ?_
  refine st (g_assign rfl) rfl ?_
  refine done ?_
  refine th_n ?_
  refine ret ?_
  refine th_r ?_
  exact ret1 rfl rfl rfl (fun w2 hw2 => ⟨rfl, hw2.clear⟩)

theorem f14_good (n m : Nat) (h1 : 1 ≤ n) (h2 : n ≤ 64) (h3 : m ≤ 10000) (q : Option Addr) (c : Nat) (os : List O18) (hl : os.length ≤ 9223372036854775807) (w : World) (hrq : RdC w q (op8C os)) (hok : ∀ o ∈ os, o.ok w) (hg : great18 os = false) (hG : Gl w []) : Calls Tryd.prog 14 [I64 n, I64 m, .slice q os.length c].toArray w (fun en w2 => en = .returned (.bool true) ∧ Sat w [] [] w2) := by
  obtain ⟨hl60, hn100⟩ := great8_no hg
  have hop : ∀ o ∈ os, o.n < 9223372036854775808 ∧ o.s.l.length ≤ 1000 := fun o ho => ⟨(hok o ho).2, by have := (hok o ho).1.1; have := hn100 o ho; omega⟩
  have hkk := opsK_ok (newDk_ok h1 h2 h3) hop
  refine used h1 (used h2 (used h3 (used hl (used hrq (used hok (used hg (used hG (?_))))))))
  refine enter (n := 88) Tryd.func14 rfl rfl rfl (Sat.refl w) ?_
  refine seq ?_
  refine region ?_
  refine st (g_assign rfl) rfl ?_
  refine done ?_
  refine th_n ?_
  refine seq ?_
  refine seq ?_
  refine region ?_
  refine st (g_move rfl) rfl ?_
  refine sq rfl (o_callP Tryd.func56 rfl rfl rfl (fun w hw => f56_as q c os hl hg w (RdS.ofOld (A := []) hrq.s hw .nil).c) rfl ?_)
  refine done ?_
  refine th_n ?_
  refine condF rfl ?_
  refine skip ?_
  refine th_n ?_
  refine seq ?_
  refine region ?_
  refine st (g_move rfl) rfl ?_
  refine st (g_move rfl) rfl ?_
  refine sq rfl (o_call Tryd.func28 rfl rfl rfl .nil (fun w hw hA => f28_spec n m h1 h2 h3 w) rfl (fun ⟨b, r0⟩ hro0 => ?_))
  refine st (g_move rfl) rfl ?_
  refine st (g_extract rfl rfl) rfl ?_
  refine st (g_extract rfl rfl) rfl ?_
  refine st (g_assign rfl) rfl ?_
  refine st (g_assign rfl) rfl ?_
  refine done ?_
  refine th_n ?_
  refine seq ?_
  refine region ?_
  refine st (g_move rfl) rfl ?_
  refine st (g_move rfl) rfl ?_
  refine sq rfl (o_call Tryd.func29 rfl rfl rfl .nil (fun w hw hA => f29_spec n m h1 h2 h3 w) rfl (fun ⟨d, s0⟩ hso0 => ?_))
  refine st (g_move rfl) rfl ?_
  refine st (g_extract rfl rfl) rfl ?_
  refine st (g_extract rfl rfl) rfl ?_
  refine st (g_assign rfl) rfl ?_
  refine st (g_assign rfl) rfl ?_
  refine done ?_
  refine th_n ?_
  refine seq ?_
  refine seq ?_
  refine region ?_
  refine st (g_move rfl) rfl ?_
  refine st (g_move rfl) rfl ?_
  refine st (g_F rfl rfl rfl (by decide)) rfl ?_
  refine st (g_move rfl) rfl ?_
  refine gt rfl ?_
  refine st (g_move rfl) rfl ?_
  refine gt rfl ?_
  refine st (g_F rfl rfl rfl (by decide)) rfl ?_
  refine st (g_pickF rfl rfl) rfl ?_
  refine done ?_
  refine th_n ?_
  refine condF rfl ?_
  refine skip ?_
  refine th_n ?_
  refine seq ?_
  refine seq ?_
  refine region ?_
  refine st (g_move rfl) rfl ?_
  refine st (g_len el_102 rfl) rfl ?_
  refine st (g_move rfl) rfl ?_
  refine done ?_
  refine th_n ?_
  refine block ?_
  refine loop (α := Nat × Rp × Rr) (fun ⟨i, r, s⟩ => i ≤ os.length ∧ r.ok (opsK (newDk n m) os i) ∧ s.ok (opsK (newDk n m) os i)) (fun ⟨i, r, s⟩ => [(2, .slice q os.length c), (7, .pointer (some ⟨b, 0, none⟩)), (9, .pointer (some ⟨d, 0, none⟩)), (44, I64 (os.length : Nat)), (45, I64 (i : Nat))]) (fun ⟨i, r, s⟩ => [dkB b (opsK (newDk n m) os i) r, dkS (opsK (newDk n m) os i) r, dkW (opsK (newDk n m) os i) r, dkC (opsK (newDk n m) os i) r, rkB d (opsK (newDk n m) os i) s, rkS s, rkW s, rkC (opsK (newDk n m) os i) s, poolR s.ps]) (fun ⟨i, r, s⟩ => os.length - i) (0, r0, s0) ⟨Nat.zero_le _, hro0, hso0⟩ ⟨rfl, rfl, rfl, rfl, rfl, trivial⟩ (.cons (.there (.there (.there (.there (.there (.here)))))) (.cons (.there (.there (.there (.there (.there (.here)))))) (.cons (.there (.there (.there (.there (.there (.here)))))) (.cons (.there (.there (.there (.there (.there (.here)))))) (.cons .here (.cons .here (.cons .here (.cons .here (.cons .here .nil))))))))) (fun ⟨i, r, s⟩ ⟨hi, hro, hso⟩ => ?_)
  show At _ [(2, .slice q os.length c), (7, .pointer (some ⟨b, 0, none⟩)), (9, .pointer (some ⟨d, 0, none⟩)), (44, I64 (os.length : Nat)), (45, I64 (i : Nat))] [dkB b (opsK (newDk n m) os i) r, dkS (opsK (newDk n m) os i) r, dkW (opsK (newDk n m) os i) r, dkC (opsK (newDk n m) os i) r, rkB d (opsK (newDk n m) os i) s, rkS s, rkW s, rkC (opsK (newDk n m) os i) s, poolR s.ps] _
  refine seq ?_
  refine region ?_
  refine st (g_bin rfl rfl rfl) rfl ?_
  refine done ?_
  refine th_n ?_
  refine seq ?_
  refine condS rfl (fun h46 => ?_) (fun h46 => ?_)
  · try simp only [decide_eq_true_eq] at h46
    have hi2 : i < os.length := by omega
    obtain ⟨o, ho⟩ : ∃ o, os[i]? = some o := ⟨os[i], by simp [hi2]⟩
    have hom := List.mem_of_getElem? ho
    obtain ⟨⟨ho1, ho2, ho3, ho4⟩, ho5⟩ := hok o hom
    have ho6 := hn100 o hom
    have hps : q.isSome = true := hrq.some (op8_ne ho)
    have hks := opsK_succ (k := newDk n m) ho
    have hki := hkk i hi
    refine skip ?_
    refine th_n ?_
    refine seq ?_
    refine block ?_
    refine seq ?_
    refine region ?_
    refine st (g_move rfl) rfl ?_
    refine st (g_assign rfl) rfl ?_
    refine done ?_
    refine th_n ?_
    refine seq ?_
    refine region ?_
    refine st (g_move rfl) rfl ?_
    refine st (g_move rfl) rfl ?_
    refine st (g_move rfl) rfl ?_
    refine st (g_move rfl) rfl ?_
    refine st (g_indexP (m := i * 4) el_102 rfl rfl (hps) (by omega) (by omega) (by omega)) rfl ?_
    refine st (g_loadAP (p := q) (cs := op8C os) (vs := o.cells) ag_106 rfl rfl (by decide) (RdA.of hrq.s) (op8_row ho)) rfl ?_
    refine sq rfl (o_call Tryd.func57 rfl rfl rfl (.cons .here (.cons .here (.cons .here (.cons .here (.cons .here (.cons .here (.cons .here (.cons .here (.cons .here .nil))))))))) (fun w hw hA => f57_spec b (opsK (newDk n m) os i) hki r hro d s hso o ho1 ho2 ho3 ho6 ho5 w hA (Gl.ofOld hG hw (.cons .here (.cons .here (.cons .here (.cons .here (.cons .here (.cons .here (.cons .here (.cons .here (.cons .here .nil)))))))))) (RdS.ofOld ho4.s hw (.cons .here (.cons .here (.cons .here (.cons .here (.cons .here (.cons .here (.cons .here (.cons .here (.cons .here .nil))))))))))) rfl (fun ⟨r2, s2⟩ hx2 => ?_))
    rw [← hks] at hx2 ⊢
    refine st (g_assign rfl) rfl ?_
    refine done ?_
    refine th_n ?_
    refine seq ?_
    refine region ?_
    refine st (g_move rfl) rfl ?_
    refine st (g_not rfl) rfl ?_
    refine done ?_
    refine th_n ?_
    refine condF rfl ?_
    refine skip ?_
    refine ib_n ?_
    refine th_n ?_
    refine region ?_
    refine st (g_iadd (c := ((i + 1 : Nat) : Int)) rfl rfl (by omega) (by omega) (by omega)) rfl ?_
    refine st (g_move rfl) rfl ?_
    refine done ?_
    refine th_n ?_
    exact again (i + 1, r2, s2) ⟨by omega, hx2.1, hx2.2⟩ (by show os.length - (i + 1) < os.length - i; omega) ⟨rfl, rfl, rfl, rfl, rfl, trivial⟩ (.cons .here (.cons .here (.cons .here (.cons .here (.cons .here (.cons .here (.cons .here (.cons .here (.cons .here .nil)))))))))
  · try simp only [decide_eq_false_iff_not] at h46
    have hie : i = os.length := by omega
    subst hie
    have hkN := hkk os.length (Nat.le_refl _)
    obtain ⟨L, hld⟩ : ∃ L, Dk.load { (opsK (newDk n m) os os.length) with down := false } = L := ⟨_, rfl⟩
    have hroB : r.ok { (opsK (newDk n m) os os.length) with down := false } := ⟨hro.w0, hro.w1, hro.c0, hro.c1⟩
    have hsoB : s.ok { (opsK (newDk n m) os os.length) with down := false } := ⟨hso.s, hso.w, hso.sn, hso.sm, hso.wm, hso.pl, hso.c0, hso.c1⟩
    refine exitc ?_
    refine th_x ?_
    refine th_x ?_
    refine ib_x ?_
    refine th_n ?_
    refine seq ?_
    refine region ?_
    refine st (g_move rfl) rfl ?_
    refine sq rfl (o_call Tryd.func37 rfl rfl rfl (.cons .here .nil) (fun w hw hA => f37_spec b (opsK (newDk n m) os os.length) hkN r w hA) rfl (fun _ _ => ?_))
    refine done ?_
    refine th_n ?_
    refine seq ?_
    refine region ?_
    refine st (g_move rfl) rfl ?_
    refine st (g_nilCheck rfl) rfl ?_
    refine st (g_fieldAddr fo_71_3 rfl rfl) rfl ?_
    refine sq rfl (o_store (cs' := rkCells { (opsK (newDk n m) os os.length) with down := false } s) sz_4 rfl rfl rfl (.there (.there (.there (.there (.here))))) (Nat.le_of_ble_eq_true rfl) rfl ?_)
    refine done ?_
    refine th_n ?_
    refine seq ?_
    refine region ?_
    refine st (g_move rfl) rfl ?_
    refine sq rfl (o_call Tryd.func52 rfl rfl rfl (.cons (.there (.here)) (.cons (.there (.here)) (.cons (.there (.here)) (.cons (.there (.here)) .nil)))) (fun w hw hA => f52_ld b { (opsK (newDk n m) os os.length) with down := false } r hld w hA (Gl.ofOld (A := dkR b { (opsK (newDk n m) os os.length) with down := false } r) hG hw (.cons (.there (.here)) (.cons (.there (.here)) (.cons (.there (.here)) (.cons (.there (.here)) .nil))))) (Dk.ok_down hkN false) hroB) rfl (fun y8 hy8 => ?_))
    refine st (g_move rfl) rfl ?_
    refine st (g_extract rfl rfl) rfl ?_
    refine st (g_extract rfl rfl) rfl ?_
    refine st (g_extract rfl rfl) rfl ?_
    refine sq rfl (o_alloc (zs := [U64 0#64, .slice none 0 0]) zr_73 rfl (fun b13 => ?_))
    refine sq rfl (o_storeA (cs' := ldv L y8) sz_73 rfl rfl rfl (by simp [ldv]; exact ⟨rfl, rfl⟩) .here (Nat.le_of_ble_eq_true rfl) rfl ?_)
    refine st (g_assign rfl) rfl ?_
    refine st (g_assign rfl) rfl ?_
    refine done ?_
    refine th_n ?_
    refine seq ?_
    refine region ?_
    refine st (g_move rfl) rfl ?_
    refine sq rfl (o_call Tryd.func58 rfl rfl rfl (.cons (.there (.there (.there (.there (.there (.there (.here))))))) (.cons (.there (.there (.there (.there (.there (.there (.here))))))) (.cons (.there (.there (.there (.there (.there (.there (.here))))))) (.cons (.there (.there (.there (.there (.there (.there (.here))))))) (.cons (.there (.there (.there (.there (.there (.there (.here))))))) .nil))))) (fun w hw hA => f58_as d { (opsK (newDk n m) os os.length) with down := false } s hld w hA (Dk.ok_down hkN false) hsoB) rfl (fun y9 hy9 => ?_))
    refine st (g_move rfl) rfl ?_
    refine st (g_extract rfl rfl) rfl ?_
    refine st (g_extract rfl rfl) rfl ?_
    refine st (g_extract rfl rfl) rfl ?_
    refine sq rfl (o_alloc (zs := [U64 0#64, .slice none 0 0]) zr_73 rfl (fun b16 => ?_))
    refine sq rfl (o_storeA (cs' := ldv L y9) sz_73 rfl rfl rfl (by simp [ldv]; exact ⟨rfl, rfl⟩) .here (Nat.le_of_ble_eq_true rfl) rfl ?_)
    refine st (g_assign rfl) rfl ?_
    refine st (g_assign rfl) rfl ?_
    refine done ?_
    refine th_n ?_
    refine seq ?_
    refine region ?_
    refine st (g_loadA (vs := ldv L y8) ag_73 rfl rfl (Cells.part (.there (.there (.there (.there (.there (.there (.there (.here)))))))) rfl)) rfl ?_
    refine st (g_loadA (vs := ldv L y9) ag_73 rfl rfl (Cells.part .here rfl)) rfl ?_
    refine sq rfl (o_callP Tryd.func49 rfl rfl rfl (fun w hw => f49_tt L.n L.n L.d L.d _ _ rfl rfl y8 y9 rfl rfl w (RdC.ofVec (ld_vec (hw.get (.there (.there (.there (.there (.there (.there (.there (.there (.here)))))))))))) (RdC.ofVec (ld_vec (hw.get (.there (.here)))))) rfl ?_)
    refine st (g_move rfl) rfl ?_
    refine gt rfl ?_
    refine st (g_move rfl) rfl ?_
    refine gt rfl ?_
    refine st (g_move rfl) rfl ?_
    refine gt rfl ?_
    refine st (g_T rfl rfl rfl (rfl)) rfl ?_
    refine st (g_pickT rfl rfl) rfl ?_
    refine st (g_move rfl) rfl ?_
    refine gt rfl ?_
    refine st (g_move rfl) rfl ?_
    refine gt rfl ?_
    refine st (g_move rfl) rfl ?_
    refine gt rfl ?_
    refine st (g_T rfl rfl rfl (rfl)) rfl ?_
    refine st (g_pickT rfl rfl) rfl ?_
    refine st (g_assign rfl) rfl ?_
    refine done ?_
    refine th_n ?_
    refine ret ?_
    exact ret1 rfl rfl rfl (fun w2 hw2 => ⟨rfl, hw2.clear⟩)

theorem f14_spec (n m : Int) (q : Option Addr) (c : Nat) (os : List O18) (hl : os.length ≤ 9223372036854775807) (w : World) (hrq : RdC w q (op8C os)) (hok : ∀ o ∈ os, o.ok w) (hG : Gl w []) : Calls Tryd.prog 14 [I64 n, I64 m, .slice q os.length c].toArray w (fun en w2 => en = .returned (.bool true) ∧ Sat w [] [] w2) := by
  cases hg : great18 os with
  | true => exact f14_great n m q c os hl w hrq hg
  | false =>
    by_cases hb : n < 1 ∨ n > 64 ∨ m < 0 ∨ m > 10000
    · exact f14_bad n m q c os hl w hrq hg hb
    · obtain ⟨n, rfl⟩ := Int.eq_ofNat_of_zero_le (show 0 ≤ n by omega)
      obtain ⟨m, rfl⟩ := Int.eq_ofNat_of_zero_le (show 0 ≤ m by omega)
      exact f14_good n m (by omega) (by omega) (by omega) q c os hl w hrq hok hg hG
end Go.Proofs.YtokhediaibdkjaaDoor

/-! From C14 -/
/- The law SlotPlays: its row and its card. (printed by genC.py) -/
namespace Go.Proofs.YtokhediaibdkjaaDoor
set_option maxRecDepth 100000
open Go.Pm Go.ChangeShapes Go.WideShapes Go.ChangeAt Go.RowKit

theorem slotPlays_contract (H : Type) (enc : TypeId × Value → H) (W : World) (base : Nat) (args : Array Value) (ds gs : List (DataW H)) (before : List MemPlace)
    (hval : ∀ (j : Nat) t v, Tryd.f14.params[j]? = some t → args[j]? = some v → Value.okWide Tryd.prog W .any base t v)
    (hW : DataW.Whole enc Tryd.prog Tryd.f14.params.toList Rows.slotPlaysSpec.vars false W args.toList ds gs before) (hL : laidMetH Tryd.prog Rows.slotPlaysRow.laid W) :
    Calls Tryd.prog 14 args W fun e W' => ∃ v, e = .returned v ∧ Rows.slotPlaysSpec.post enc Tryd.prog Tryd.f14 false true false false W args v W' := by
  have hG : Gl W [] := gl_of_laid (.tail _ (.head _)) (.tail _ (.tail _ (.head _))) (show laidMet Tryd.prog Rows.slotPlaysRow.laid W from hL)
  have hW' := hW
  obtain ⟨p, q, hA0, hV, rfl, hfz, hnd⟩ := hW
  have hAll : DataW.TrodAll enc Tryd.prog W 0 (fun _ => true) true Tryd.f14.params.toList args.toList ds p := hA0
  rw [Tryd.params14] at hAll hval
  obtain ⟨rfl, rfl⟩ := trodVars_none hV
  obtain ⟨vn, vs0, dn, ds0, pn0, q0, hv0, rfl, rfl, hn, hAll⟩ := trodAll_cons hAll
  obtain ⟨vm, vs1, dm, ds1, pm0, q1, hv1, rfl, rfl, hm, hAll⟩ := trodAll_cons hAll
  obtain ⟨vl, vs2, dl, ds2, pl0, q2, hv2, rfl, rfl, hl, hAll⟩ := trodAll_cons hAll
  obtain ⟨rfl, rfl, rfl⟩ := trodAll_nil hAll
  obtain rfl : args = #[vn, vm, vl] := by cases args; simp_all
  obtain ⟨n, rfl, rfl, rfl, wfn⟩ := open_int un_3 (hval 0 3 _ rfl rfl) hn
  obtain ⟨m, rfl, rfl, rfl, wfm⟩ := open_int un_3 (hval 1 3 _ rfl rfl) hm
  obtain ⟨pl, cl, osl, rfl, hnl, hrl, hkl⟩ := open_ops8 (hval 2 102 _ rfl rfl) hl
  clear hA0
  refine Calls.mono (R := fun e W' => e = .returned (.bool true) ∧ Sat W [] [] W') ?_ ?_
  · exact f14_spec n m pl cl osl hnl W hrl hkl hG
  · rintro e W' ⟨rfl, hs⟩
    exact ⟨_, rfl, law_post hW' (by kernel_rfl) rfl ⟨rfl, rfl, rfl⟩ (by rw [Tryd.params14]; decide +kernel) hs.below⟩

noncomputable def slotPlays_world (os : Os) : World :=
  { World.holding Tryd.prog os ⟨#[], #[], []⟩ with heap := ((((World.holding Tryd.prog os ⟨#[], #[], []⟩).heap.modify 0 (layTab ((first224 ++ first256).map U32))).modify 1 (layTab (cubesL.map U32))).modify 2 (layTab (Go.Pinned.utf8FirstZ.map fun n : Nat => Value.int .u8 (n : Int)))).modify 3 (layTab (([128, 191, 160, 191, 128, 159, 144, 191, 128, 143] ++ List.replicate 22 0).map fun n : Nat => Value.int .u8 (n : Int))) }
theorem slotPlays_laid (os : Os) : laidMet Tryd.prog Rows.slotPlaysRow.laid ((slotPlays_world os).forCall (fun _ _ => 0) ⟨#[], #[.int .i64 0, .int .i64 0, .slice none 0 0], []⟩).memory :=
  laidMet_of_run' 8 (by kernel_rfl) (by kernel_rfl)
theorem slotPlays_reads (os : Os) {H : Type} (enc : TypeId × Value → H) : ∃ places, DataW.whole enc Tryd.prog ((slotPlays_world os).forCall (fun _ _ => 0) ⟨#[], #[.int .i64 0, .int .i64 0, .slice none 0 0], []⟩).memory Tryd.f14.params.toList Rows.slotPlaysSpec.vars false (#[.int .i64 0, .int .i64 0, .slice none 0 0] : Array Value).toList 8 = some ([.lit (.int .i64 0), .lit (.int .i64 0), .nil], [], places) :=
  ⟨[], by kernel_rfl⟩

theorem slotPlays_lifted (os : Os) (started : os.Started) (H : Type) (enc : TypeId × Value → H) (F : Stop.Interp) :
    ReturnsInHanded {} Tryd.checked os 14 .any ((OpenSpec.ofChange Rows.slotPlaysSpec).preRow enc Tryd.prog Tryd.f14 Rows.slotPlaysRow.domain false Rows.slotPlaysRow.laid) (((OpenSpec.ofChange Rows.slotPlaysSpec).at F).post enc Tryd.prog Tryd.f14 false true false false) := by
  obtain ⟨places, hx⟩ := slotPlays_reads os enc
  refine returnsInHanded_of_row (C := Tryd.checked) (s := OpenSpec.ofChange Rows.slotPlaysSpec) own started (by kernel_rfl) Tryd.func14
    (witness_row_at (enc := enc) (C := Tryd.checked) false (slotPlays_world os) #[.int .i64 0, .int .i64 0, .slice none 0 0] rfl (by kernel_rfl) (by kernel_rfl) (by kernel_rfl)
      (OpenSpec.preRow_of_cond 8 hx (by kernel_rfl) (fun k hk => by cases hk) (by kernel_rfl) (slotPlays_laid os))) ?_
  intro W base args ds gs before hval hW _ _ _ hL _ _
  exact slotPlays_contract H enc W base args ds gs before hval hW hL

theorem slotPlays_said : Rows.SlotPlaysSaid :=
  OpenClaim.holds_of_cond 14 Tryd.f14 rfl rfl rfl rfl rfl rfl rfl ⟨rfl, rfl, rfl, rfl, rfl⟩ rfl rfl rfl rfl rfl (by kernel_rfl) Tryd.func14 (by kernel_rfl)
    (of_decide_eq_true (by kernel_rfl)) (by unfold Func.isWrapper; first | (rw [if_pos (by decide +kernel)]; kernel_rfl) | (rw [if_neg (by decide +kernel)]; exact ⟨rfl, rfl⟩))
    (fun os started H enc _ F => by rw [OpenClaim.pre_eq_preRow]; exact slotPlays_lifted os started H enc F)

theorem slotPlays_plain (f : FuncId) (fn : Func) (hf : Tryd.pinned.checked.prog.funcNamed "postmark/postmarklaw18.SlotPlays" = some f) (hfn : Tryd.pinned.checked.prog.funcs[f]? = some fn) :
    false = Tryd.pinned.checked.prog.looks [] ∧ ∀ (j : Nat) t, fn.params[j]? = some t → Tryd.pinned.checked.prog.wantsStandIn t = false := by
  obtain rfl : f = 14 := Option.some.inj ((show Tryd.prog.funcNamed "postmark/postmarklaw18.SlotPlays" = some 14 by kernel_rfl).symm.trans hf) |>.symm
  obtain rfl : fn = Tryd.f14 := (Option.some.inj (Tryd.func14.symm.trans hfn)).symm
  refine ⟨by kernel_rfl, fun j t ht => ?_⟩
  rw [Tryd.params14] at ht
  have h : ∀ u ∈ ([3, 3, 102] : List Nat), Tryd.prog.wantsStandIn u = false := by decide +kernel
  exact h t (by have := Array.mem_of_getElem? ht; simpa using this)

/-- The card. -/
theorem slotPlays_card : Rows.SlotPlaysCardSaid :=
  Claim7.holds_tied_plain_at .later [] _ _ _ _ slotPlays_said (fun _ h => by cases h) (by kernel_rfl) (fun _ h => by cases h) slotPlays_row_tie rfl ⟨rfl, rfl⟩ (by kernel_rfl) rfl slotPlays_plain (by kernel_rfl)
end Go.Proofs.YtokhediaibdkjaaDoor
