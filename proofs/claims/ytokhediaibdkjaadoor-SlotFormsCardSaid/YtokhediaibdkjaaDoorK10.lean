/- The proof's texts, merged: C0 C1 R6 C2 C3 L10 C10. -/
import Derived.Test.YtokhediaibdkjaaDoorMB
import Derived.Test.YtokhediaibdkjaaDoorCards
import Derived.Test.YtokhediaibdkjaaDoorTie
import Derived.WalkKit
import Derived.ProofKit
import Derived.OpenShut
import Derived.Deep.DeepHandedRow
import Derived.Lib.LaidTab
import Derived.Carry
import Derived.Test.YtokhediaibdkjaaDoorMD
import Derived.Test.YtokhediaibdkjaaDoorMG
/-! From C0 -/
/- What all the rows' proofs share: the tables from the row's list; an argument of bytes, opened; the post. -/
namespace Go.Proofs.YtokhediaibdkjaaDoor
set_option maxRecDepth 100000
open Go.Pm Go.ChangeShapes Go.WideShapes Go.ChangeAt Go.RowKit

theorem own : ownKnob Tryd.prog.godebug = none := by kernel_rfl
theorem laidOut : laidOutB Tryd.prog = true := by kernel_rfl
theorem gCubes : Tryd.prog.globalNamed "postmark/sha256.cubes" = some 1 := by kernel_rfl
theorem gFirst : Tryd.prog.globalNamed "postmark/sha256.first" = some 0 := by kernel_rfl
theorem gCubesT : (Tryd.prog.globals[1]?).map (·.type) = some 118 := by kernel_rfl
theorem gFirstT : (Tryd.prog.globals[0]?).map (·.type) = some 122 := by kernel_rfl
theorem un_118 : Tryd.prog.underlying 118 = some (.array 64 38) := by kernel_rfl
theorem un_122 : Tryd.prog.underlying 122 = some (.array 2 39) := by kernel_rfl
theorem un_38 : Tryd.prog.underlying 38 = some (.int .u32) := by kernel_rfl
theorem un39 : Tryd.prog.underlying 39 = some (.array 8 38) := by kernel_rfl
theorem un_86 : Tryd.prog.underlying 86 = some (.int .u16) := by kernel_rfl
theorem un_4 : Tryd.prog.underlying 4 = some .bool := by kernel_rfl
theorem co_38 : Tryd.prog.cellsOf 38 = 1 := by kernel_rfl
theorem co_118 : Tryd.prog.cellsOf 118 = 64 := by kernel_rfl
theorem co_39 : Tryd.prog.cellsOf 39 = 8 := by kernel_rfl
theorem co_122 : Tryd.prog.cellsOf 122 = 16 := by kernel_rfl
theorem co5 : Tryd.prog.cellsOf 5 = 1 := by kernel_rfl

/-- A row in which a table is laid. -/
def layTab (cs : List Value) : Obj → Obj
  | .cells _ t fr => .cells cs.toArray t fr
  | o => o
theorem laidVars_mem {P : Program} {W : World} : ∀ {l : List (String × DataW Unit)} {ps : List MemPlace}, DataW.LaidVars P W l ps → ∀ {n : String} {d : DataW Unit}, (n, d) ∈ l →
    ∃ g t cs fuel p, P.globalNamed n = some g ∧ (P.globals[g]?).map (·.type) = some t ∧ W.var? P n = some cs ∧ DataW.trod (fun _ => ()) P W 0 (fun _ => true) false fuel t cs.toList = some (d, p)
  | [], _, _, _, _, hm => by cases hm
  | (n', d') :: r, ps, h, n, d, hm => by
    obtain ⟨g, t, cs, fuel, p, q, h1, h2, h3, h4, h5, _⟩ := h
    rcases List.mem_cons.1 hm with he | hm
    · cases he; exact ⟨g, t, cs, fuel, p, h1, h2, h3, h4⟩
    · exact laidVars_mem h5 hm

theorem rd_var {W : World} {n : String} {g : Nat} {cs : Array Value} (hg : Tryd.prog.globalNamed n = some g) (h : W.var? Tryd.prog n = some cs) : RdC W (some ⟨g, 0, none⟩) cs.toList := fun j u hj => by
  refine ⟨g, 0, rfl, ?_⟩
  have := World.var?_cell hg h j
  rw [Nat.zero_add, this]
  simpa using hj

/-- The tables, from the row's list. -/
theorem gl_of_laid {laid : List (String × DataW Unit)} (h1 : ("postmark/sha256.cubes", Rows.laid_postmark_sha256_cubes) ∈ laid) (h2 : ("postmark/sha256.first", Rows.laid_postmark_sha256_first) ∈ laid) {W : World} (h : laidMet Tryd.prog laid W) : Gl W [] := by
  obtain ⟨ps, hv, _⟩ := h
  obtain ⟨g, t, cs, fuel, p, hg, ht, hvar, hd⟩ := laidVars_mem hv h1
  obtain ⟨g', t', cs', fuel', p', hg', ht', hvar', hd'⟩ := laidVars_mem hv h2
  cases Option.some.inj (gCubes.symm.trans hg)
  cases Option.some.inj (gFirst.symm.trans hg')
  cases Option.some.inj (gCubesT.symm.trans ht)
  cases Option.some.inj (gFirstT.symm.trans ht')
  have e1 : cs.toList = cubesL.map U32 := by
    have := Lib.cells_of_tab (zs := cubesL.map fun x => (x.toNat : Int)) un_118 un_38 co_38 co_118 hd
    rw [this]; simp
  obtain ⟨xs, m, rfl, hx, hlen, hxl, hel⟩ := DataW.trod_array un_122 hd'
  rw [co_122] at hlen
  have hxs : xs.map (·.1) = [Lib.tabData .u32 (first224.map fun x => (x.toNat : Int)), Lib.tabData .u32 (first256.map fun x => (x.toNat : Int))] := by
    have := congrArg Prod.fst hx
    exact (DataW.agg.inj (show Rows.laid_postmark_sha256_first = DataW.agg (xs.map (·.1)) from this)).symm
  have hat : ∀ i (zs : List (BitVec 32)), i < 2 → (xs.map (·.1))[i]? = some (Lib.tabData .u32 (zs.map fun x => (x.toNat : Int))) → (cs'.toList.drop (i * 8)).take 8 = zs.map U32 := fun i zs hi hz => by
    have h3 := hel i hi
    rw [co_39] at h3
    rw [List.getElem?_map] at hz
    cases hxi : xs[i]? with
    | none => simp [hxi] at hz
    | some y =>
      rw [hxi] at h3 hz
      simp only [Option.map_some, Option.some.injEq] at hz
      obtain ⟨y1, y2⟩ := y
      subst hz
      have := Lib.cells_of_tab (zs := zs.map fun x => (x.toNat : Int)) un39 un_38 co_38 co_39 h3
      rw [this]; simp
  have e2 := hat 0 first224 (by decide) (by rw [hxs]; rfl)
  have e3 := hat 1 first256 (by decide) (by rw [hxs]; rfl)
  have e4 : cs'.toList = (first224 ++ first256).map U32 := by
    rw [List.map_append, ← e2, ← e3]
    simp only [Nat.zero_mul, List.drop_zero, Nat.one_mul]
    have : (cs'.toList.drop 8).take 8 = cs'.toList.drop 8 := List.take_of_length_le (by simp; simp at hlen; omega)
    rw [this, List.take_append_drop]
  refine ⟨RdC.s ?_, RdC.s ?_⟩
  · rw [← e4]; exact rd_var gFirst hvar'
  · rw [← e1]; exact rd_var gCubes hvar

/-- An argument of bytes. -/
theorem open_bytes {H : Type} {enc : TypeId × Value → H} {W : World} {base : Nat} {v : Value} {d : DataW H} {p : List MemPlace} (hval : Value.okWide Tryd.prog W .any base 23 v) (h : DataW.Trod enc Tryd.prog W 0 (fun _ => true) true 23 v d p) :
    ∃ (q : Option Addr) (n c : Nat) (l : List UInt8), v = .slice q n c ∧ l.length = n ∧ (q = none → c = 0) ∧ n ≤ c ∧ c ≤ maxLen ∧ RdC W q (l.map B8) := by
  obtain ⟨a, n, c, rfl⟩ := okWide_slice un_23 hval
  obtain ⟨fuel, hf⟩ := h
  rcases open_ints un_23 un_5 co5 hf with ⟨hcs, hx⟩ | ⟨a', len, cap, zs, hcs, _, hl, hm, hz, hx, hcell, hwz⟩
  · simp [Value.cells] at hcs
    obtain ⟨rfl, rfl, rfl⟩ := hcs
    exact ⟨none, 0, 0, [], rfl, rfl, fun _ => rfl, Nat.le_refl _, Nat.zero_le _, RdC.nil⟩
  · simp [Value.cells] at hcs
    obtain ⟨rfl, rfl, rfl⟩ := hcs
    simp only [if_true] at hz
    refine ⟨some a', _, _, (zs.take n).map fun z => UInt8.ofNat z.toNat, rfl, by simp; omega, by simp, hl, hm, ?_⟩
    intro j u hj
    simp only [List.map_map, List.getElem?_map, Option.map_eq_some_iff] at hj
    obtain ⟨z, hzj, rfl⟩ := hj
    rw [List.getElem?_take] at hzj
    split at hzj
    · rename_i hjl
      have hjz : j < zs.length := by omega
      have hc := hcell j hjz
      have hzv : zs.getD j 0 = z := by simp [hzj]
      rw [hzv] at hc
      have hw := hwz z (List.mem_of_getElem? hzj)
      have hb : 0 ≤ z ∧ z < 256 := by
        simp [Lit.wf, IntKind.min, IntKind.max, IntKind.signed, IntKind.bits] at hw
        omega
      obtain ⟨b, o, sp⟩ := a'
      have hspot : sp = none := by
        have h0 := World.cell?_spot (hcell 0 (by omega))
        simpa [Addr.add] using h0
      subst hspot
      refine ⟨b, o, rfl, ?_⟩
      rw [add_at] at hc
      rw [hc]
      have : ((UInt8.ofNat z.toNat).toNat : Int) = z := by
        rw [UInt8.toNat_ofNat']
        omega
      exact congrArg (fun t : Int => some (Value.int .u8 t)) this.symm
    · cases hzj

theorem trodAll_below {H : Type} {enc : TypeId × Value → H} {W W' : World} (hb : Below W.heap.size W W') : ∀ {ts : List TypeId} {vs : List Value} {ds : List (DataW H)} {ps : List MemPlace}, (∀ t ∈ ts, Tryd.prog.readableRec t = true ∧ t < Tryd.prog.types.size) →
    DataW.TrodAll enc Tryd.prog W 0 (fun _ => true) true ts vs ds ps → (∀ x ∈ ps, x.block < W.heap.size) → DataW.TrodAll enc Tryd.prog W' 0 (fun b => decide (b < W.heap.size)) true ts vs ds ps
  | [], _, _, _, _, h, _ => by
    obtain ⟨rfl, rfl, rfl⟩ := trodAll_nil h
    exact trodAll_mk0
  | t :: ts, _, _, _, ht, h, hlt => by
    obtain ⟨v, vs, d, ds, p, q, rfl, rfl, rfl, h1, h2⟩ := trodAll_cons h
    exact trodAll_cons_mk (Below.trod laidOut (ht t (by simp)).1 (ht t (by simp)).2 h1 hb (fun x hx => hlt x (by simp [hx]))) (trodAll_below hb (fun u hu => ht u (by simp [hu])) h2 (fun x hx => hlt x (by simp [hx])))

/-- The post of a law: it answers true, and the input reads as it did. -/
theorem law_post {H : Type} {enc : TypeId × Value → H} {f : Func} {s : ChangeSpec} {W W' : World} {args : Array Value} {ds gs : List (DataW H)} {before : List MemPlace} (hW : DataW.Whole enc Tryd.prog f.params.toList s.vars false W args.toList ds gs before)
    (hrt : f.resultTypes = #[4]) (hv : s.vars = []) (hfn : (s.fn H (ds ++ gs)).results = [.lit (.bool true)] ∧ (s.fn H (ds ++ gs)).args = ds ∧ (s.fn H (ds ++ gs)).vars = []) (hread : ∀ t ∈ f.params.toList, Tryd.prog.readableRec t = true ∧ t < Tryd.prog.types.size)
    (hb : Below W.heap.size W W') : s.post enc Tryd.prog f false true false false W args (.bool true) W' := by
  have hW' := hW
  obtain ⟨p, q, hA, hV, rfl, _, _⟩ := hW
  rw [hv] at hV
  obtain ⟨rfl, rfl⟩ := trodVars_none hV
  obtain ⟨f1, f2, f3⟩ := hfn
  refine ⟨ds, [], p ++ [], [], p, [], hW', ?_, ?_, ?_, Below.frame hb _, fun h => by cases h⟩
  · rw [f1, hrt]; exact trodAll_cons_mk (shut_bool un_4 _) trodAll_mk0
  · rw [f2]; exact trodAll_below hb hread hA (fun x hx => hW'.lt x (by simp [hx]))
  · rw [f3, hv]; rfl
end Go.Proofs.YtokhediaibdkjaaDoor

/-! From C1 -/
/- Numbers of eight bytes among a row's arguments. -/
namespace Go.Proofs.YtokhediaibdkjaaDoor
set_option maxRecDepth 100000
open Go.Pm Go.ChangeShapes Go.WideShapes Go.ChangeAt Go.RowKit
theorem un_34 : Tryd.prog.underlying 34 = some (.int .u64) := by kernel_rfl
theorem u64_of {z : Int} (h : Lit.wf (.int .u64 z) = true) : ∃ N : BitVec 64, z = (N.toNat : Int) := by
  have hz : 0 ≤ z ∧ z < 18446744073709551616 := by
    simp [Lit.wf, IntKind.min, IntKind.max, IntKind.signed, IntKind.bits] at h
    omega
  refine ⟨BitVec.ofNat 64 z.toNat, ?_⟩
  rw [BitVec.toNat_ofNat, Nat.mod_eq_of_lt (by omega)]
  omega
theorem exists_list {α : Type} {P : Nat → α → Prop} : ∀ n, (∀ i, i < n → ∃ a, P i a) → ∃ l : List α, l.length = n ∧ ∀ i a, l[i]? = some a → P i a
  | 0, _ => ⟨[], rfl, fun i a h => by simp at h⟩
  | n + 1, h => by
    obtain ⟨l, hl, hp⟩ := exists_list n (fun i hi => h i (by omega))
    obtain ⟨a, ha⟩ := h n (by omega)
    refine ⟨l ++ [a], by simp [hl], fun i b hb => ?_⟩
    rcases Nat.lt_or_ge i n with hi | hi
    · rw [List.getElem?_append_left (by omega)] at hb; exact hp i b hb
    · rw [List.getElem?_append_right (by omega)] at hb
      have : i - l.length = 0 := by
        rcases Nat.eq_zero_or_pos (i - l.length) with h0 | h0
        · exact h0
        · rw [List.getElem?_eq_none (by simp; omega)] at hb; cases hb
      rw [this] at hb
      simp at hb
      subst hb
      rw [show i = n by omega]; exact ha
/-- Bytes, from what a row says of their cell. -/
theorem bytes_of_trod {H : Type} {enc : TypeId × Value → H} {W : World} {fuel : Nat} {cs : List Value} {x : DataW H × List MemPlace} (hf : DataW.trod enc Tryd.prog W 0 (fun _ => true) true fuel 23 cs = some x) : ∃ s : Sl, cs = [s.v] ∧ s.ok W ∧ s.c ≤ maxLen := by
  rcases open_ints un_23 un_5 co5 hf with ⟨hcs, hx⟩ | ⟨a', len, cap, zs, hcs, _, hl, hm, hz, hx, hcell, hwz⟩
  · exact ⟨⟨none, 0, 0, []⟩, hcs, ⟨rfl, fun _ => rfl, Nat.le_refl _, RdC.nil⟩, Nat.zero_le _⟩
  · simp only [if_true] at hz
    refine ⟨⟨some a', len, cap, (zs.take len).map fun z => UInt8.ofNat z.toNat⟩, hcs, ⟨by simp; omega, by simp, hl, ?_⟩, hm⟩
    intro j u hj
    simp only [List.map_map, List.getElem?_map, Option.map_eq_some_iff] at hj
    obtain ⟨z, hzj, rfl⟩ := hj
    rw [List.getElem?_take] at hzj
    split at hzj
    · rename_i hjl
      have hjz : j < zs.length := by omega
      have hc := hcell j hjz
      have hzv : zs.getD j 0 = z := by simp [hzj]
      rw [hzv] at hc
      have hw := hwz z (List.mem_of_getElem? hzj)
      have hb : 0 ≤ z ∧ z < 256 := by
        simp [Lit.wf, IntKind.min, IntKind.max, IntKind.signed, IntKind.bits] at hw
        omega
      obtain ⟨b, o, sp⟩ := a'
      have hspot : sp = none := by
        have h0 := World.cell?_spot (hcell 0 (by omega))
        simpa [Addr.add] using h0
      subst hspot
      refine ⟨b, o, rfl, ?_⟩
      rw [add_at] at hc
      rw [hc]
      have : ((UInt8.ofNat z.toNat).toNat : Int) = z := by
        rw [UInt8.toNat_ofNat']
        omega
      exact congrArg (fun t : Int => some (Value.int .u8 t)) this.symm
    · cases hzj
theorem un22 : Tryd.prog.underlying 22 = some (.slice 23) := by kernel_rfl
theorem co_23 : Tryd.prog.cellsOf 23 = 1 := by kernel_rfl
/-- An argument: slices of bytes. -/
theorem open_slices {H : Type} {enc : TypeId × Value → H} {W : World} {base : Nat} {v : Value} {d : DataW H} {p : List MemPlace} (hval : Value.okWide Tryd.prog W .any base 22 v) (h : DataW.Trod enc Tryd.prog W 0 (fun _ => true) true 22 v d p) :
    ∃ (q : Option Addr) (c : Nat) (ss : List Sl), v = .slice q ss.length c ∧ (q = none → c = 0) ∧ ss.length ≤ c ∧ c ≤ maxLen ∧ RdC W q (ss.map Sl.v) ∧ ∀ s ∈ ss, s.ok W := by
  obtain ⟨a, n, c, rfl⟩ := okWide_slice un22 hval
  obtain ⟨fuel, hf⟩ := h
  rcases DataW.trod_slice un22 hf with ⟨hcs, _⟩ | ⟨a', len, cap, elems, rest, m, _, hcs, _, _, hl, hm, hlen, hel, _, _⟩
  · simp [Value.cells] at hcs
    obtain ⟨rfl, rfl, rfl⟩ := hcs
    exact ⟨none, 0, [], rfl, fun _ => rfl, Nat.le_refl _, Nat.zero_le _, RdC.nil, by simp⟩
  · simp [Value.cells] at hcs
    obtain ⟨rfl, rfl, rfl⟩ := hcs
    have each : ∀ i, i < n → ∃ s : Sl, s.ok W ∧ W.cell? (a'.add i) = some s.v := fun i hi => by
      have he := hel i hi
      rw [co_23, Nat.mul_one, List.getElem?_eq_getElem (by omega)] at he
      obtain ⟨cs', hcs', hy⟩ := Option.bind_eq_some_iff.1 he
      obtain ⟨s, rfl, hok, _⟩ := bytes_of_trod hy
      exact ⟨s, hok, cell_of_cells?_one hcs'⟩
    obtain ⟨ss, hsl, hss⟩ := exists_list n each
    refine ⟨some a', c, ss, by rw [hsl], by simp, by omega, hm, ?_, fun s hs => ?_⟩
    · intro j u hj
      simp only [List.getElem?_map, Option.map_eq_some_iff] at hj
      obtain ⟨s, hsj, rfl⟩ := hj
      have hc := (hss j s hsj).2
      have hjn : j < n := by have := (List.getElem?_eq_some_iff.1 hsj).1; omega
      obtain ⟨s0, _, h0⟩ := each 0 (by omega)
      obtain ⟨b, o, sp⟩ := a'
      have hspot : sp = none := by
        have h1 := World.cell?_spot h0
        simpa [Addr.add] using h1
      subst hspot
      exact ⟨b, o, rfl, by rw [← hc, add_at]⟩
    · obtain ⟨i, hi⟩ := List.getElem?_of_mem hs
      exact (hss i s hi).1
theorem un_24 : Tryd.prog.underlying 24 = some (.int .i64) := by kernel_rfl
theorem un_2 : Tryd.prog.underlying 2 = some (.int .i64) := by kernel_rfl
theorem u8_of {z : Int} (h : Lit.wf (.int .u8 z) = true) : ∃ N : UInt8, z = (N.toNat : Int) := by
  have hz : 0 ≤ z ∧ z < 256 := by
    simp [Lit.wf, IntKind.min, IntKind.max, IntKind.signed, IntKind.bits] at h
    omega
  refine ⟨UInt8.ofNat z.toNat, ?_⟩
  rw [UInt8.toNat_ofNat']
  omega
theorem i64_of {z : Int} (h : Lit.wf (.int .i64 z) = true) : -9223372036854775808 ≤ z ∧ z < 9223372036854775808 := by
  simp [Lit.wf, IntKind.min, IntKind.max, IntKind.signed, IntKind.bits] at h
  omega
theorem un113 : Tryd.prog.underlying 113 = some (.slice 2) := by kernel_rfl
theorem co_2 : Tryd.prog.cellsOf 2 = 1 := by kernel_rfl
/-- An argument: whole numbers. -/
theorem open_i64s {H : Type} {enc : TypeId × Value → H} {W : World} {base : Nat} {v : Value} {d : DataW H} {p : List MemPlace} (hval : Value.okWide Tryd.prog W .any base 113 v) (h : DataW.Trod enc Tryd.prog W 0 (fun _ => true) true 113 v d p) :
    ∃ (q : Option Addr) (c : Nat) (zs : List Int), v = .slice q zs.length c ∧ (q = none → c = 0) ∧ zs.length ≤ c ∧ RdC W q (zs.map fun z => Value.int .i64 z) := by
  obtain ⟨a, n, c, rfl⟩ := okWide_slice un113 hval
  obtain ⟨fuel, hf⟩ := h
  rcases open_ints un113 un_2 co_2 hf with ⟨hcs, _⟩ | ⟨a', len, cap, zs, hcs, _, hl, hm, hz, hx, hcell, _⟩
  · simp [Value.cells] at hcs
    obtain ⟨rfl, rfl, rfl⟩ := hcs
    exact ⟨none, 0, [], rfl, fun _ => rfl, Nat.le_refl _, RdC.nil⟩
  · simp [Value.cells] at hcs
    obtain ⟨rfl, rfl, rfl⟩ := hcs
    simp only [if_true] at hz
    have hlen : (zs.take n).length = n := by rw [List.length_take]; omega
    refine ⟨some a', c, zs.take n, by rw [hlen], by simp, by omega, ?_⟩
    intro j u hj
    simp only [List.getElem?_map, Option.map_eq_some_iff] at hj
    obtain ⟨z, hzj, rfl⟩ := hj
    rw [List.getElem?_take] at hzj
    split at hzj
    · rename_i hjl
      have hc := hcell j (by omega)
      rw [show zs.getD j 0 = z by simp [hzj]] at hc
      obtain ⟨b, o, sp⟩ := a'
      have hspot : sp = none := by
        have h0 := World.cell?_spot (hcell 0 (by omega))
        simpa [Addr.add] using h0
      subst hspot
      exact ⟨b, o, rfl, by rw [← hc, add_at]⟩
    · cases hzj
end Go.Proofs.YtokhediaibdkjaaDoor

/-! From R6 -/
/- The operations of law 19; the walk of its great. (printed by gen1.py) -/
namespace Go.Proofs.YtokhediaibdkjaaDoor
open Go.Pm Go.RowKit
set_option maxRecDepth 100000
theorem flat_at {α : Type} {l : List (List α)} {n i j : Nat} {x : List α} (h : ∀ y ∈ l, y.length = n) (hi : l[i]? = some x) (hj : j < n) : l.flatten[i * n + j]? = x[j]? := by
  have h1 := flat_get h hi
  have h2 := congrArg (fun z : List α => z[j]?) h1
  simp only [List.getElem?_take_of_lt hj, List.getElem?_drop] at h2
  exact h2
theorem Cell.rdO {cx : Cx} {Rs : List Res} {b o j m : Nat} {vs : List Value} {u : Value} (h : RdA cx Rs (some ⟨b, o, none⟩) vs) (hj : vs[j]? = some u) (hm : o + j = m) : Cell cx Rs ⟨b, m, none⟩ u := fun w hw => by
  subst hm
  exact (h w hw).cell hj
theorem RdC.head {w : World} {p : Option Addr} {vs : List Value} (h : RdC w p vs) (hn : vs ≠ []) : ∃ b o, p = some ⟨b, o, none⟩ := by
  cases vs with
  | nil => exact absurd rfl hn
  | cons v vs =>
    obtain ⟨b, o, e, _⟩ := h 0 v rfl
    exact ⟨b, o, e⟩
/-- An operation of law 19. -/
structure O19 where
  kind : Int
  time : Int
  first : Int
  n : Int
  s : Sl
def O19.cells (o : O19) : List Value := [I64 o.kind, I64 o.time, I64 o.first, I64 o.n, o.s.v]
def O19.ok (o : O19) (w : World) : Prop := o.s.ok w ∧ o.n < 9223372036854775808
def opC (os : List O19) : List Value := (os.map O19.cells).flatten
theorem op_get {os : List O19} {i j : Nat} {o : O19} (h : os[i]? = some o) (hj : j < 5) : (opC os)[i * 5 + j]? = o.cells[j]? :=
  flat_at (n := 5) (by intro y hy; obtain ⟨z, _, rfl⟩ := List.mem_map.1 hy; rfl) (by rw [List.getElem?_map, h]; rfl) hj
theorem op_ne {os : List O19} {i : Nat} {o : O19} (h : os[i]? = some o) : opC os ≠ [] := fun e => by
  have := op_get h (j := 0) (by decide)
  rw [e] at this
  cases this
/-- Are they more than the statements go through? -/
def great19 (os : List O19) : Bool := decide (80 < os.length) || os.any fun o => decide (100 < o.s.n)
theorem great_no {os : List O19} (h : great19 os = false) : os.length ≤ 80 ∧ ∀ o ∈ os, o.s.n ≤ 100 := by
  unfold great19 at h
  rw [Bool.or_eq_false_iff] at h
  refine ⟨by have := h.1; simp at this; exact this, fun o ho => ?_⟩
  have := List.any_eq_false.1 h.2 o ho
  simpa using this


theorem f27_spec (q : Option Addr) (c : Nat) (os : List O19) (hl : os.length ≤ 9223372036854775807) (w : World) (hrq : RdC w q (opC os)) : Calls Tryd.prog 27 [.slice q os.length c].toArray w (fun en w2 => en = .returned (.bool (great19 os)) ∧ Sat w [] [] w2) := by
  refine used hl (used hrq (?_))
  refine enter (n := 20) Tryd.func27 rfl rfl rfl (Sat.refl w) ?_
  refine seq ?_
  refine region ?_
  refine st (g_assign rfl) rfl ?_
  refine done ?_
  refine th_n ?_
  refine seq ?_
  refine seq ?_
  refine region ?_
  refine st (g_move rfl) rfl ?_
  refine st (g_len el_46 rfl) rfl ?_
  refine st (g_bin rfl rfl rfl) rfl ?_
  refine done ?_
  refine th_n ?_
  refine condS rfl (fun h6 => ?_) (fun h6 => ?_)
  · try simp only [decide_eq_true_eq] at h6
    have hg : great19 os = true := by unfold great19; rw [decide_eq_true (by omega)]; rfl
    refine seq ?_
    refine region ?_
    refine st (g_assign rfl) rfl ?_
    refine done ?_
    refine th_n ?_
    refine ret ?_
    refine th_r ?_
    exact ret1 rfl rfl rfl (fun w2 hw2 => ⟨by rw [hg], hw2.clear⟩)
  · try simp only [decide_eq_false_iff_not] at h6
    refine skip ?_
    refine th_n ?_
    refine seq ?_
    refine seq ?_
    refine region ?_
    refine st (g_move rfl) rfl ?_
    refine st (g_len el_46 rfl) rfl ?_
    refine st (g_move rfl) rfl ?_
    refine done ?_
    refine th_n ?_
    refine block ?_
    refine loop (α := Nat) (fun i => i ≤ os.length ∧ ∀ j o, j < i → os[j]? = some o → o.s.n ≤ 100) (fun i => [(0, .slice q os.length c), (8, I64 (os.length : Nat)), (9, I64 (i : Nat))]) (fun i => []) (fun i => os.length - i) 0 ⟨Nat.zero_le _, fun j o h => absurd h (Nat.not_lt_zero j)⟩ ⟨rfl, rfl, rfl, trivial⟩ .nil (fun i hI => ?_)
    refine seq ?_
    refine region ?_
    refine st (g_bin rfl rfl rfl) rfl ?_
    refine done ?_
    refine th_n ?_
    refine seq ?_
    refine condS rfl (fun h10 => ?_) (fun h10 => ?_)
    · try simp only [decide_eq_true_eq] at h10
      have hi : i < os.length := by omega
      obtain ⟨o, ho⟩ : ∃ o, os[i]? = some o := ⟨os[i], by simp [hi]⟩
      obtain ⟨qb, qo, rfl⟩ := RdC.head hrq (op_ne ho)
      refine skip ?_
      refine th_n ?_
      refine seq ?_
      refine block ?_
      refine seq ?_
      refine region ?_
      refine st (g_move rfl) rfl ?_
      refine st (g_assign rfl) rfl ?_
      refine done ?_
      refine th_n ?_
      refine seq ?_
      refine region ?_
      refine st (g_move rfl) rfl ?_
      refine st (g_move rfl) rfl ?_
      refine st (g_indexS (m := qo + i * 5) el_46 rfl rfl (by omega) (by omega) (by omega)) rfl ?_
      refine st (g_fieldAddr fo_59_4 rfl rfl) rfl ?_
      refine st (g_load (v := o.s.v) sc_23 rfl (Cell.rdO (RdA.of hrq.s) (op_get ho (j := 4) (by decide)) (by omega))) rfl ?_
      refine st (g_len el_23 rfl) rfl ?_
      refine st (g_bin rfl rfl rfl) rfl ?_
      refine done ?_
      refine th_n ?_
      refine condS rfl (fun h18 => ?_) (fun h18 => ?_)
      · try simp only [decide_eq_true_eq] at h18
        have hg : great19 os = true := by
          unfold great19
          rw [Bool.or_eq_true]
          exact .inr (List.any_eq_true.2 ⟨o, List.mem_of_getElem? ho, decide_eq_true (by omega)⟩)
        refine seq ?_
        refine region ?_
        refine st (g_assign rfl) rfl ?_
        refine done ?_
        refine th_n ?_
        refine ret ?_
        refine ib_r ?_
        refine th_r ?_
        refine th_r ?_
        refine ib_r ?_
        refine th_r ?_
        exact ret1 rfl rfl rfl (fun w2 hw2 => ⟨by rw [hg], hw2.clear⟩)
      · try simp only [decide_eq_false_iff_not] at h18
        have hnext : ∀ j o, j < i + 1 → os[j]? = some o → o.s.n ≤ 100 := fun j o1 hj h1 => by
          rcases Nat.lt_or_ge j i with h2 | h2
          · exact hI.2 j o1 h2 h1
          · rw [show j = i by omega, ho] at h1
            cases h1
            omega
        refine skip ?_
        refine ib_n ?_
        refine th_n ?_
        refine region ?_
        refine st (g_iadd (c := ((i + 1 : Nat) : Int)) rfl rfl (by omega) (by omega) (by omega)) rfl ?_
        refine st (g_move rfl) rfl ?_
        refine done ?_
        refine th_n ?_
        exact again (i + 1) ⟨by omega, hnext⟩ (by omega) ⟨rfl, rfl, rfl, trivial⟩ .nil
    · try simp only [decide_eq_false_iff_not] at h10
      have hie : i = os.length := by omega
      have hg : great19 os = false := by
        unfold great19
        rw [Bool.or_eq_false_iff]
        refine ⟨decide_eq_false (by omega), List.any_eq_false.2 fun o ho => ?_⟩
        obtain ⟨j, hj⟩ := List.getElem?_of_mem ho
        have hjl := (List.getElem?_eq_some_iff.1 hj).1
        have := hI.2 j o (by omega) hj
        simpa using this
      refine exitc ?_
      refine th_x ?_
      refine th_x ?_
      refine ib_x ?_
      refine th_n ?_
      refine seq ?_
      refine region ?_
      refine st (g_assign rfl) rfl ?_
      refine done ?_
      refine th_n ?_
      refine ret ?_
      exact ret1 rfl rfl rfl (fun w2 hw2 => ⟨by rw [hg], hw2.clear⟩)

theorem f27_as (q : Option Addr) (c : Nat) (os : List O19) (hl : os.length ≤ 9223372036854775807) {g : Bool} (hg : great19 os = g) (w : World) (hrq : RdC w q (opC os)) : Calls Tryd.prog 27 [.slice q os.length c].toArray w (fun en w2 => en = .returned (.bool g) ∧ Sat w [] [] w2) := by
  subst hg
  exact f27_spec q c os hl w hrq
end Go.Proofs.YtokhediaibdkjaaDoor

/-! From C2 -/
/- Structs among a row's arguments; the operations of law 19. -/
namespace Go.Proofs.YtokhediaibdkjaaDoor
set_option maxRecDepth 100000
open Go.Pm Go.ChangeShapes Go.WideShapes Go.ChangeAt Go.RowKit
/-- A struct's fields: their types and where they lie. -/
def fieldsOf (P : Program) (t : TypeId) : Option (List (Nat × Nat)) :=
  match P.underlying t with
  | some (.struct fs) => some (fs.toList.map fun f => (f.type, f.offset))
  | _ => none
theorem fieldsOf_spec {P : Program} {t : TypeId} {l : List (Nat × Nat)} (h : fieldsOf P t = some l) : ∃ fs, P.underlying t = some (.struct fs) ∧ fs.toList.map (fun f => (f.type, f.offset)) = l := by
  unfold fieldsOf at h
  split at h
  · rename_i fs hfs; exact ⟨fs, hfs, Option.some.inj h⟩
  · cases h
/-- A struct's cells, field by field. -/
theorem open_fields {H : Type} {enc : TypeId × Value → H} {P : Program} {W : World} {base : Nat} {sp : Nat → Bool} {hd : Bool} {fuel : Nat} {t : TypeId} {l : List (Nat × Nat)} {cs : List Value} {x : DataW H × List MemPlace} (hf : fieldsOf P t = some l) (h : DataW.trod enc P W base sp hd fuel t cs = some x) :
    cs.length = P.cellsOf t ∧ ∀ (j u o : Nat), l[j]? = some (u, o) → ∃ n y, DataW.trod enc P W base sp hd n u ((cs.drop o).take (P.cellsOf u)) = some y := by
  obtain ⟨fs, hu, hl⟩ := fieldsOf_spec hf
  obtain ⟨xs, n, _, _, h1, h2, h3⟩ := DataW.trod_struct hu h
  refine ⟨h1, fun j u o hj => ?_⟩
  rw [← hl, List.getElem?_map] at hj
  cases hfj : fs.toList[j]? with
  | none => rw [hfj] at hj; cases hj
  | some f =>
    rw [hfj] at hj
    simp only [Option.map_some, Option.some.injEq, Prod.mk.injEq] at hj
    obtain ⟨rfl, rfl⟩ := hj
    have hfa : fs[j]? = some f := by rw [← Array.getElem?_toList]; exact hfj
    have h4 := h3 j f hfa
    have hjl : j < xs.length := by
      have := (Array.getElem?_eq_some_iff.1 hfa).1
      omega
    rw [List.getElem?_eq_getElem hjl] at h4
    exact ⟨n, _, h4⟩
theorem fs_59 : fieldsOf Tryd.prog 59 = some [(3, 0), (2, 1), (2, 2), (3, 3), (23, 4)] := by kernel_rfl
theorem un_46 : Tryd.prog.underlying 46 = some (.slice 59) := by kernel_rfl
theorem co_59 : Tryd.prog.cellsOf 59 = 5 := by kernel_rfl
theorem co_3 : Tryd.prog.cellsOf 3 = 1 := by kernel_rfl
theorem op_of_trod {H : Type} {enc : TypeId × Value → H} {W : World} {fuel : Nat} {cs : List Value} {x : DataW H × List MemPlace} (h : DataW.trod enc Tryd.prog W 0 (fun _ => true) true fuel 59 cs = some x) : ∃ o : O19, cs = o.cells ∧ o.ok W := by
  obtain ⟨hl, hf⟩ := open_fields fs_59 h
  rw [co_59] at hl
  match cs, hl with
  | [c0, c1, c2, c3, c4], _ =>
    obtain ⟨_, _, h0⟩ := hf 0 3 0 rfl
    obtain ⟨_, _, h1⟩ := hf 1 2 1 rfl
    obtain ⟨_, _, h2⟩ := hf 2 2 2 rfl
    obtain ⟨_, _, h3⟩ := hf 3 3 3 rfl
    obtain ⟨_, _, h4⟩ := hf 4 23 4 rfl
    rw [co_3] at h0 h3
    rw [co_2] at h1 h2
    rw [co_23] at h4
    obtain ⟨k, e0, _, _⟩ := DataW.trod_int un_3 h0
    obtain ⟨t, e1, _, _⟩ := DataW.trod_int un_2 h1
    obtain ⟨f, e2, _, _⟩ := DataW.trod_int un_2 h2
    obtain ⟨n, e3, _, w3⟩ := DataW.trod_int un_3 h3
    obtain ⟨s, e4, hs, _⟩ := bytes_of_trod h4
    have a0 : [c0] = [Value.int .i64 k] := e0
    have a1 : [c1] = [Value.int .i64 t] := e1
    have a2 : [c2] = [Value.int .i64 f] := e2
    have a3 : [c3] = [Value.int .i64 n] := e3
    have a4 : [c4] = [s.v] := e4
    simp only [List.cons.injEq, and_true] at a0 a1 a2 a3 a4
    subst a0 a1 a2 a3 a4
    exact ⟨⟨k, t, f, n, s⟩, rfl, hs, (i64_of w3).2⟩
theorem flat_in {α : Type} {l : List (List α)} {n j : Nat} {u : α} (h : ∀ y ∈ l, y.length = n) (hn : 0 < n) (hj : l.flatten[j]? = some u) : ∃ x, l[j / n]? = some x ∧ x[j % n]? = some u := by
  have hl := flat_length h
  have hjl : j < l.length * n := by rw [← hl]; exact (List.getElem?_eq_some_iff.1 hj).1
  have hi : j / n < l.length := (Nat.div_lt_iff_lt_mul hn).2 hjl
  refine ⟨l[j / n], List.getElem?_eq_getElem hi, ?_⟩
  rw [← flat_at h (List.getElem?_eq_getElem hi) (Nat.mod_lt j hn), Nat.mul_comm, Nat.div_add_mod, hj]
/-- An argument: the operations of law 19. -/
theorem open_ops {H : Type} {enc : TypeId × Value → H} {W : World} {base : Nat} {v : Value} {d : DataW H} {p : List MemPlace} (hval : Value.okWide Tryd.prog W .any base 46 v) (h : DataW.Trod enc Tryd.prog W 0 (fun _ => true) true 46 v d p) :
    ∃ (q : Option Addr) (c : Nat) (os : List O19), v = .slice q os.length c ∧ os.length ≤ 9223372036854775807 ∧ RdC W q (opC os) ∧ ∀ o ∈ os, o.ok W := by
  obtain ⟨a, n, c, rfl⟩ := okWide_slice un_46 hval
  obtain ⟨fuel, hf⟩ := h
  rcases DataW.trod_slice un_46 hf with ⟨hcs, _⟩ | ⟨a', len, cap, elems, rest, m, _, hcs, _, _, hl, hm, hlen, hel, _, _⟩
  · simp [Value.cells] at hcs
    obtain ⟨rfl, rfl, rfl⟩ := hcs
    exact ⟨none, 0, [], rfl, Nat.zero_le _, RdC.nil, by simp⟩
  · simp [Value.cells] at hcs
    obtain ⟨rfl, rfl, rfl⟩ := hcs
    have each : ∀ i, i < n → ∃ o : O19, o.ok W ∧ ∀ r, r < 5 → W.cell? ((a'.add (i * 5)).add r) = o.cells[r]? := fun i hi => by
      have he := hel i hi
      rw [co_59, List.getElem?_eq_getElem (by omega)] at he
      obtain ⟨cs', hcs', hy⟩ := Option.bind_eq_some_iff.1 he
      obtain ⟨o, rfl, hok⟩ := op_of_trod hy
      exact ⟨o, hok, (World.cells?_some hcs').2.2⟩
    obtain ⟨os, hsl, hss⟩ := exists_list n each
    refine ⟨some a', c, os, by rw [hsl], by simp only [maxLen] at hm; omega, ?_, fun o ho => ?_⟩
    · intro j u hj
      obtain ⟨x, hx, hxr⟩ := flat_in (n := 5) (by intro y hy; obtain ⟨z, _, rfl⟩ := List.mem_map.1 hy; rfl) (by decide) hj
      rw [List.getElem?_map] at hx
      obtain ⟨o, ho, rfl⟩ := Option.map_eq_some_iff.1 hx
      have hc := (hss (j / 5) o ho).2 (j % 5) (Nat.mod_lt _ (by decide))
      rw [hxr] at hc
      obtain ⟨b, of, spt⟩ := a'
      have hspot : spt = none := by
        have hn0 : 0 < n := by have := (List.getElem?_eq_some_iff.1 ho).1; omega
        obtain ⟨o0, _, h0⟩ := each 0 hn0
        have h1 := World.cell?_spot (v := I64 o0.kind) (h0 0 (by decide))
        simpa [Addr.add] using h1
      subst hspot
      refine ⟨b, of, rfl, ?_⟩
      rw [add_at, add_at] at hc
      rw [← hc]
      congr 2
      omega
    · obtain ⟨i, hi⟩ := List.getElem?_of_mem ho
      exact (hss i o hi).1
end Go.Proofs.YtokhediaibdkjaaDoor

/-! From C3 -/
/- A record among a row's arguments. -/
namespace Go.Proofs.YtokhediaibdkjaaDoor
set_option maxRecDepth 100000
open Go.Pm Go.ChangeShapes Go.WideShapes Go.ChangeAt Go.RowKit
theorem fs_73 : fieldsOf Tryd.prog 73 = some [(34, 0), (23, 1)] := by kernel_rfl
theorem co_73 : Tryd.prog.cellsOf 73 = 2 := by kernel_rfl
theorem co_34 : Tryd.prog.cellsOf 34 = 1 := by kernel_rfl
/-- An argument: a record. -/
theorem open_rec {H : Type} {enc : TypeId × Value → H} {W : World} {base : Nat} {v : Value} {d : DataW H} {p : List MemPlace} (hval : Value.okWide Tryd.prog W .any base 73 v) (h : DataW.Trod enc Tryd.prog W 0 (fun _ => true) true 73 v d p) :
    ∃ (N : BitVec 64) (q : Option Addr) (n c : Nat) (l : List UInt8), v = .agg [U64 N, .slice q n c].toArray ∧ l.length = n ∧ (q = none → c = 0) ∧ n ≤ c ∧ RdC W q (l.map B8) := by
  obtain ⟨fs, hu, _⟩ := fieldsOf_spec fs_73
  obtain ⟨cs, rfl, _⟩ := okWide_struct hu hval
  obtain ⟨fuel, hf⟩ := h
  obtain ⟨hl, hf⟩ := open_fields fs_73 hf
  rw [co_73] at hl
  have e : ((Value.agg cs).cells).toList = cs.toList := rfl
  rw [e] at hl hf
  obtain ⟨cs⟩ := cs
  match cs, hl with
  | [c0, c1], _ =>
    obtain ⟨_, _, h0⟩ := hf 0 34 0 rfl
    obtain ⟨_, _, h1⟩ := hf 1 23 1 rfl
    rw [co_34] at h0
    rw [co_23] at h1
    obtain ⟨k, e0, _, w0⟩ := DataW.trod_int un_34 h0
    obtain ⟨s, e1, hs, _⟩ := bytes_of_trod h1
    obtain ⟨N, rfl⟩ := u64_of w0
    have a0 : [c0] = [Value.int .u64 (N.toNat : Int)] := e0
    have a1 : [c1] = [s.v] := e1
    simp only [List.cons.injEq, and_true] at a0 a1
    subst a0 a1
    exact ⟨N, s.p, s.n, s.c, s.l, rfl, hs.1, hs.2.1, hs.2.2.1, hs.2.2.2⟩
end Go.Proofs.YtokhediaibdkjaaDoor

/-! From L10 -/
/- The walk of SlotForms. (printed by gen1.py) -/
namespace Go.Proofs.YtokhediaibdkjaaDoor
open Go.Pm Go.RowKit
set_option maxRecDepth 100000
theorem f10_spec (n : BitVec 64) (pA : Option Addr) (nA cA : Nat) (lA : List UInt8) (hlA : lA.length = nA) (hpA : pA = none → cA = 0) (hcA : nA ≤ cA) (pB : Option Addr) (nB cB : Nat) (lB : List UInt8) (hlB : lB.length = nB) (hpB : pB = none → cB = 0) (hcB : nB ≤ cB) (w : World) (hrA : RdC w pA (lA.map B8)) (hrB : RdC w pB (lB.map B8)) (hG : Gl w []) : Calls Tryd.prog 10 [.agg [U64 n, .slice pA nA cA].toArray, .slice pB nB cB].toArray w (fun en w2 => en = .returned (.bool true) ∧ Sat w [] [] w2) := by
  have hel := encR_len n lA
  have hdl := decR_len lB
  refine used hlA (used hpA (used hcA (used hlB (used hpB (used hcB (used hrA (used hrB (used hG (?_)))))))))
  refine enter (n := 119) Tryd.func10 rfl rfl rfl (Sat.refl w) ?_
  refine seq ?_
  refine region ?_
  refine sq rfl (o_box (cs := [U64 n, .slice pA nA cA]) rfl rfl rfl (fun b2 => ?_))
  refine st (g_assign rfl) rfl ?_
  refine done ?_
  refine th_n ?_
  refine seq ?_
  refine seq ?_
  refine region ?_
  refine st (g_fieldAddr fo_73_1 rfl rfl) rfl ?_
  refine st (g_load (v := .slice pA nA cA) sc_23 rfl (Cell.own .here rfl)) rfl ?_
  refine st (g_len el_23 rfl) rfl ?_
  refine sp (g_bin rfl rfl rfl) rfl (fun h20 => ?_) (fun h20 => ?_)
  · refine st (g_move rfl) rfl ?_
    refine gf rfl rfl ?_
    refine gf rfl rfl ?_
    refine gf rfl rfl ?_
    refine st (g_pickT rfl rfl) rfl ?_
    refine done ?_
    refine th_n ?_
    refine condT rfl ?_
    refine seq ?_
    refine region ?_
    refine st (g_assign rfl) rfl ?_
    refine done ?_
    refine th_n ?_
    refine ret ?_
    refine th_r ?_
    exact ret1 rfl rfl rfl (fun w2 hw2 => ⟨rfl, hw2.clear⟩)
  · refine st (g_move rfl) rfl ?_
    refine gt rfl ?_
    refine st (g_move rfl) rfl ?_
    refine gt rfl ?_
    refine st (g_len el_23 rfl) rfl ?_
    refine gt rfl ?_
    refine sp (g_bin rfl rfl rfl) rfl (fun h24 => ?_) (fun h24 => ?_)
    · refine st (g_pickF rfl rfl) rfl ?_
      refine done ?_
      refine th_n ?_
      refine condT rfl ?_
      refine seq ?_
      refine region ?_
      refine st (g_assign rfl) rfl ?_
      refine done ?_
      refine th_n ?_
      refine ret ?_
      refine th_r ?_
      exact ret1 rfl rfl rfl (fun w2 hw2 => ⟨rfl, hw2.clear⟩)
    · refine st (g_pickF rfl rfl) rfl ?_
      refine done ?_
      refine th_n ?_
      refine condF rfl ?_
      refine skip ?_
      refine th_n ?_
      refine seq ?_
      refine region ?_
      refine st (g_fieldAddr fo_73_1 rfl rfl) rfl ?_
      refine st (g_load (v := .slice pA nA cA) sc_23 rfl (Cell.own .here rfl)) rfl ?_
      refine sq rfl (o_call Tryd.func44 rfl rfl rfl .nil (fun w hw hA => f44_spec pA nA cA lA hlA hpA (by omega) w (RdS.c (S := []) (RdS.ofOld (A := []) hrA.s hw .nil))) rfl (fun x5 hx5 => ?_))
      refine st (g_move rfl) rfl ?_
      refine sq rfl (o_call Tryd.func44 rfl rfl rfl .nil (fun w hw hA => f44_spec pB nB cB lB hlB hpB (by omega) w (RdS.c (S := []) (RdS.ofOld (A := []) hrB.s hw .nil))) rfl (fun x6 hx6 => ?_))
      refine st (g_assign rfl) rfl ?_
      refine st (g_assign rfl) rfl ?_
      refine done ?_
      refine th_n ?_
      refine seq ?_
      refine region ?_
      refine st (g_fieldAddr fo_73_0 rfl rfl) rfl ?_
      refine st (g_load (v := U64 n) sc_34 rfl (Cell.own (.there (.there (.here))) rfl)) rfl ?_
      refine st (g_move rfl) rfl ?_
      refine st (g_build rfl (bu_73 _ _ rfl)) rfl ?_
      refine sq rfl (o_call Tryd.func45 rfl rfl rfl .nil (fun w hw hA => f45_all n x5.1 nA x5.2 lA hlA hx5.1 hx5.2 w (RdC.ofVec (hw.get (.there (.here)))) (Gl.ofOld (A := []) hG hw .nil)) rfl (fun ⟨xp, xc⟩ hx => ?_))
      refine st (g_move rfl) rfl ?_
      refine st (g_extract rfl rfl) rfl ?_
      refine st (g_extract rfl rfl) rfl ?_
      refine st (g_assign rfl) rfl ?_
      refine st (g_assign rfl) rfl ?_
      refine done ?_
      refine th_n ?_
      refine seq ?_
      refine region ?_
      refine st (g_loadA (vs := [U64 n, .slice pA nA cA]) ag_73 rfl rfl (Cells.part (.there (.there (.there (.here)))) rfl)) rfl ?_
      refine sq rfl (o_call Tryd.func46 rfl rfl rfl .nil (fun w hw hA => f46_all n pA nA cA lA hlA hpA hcA w (RdS.c (S := []) (RdS.ofOld (A := []) hrA.s hw .nil))) rfl (fun z hz => ?_))
      refine st (g_move rfl) rfl ?_
      refine st (g_extract rfl rfl) rfl ?_
      refine st (g_extract rfl rfl) rfl ?_
      refine st (g_assign rfl) rfl ?_
      refine st (g_assign rfl) rfl ?_
      refine done ?_
      refine th_n ?_
      refine seq ?_
      refine region ?_
      refine st (g_move rfl) rfl ?_
      refine sq rfl (o_call Tryd.func47 rfl rfl rfl .nil (fun w hw hA => f47_all x6.1 nB x6.2 lB hlB hx6.1 hx6.2 (by omega) w (RdC.ofVec (hw.get (.there (.there (.here))))) (Gl.ofOld (A := []) hG hw .nil)) rfl (fun ⟨yp, yc⟩ hy => ?_))
      refine st (g_move rfl) rfl ?_
      refine st (g_extract rfl rfl) rfl ?_
      refine st (g_extract rfl rfl) rfl ?_
      refine sq rfl (o_alloc (zs := [U64 0#64, .slice none 0 0]) zr_73 rfl (fun b11 => ?_))
      refine sq rfl (o_storeA (cs' := [U64 (decR lB).1, .slice yp ((decR lB).2.1.length) yc]) sz_73 rfl rfl rfl (by simp; exact ⟨rfl, rfl⟩) .here (Nat.le_of_ble_eq_true rfl) rfl ?_)
      refine st (g_assign rfl) rfl ?_
      refine done ?_
      refine th_n ?_
      refine seq ?_
      refine region ?_
      refine st (g_move rfl) rfl ?_
      refine sq rfl (o_call Tryd.func48 rfl rfl rfl .nil (fun w hw hA => f48_all pB nB cB lB hlB hpB hcB (by omega) w (RdS.c (S := []) (RdS.ofOld (A := []) hrB.s hw .nil))) rfl (fun u hu => ?_))
      refine st (g_move rfl) rfl ?_
      refine st (g_extract rfl rfl) rfl ?_
      refine st (g_extract rfl rfl) rfl ?_
      refine sq rfl (o_alloc (zs := [U64 0#64, .slice none 0 0]) zr_73 rfl (fun b13 => ?_))
      refine sq rfl (o_storeA (cs' := [U64 (decR lB).1, slv ((decR lB).2.1.length) u]) sz_73 rfl rfl rfl (by simp; exact ⟨rfl, rfl⟩) .here (Nat.le_of_ble_eq_true rfl) rfl ?_)
      refine st (g_assign rfl) rfl ?_
      refine done ?_
      refine th_n ?_
      refine seq ?_
      refine seq ?_
      refine region ?_
      refine st (g_move rfl) rfl ?_
      refine st (g_str (l := (encR n lA).1) by_23 str_9 rfl rfl (RdA.vec (.there (.there (.there (.there (.there (.here)))))))) rfl ?_
      refine st (g_move rfl) rfl ?_
      refine st (g_str (l := (encR n lA).1) by_23 str_9 rfl rfl (RdA.vec (.there (.there (.there (.there (.here))))))) rfl ?_
      refine st (g_neSF rfl rfl (rfl)) rfl ?_
      refine st (g_move rfl) rfl ?_
      refine gt rfl ?_
      refine st (g_move rfl) rfl ?_
      refine gt rfl ?_
      refine st (g_move rfl) rfl ?_
      refine gt rfl ?_
      refine st (g_F rfl rfl rfl (fun h => h rfl)) rfl ?_
      refine st (g_pickF rfl rfl) rfl ?_
      refine st (g_move rfl) rfl ?_
      refine gt rfl ?_
      refine st (g_loadA (vs := [U64 (decR lB).1, .slice yp ((decR lB).2.1.length) yc]) ag_73 rfl rfl (Cells.part (.there (.there (.here))) rfl)) rfl ?_
      refine gt rfl ?_
      refine st (g_loadA (vs := [U64 (decR lB).1, slv ((decR lB).2.1.length) u]) ag_73 rfl rfl (Cells.part .here rfl)) rfl ?_
      refine gt rfl ?_
      refine sq rfl (o_callP Tryd.func49 rfl rfl rfl (fun w hw => f49_tt (decR lB).1 (decR lB).1 (decR lB).2.1 (decR lB).2.1 _ _ rfl rfl (yp, yc) u rfl rfl w (RdC.ofVec (hw.get (.there (.there (.there (.here)))))) (RdC.ofVec (hw.get (.there (.here))))) rfl ?_)
      refine gt rfl ?_
      refine st (g_not rfl) rfl ?_
      refine st (g_pickF rfl rfl) rfl ?_
      refine st (g_move rfl) rfl ?_
      refine gt rfl ?_
      refine st (g_move rfl) rfl ?_
      refine gt rfl ?_
      refine st (g_move rfl) rfl ?_
      refine gt rfl ?_
      refine st (g_F rfl rfl rfl (fun h => h rfl)) rfl ?_
      refine st (g_pickF rfl rfl) rfl ?_
      refine done ?_
      refine th_n ?_
      refine condF rfl ?_
      refine skip ?_
      refine th_n ?_
      refine seq ?_
      refine seq ?_
      refine region ?_
      refine st (g_move rfl) rfl ?_
      refine st (g_len el_23 rfl) rfl ?_
      refine st (g_move rfl) rfl ?_
      refine done ?_
      refine th_n ?_
      refine block ?_
      refine loop (α := Nat × List UInt8) (fun ⟨i, l1⟩ => i ≤ (encR n lA).1.length ∧ l1.length = (encR n lA).1.length) (fun ⟨i, l1⟩ => [(1, .slice pB nB cB), (2, .pointer (some ⟨b2, 0, none⟩)), (5, slv nA x5), (6, slv nB x6), (7, .slice xp ((encR n lA).1.length) xc), (11, .pointer (some ⟨b11, 0, none⟩)), (76, I64 ((encR n lA).1.length : Nat)), (77, I64 (i : Nat))]) (fun ⟨i, l1⟩ => [vec (.slice xp ((encR n lA).1.length) xc) 5 1 ((encR n lA).1.length) (l1.map B8), blk b2 73 [U64 n, .slice pA nA cA], vec (slv nA x5) 5 1 nA (lA.map B8), vec (slv nB x6) 5 1 nB (lB.map B8), blk b11 73 [U64 (decR lB).1, .slice yp ((decR lB).2.1.length) yc], vec (.slice yp ((decR lB).2.1.length) yc) 5 1 ((decR lB).2.1.length) ((decR lB).2.1.map B8)]) (fun ⟨i, l1⟩ => (encR n lA).1.length - i) (0, (encR n lA).1) ⟨Nat.zero_le _, rfl⟩ ⟨rfl, rfl, rfl, rfl, rfl, rfl, rfl, rfl, trivial⟩ (.cons (.there (.there (.there (.there (.there (.here)))))) (.cons (.there (.there (.there (.there (.there (.there (.there (.here)))))))) (.cons (.there (.there (.there (.there (.there (.there (.here))))))) (.cons (.there (.there (.there (.there (.there (.here)))))) (.cons (.there (.there (.here))) (.cons (.there (.there (.here))) .nil)))))) (fun ⟨i, l1⟩ ⟨hi, hl1⟩ => ?_)
      show At _ [(1, .slice pB nB cB), (2, .pointer (some ⟨b2, 0, none⟩)), (5, slv nA x5), (6, slv nB x6), (7, .slice xp ((encR n lA).1.length) xc), (11, .pointer (some ⟨b11, 0, none⟩)), (76, I64 ((encR n lA).1.length : Nat)), (77, I64 (i : Nat))] [vec (.slice xp ((encR n lA).1.length) xc) 5 1 ((encR n lA).1.length) (l1.map B8), blk b2 73 [U64 n, .slice pA nA cA], vec (slv nA x5) 5 1 nA (lA.map B8), vec (slv nB x6) 5 1 nB (lB.map B8), blk b11 73 [U64 (decR lB).1, .slice yp ((decR lB).2.1.length) yc], vec (.slice yp ((decR lB).2.1.length) yc) 5 1 ((decR lB).2.1.length) ((decR lB).2.1.map B8)] _
      refine seq ?_
      refine region ?_
      refine st (g_bin rfl rfl rfl) rfl ?_
      refine done ?_
      refine th_n ?_
      refine seq ?_
      refine condS rfl (fun h78 => ?_) (fun h78 => ?_)
      · try simp only [decide_eq_true_eq] at h78
        have hi2 : i < (encR n lA).1.length := by omega
        refine vecOpen .here (by omega) (fun bx rx hx ho1 ho2 ho3 ho4 => ?_)
        subst hx
        rw [List.length_append, List.length_map] at ho3
        refine skip ?_
        refine th_n ?_
        refine seq ?_
        refine block ?_
        refine seq ?_
        refine region ?_
        refine st (g_move rfl) rfl ?_
        refine st (g_assign rfl) rfl ?_
        refine done ?_
        refine th_n ?_
        refine region ?_
        refine st (g_move rfl) rfl ?_
        refine st (g_move rfl) rfl ?_
        refine st (g_move rfl) rfl ?_
        refine st (g_move rfl) rfl ?_
        refine st (g_indexS (m := i) el_23 rfl rfl (by omega) (by omega) (by omega)) rfl ?_
        refine st (g_load (v := B8 (l1.getD i 0)) sc_5 rfl (Cell.own .here (get_app (l := l1) (i := i) (by omega)))) rfl ?_
        refine st (g_add8 (b := (1 : UInt8)) rfl rfl) rfl ?_
        refine st (g_indexS (m := i) el_23 rfl rfl (by omega) (by omega) (by omega)) rfl ?_
        refine sq rfl (o_store (cs' := (l1.set i (l1.getD i 0 + 1)).map B8 ++ rx) sz_5 rfl rfl rfl .here (by rw [List.length_append, List.length_map]; omega) (set_app (by omega)) ?_)
        refine vecShut (s := 1) (n := (encR n lA).1.length) .here (by rw [List.length_map, List.length_set]; omega) ho1 ho2 (by rw [List.length_append, List.length_map, List.length_set]; omega) ?_
        refine done ?_
        refine ib_n ?_
        refine th_n ?_
        refine region ?_
        refine st (g_iadd (c := ((i + 1 : Nat) : Int)) rfl rfl (by omega) (by omega) (by omega)) rfl ?_
        refine st (g_move rfl) rfl ?_
        refine done ?_
        refine th_n ?_
        exact again (i + 1, l1.set i (l1.getD i 0 + 1)) ⟨by omega, by rw [List.length_set]; exact hl1⟩ (by show (encR n lA).1.length - (i + 1) < (encR n lA).1.length - i; omega) ⟨rfl, rfl, rfl, rfl, rfl, rfl, rfl, rfl, trivial⟩ (.cons .here (.cons .here (.cons .here (.cons .here (.cons .here (.cons .here .nil))))))
      · try simp only [decide_eq_false_iff_not] at h78
        refine exitc ?_
        refine th_x ?_
        refine th_x ?_
        refine ib_x ?_
        refine th_n ?_
        refine seq ?_
        refine seq ?_
        refine region ?_
        refine st (g_fieldAddr fo_73_1 rfl rfl) rfl ?_
        refine st (g_load (v := .slice yp ((decR lB).2.1.length) yc) sc_23 rfl (Cell.own (.there (.there (.there (.there (.here))))) rfl)) rfl ?_
        refine st (g_len el_23 rfl) rfl ?_
        refine st (g_move rfl) rfl ?_
        refine done ?_
        refine th_n ?_
        refine block ?_
        refine loop (α := Nat × List UInt8) (fun ⟨j, l2⟩ => j ≤ (decR lB).2.1.length ∧ l2.length = (decR lB).2.1.length) (fun ⟨j, l2⟩ => [(1, .slice pB nB cB), (2, .pointer (some ⟨b2, 0, none⟩)), (5, slv nA x5), (6, slv nB x6), (11, .pointer (some ⟨b11, 0, none⟩)), (91, I64 ((decR lB).2.1.length : Nat)), (92, I64 (j : Nat))]) (fun ⟨j, l2⟩ => [vec (.slice yp ((decR lB).2.1.length) yc) 5 1 ((decR lB).2.1.length) (l2.map B8), blk b2 73 [U64 n, .slice pA nA cA], vec (slv nA x5) 5 1 nA (lA.map B8), vec (slv nB x6) 5 1 nB (lB.map B8), blk b11 73 [U64 (decR lB).1, .slice yp ((decR lB).2.1.length) yc]]) (fun ⟨j, l2⟩ => (decR lB).2.1.length - j) (0, (decR lB).2.1) ⟨Nat.zero_le _, rfl⟩ ⟨rfl, rfl, rfl, rfl, rfl, rfl, rfl, trivial⟩ (.cons (.there (.there (.there (.there (.there (.here)))))) (.cons (.there (.here)) (.cons (.there (.here)) (.cons (.there (.here)) (.cons (.there (.here)) .nil))))) (fun ⟨j, l2⟩ ⟨hj, hl2⟩ => ?_)
        show At _ [(1, .slice pB nB cB), (2, .pointer (some ⟨b2, 0, none⟩)), (5, slv nA x5), (6, slv nB x6), (11, .pointer (some ⟨b11, 0, none⟩)), (91, I64 ((decR lB).2.1.length : Nat)), (92, I64 (j : Nat))] [vec (.slice yp ((decR lB).2.1.length) yc) 5 1 ((decR lB).2.1.length) (l2.map B8), blk b2 73 [U64 n, .slice pA nA cA], vec (slv nA x5) 5 1 nA (lA.map B8), vec (slv nB x6) 5 1 nB (lB.map B8), blk b11 73 [U64 (decR lB).1, .slice yp ((decR lB).2.1.length) yc]] _
        refine seq ?_
        refine region ?_
        refine st (g_bin rfl rfl rfl) rfl ?_
        refine done ?_
        refine th_n ?_
        refine seq ?_
        refine condS rfl (fun h93 => ?_) (fun h93 => ?_)
        · try simp only [decide_eq_true_eq] at h93
          have hj2 : j < (decR lB).2.1.length := by omega
          refine vecOpen .here (by omega) (fun bx rx hx ho1 ho2 ho3 ho4 => ?_)
          subst hx
          rw [List.length_append, List.length_map] at ho3
          refine skip ?_
          refine th_n ?_
          refine seq ?_
          refine block ?_
          refine seq ?_
          refine region ?_
          refine st (g_move rfl) rfl ?_
          refine st (g_assign rfl) rfl ?_
          refine done ?_
          refine th_n ?_
          refine regionX mixed (by decide +kernel) ?_
          refine Dr.st (g_fieldAddr fo_73_1 rfl rfl) rfl ?_
          refine Dr.st (g_load (v := .slice (some ⟨bx, 0, none⟩) ((decR lB).2.1.length) yc) sc_23 rfl (Cell.own (.there (.there (.there (.there (.here))))) rfl)) rfl ?_
          refine Dr.st (g_move rfl) rfl ?_
          refine Dr.st (g_fieldAddr fo_73_1 rfl rfl) rfl ?_
          refine Dr.st (g_load (v := .slice (some ⟨bx, 0, none⟩) ((decR lB).2.1.length) yc) sc_23 rfl (Cell.own (.there (.there (.there (.there (.here))))) rfl)) rfl ?_
          refine Dr.st (g_move rfl) rfl ?_
          refine Dr.st (g_indexS (m := j) el_23 rfl rfl (by omega) (by omega) (by omega)) rfl ?_
          refine Dr.st (g_load (v := B8 (l2.getD j 0)) sc_5 rfl (Cell.own .here (get_app (l := l2) (i := j) (by omega)))) rfl ?_
          refine Dr.st (g_add8 (b := (1 : UInt8)) rfl rfl) rfl ?_
          refine Dr.st (g_indexS (m := j) el_23 rfl rfl (by omega) (by omega) (by omega)) rfl ?_
          refine Dr.last ?_
          refine o_store (cs' := (l2.set j (l2.getD j 0 + 1)).map B8 ++ rx) sz_5 rfl rfl rfl .here (by rw [List.length_append, List.length_map]; omega) (set_app (by omega)) ?_
          refine vecShut (s := 1) (n := (decR lB).2.1.length) .here (by rw [List.length_map, List.length_set]; omega) ho1 ho2 (by rw [List.length_append, List.length_map, List.length_set]; omega) ?_
          refine ib_n ?_
          refine th_n ?_
          refine region ?_
          refine st (g_iadd (c := ((j + 1 : Nat) : Int)) rfl rfl (by omega) (by omega) (by omega)) rfl ?_
          refine st (g_move rfl) rfl ?_
          refine done ?_
          refine th_n ?_
          exact again (j + 1, l2.set j (l2.getD j 0 + 1)) ⟨by omega, by rw [List.length_set]; exact hl2⟩ (by show (decR lB).2.1.length - (j + 1) < (decR lB).2.1.length - j; omega) ⟨rfl, rfl, rfl, rfl, rfl, rfl, rfl, trivial⟩ (.cons .here (.cons .here (.cons .here (.cons .here (.cons .here .nil)))))
        · try simp only [decide_eq_false_iff_not] at h93
          refine exitc ?_
          refine th_x ?_
          refine th_x ?_
          refine ib_x ?_
          refine th_n ?_
          refine seq ?_
          refine region ?_
          refine st (g_move rfl) rfl ?_
          refine st (g_str (l := lA) by_23 str_9 rfl hlA (RdA.vec (.there (.there (.here))))) rfl ?_
          refine st (g_fieldAddr fo_73_1 rfl rfl) rfl ?_
          refine st (g_load (v := .slice pA nA cA) sc_23 rfl (Cell.own (.there (.here)) rfl)) rfl ?_
          refine st (g_str (l := lA) by_23 str_9 rfl hlA (RdA.of hrA.s)) rfl ?_
          refine st (g_eqST rfl rfl (rfl)) rfl ?_
          refine st (g_move rfl) rfl ?_
          refine gt rfl ?_
          refine st (g_move rfl) rfl ?_
          refine gt rfl ?_
          refine st (g_str (l := lB) by_23 str_9 rfl hlB (RdA.vec (.there (.there (.there (.here)))))) rfl ?_
          refine gt rfl ?_
          refine st (g_move rfl) rfl ?_
          refine gt rfl ?_
          refine st (g_str (l := lB) by_23 str_9 rfl hlB (RdA.of hrB.s)) rfl ?_
          refine gt rfl ?_
          refine st (g_eqST rfl rfl (rfl)) rfl ?_
          refine st (g_pickT rfl rfl) rfl ?_
          refine st (g_assign rfl) rfl ?_
          refine done ?_
          refine th_n ?_
          refine ret ?_
          exact ret1 rfl rfl rfl (fun w2 hw2 => ⟨rfl, hw2.clear⟩)
end Go.Proofs.YtokhediaibdkjaaDoor

/-! From C10 -/
/- The law SlotForms: its row and its card. (printed by genC.py) -/
namespace Go.Proofs.YtokhediaibdkjaaDoor
set_option maxRecDepth 100000
open Go.Pm Go.ChangeShapes Go.WideShapes Go.ChangeAt Go.RowKit

theorem slotForms_contract (H : Type) (enc : TypeId × Value → H) (W : World) (base : Nat) (args : Array Value) (ds gs : List (DataW H)) (before : List MemPlace)
    (hval : ∀ (j : Nat) t v, Tryd.f10.params[j]? = some t → args[j]? = some v → Value.okWide Tryd.prog W .any base t v)
    (hW : DataW.Whole enc Tryd.prog Tryd.f10.params.toList Rows.slotFormsSpec.vars false W args.toList ds gs before) (hL : laidMetH Tryd.prog Rows.slotFormsRow.laid W) :
    Calls Tryd.prog 10 args W fun e W' => ∃ v, e = .returned v ∧ Rows.slotFormsSpec.post enc Tryd.prog Tryd.f10 false true false false W args v W' := by
  have hG : Gl W [] := gl_of_laid (.tail _ (.head _)) (.tail _ (.tail _ (.head _))) (show laidMet Tryd.prog Rows.slotFormsRow.laid W from hL)
  have hW' := hW
  obtain ⟨p, q, hA0, hV, rfl, hfz, hnd⟩ := hW
  have hAll : DataW.TrodAll enc Tryd.prog W 0 (fun _ => true) true Tryd.f10.params.toList args.toList ds p := hA0
  rw [Tryd.params10] at hAll hval
  obtain ⟨rfl, rfl⟩ := trodVars_none hV
  obtain ⟨vA, vs0, dA, ds0, pA0, q0, hv0, rfl, rfl, hA, hAll⟩ := trodAll_cons hAll
  obtain ⟨vB, vs1, dB, ds1, pB0, q1, hv1, rfl, rfl, hB, hAll⟩ := trodAll_cons hAll
  obtain ⟨rfl, rfl, rfl⟩ := trodAll_nil hAll
  obtain rfl : args = #[vA, vB] := by cases args; simp_all
  obtain ⟨NA, pA, nA, cA, lA, rfl, hlA, hpA, hcA, hrA⟩ := open_rec (hval 0 73 _ rfl rfl) hA
  obtain ⟨pB, nB, cB, lB, rfl, hlB, hpB, hcB, hmB, hrB⟩ := open_bytes (hval 1 23 _ rfl rfl) hB
  clear hA0
  refine Calls.mono (R := fun e W' => e = .returned (.bool true) ∧ Sat W [] [] W') ?_ ?_
  · exact f10_spec NA pA nA cA lA hlA hpA hcA pB nB cB lB hlB hpB hcB W hrA hrB hG
  · rintro e W' ⟨rfl, hs⟩
    exact ⟨_, rfl, law_post hW' (by kernel_rfl) rfl ⟨rfl, rfl, rfl⟩ (by rw [Tryd.params10]; decide +kernel) hs.below⟩

noncomputable def slotForms_world (os : Os) : World :=
  { World.holding Tryd.prog os ⟨#[], #[], []⟩ with heap := ((((World.holding Tryd.prog os ⟨#[], #[], []⟩).heap.modify 0 (layTab ((first224 ++ first256).map U32))).modify 1 (layTab (cubesL.map U32))).modify 2 (layTab (Go.Pinned.utf8FirstZ.map fun n : Nat => Value.int .u8 (n : Int)))).modify 3 (layTab (([128, 191, 160, 191, 128, 159, 144, 191, 128, 143] ++ List.replicate 22 0).map fun n : Nat => Value.int .u8 (n : Int))) }
theorem slotForms_laid (os : Os) : laidMet Tryd.prog Rows.slotFormsRow.laid ((slotForms_world os).forCall (fun _ _ => 0) ⟨#[], #[.agg #[.int .u64 0, .slice none 0 0], .slice none 0 0], []⟩).memory :=
  laidMet_of_run' 8 (by kernel_rfl) (by kernel_rfl)
theorem slotForms_reads (os : Os) {H : Type} (enc : TypeId × Value → H) : ∃ places, DataW.whole enc Tryd.prog ((slotForms_world os).forCall (fun _ _ => 0) ⟨#[], #[.agg #[.int .u64 0, .slice none 0 0], .slice none 0 0], []⟩).memory Tryd.f10.params.toList Rows.slotFormsSpec.vars false (#[.agg #[.int .u64 0, .slice none 0 0], .slice none 0 0] : Array Value).toList 8 = some ([.agg [.lit (.int .u64 0), .nil], .nil], [], places) :=
  ⟨[], by kernel_rfl⟩

theorem slotForms_lifted (os : Os) (started : os.Started) (H : Type) (enc : TypeId × Value → H) (F : Stop.Interp) :
    ReturnsInHanded {} Tryd.checked os 10 .any ((OpenSpec.ofChange Rows.slotFormsSpec).preRow enc Tryd.prog Tryd.f10 Rows.slotFormsRow.domain false Rows.slotFormsRow.laid) (((OpenSpec.ofChange Rows.slotFormsSpec).at F).post enc Tryd.prog Tryd.f10 false true false false) := by
  obtain ⟨places, hx⟩ := slotForms_reads os enc
  refine returnsInHanded_of_row (C := Tryd.checked) (s := OpenSpec.ofChange Rows.slotFormsSpec) own started (by kernel_rfl) Tryd.func10
    (witness_row_at (enc := enc) (C := Tryd.checked) false (slotForms_world os) #[.agg #[.int .u64 0, .slice none 0 0], .slice none 0 0] rfl (by kernel_rfl) (by kernel_rfl) (by kernel_rfl)
      (OpenSpec.preRow_of_cond 8 hx (by kernel_rfl) (fun k hk => by cases hk) (by kernel_rfl) (slotForms_laid os))) ?_
  intro W base args ds gs before hval hW _ _ _ hL _ _
  exact slotForms_contract H enc W base args ds gs before hval hW hL

theorem slotForms_said : Rows.SlotFormsSaid :=
  OpenClaim.holds_of_cond 10 Tryd.f10 rfl rfl rfl rfl rfl rfl rfl ⟨rfl, rfl, rfl, rfl, rfl⟩ rfl rfl rfl rfl rfl (by kernel_rfl) Tryd.func10 (by kernel_rfl)
    (of_decide_eq_true (by kernel_rfl)) (by unfold Func.isWrapper; first | (rw [if_pos (by decide +kernel)]; kernel_rfl) | (rw [if_neg (by decide +kernel)]; exact ⟨rfl, rfl⟩))
    (fun os started H enc _ F => by rw [OpenClaim.pre_eq_preRow]; exact slotForms_lifted os started H enc F)

theorem slotForms_plain (f : FuncId) (fn : Func) (hf : Tryd.pinned.checked.prog.funcNamed "postmark/postmarklaw18.SlotForms" = some f) (hfn : Tryd.pinned.checked.prog.funcs[f]? = some fn) :
    false = Tryd.pinned.checked.prog.looks [] ∧ ∀ (j : Nat) t, fn.params[j]? = some t → Tryd.pinned.checked.prog.wantsStandIn t = false := by
  obtain rfl : f = 10 := Option.some.inj ((show Tryd.prog.funcNamed "postmark/postmarklaw18.SlotForms" = some 10 by kernel_rfl).symm.trans hf) |>.symm
  obtain rfl : fn = Tryd.f10 := (Option.some.inj (Tryd.func10.symm.trans hfn)).symm
  refine ⟨by kernel_rfl, fun j t ht => ?_⟩
  rw [Tryd.params10] at ht
  have h : ∀ u ∈ ([73, 23] : List Nat), Tryd.prog.wantsStandIn u = false := by decide +kernel
  exact h t (by have := Array.mem_of_getElem? ht; simpa using this)

/-- The card. -/
theorem slotForms_card : Rows.SlotFormsCardSaid :=
  Claim7.holds_tied_plain_at .later [] _ _ _ _ slotForms_said (fun _ h => by cases h) (by kernel_rfl) (fun _ h => by cases h) slotForms_row_tie rfl ⟨rfl, rfl⟩ (by kernel_rfl) rfl slotForms_plain (by kernel_rfl)
end Go.Proofs.YtokhediaibdkjaaDoor
