/- The proof's texts, merged: C0 C1 L16 C16. -/
import Derived.Test.YtokhediaibdkjaaDoorMB
import Derived.Test.YtokhediaibdkjaaDoorCards
import Derived.Test.YtokhediaibdkjaaDoorTie
import Derived.WalkKit
import Derived.ProofKit
import Derived.OpenShut
import Derived.Deep.DeepHandedRow
import Derived.Lib.LaidTab
import Derived.Carry
import Derived.Test.YtokhediaibdkjaaDoorMD
/-! From C0 -/
/- What all the rows' proofs share: the tables from the row's list; an argument of bytes, opened; the post. -/
namespace Go.Proofs.YtokhediaibdkjaaDoor
set_option maxRecDepth 100000
open Go.Pm Go.ChangeShapes Go.WideShapes Go.ChangeAt Go.RowKit

theorem own : ownKnob Tryd.prog.godebug = none := by kernel_rfl
theorem laidOut : laidOutB Tryd.prog = true := by kernel_rfl
theorem gCubes : Tryd.prog.globalNamed "postmark/sha256.cubes" = some 1 := by kernel_rfl
theorem gFirst : Tryd.prog.globalNamed "postmark/sha256.first" = some 0 := by kernel_rfl
theorem gCubesT : (Tryd.prog.globals[1]?).map (·.type) = some 118 := by kernel_rfl
theorem gFirstT : (Tryd.prog.globals[0]?).map (·.type) = some 122 := by kernel_rfl
theorem un_118 : Tryd.prog.underlying 118 = some (.array 64 38) := by kernel_rfl
theorem un_122 : Tryd.prog.underlying 122 = some (.array 2 39) := by kernel_rfl
theorem un_38 : Tryd.prog.underlying 38 = some (.int .u32) := by kernel_rfl
theorem un39 : Tryd.prog.underlying 39 = some (.array 8 38) := by kernel_rfl
theorem un_86 : Tryd.prog.underlying 86 = some (.int .u16) := by kernel_rfl
theorem un_4 : Tryd.prog.underlying 4 = some .bool := by kernel_rfl
theorem co_38 : Tryd.prog.cellsOf 38 = 1 := by kernel_rfl
theorem co_118 : Tryd.prog.cellsOf 118 = 64 := by kernel_rfl
theorem co_39 : Tryd.prog.cellsOf 39 = 8 := by kernel_rfl
theorem co_122 : Tryd.prog.cellsOf 122 = 16 := by kernel_rfl
theorem co5 : Tryd.prog.cellsOf 5 = 1 := by kernel_rfl

/-- A row in which a table is laid. -/
def layTab (cs : List Value) : Obj → Obj
  | .cells _ t fr => .cells cs.toArray t fr
  | o => o
theorem laidVars_mem {P : Program} {W : World} : ∀ {l : List (String × DataW Unit)} {ps : List MemPlace}, DataW.LaidVars P W l ps → ∀ {n : String} {d : DataW Unit}, (n, d) ∈ l →
    ∃ g t cs fuel p, P.globalNamed n = some g ∧ (P.globals[g]?).map (·.type) = some t ∧ W.var? P n = some cs ∧ DataW.trod (fun _ => ()) P W 0 (fun _ => true) false fuel t cs.toList = some (d, p)
  | [], _, _, _, _, hm => by cases hm
  | (n', d') :: r, ps, h, n, d, hm => by
    obtain ⟨g, t, cs, fuel, p, q, h1, h2, h3, h4, h5, _⟩ := h
    rcases List.mem_cons.1 hm with he | hm
    · cases he; exact ⟨g, t, cs, fuel, p, h1, h2, h3, h4⟩
    · exact laidVars_mem h5 hm

theorem rd_var {W : World} {n : String} {g : Nat} {cs : Array Value} (hg : Tryd.prog.globalNamed n = some g) (h : W.var? Tryd.prog n = some cs) : RdC W (some ⟨g, 0, none⟩) cs.toList := fun j u hj => by
  refine ⟨g, 0, rfl, ?_⟩
  have := World.var?_cell hg h j
  rw [Nat.zero_add, this]
  simpa using hj

/-- The tables, from the row's list. -/
theorem gl_of_laid {laid : List (String × DataW Unit)} (h1 : ("postmark/sha256.cubes", Rows.laid_postmark_sha256_cubes) ∈ laid) (h2 : ("postmark/sha256.first", Rows.laid_postmark_sha256_first) ∈ laid) {W : World} (h : laidMet Tryd.prog laid W) : Gl W [] := by
  obtain ⟨ps, hv, _⟩ := h
  obtain ⟨g, t, cs, fuel, p, hg, ht, hvar, hd⟩ := laidVars_mem hv h1
  obtain ⟨g', t', cs', fuel', p', hg', ht', hvar', hd'⟩ := laidVars_mem hv h2
  cases Option.some.inj (gCubes.symm.trans hg)
  cases Option.some.inj (gFirst.symm.trans hg')
  cases Option.some.inj (gCubesT.symm.trans ht)
  cases Option.some.inj (gFirstT.symm.trans ht')
  have e1 : cs.toList = cubesL.map U32 := by
    have := Lib.cells_of_tab (zs := cubesL.map fun x => (x.toNat : Int)) un_118 un_38 co_38 co_118 hd
    rw [this]; simp
  obtain ⟨xs, m, rfl, hx, hlen, hxl, hel⟩ := DataW.trod_array un_122 hd'
  rw [co_122] at hlen
  have hxs : xs.map (·.1) = [Lib.tabData .u32 (first224.map fun x => (x.toNat : Int)), Lib.tabData .u32 (first256.map fun x => (x.toNat : Int))] := by
    have := congrArg Prod.fst hx
    exact (DataW.agg.inj (show Rows.laid_postmark_sha256_first = DataW.agg (xs.map (·.1)) from this)).symm
  have hat : ∀ i (zs : List (BitVec 32)), i < 2 → (xs.map (·.1))[i]? = some (Lib.tabData .u32 (zs.map fun x => (x.toNat : Int))) → (cs'.toList.drop (i * 8)).take 8 = zs.map U32 := fun i zs hi hz => by
    have h3 := hel i hi
    rw [co_39] at h3
    rw [List.getElem?_map] at hz
    cases hxi : xs[i]? with
    | none => simp [hxi] at hz
    | some y =>
      rw [hxi] at h3 hz
      simp only [Option.map_some, Option.some.injEq] at hz
      obtain ⟨y1, y2⟩ := y
      subst hz
      have := Lib.cells_of_tab (zs := zs.map fun x => (x.toNat : Int)) un39 un_38 co_38 co_39 h3
      rw [this]; simp
  have e2 := hat 0 first224 (by decide) (by rw [hxs]; rfl)
  have e3 := hat 1 first256 (by decide) (by rw [hxs]; rfl)
  have e4 : cs'.toList = (first224 ++ first256).map U32 := by
    rw [List.map_append, ← e2, ← e3]
    simp only [Nat.zero_mul, List.drop_zero, Nat.one_mul]
    have : (cs'.toList.drop 8).take 8 = cs'.toList.drop 8 := List.take_of_length_le (by simp; simp at hlen; omega)
    rw [this, List.take_append_drop]
  refine ⟨RdC.s ?_, RdC.s ?_⟩
  · rw [← e4]; exact rd_var gFirst hvar'
  · rw [← e1]; exact rd_var gCubes hvar

/-- An argument of bytes. -/
theorem open_bytes {H : Type} {enc : TypeId × Value → H} {W : World} {base : Nat} {v : Value} {d : DataW H} {p : List MemPlace} (hval : Value.okWide Tryd.prog W .any base 23 v) (h : DataW.Trod enc Tryd.prog W 0 (fun _ => true) true 23 v d p) :
    ∃ (q : Option Addr) (n c : Nat) (l : List UInt8), v = .slice q n c ∧ l.length = n ∧ (q = none → c = 0) ∧ n ≤ c ∧ c ≤ maxLen ∧ RdC W q (l.map B8) := by
  obtain ⟨a, n, c, rfl⟩ := okWide_slice un_23 hval
  obtain ⟨fuel, hf⟩ := h
  rcases open_ints un_23 un_5 co5 hf with ⟨hcs, hx⟩ | ⟨a', len, cap, zs, hcs, _, hl, hm, hz, hx, hcell, hwz⟩
  · simp [Value.cells] at hcs
    obtain ⟨rfl, rfl, rfl⟩ := hcs
    exact ⟨none, 0, 0, [], rfl, rfl, fun _ => rfl, Nat.le_refl _, Nat.zero_le _, RdC.nil⟩
  · simp [Value.cells] at hcs
    obtain ⟨rfl, rfl, rfl⟩ := hcs
    simp only [if_true] at hz
    refine ⟨some a', _, _, (zs.take n).map fun z => UInt8.ofNat z.toNat, rfl, by simp; omega, by simp, hl, hm, ?_⟩
    intro j u hj
    simp only [List.map_map, List.getElem?_map, Option.map_eq_some_iff] at hj
    obtain ⟨z, hzj, rfl⟩ := hj
    rw [List.getElem?_take] at hzj
    split at hzj
    · rename_i hjl
      have hjz : j < zs.length := by omega
      have hc := hcell j hjz
      have hzv : zs.getD j 0 = z := by simp [hzj]
      rw [hzv] at hc
      have hw := hwz z (List.mem_of_getElem? hzj)
      have hb : 0 ≤ z ∧ z < 256 := by
        simp [Lit.wf, IntKind.min, IntKind.max, IntKind.signed, IntKind.bits] at hw
        omega
      obtain ⟨b, o, sp⟩ := a'
      have hspot : sp = none := by
        have h0 := World.cell?_spot (hcell 0 (by omega))
        simpa [Addr.add] using h0
      subst hspot
      refine ⟨b, o, rfl, ?_⟩
      rw [add_at] at hc
      rw [hc]
      have : ((UInt8.ofNat z.toNat).toNat : Int) = z := by
        rw [UInt8.toNat_ofNat']
        omega
      exact congrArg (fun t : Int => some (Value.int .u8 t)) this.symm
    · cases hzj

theorem trodAll_below {H : Type} {enc : TypeId × Value → H} {W W' : World} (hb : Below W.heap.size W W') : ∀ {ts : List TypeId} {vs : List Value} {ds : List (DataW H)} {ps : List MemPlace}, (∀ t ∈ ts, Tryd.prog.readableRec t = true ∧ t < Tryd.prog.types.size) →
    DataW.TrodAll enc Tryd.prog W 0 (fun _ => true) true ts vs ds ps → (∀ x ∈ ps, x.block < W.heap.size) → DataW.TrodAll enc Tryd.prog W' 0 (fun b => decide (b < W.heap.size)) true ts vs ds ps
  | [], _, _, _, _, h, _ => by
    obtain ⟨rfl, rfl, rfl⟩ := trodAll_nil h
    exact trodAll_mk0
  | t :: ts, _, _, _, ht, h, hlt => by
    obtain ⟨v, vs, d, ds, p, q, rfl, rfl, rfl, h1, h2⟩ := trodAll_cons h
    exact trodAll_cons_mk (Below.trod laidOut (ht t (by simp)).1 (ht t (by simp)).2 h1 hb (fun x hx => hlt x (by simp [hx]))) (trodAll_below hb (fun u hu => ht u (by simp [hu])) h2 (fun x hx => hlt x (by simp [hx])))

/-- The post of a law: it answers true, and the input reads as it did. -/
theorem law_post {H : Type} {enc : TypeId × Value → H} {f : Func} {s : ChangeSpec} {W W' : World} {args : Array Value} {ds gs : List (DataW H)} {before : List MemPlace} (hW : DataW.Whole enc Tryd.prog f.params.toList s.vars false W args.toList ds gs before)
    (hrt : f.resultTypes = #[4]) (hv : s.vars = []) (hfn : (s.fn H (ds ++ gs)).results = [.lit (.bool true)] ∧ (s.fn H (ds ++ gs)).args = ds ∧ (s.fn H (ds ++ gs)).vars = []) (hread : ∀ t ∈ f.params.toList, Tryd.prog.readableRec t = true ∧ t < Tryd.prog.types.size)
    (hb : Below W.heap.size W W') : s.post enc Tryd.prog f false true false false W args (.bool true) W' := by
  have hW' := hW
  obtain ⟨p, q, hA, hV, rfl, _, _⟩ := hW
  rw [hv] at hV
  obtain ⟨rfl, rfl⟩ := trodVars_none hV
  obtain ⟨f1, f2, f3⟩ := hfn
  refine ⟨ds, [], p ++ [], [], p, [], hW', ?_, ?_, ?_, Below.frame hb _, fun h => by cases h⟩
  · rw [f1, hrt]; exact trodAll_cons_mk (shut_bool un_4 _) trodAll_mk0
  · rw [f2]; exact trodAll_below hb hread hA (fun x hx => hW'.lt x (by simp [hx]))
  · rw [f3, hv]; rfl
end Go.Proofs.YtokhediaibdkjaaDoor

/-! From C1 -/
/- Numbers of eight bytes among a row's arguments. -/
namespace Go.Proofs.YtokhediaibdkjaaDoor
set_option maxRecDepth 100000
open Go.Pm Go.ChangeShapes Go.WideShapes Go.ChangeAt Go.RowKit
theorem un_34 : Tryd.prog.underlying 34 = some (.int .u64) := by kernel_rfl
theorem u64_of {z : Int} (h : Lit.wf (.int .u64 z) = true) : ∃ N : BitVec 64, z = (N.toNat : Int) := by
  have hz : 0 ≤ z ∧ z < 18446744073709551616 := by
    simp [Lit.wf, IntKind.min, IntKind.max, IntKind.signed, IntKind.bits] at h
    omega
  refine ⟨BitVec.ofNat 64 z.toNat, ?_⟩
  rw [BitVec.toNat_ofNat, Nat.mod_eq_of_lt (by omega)]
  omega
theorem exists_list {α : Type} {P : Nat → α → Prop} : ∀ n, (∀ i, i < n → ∃ a, P i a) → ∃ l : List α, l.length = n ∧ ∀ i a, l[i]? = some a → P i a
  | 0, _ => ⟨[], rfl, fun i a h => by simp at h⟩
  | n + 1, h => by
    obtain ⟨l, hl, hp⟩ := exists_list n (fun i hi => h i (by omega))
    obtain ⟨a, ha⟩ := h n (by omega)
    refine ⟨l ++ [a], by simp [hl], fun i b hb => ?_⟩
    rcases Nat.lt_or_ge i n with hi | hi
    · rw [List.getElem?_append_left (by omega)] at hb; exact hp i b hb
    · rw [List.getElem?_append_right (by omega)] at hb
      have : i - l.length = 0 := by
        rcases Nat.eq_zero_or_pos (i - l.length) with h0 | h0
        · exact h0
        · rw [List.getElem?_eq_none (by simp; omega)] at hb; cases hb
      rw [this] at hb
      simp at hb
      subst hb
      rw [show i = n by omega]; exact ha
/-- Bytes, from what a row says of their cell. -/
theorem bytes_of_trod {H : Type} {enc : TypeId × Value → H} {W : World} {fuel : Nat} {cs : List Value} {x : DataW H × List MemPlace} (hf : DataW.trod enc Tryd.prog W 0 (fun _ => true) true fuel 23 cs = some x) : ∃ s : Sl, cs = [s.v] ∧ s.ok W ∧ s.c ≤ maxLen := by
  rcases open_ints un_23 un_5 co5 hf with ⟨hcs, hx⟩ | ⟨a', len, cap, zs, hcs, _, hl, hm, hz, hx, hcell, hwz⟩
  · exact ⟨⟨none, 0, 0, []⟩, hcs, ⟨rfl, fun _ => rfl, Nat.le_refl _, RdC.nil⟩, Nat.zero_le _⟩
  · simp only [if_true] at hz
    refine ⟨⟨some a', len, cap, (zs.take len).map fun z => UInt8.ofNat z.toNat⟩, hcs, ⟨by simp; omega, by simp, hl, ?_⟩, hm⟩
    intro j u hj
    simp only [List.map_map, List.getElem?_map, Option.map_eq_some_iff] at hj
    obtain ⟨z, hzj, rfl⟩ := hj
    rw [List.getElem?_take] at hzj
    split at hzj
    · rename_i hjl
      have hjz : j < zs.length := by omega
      have hc := hcell j hjz
      have hzv : zs.getD j 0 = z := by simp [hzj]
      rw [hzv] at hc
      have hw := hwz z (List.mem_of_getElem? hzj)
      have hb : 0 ≤ z ∧ z < 256 := by
        simp [Lit.wf, IntKind.min, IntKind.max, IntKind.signed, IntKind.bits] at hw
        omega
      obtain ⟨b, o, sp⟩ := a'
      have hspot : sp = none := by
        have h0 := World.cell?_spot (hcell 0 (by omega))
        simpa [Addr.add] using h0
      subst hspot
      refine ⟨b, o, rfl, ?_⟩
      rw [add_at] at hc
      rw [hc]
      have : ((UInt8.ofNat z.toNat).toNat : Int) = z := by
        rw [UInt8.toNat_ofNat']
        omega
      exact congrArg (fun t : Int => some (Value.int .u8 t)) this.symm
    · cases hzj
theorem un22 : Tryd.prog.underlying 22 = some (.slice 23) := by kernel_rfl
theorem co_23 : Tryd.prog.cellsOf 23 = 1 := by kernel_rfl
/-- An argument: slices of bytes. -/
theorem open_slices {H : Type} {enc : TypeId × Value → H} {W : World} {base : Nat} {v : Value} {d : DataW H} {p : List MemPlace} (hval : Value.okWide Tryd.prog W .any base 22 v) (h : DataW.Trod enc Tryd.prog W 0 (fun _ => true) true 22 v d p) :
    ∃ (q : Option Addr) (c : Nat) (ss : List Sl), v = .slice q ss.length c ∧ (q = none → c = 0) ∧ ss.length ≤ c ∧ c ≤ maxLen ∧ RdC W q (ss.map Sl.v) ∧ ∀ s ∈ ss, s.ok W := by
  obtain ⟨a, n, c, rfl⟩ := okWide_slice un22 hval
  obtain ⟨fuel, hf⟩ := h
  rcases DataW.trod_slice un22 hf with ⟨hcs, _⟩ | ⟨a', len, cap, elems, rest, m, _, hcs, _, _, hl, hm, hlen, hel, _, _⟩
  · simp [Value.cells] at hcs
    obtain ⟨rfl, rfl, rfl⟩ := hcs
    exact ⟨none, 0, [], rfl, fun _ => rfl, Nat.le_refl _, Nat.zero_le _, RdC.nil, by simp⟩
  · simp [Value.cells] at hcs
    obtain ⟨rfl, rfl, rfl⟩ := hcs
    have each : ∀ i, i < n → ∃ s : Sl, s.ok W ∧ W.cell? (a'.add i) = some s.v := fun i hi => by
      have he := hel i hi
      rw [co_23, Nat.mul_one, List.getElem?_eq_getElem (by omega)] at he
      obtain ⟨cs', hcs', hy⟩ := Option.bind_eq_some_iff.1 he
      obtain ⟨s, rfl, hok, _⟩ := bytes_of_trod hy
      exact ⟨s, hok, cell_of_cells?_one hcs'⟩
    obtain ⟨ss, hsl, hss⟩ := exists_list n each
    refine ⟨some a', c, ss, by rw [hsl], by simp, by omega, hm, ?_, fun s hs => ?_⟩
    · intro j u hj
      simp only [List.getElem?_map, Option.map_eq_some_iff] at hj
      obtain ⟨s, hsj, rfl⟩ := hj
      have hc := (hss j s hsj).2
      have hjn : j < n := by have := (List.getElem?_eq_some_iff.1 hsj).1; omega
      obtain ⟨s0, _, h0⟩ := each 0 (by omega)
      obtain ⟨b, o, sp⟩ := a'
      have hspot : sp = none := by
        have h1 := World.cell?_spot h0
        simpa [Addr.add] using h1
      subst hspot
      exact ⟨b, o, rfl, by rw [← hc, add_at]⟩
    · obtain ⟨i, hi⟩ := List.getElem?_of_mem hs
      exact (hss i s hi).1
theorem un_24 : Tryd.prog.underlying 24 = some (.int .i64) := by kernel_rfl
theorem un_2 : Tryd.prog.underlying 2 = some (.int .i64) := by kernel_rfl
theorem u8_of {z : Int} (h : Lit.wf (.int .u8 z) = true) : ∃ N : UInt8, z = (N.toNat : Int) := by
  have hz : 0 ≤ z ∧ z < 256 := by
    simp [Lit.wf, IntKind.min, IntKind.max, IntKind.signed, IntKind.bits] at h
    omega
  refine ⟨UInt8.ofNat z.toNat, ?_⟩
  rw [UInt8.toNat_ofNat']
  omega
theorem i64_of {z : Int} (h : Lit.wf (.int .i64 z) = true) : -9223372036854775808 ≤ z ∧ z < 9223372036854775808 := by
  simp [Lit.wf, IntKind.min, IntKind.max, IntKind.signed, IntKind.bits] at h
  omega
theorem un113 : Tryd.prog.underlying 113 = some (.slice 2) := by kernel_rfl
theorem co_2 : Tryd.prog.cellsOf 2 = 1 := by kernel_rfl
/-- An argument: whole numbers. -/
theorem open_i64s {H : Type} {enc : TypeId × Value → H} {W : World} {base : Nat} {v : Value} {d : DataW H} {p : List MemPlace} (hval : Value.okWide Tryd.prog W .any base 113 v) (h : DataW.Trod enc Tryd.prog W 0 (fun _ => true) true 113 v d p) :
    ∃ (q : Option Addr) (c : Nat) (zs : List Int), v = .slice q zs.length c ∧ (q = none → c = 0) ∧ zs.length ≤ c ∧ RdC W q (zs.map fun z => Value.int .i64 z) := by
  obtain ⟨a, n, c, rfl⟩ := okWide_slice un113 hval
  obtain ⟨fuel, hf⟩ := h
  rcases open_ints un113 un_2 co_2 hf with ⟨hcs, _⟩ | ⟨a', len, cap, zs, hcs, _, hl, hm, hz, hx, hcell, _⟩
  · simp [Value.cells] at hcs
    obtain ⟨rfl, rfl, rfl⟩ := hcs
    exact ⟨none, 0, [], rfl, fun _ => rfl, Nat.le_refl _, RdC.nil⟩
  · simp [Value.cells] at hcs
    obtain ⟨rfl, rfl, rfl⟩ := hcs
    simp only [if_true] at hz
    have hlen : (zs.take n).length = n := by rw [List.length_take]; omega
    refine ⟨some a', c, zs.take n, by rw [hlen], by simp, by omega, ?_⟩
    intro j u hj
    simp only [List.getElem?_map, Option.map_eq_some_iff] at hj
    obtain ⟨z, hzj, rfl⟩ := hj
    rw [List.getElem?_take] at hzj
    split at hzj
    · rename_i hjl
      have hc := hcell j (by omega)
      rw [show zs.getD j 0 = z by simp [hzj]] at hc
      obtain ⟨b, o, sp⟩ := a'
      have hspot : sp = none := by
        have h0 := World.cell?_spot (hcell 0 (by omega))
        simpa [Addr.add] using h0
      subst hspot
      exact ⟨b, o, rfl, by rw [← hc, add_at]⟩
    · cases hzj
end Go.Proofs.YtokhediaibdkjaaDoor

/-! From L16 -/
/- The walk of DiaryKeeps. (printed by gen1.py) -/
namespace Go.Proofs.YtokhediaibdkjaaDoor
open Go.Pm Go.RowKit
set_option maxRecDepth 100000
theorem f16_spec (q : Option Addr) (c : Nat) (zs : List Int) (rm stp ch : UInt8) (w : World) (hrq : RdC w q (zs.map I64)) (hG : Gl w []) : Calls Tryd.prog 16 [.slice q zs.length c, B8 rm, B8 stp, B8 ch].toArray w (fun en w2 => en = .returned (.bool true) ∧ Sat w [] [] w2) := by
  have hrm : rm.toNat % 41 < 41 := Nat.mod_lt _ (by decide)
  have hstp : stp.toNat % 80 < 80 := Nat.mod_lt _ (by decide)
  have hrl := rm.toNat_lt
  have hsl := stp.toNat_lt
  refine used hrq (used hG (?_))
  refine enter (n := 149) Tryd.func16 rfl rfl rfl (Sat.refl w) ?_
  refine seq ?_
  refine region ?_
  refine st (g_assign rfl) rfl ?_
  refine done ?_
  refine th_n ?_
  refine seq ?_
  refine region ?_
  refine sq rfl (o_callP Tryd.func41 rfl rfl rfl (fun w hw => f41_spec w (Gl.ofOld (A := []) hG hw .nil)) rfl ?_)
  refine st (g_assign rfl) rfl ?_
  refine done ?_
  refine th_n ?_
  refine seq ?_
  refine seq ?_
  refine region ?_
  refine st (g_move rfl) rfl ?_
  refine st (g_len el_113 rfl) rfl ?_
  refine sp (g_bin rfl rfl rfl) rfl (fun h28 => ?_) (fun h28 => ?_)
  · refine st (g_move rfl) rfl ?_
    refine gf rfl rfl ?_
    refine gf rfl rfl ?_
    refine st (g_pickT rfl rfl) rfl ?_
    refine done ?_
    refine th_n ?_
    refine condT rfl ?_
    refine seq ?_
    refine region ?_
    refine st (g_move rfl) rfl ?_
    refine st (g_assign rfl) rfl ?_
    refine done ?_
    refine th_n ?_
    refine ret ?_
    refine th_r ?_
    exact ret1 rfl rfl rfl (fun w2 hw2 => ⟨rfl, hw2.clear⟩)
  · refine st (g_move rfl) rfl ?_
    refine gt rfl ?_
    refine st (g_move rfl) rfl ?_
    refine gt rfl ?_
    refine st (g_not rfl) rfl ?_
    refine st (g_pickF rfl rfl) rfl ?_
    refine done ?_
    refine th_n ?_
    refine condF rfl ?_
    refine skip ?_
    refine th_n ?_
    refine seq ?_
    refine region ?_
    refine st (g_move rfl) rfl ?_
    refine st (g_toI (c := (rm.toNat : Int)) it_5 it_3 rfl (by omega) (by omega) (by omega)) rfl ?_
    refine st (g_irem (c := ((rm.toNat % 41 : Nat) : Int)) rfl rfl (by omega) (by omega) (by omega)) rfl ?_
    refine sq rfl (o_call Tryd.func28 rfl rfl rfl .nil (fun w hw hA => f28_spec 2 (rm.toNat % 41) (by decide) (by decide) (by omega) w) rfl (fun ⟨b, r0⟩ hro0 => ?_))
    refine st (g_move rfl) rfl ?_
    refine st (g_extract rfl rfl) rfl ?_
    refine st (g_extract rfl rfl) rfl ?_
    refine st (g_assign rfl) rfl ?_
    refine st (g_assign rfl) rfl ?_
    refine done ?_
    refine th_n ?_
    refine seq ?_
    refine region ?_
    refine st (g_move rfl) rfl ?_
    refine sq rfl (o_call Tryd.func42 rfl rfl rfl (.cons .here (.cons .here (.cons .here (.cons .here .nil)))) (fun w hw hA => f42_ok b (newDk 2 (rm.toNat % 41)) (dk2_ok _ (by omega)) r0 hro0 0 ((dg_new (first := 0) (by decide) (by decide) _).opens rfl (by decide) (by decide)) w (by assumption) (Gl.ofOld (A := dkR b (newDk 2 (rm.toNat % 41)) r0) hG hw (.cons .here (.cons .here (.cons .here (.cons .here .nil)))))) rfl (fun x0 _ => ?_))
    refine st (g_move rfl) rfl ?_
    refine st (g_extract rfl rfl) rfl ?_
    refine st (g_extract rfl rfl) rfl ?_
    refine st (g_assign rfl) rfl ?_
    refine st (g_assign rfl) rfl ?_
    refine done ?_
    refine th_n ?_
    refine seq ?_
    refine seq ?_
    refine region ?_
    refine st (g_move rfl) rfl ?_
    refine st (g_F rfl rfl rfl (fun h => h rfl)) rfl ?_
    refine st (g_move rfl) rfl ?_
    refine gt rfl ?_
    refine st (g_move rfl) rfl ?_
    refine gt rfl ?_
    refine st (g_F rfl rfl rfl (fun h => h rfl)) rfl ?_
    refine st (g_pickF rfl rfl) rfl ?_
    refine st (g_move rfl) rfl ?_
    refine gt rfl ?_
    refine st (g_move rfl) rfl ?_
    refine gt rfl ?_
    refine st (g_move rfl) rfl ?_
    refine gt rfl ?_
    refine st (g_toI (c := (stp.toNat : Int)) it_5 it_3 rfl (by omega) (by omega) (by omega)) rfl ?_
    refine gt rfl ?_
    refine st (g_irem (c := ((stp.toNat % 80 : Nat) : Int)) rfl rfl (by omega) (by omega) (by omega)) rfl ?_
    refine gt rfl ?_
    refine st (g_iadd (c := ((1 + stp.toNat % 80 : Nat) : Int)) rfl rfl (by omega) (by omega) (by omega)) rfl ?_
    refine gt rfl ?_
    refine st (g_move rfl) rfl ?_
    refine gt rfl ?_
    refine sq rfl (o_buildSlice1 (vs := [B8 ch]) un_23 zr_5 sz_5 (by decide) (by decide) rfl rfl rfl (by simp [Value.oneCell']) rfl (fun b59 => ?_))
    refine gt rfl ?_
    refine sq rfl (o_call Tryd.func35 rfl rfl rfl (.cons (.there (.there (.here))) (.cons (.there (.there (.here))) (.cons (.there (.there (.here))) (.cons (.there (.there (.here))) .nil)))) (fun w hw hA => f35_as b (newDk 2 (rm.toNat % 41)) r0 ((1 + stp.toNat % 80 : Nat) : Int) (by omega) (some ⟨b59, 0, none⟩) 1 1 [ch] rfl nofun (Nat.le_refl _) (by decide) (armed_pos (newDk 2 (rm.toNat % 41)) (by omega) [ch]) w (by assumption) (RdS.ofOwn hw (.cons (.there (.there (.here))) (.cons (.there (.there (.here))) (.cons (.there (.there (.here))) (.cons (.there (.there (.here))) .nil)))) .here (RdC.ofBlk hw .here rfl) (fun b o h => by cases h; exact List.mem_singleton.2 rfl)) (dk2_ok _ (by omega)) hro0) rfl (fun r1 hro1 => ?_))
    refine gt rfl ?_
    refine st (g_F rfl rfl rfl (fun h => h rfl)) rfl ?_
    refine st (g_pickF rfl rfl) rfl ?_
    refine done ?_
    refine th_n ?_
    refine condF rfl ?_
    refine skip ?_
    refine th_n ?_
    refine seq ?_
    refine region ?_
    refine st (g_assign rfl) rfl ?_
    refine st (g_assign rfl) rfl ?_
    refine done ?_
    refine th_n ?_
    refine seq ?_
    refine seq ?_
    have hka : ({ newDk 2 (rm.toNat % 41) with steps := 1 + stp.toNat % 80, choice := [ch] } : Dk).ok := Dk.ok_steps (k := { newDk 2 (rm.toNat % 41) with choice := [ch] }) ⟨(dk2_ok (rm.toNat % 41) (by omega)).st, (dk2_ok (rm.toNat % 41) (by omega)).n1, (dk2_ok (rm.toNat % 41) (by omega)).n64, (dk2_ok (rm.toNat % 41) (by omega)).wt, (dk2_ok (rm.toNat % 41) (by omega)).rm, (dk2_ok (rm.toNat % 41) (by omega)).sp, by show 1 ≤ 70368744177664; decide⟩ _ (by omega)
    refine region ?_
    refine st (g_move rfl) rfl ?_
    refine st (g_len el_113 rfl) rfl ?_
    refine st (g_move rfl) rfl ?_
    refine done ?_
    refine th_n ?_
    refine block ?_
    refine loop (α := Nat × Dk × Nat × Rp × Nat × Int × Int) (fun ⟨i, k, m, r, x, s, t⟩ => i ≤ zs.length ∧ k.ok ∧ r.ok k ∧ Dg 0 k m s t ∧ k.down = false ∧ m ≤ i) (fun ⟨i, k, m, r, x, s, t⟩ => [(0, .slice q zs.length c), (9, .bool true), (10, .pointer (some ⟨b, 0, none⟩)), (12, .pointer (some ⟨x, 0, none⟩)), (14, I64 s), (15, I64 t), (64, I64 (zs.length : Nat)), (65, I64 (i : Nat))]) (fun ⟨i, k, m, r, x, s, t⟩ => [dyB x b s t, dkB b k r, dkS k r, dkW k r, dkC k r]) (fun ⟨i, k, m, r, x, s, t⟩ => zs.length - i) (0, ({ newDk 2 (rm.toNat % 41) with steps := 1 + stp.toNat % 80, choice := [ch] } : Dk), 0, r1, x0, 0, 0) ⟨Nat.zero_le _, hka, hro1, (dg_new (first := 0) (by decide) (by decide) _).arm _ _, rfl, Nat.le_refl _⟩ ⟨rfl, rfl, rfl, rfl, rfl, rfl, rfl, rfl, trivial⟩ (.cons (.there (.there (.there (.there (.there (.here)))))) (.cons .here (.cons .here (.cons .here (.cons .here .nil))))) (fun ⟨i, k, m, r, x, s, t⟩ ⟨hI, hk, hro, hdg, hdn, hmi⟩ => ?_)
    refine seq ?_
    refine region ?_
    refine st (g_bin rfl rfl rfl) rfl ?_
    refine done ?_
    refine th_n ?_
    refine seq ?_
    refine condS rfl (fun h66 => ?_) (fun h66 => ?_)
    · try simp only [decide_eq_true_eq] at h66
      have hi : i < zs.length := by omega
      obtain ⟨z, hz⟩ : ∃ z, zs[i]? = some z := ⟨zs[i], by simp [hi]⟩
      have hqs : q.isSome = true := hrq.some (by intro h; simp at h; subst h; simp at hi)
      obtain ⟨⟨⟨a, c2, e⟩, k2, s2, t2⟩, hres⟩ : ∃ z', k.resv s t z = z' := ⟨_, rfl⟩
      have ht := told hdg hdn (by omega) z
      rw [hres] at ht
      have hk2 : k2.ok := by
        have h1 := Dk.resv_ok hk s t z
        rw [hres] at h1
        exact h1
      refine skip ?_
      refine th_n ?_
      refine seq ?_
      refine block ?_
      refine seq ?_
      refine region ?_
      refine st (g_move rfl) rfl ?_
      refine st (g_assign rfl) rfl ?_
      refine done ?_
      refine th_n ?_
      refine seq ?_
      refine region ?_
      refine st (g_move rfl) rfl ?_
      refine st (g_move rfl) rfl ?_
      refine st (g_move rfl) rfl ?_
      refine st (g_indexP (m := i) el_113 rfl rfl (hqs) (by omega) (by omega) (by omega)) rfl ?_
      refine st (g_load (v := I64 z) sc_2 rfl (Cell.rd (RdA.of hrq.s) (by rw [List.getElem?_map, hz]; rfl))) rfl ?_
      refine sq rfl (o_call Tryd.func31 rfl rfl rfl (.cons .here (.cons .here (.cons .here (.cons .here (.cons .here .nil))))) (fun w hw hA => f31_spec x b k hk r hro s t z hdg.s0 hdg.s1 hdg.t0 hdg.t1 hres w (by assumption) (Gl.ofOld (A := dyB x b s t :: dkR b k r) hG hw (.cons .here (.cons .here (.cons .here (.cons .here (.cons .here .nil))))))) rfl (fun r2 hr2 => ?_))
      refine st (g_move rfl) rfl ?_
      refine st (g_extract rfl rfl) rfl ?_
      refine st (g_extract rfl rfl) rfl ?_
      refine st (g_extract rfl rfl) rfl ?_
      refine st (g_assign rfl) rfl ?_
      refine st (g_assign rfl) rfl ?_
      refine st (g_assign rfl) rfl ?_
      refine done ?_
      refine th_n ?_
      refine seq ?_
      refine seq ?_
      refine region ?_
      refine st (g_move rfl) rfl ?_
      refine st (g_bin rfl rfl rfl) rfl ?_
      refine done ?_
      refine th_n ?_
      refine condS rfl (fun h79 => ?_) (fun h79 => ?_)
      · try simp only [decide_eq_true_eq] at h79
        rcases ht with ⟨he, hst, hdd, hdg2, _⟩ | ⟨_, _, hne, _⟩
        rotate_left
        · exact absurd h79 hne
        simp only [Prod.mk.injEq] at he hst
        obtain ⟨rfl, rfl, rfl⟩ := he
        obtain ⟨rfl, rfl⟩ := hst
        have hb1 := hdg2.s1
        obtain ⟨S, hS⟩ : ∃ S, S = s + 1 := ⟨_, rfl⟩
        obtain ⟨T, hT⟩ : ∃ T, T = later t z := ⟨_, rfl⟩
        obtain ⟨m', hm'⟩ : ∃ m', m' = m + 1 := ⟨_, rfl⟩
        have htg := later_ge t z
        rw [← hS, ← hT, ← hm'] at hdg2
        simp only at hdd hdg2
        have hkb : ({ k2 with down := false } : Dk).ok := Dk.ok_down hk2 false
        have hrb : r2.ok ({ k2 with down := false } : Dk) := ⟨hr2.w0, hr2.w1, hr2.c0, hr2.c1⟩
        have hgb := hdg2.boot false
        have hbs0 := hdg2.s0
        have hbs1 := hdg2.s1
        have hg0 := hdg.s0
        refine seq ?_
        refine seq ?_
        refine region ?_
        refine st (g_move rfl) rfl ?_
        refine st (g_move rfl) rfl ?_
        refine st (g_iadd (c := (s + 1)) rfl rfl (by omega) (by omega) (by omega)) rfl ?_
        refine st (g_F rfl rfl rfl (fun h => h rfl)) rfl ?_
        refine done ?_
        refine th_n ?_
        refine condF rfl ?_
        refine skip ?_
        refine th_n ?_
        refine region ?_
        refine st (g_move rfl) rfl ?_
        refine st (g_move rfl) rfl ?_
        refine st (g_assign rfl) rfl ?_
        refine st (g_assign rfl) rfl ?_
        refine done ?_
        refine th_n ?_
        refine seq ?_
        refine region ?_
        refine st (g_move rfl) rfl ?_
        refine sq rfl (o_callP Tryd.func43 rfl rfl rfl (fun w hw => f43_as b k2 hk2 r2 hdd w (RdC.ofBlk hw (.there (.here)) rfl)) rfl ?_)
        refine st (g_not rfl) rfl ?_
        refine st (g_assign rfl) rfl ?_
        refine done ?_
        refine th_n ?_
        refine seq ?_
        refine region ?_
        refine st (g_move rfl) rfl ?_
        refine sq rfl (o_call Tryd.func37 rfl rfl rfl (.cons (.there (.here)) .nil) (fun w hw hA => f37_spec b k2 hk2 r2 w (by assumption)) rfl (fun _ _ => ?_))
        refine done ?_
        refine th_n ?_
        refine seq ?_
        refine region ?_
        refine st (g_move rfl) rfl ?_
        refine sq rfl (o_call Tryd.func42 rfl rfl rfl (.cons .here (.cons (.there (.here)) (.cons (.there (.here)) (.cons (.there (.here)) .nil)))) (fun w hw hA => f42_ok b ({ k2 with down := false } : Dk) hkb r2 hrb 0 (hgb.opens rfl (by decide) (by omega)) w (by assumption) (Gl.ofOld (A := dkR b ({ k2 with down := false } : Dk) r2) hG hw (.cons .here (.cons (.there (.here)) (.cons (.there (.here)) (.cons (.there (.here)) .nil)))))) rfl (fun x2 _ => ?_))
        refine st (g_move rfl) rfl ?_
        refine st (g_extract rfl rfl) rfl ?_
        refine st (g_extract rfl rfl) rfl ?_
        refine st (g_assign rfl) rfl ?_
        refine st (g_assign rfl) rfl ?_
        refine done ?_
        refine th_n ?_
        refine seq ?_
        refine region ?_
        refine st (g_move rfl) rfl ?_
        refine sq rfl (o_call Tryd.func40 rfl rfl rfl (.cons .here .nil) (fun w hw hA => f40_spec x2 b S T w (by assumption)) rfl (fun _ _ => ?_))
        refine st (g_move rfl) rfl ?_
        refine st (g_extract rfl rfl) rfl ?_
        refine st (g_extract rfl rfl) rfl ?_
        refine st (g_assign rfl) rfl ?_
        refine st (g_assign rfl) rfl ?_
        refine done ?_
        refine th_n ?_
        refine seq ?_
        refine seq ?_
        refine region ?_
        refine st (g_move rfl) rfl ?_
        refine st (g_F rfl rfl rfl (fun h => h rfl)) rfl ?_
        refine st (g_move rfl) rfl ?_
        refine gt rfl ?_
        refine st (g_move rfl) rfl ?_
        refine gt rfl ?_
        refine st (g_F rfl rfl rfl (by decide)) rfl ?_
        refine gt rfl ?_
        refine st (g_move rfl) rfl ?_
        refine gt rfl ?_
        refine st (g_neB bo_4 rfl rfl) rfl ?_
        refine st (g_pickF rfl rfl) rfl ?_
        refine st (g_move rfl) rfl ?_
        refine gt rfl ?_
        refine st (g_move rfl) rfl ?_
        refine gt rfl ?_
        refine st (g_move rfl) rfl ?_
        refine gt rfl ?_
        refine st (g_F rfl rfl rfl (by omega)) rfl ?_
        refine st (g_pickF rfl rfl) rfl ?_
        refine st (g_move rfl) rfl ?_
        refine gt rfl ?_
        refine st (g_move rfl) rfl ?_
        refine gt rfl ?_
        refine st (g_move rfl) rfl ?_
        refine gt rfl ?_
        refine st (g_F rfl rfl rfl (by omega)) rfl ?_
        refine st (g_pickF rfl rfl) rfl ?_
        refine st (g_move rfl) rfl ?_
        refine gt rfl ?_
        refine st (g_move rfl) rfl ?_
        refine gt rfl ?_
        refine st (g_move rfl) rfl ?_
        refine gt rfl ?_
        refine st (g_F rfl rfl rfl (by omega)) rfl ?_
        refine gt rfl ?_
        refine st (g_move rfl) rfl ?_
        refine gf rfl rfl ?_
        refine gf rfl rfl ?_
        refine gf rfl rfl ?_
        refine gfu rfl rfl ?_
        refine gfu rfl rfl ?_
        refine gfu rfl rfl ?_
        refine gfu rfl rfl ?_
        refine gf rfl rfl ?_
        refine gt rfl ?_
        refine st (g_pickF rfl rfl) rfl ?_
        refine st (g_pickF rfl rfl) rfl ?_
        refine st (g_move rfl) rfl ?_
        refine gt rfl ?_
        refine st (g_move rfl) rfl ?_
        refine gt rfl ?_
        refine st (g_move rfl) rfl ?_
        refine gt rfl ?_
        refine st (g_T rfl rfl rfl (by omega)) rfl ?_
        refine gt rfl ?_
        refine st (g_move rfl) rfl ?_
        refine gt rfl ?_
        refine st (g_move rfl) rfl ?_
        refine gt rfl ?_
        refine st (g_move rfl) rfl ?_
        refine gt rfl ?_
        refine st (g_F rfl rfl rfl (by omega)) rfl ?_
        refine gt rfl ?_
        refine st (g_pickT rfl rfl) rfl ?_
        refine st (g_pickF rfl rfl) rfl ?_
        refine done ?_
        refine th_n ?_
        refine condF rfl ?_
        refine skip ?_
        refine th_n ?_
        refine region ?_
        refine st (g_move rfl) rfl ?_
        refine st (g_move rfl) rfl ?_
        refine st (g_move rfl) rfl ?_
        refine st (g_assign rfl) rfl ?_
        refine st (g_assign rfl) rfl ?_
        refine st (g_assign rfl) rfl ?_
        refine done ?_
        refine ib_n ?_
        refine th_n ?_
        refine region ?_
        refine st (g_iadd (c := ((i + 1 : Nat) : Int)) rfl rfl (by omega) (by omega) (by omega)) rfl ?_
        refine st (g_move rfl) rfl ?_
        refine done ?_
        refine th_n ?_
        exact again (i + 1, ({ k2 with down := false } : Dk), m', r2, x2, S, T) ⟨by omega, hkb, hrb, hgb, rfl, by omega⟩ (by show zs.length - (i + 1) < zs.length - i; omega) ⟨rfl, rfl, rfl, rfl, rfl, rfl, rfl, rfl, trivial⟩ (.cons .here (.cons .here (.cons .here (.cons .here (.cons .here .nil)))))
      · try simp only [decide_eq_false_iff_not] at h79
        rcases ht with ⟨he, _⟩ | ⟨ha, hc2, hne, hst, hdw, m', S, T, hm', hdg2, hST⟩
        · exact absurd (congrArg (fun p => p.2.2) he) h79
        simp only [Prod.mk.injEq] at ha hc2 hst hdw hdg2 hST
        subst ha hc2
        obtain ⟨rfl, rfl⟩ := hst
        have hkb : ({ k2 with down := false } : Dk).ok := Dk.ok_down hk2 false
        have hrb : r2.ok ({ k2 with down := false } : Dk) := ⟨hr2.w0, hr2.w1, hr2.c0, hr2.c1⟩
        have hgb := hdg2.boot false
        have hbs0 := hdg2.s0
        have hbs1 := hdg2.s1
        have hg0 := hdg.s0
        have h3 : (k2.down = true ∧ S = s2 ∧ T = t2) ∨ (k2.down = true ∧ S = s2 + 1 ∧ t2 ≤ T) ∨ (k2.down = false ∧ S = s2 ∧ T = t2) := by
          rcases hST with ⟨h1, h2⟩ | ⟨h0, h1, h2⟩
          · cases hdd : k2.down with
            | true => exact .inl ⟨rfl, h1, h2⟩
            | false => exact .inr (.inr ⟨rfl, h1, h2⟩)
          · exact .inr (.inl ⟨h0, h1, h2⟩)
        rcases h3 with ⟨hdd, hS, hT⟩ | ⟨hdd, hS, hT⟩ | ⟨hdd, hS, hT⟩
        · have he : e = 171 := hdw.1 hdd
          subst he
          refine skip ?_
          refine th_n ?_
          refine seq ?_
          refine region ?_
          refine st (g_move rfl) rfl ?_
          refine sq rfl (o_callP Tryd.func43 rfl rfl rfl (fun w hw => f43_as b k2 hk2 r2 hdd w (RdC.ofBlk hw (.there (.here)) rfl)) rfl ?_)
          refine st (g_not rfl) rfl ?_
          refine st (g_assign rfl) rfl ?_
          refine done ?_
          refine th_n ?_
          refine seq ?_
          refine region ?_
          refine st (g_move rfl) rfl ?_
          refine sq rfl (o_call Tryd.func37 rfl rfl rfl (.cons (.there (.here)) .nil) (fun w hw hA => f37_spec b k2 hk2 r2 w (by assumption)) rfl (fun _ _ => ?_))
          refine done ?_
          refine th_n ?_
          refine seq ?_
          refine region ?_
          refine st (g_move rfl) rfl ?_
          refine sq rfl (o_call Tryd.func42 rfl rfl rfl (.cons .here (.cons (.there (.here)) (.cons (.there (.here)) (.cons (.there (.here)) .nil)))) (fun w hw hA => f42_ok b ({ k2 with down := false } : Dk) hkb r2 hrb 0 (hgb.opens rfl (by decide) (by omega)) w (by assumption) (Gl.ofOld (A := dkR b ({ k2 with down := false } : Dk) r2) hG hw (.cons .here (.cons (.there (.here)) (.cons (.there (.here)) (.cons (.there (.here)) .nil)))))) rfl (fun x2 _ => ?_))
          refine st (g_move rfl) rfl ?_
          refine st (g_extract rfl rfl) rfl ?_
          refine st (g_extract rfl rfl) rfl ?_
          refine st (g_assign rfl) rfl ?_
          refine st (g_assign rfl) rfl ?_
          refine done ?_
          refine th_n ?_
          refine seq ?_
          refine region ?_
          refine st (g_move rfl) rfl ?_
          refine sq rfl (o_call Tryd.func40 rfl rfl rfl (.cons .here .nil) (fun w hw hA => f40_spec x2 b S T w (by assumption)) rfl (fun _ _ => ?_))
          refine st (g_move rfl) rfl ?_
          refine st (g_extract rfl rfl) rfl ?_
          refine st (g_extract rfl rfl) rfl ?_
          refine st (g_assign rfl) rfl ?_
          refine st (g_assign rfl) rfl ?_
          refine done ?_
          refine th_n ?_
          refine seq ?_
          refine seq ?_
          refine region ?_
          refine st (g_move rfl) rfl ?_
          refine st (g_F rfl rfl rfl (fun h => h rfl)) rfl ?_
          refine st (g_move rfl) rfl ?_
          refine gt rfl ?_
          refine st (g_move rfl) rfl ?_
          refine gt rfl ?_
          refine st (g_T rfl rfl rfl (rfl)) rfl ?_
          refine gt rfl ?_
          refine st (g_move rfl) rfl ?_
          refine gt rfl ?_
          refine st (g_neB bo_4 rfl rfl) rfl ?_
          refine st (g_pickF rfl rfl) rfl ?_
          refine st (g_move rfl) rfl ?_
          refine gt rfl ?_
          refine st (g_move rfl) rfl ?_
          refine gt rfl ?_
          refine st (g_move rfl) rfl ?_
          refine gt rfl ?_
          refine st (g_F rfl rfl rfl (by omega)) rfl ?_
          refine st (g_pickF rfl rfl) rfl ?_
          refine st (g_move rfl) rfl ?_
          refine gt rfl ?_
          refine st (g_move rfl) rfl ?_
          refine gt rfl ?_
          refine st (g_move rfl) rfl ?_
          refine gt rfl ?_
          refine st (g_F rfl rfl rfl (by omega)) rfl ?_
          refine st (g_pickF rfl rfl) rfl ?_
          refine st (g_move rfl) rfl ?_
          refine gt rfl ?_
          refine st (g_move rfl) rfl ?_
          refine gt rfl ?_
          refine st (g_move rfl) rfl ?_
          refine gt rfl ?_
          refine st (g_F rfl rfl rfl (by omega)) rfl ?_
          refine gt rfl ?_
          refine st (g_move rfl) rfl ?_
          refine gf rfl rfl ?_
          refine gf rfl rfl ?_
          refine gf rfl rfl ?_
          refine gfu rfl rfl ?_
          refine gfu rfl rfl ?_
          refine gfu rfl rfl ?_
          refine gfu rfl rfl ?_
          refine gf rfl rfl ?_
          refine gt rfl ?_
          refine st (g_pickF rfl rfl) rfl ?_
          refine st (g_pickF rfl rfl) rfl ?_
          refine st (g_move rfl) rfl ?_
          refine gt rfl ?_
          refine st (g_move rfl) rfl ?_
          refine gt rfl ?_
          refine st (g_move rfl) rfl ?_
          refine gt rfl ?_
          refine st (g_T rfl rfl rfl (by omega)) rfl ?_
          refine gt rfl ?_
          refine st (g_move rfl) rfl ?_
          refine gt rfl ?_
          refine st (g_move rfl) rfl ?_
          refine gt rfl ?_
          refine st (g_move rfl) rfl ?_
          refine gt rfl ?_
          refine st (g_F rfl rfl rfl (by omega)) rfl ?_
          refine gt rfl ?_
          refine st (g_pickT rfl rfl) rfl ?_
          refine st (g_pickF rfl rfl) rfl ?_
          refine done ?_
          refine th_n ?_
          refine condF rfl ?_
          refine skip ?_
          refine th_n ?_
          refine region ?_
          refine st (g_move rfl) rfl ?_
          refine st (g_move rfl) rfl ?_
          refine st (g_move rfl) rfl ?_
          refine st (g_assign rfl) rfl ?_
          refine st (g_assign rfl) rfl ?_
          refine st (g_assign rfl) rfl ?_
          refine done ?_
          refine ib_n ?_
          refine th_n ?_
          refine region ?_
          refine st (g_iadd (c := ((i + 1 : Nat) : Int)) rfl rfl (by omega) (by omega) (by omega)) rfl ?_
          refine st (g_move rfl) rfl ?_
          refine done ?_
          refine th_n ?_
          exact again (i + 1, ({ k2 with down := false } : Dk), m', r2, x2, S, T) ⟨by omega, hkb, hrb, hgb, rfl, by omega⟩ (by show zs.length - (i + 1) < zs.length - i; omega) ⟨rfl, rfl, rfl, rfl, rfl, rfl, rfl, rfl, trivial⟩ (.cons .here (.cons .here (.cons .here (.cons .here (.cons .here .nil)))))
        · have he : e = 171 := hdw.1 hdd
          subst he
          refine skip ?_
          refine th_n ?_
          refine seq ?_
          refine region ?_
          refine st (g_move rfl) rfl ?_
          refine sq rfl (o_callP Tryd.func43 rfl rfl rfl (fun w hw => f43_as b k2 hk2 r2 hdd w (RdC.ofBlk hw (.there (.here)) rfl)) rfl ?_)
          refine st (g_not rfl) rfl ?_
          refine st (g_assign rfl) rfl ?_
          refine done ?_
          refine th_n ?_
          refine seq ?_
          refine region ?_
          refine st (g_move rfl) rfl ?_
          refine sq rfl (o_call Tryd.func37 rfl rfl rfl (.cons (.there (.here)) .nil) (fun w hw hA => f37_spec b k2 hk2 r2 w (by assumption)) rfl (fun _ _ => ?_))
          refine done ?_
          refine th_n ?_
          refine seq ?_
          refine region ?_
          refine st (g_move rfl) rfl ?_
          refine sq rfl (o_call Tryd.func42 rfl rfl rfl (.cons .here (.cons (.there (.here)) (.cons (.there (.here)) (.cons (.there (.here)) .nil)))) (fun w hw hA => f42_ok b ({ k2 with down := false } : Dk) hkb r2 hrb 0 (hgb.opens rfl (by decide) (by omega)) w (by assumption) (Gl.ofOld (A := dkR b ({ k2 with down := false } : Dk) r2) hG hw (.cons .here (.cons (.there (.here)) (.cons (.there (.here)) (.cons (.there (.here)) .nil)))))) rfl (fun x2 _ => ?_))
          refine st (g_move rfl) rfl ?_
          refine st (g_extract rfl rfl) rfl ?_
          refine st (g_extract rfl rfl) rfl ?_
          refine st (g_assign rfl) rfl ?_
          refine st (g_assign rfl) rfl ?_
          refine done ?_
          refine th_n ?_
          refine seq ?_
          refine region ?_
          refine st (g_move rfl) rfl ?_
          refine sq rfl (o_call Tryd.func40 rfl rfl rfl (.cons .here .nil) (fun w hw hA => f40_spec x2 b S T w (by assumption)) rfl (fun _ _ => ?_))
          refine st (g_move rfl) rfl ?_
          refine st (g_extract rfl rfl) rfl ?_
          refine st (g_extract rfl rfl) rfl ?_
          refine st (g_assign rfl) rfl ?_
          refine st (g_assign rfl) rfl ?_
          refine done ?_
          refine th_n ?_
          refine seq ?_
          refine seq ?_
          refine region ?_
          refine st (g_move rfl) rfl ?_
          refine st (g_F rfl rfl rfl (fun h => h rfl)) rfl ?_
          refine st (g_move rfl) rfl ?_
          refine gt rfl ?_
          refine st (g_move rfl) rfl ?_
          refine gt rfl ?_
          refine st (g_T rfl rfl rfl (rfl)) rfl ?_
          refine gt rfl ?_
          refine st (g_move rfl) rfl ?_
          refine gt rfl ?_
          refine st (g_neB bo_4 rfl rfl) rfl ?_
          refine st (g_pickF rfl rfl) rfl ?_
          refine st (g_move rfl) rfl ?_
          refine gt rfl ?_
          refine st (g_move rfl) rfl ?_
          refine gt rfl ?_
          refine st (g_move rfl) rfl ?_
          refine gt rfl ?_
          refine st (g_F rfl rfl rfl (by omega)) rfl ?_
          refine st (g_pickF rfl rfl) rfl ?_
          refine st (g_move rfl) rfl ?_
          refine gt rfl ?_
          refine st (g_move rfl) rfl ?_
          refine gt rfl ?_
          refine st (g_move rfl) rfl ?_
          refine gt rfl ?_
          refine st (g_F rfl rfl rfl (by omega)) rfl ?_
          refine st (g_pickF rfl rfl) rfl ?_
          refine st (g_move rfl) rfl ?_
          refine gt rfl ?_
          refine st (g_move rfl) rfl ?_
          refine gt rfl ?_
          refine st (g_move rfl) rfl ?_
          refine gt rfl ?_
          refine st (g_T rfl rfl rfl (by omega)) rfl ?_
          refine gt rfl ?_
          refine st (g_move rfl) rfl ?_
          refine gt rfl ?_
          refine st (g_move rfl) rfl ?_
          refine gt rfl ?_
          refine st (g_not rfl) rfl ?_
          refine gt rfl ?_
          refine st (g_move rfl) rfl ?_
          refine gt rfl ?_
          refine st (g_move rfl) rfl ?_
          refine gt rfl ?_
          refine st (g_move rfl) rfl ?_
          refine gt rfl ?_
          refine st (g_iadd (c := (S : Int)) rfl rfl (by omega) (by omega) (by omega)) rfl ?_
          refine gt rfl ?_
          refine st (g_F rfl rfl rfl (fun h => h rfl)) rfl ?_
          refine gt rfl ?_
          refine st (g_pickF rfl rfl) rfl ?_
          refine gt rfl ?_
          refine st (g_pickT rfl rfl) rfl ?_
          refine st (g_pickF rfl rfl) rfl ?_
          refine st (g_move rfl) rfl ?_
          refine gt rfl ?_
          refine st (g_move rfl) rfl ?_
          refine gt rfl ?_
          refine st (g_move rfl) rfl ?_
          refine gt rfl ?_
          refine st (g_F rfl rfl rfl (by omega)) rfl ?_
          refine gt rfl ?_
          refine st (g_move rfl) rfl ?_
          refine gf rfl rfl ?_
          refine gf rfl rfl ?_
          refine gf rfl rfl ?_
          refine gt rfl ?_
          refine st (g_pickF rfl rfl) rfl ?_
          refine st (g_pickF rfl rfl) rfl ?_
          refine done ?_
          refine th_n ?_
          refine condF rfl ?_
          refine skip ?_
          refine th_n ?_
          refine region ?_
          refine st (g_move rfl) rfl ?_
          refine st (g_move rfl) rfl ?_
          refine st (g_move rfl) rfl ?_
          refine st (g_assign rfl) rfl ?_
          refine st (g_assign rfl) rfl ?_
          refine st (g_assign rfl) rfl ?_
          refine done ?_
          refine ib_n ?_
          refine th_n ?_
          refine region ?_
          refine st (g_iadd (c := ((i + 1 : Nat) : Int)) rfl rfl (by omega) (by omega) (by omega)) rfl ?_
          refine st (g_move rfl) rfl ?_
          refine done ?_
          refine th_n ?_
          exact again (i + 1, ({ k2 with down := false } : Dk), m', r2, x2, S, T) ⟨by omega, hkb, hrb, hgb, rfl, by omega⟩ (by show zs.length - (i + 1) < zs.length - i; omega) ⟨rfl, rfl, rfl, rfl, rfl, rfl, rfl, rfl, trivial⟩ (.cons .here (.cons .here (.cons .here (.cons .here (.cons .here .nil)))))
        · have he : e ≠ 171 := fun x => by rw [hdw.2 x] at hdd; cases hdd
          refine skip ?_
          refine th_n ?_
          refine seq ?_
          refine region ?_
          refine st (g_move rfl) rfl ?_
          refine sq rfl (o_callP Tryd.func43 rfl rfl rfl (fun w hw => f43_as b k2 hk2 r2 hdd w (RdC.ofBlk hw (.there (.here)) rfl)) rfl ?_)
          refine st (g_not rfl) rfl ?_
          refine st (g_assign rfl) rfl ?_
          refine done ?_
          refine th_n ?_
          refine seq ?_
          refine region ?_
          refine st (g_move rfl) rfl ?_
          refine sq rfl (o_call Tryd.func37 rfl rfl rfl (.cons (.there (.here)) .nil) (fun w hw hA => f37_spec b k2 hk2 r2 w (by assumption)) rfl (fun _ _ => ?_))
          refine done ?_
          refine th_n ?_
          refine seq ?_
          refine region ?_
          refine st (g_move rfl) rfl ?_
          refine sq rfl (o_call Tryd.func42 rfl rfl rfl (.cons .here (.cons (.there (.here)) (.cons (.there (.here)) (.cons (.there (.here)) .nil)))) (fun w hw hA => f42_ok b ({ k2 with down := false } : Dk) hkb r2 hrb 0 (hgb.opens rfl (by decide) (by omega)) w (by assumption) (Gl.ofOld (A := dkR b ({ k2 with down := false } : Dk) r2) hG hw (.cons .here (.cons (.there (.here)) (.cons (.there (.here)) (.cons (.there (.here)) .nil)))))) rfl (fun x2 _ => ?_))
          refine st (g_move rfl) rfl ?_
          refine st (g_extract rfl rfl) rfl ?_
          refine st (g_extract rfl rfl) rfl ?_
          refine st (g_assign rfl) rfl ?_
          refine st (g_assign rfl) rfl ?_
          refine done ?_
          refine th_n ?_
          refine seq ?_
          refine region ?_
          refine st (g_move rfl) rfl ?_
          refine sq rfl (o_call Tryd.func40 rfl rfl rfl (.cons .here .nil) (fun w hw hA => f40_spec x2 b S T w (by assumption)) rfl (fun _ _ => ?_))
          refine st (g_move rfl) rfl ?_
          refine st (g_extract rfl rfl) rfl ?_
          refine st (g_extract rfl rfl) rfl ?_
          refine st (g_assign rfl) rfl ?_
          refine st (g_assign rfl) rfl ?_
          refine done ?_
          refine th_n ?_
          refine seq ?_
          refine seq ?_
          refine region ?_
          refine st (g_move rfl) rfl ?_
          refine st (g_F rfl rfl rfl (fun h => h rfl)) rfl ?_
          refine st (g_move rfl) rfl ?_
          refine gt rfl ?_
          refine st (g_move rfl) rfl ?_
          refine gt rfl ?_
          refine st (g_F rfl rfl rfl (he)) rfl ?_
          refine gt rfl ?_
          refine st (g_move rfl) rfl ?_
          refine gt rfl ?_
          refine st (g_neB bo_4 rfl rfl) rfl ?_
          refine st (g_pickF rfl rfl) rfl ?_
          refine st (g_move rfl) rfl ?_
          refine gt rfl ?_
          refine st (g_move rfl) rfl ?_
          refine gt rfl ?_
          refine st (g_move rfl) rfl ?_
          refine gt rfl ?_
          refine st (g_F rfl rfl rfl (by omega)) rfl ?_
          refine st (g_pickF rfl rfl) rfl ?_
          refine st (g_move rfl) rfl ?_
          refine gt rfl ?_
          refine st (g_move rfl) rfl ?_
          refine gt rfl ?_
          refine st (g_move rfl) rfl ?_
          refine gt rfl ?_
          refine st (g_F rfl rfl rfl (by omega)) rfl ?_
          refine st (g_pickF rfl rfl) rfl ?_
          refine st (g_move rfl) rfl ?_
          refine gt rfl ?_
          refine st (g_move rfl) rfl ?_
          refine gt rfl ?_
          refine st (g_move rfl) rfl ?_
          refine gt rfl ?_
          refine st (g_F rfl rfl rfl (by omega)) rfl ?_
          refine gt rfl ?_
          refine st (g_move rfl) rfl ?_
          refine gf rfl rfl ?_
          refine gf rfl rfl ?_
          refine gf rfl rfl ?_
          refine gfu rfl rfl ?_
          refine gfu rfl rfl ?_
          refine gfu rfl rfl ?_
          refine gfu rfl rfl ?_
          refine gf rfl rfl ?_
          refine gt rfl ?_
          refine st (g_pickF rfl rfl) rfl ?_
          refine st (g_pickF rfl rfl) rfl ?_
          refine st (g_move rfl) rfl ?_
          refine gt rfl ?_
          refine st (g_move rfl) rfl ?_
          refine gt rfl ?_
          refine st (g_move rfl) rfl ?_
          refine gt rfl ?_
          refine st (g_T rfl rfl rfl (by omega)) rfl ?_
          refine gt rfl ?_
          refine st (g_move rfl) rfl ?_
          refine gt rfl ?_
          refine st (g_move rfl) rfl ?_
          refine gt rfl ?_
          refine st (g_move rfl) rfl ?_
          refine gt rfl ?_
          refine st (g_F rfl rfl rfl (by omega)) rfl ?_
          refine gt rfl ?_
          refine st (g_pickT rfl rfl) rfl ?_
          refine st (g_pickF rfl rfl) rfl ?_
          refine done ?_
          refine th_n ?_
          refine condF rfl ?_
          refine skip ?_
          refine th_n ?_
          refine region ?_
          refine st (g_move rfl) rfl ?_
          refine st (g_move rfl) rfl ?_
          refine st (g_move rfl) rfl ?_
          refine st (g_assign rfl) rfl ?_
          refine st (g_assign rfl) rfl ?_
          refine st (g_assign rfl) rfl ?_
          refine done ?_
          refine ib_n ?_
          refine th_n ?_
          refine region ?_
          refine st (g_iadd (c := ((i + 1 : Nat) : Int)) rfl rfl (by omega) (by omega) (by omega)) rfl ?_
          refine st (g_move rfl) rfl ?_
          refine done ?_
          refine th_n ?_
          exact again (i + 1, ({ k2 with down := false } : Dk), m', r2, x2, S, T) ⟨by omega, hkb, hrb, hgb, rfl, by omega⟩ (by show zs.length - (i + 1) < zs.length - i; omega) ⟨rfl, rfl, rfl, rfl, rfl, rfl, rfl, rfl, trivial⟩ (.cons .here (.cons .here (.cons .here (.cons .here (.cons .here .nil)))))
    · try simp only [decide_eq_false_iff_not] at h66
      refine exitc ?_
      refine th_x ?_
      refine th_x ?_
      refine ib_x ?_
      refine th_n ?_
      refine seq ?_
      refine region ?_
      refine st (g_move rfl) rfl ?_
      refine st (g_assign rfl) rfl ?_
      refine done ?_
      refine th_n ?_
      refine ret ?_
      exact ret1 rfl rfl rfl (fun w2 hw2 => ⟨rfl, hw2.clear⟩)
end Go.Proofs.YtokhediaibdkjaaDoor

/-! From C16 -/
/- The law DiaryKeeps: its row and its card. (printed by genC.py) -/
namespace Go.Proofs.YtokhediaibdkjaaDoor
set_option maxRecDepth 100000
open Go.Pm Go.ChangeShapes Go.WideShapes Go.ChangeAt Go.RowKit

theorem diaryKeeps_contract (H : Type) (enc : TypeId × Value → H) (W : World) (base : Nat) (args : Array Value) (ds gs : List (DataW H)) (before : List MemPlace)
    (hval : ∀ (j : Nat) t v, Tryd.f16.params[j]? = some t → args[j]? = some v → Value.okWide Tryd.prog W .any base t v)
    (hW : DataW.Whole enc Tryd.prog Tryd.f16.params.toList Rows.diaryKeepsSpec.vars false W args.toList ds gs before) (hL : laidMetH Tryd.prog Rows.diaryKeepsRow.laid W) :
    Calls Tryd.prog 16 args W fun e W' => ∃ v, e = .returned v ∧ Rows.diaryKeepsSpec.post enc Tryd.prog Tryd.f16 false true false false W args v W' := by
  have hG : Gl W [] := gl_of_laid (.tail _ (.head _)) (.tail _ (.tail _ (.head _))) (show laidMet Tryd.prog Rows.diaryKeepsRow.laid W from hL)
  have hW' := hW
  obtain ⟨p, q, hA0, hV, rfl, hfz, hnd⟩ := hW
  have hAll : DataW.TrodAll enc Tryd.prog W 0 (fun _ => true) true Tryd.f16.params.toList args.toList ds p := hA0
  rw [Tryd.params16] at hAll hval
  obtain ⟨rfl, rfl⟩ := trodVars_none hV
  obtain ⟨vl, vs0, dl, ds0, pl0, q0, hv0, rfl, rfl, hl, hAll⟩ := trodAll_cons hAll
  obtain ⟨vf, vs1, df, ds1, pf0, q1, hv1, rfl, rfl, hf, hAll⟩ := trodAll_cons hAll
  obtain ⟨vg, vs2, dg, ds2, pg0, q2, hv2, rfl, rfl, hg, hAll⟩ := trodAll_cons hAll
  obtain ⟨vk, vs3, dk, ds3, pk0, q3, hv3, rfl, rfl, hk, hAll⟩ := trodAll_cons hAll
  obtain ⟨rfl, rfl, rfl⟩ := trodAll_nil hAll
  obtain rfl : args = #[vl, vf, vg, vk] := by cases args; simp_all
  obtain ⟨pl, cl, zsl, rfl, hpl, hcl, hrl⟩ := open_i64s (hval 0 113 _ rfl rfl) hl
  obtain ⟨f, rfl, rfl, rfl, wff⟩ := open_int un_5 (hval 1 5 _ rfl rfl) hf
  obtain ⟨g, rfl, rfl, rfl, wfg⟩ := open_int un_5 (hval 2 5 _ rfl rfl) hg
  obtain ⟨k, rfl, rfl, rfl, wfk⟩ := open_int un_5 (hval 3 5 _ rfl rfl) hk
  clear hA0
  refine Calls.mono (R := fun e W' => e = .returned (.bool true) ∧ Sat W [] [] W') ?_ ?_
  · obtain ⟨F, rfl⟩ := u8_of wff
    obtain ⟨G, rfl⟩ := u8_of wfg
    obtain ⟨K, rfl⟩ := u8_of wfk
    exact f16_spec pl cl zsl F G K W hrl hG
  · rintro e W' ⟨rfl, hs⟩
    exact ⟨_, rfl, law_post hW' (by kernel_rfl) rfl ⟨rfl, rfl, rfl⟩ (by rw [Tryd.params16]; decide +kernel) hs.below⟩

noncomputable def diaryKeeps_world (os : Os) : World :=
  { World.holding Tryd.prog os ⟨#[], #[], []⟩ with heap := ((((World.holding Tryd.prog os ⟨#[], #[], []⟩).heap.modify 0 (layTab ((first224 ++ first256).map U32))).modify 1 (layTab (cubesL.map U32))).modify 2 (layTab (Go.Pinned.utf8FirstZ.map fun n : Nat => Value.int .u8 (n : Int)))).modify 3 (layTab (([128, 191, 160, 191, 128, 159, 144, 191, 128, 143] ++ List.replicate 22 0).map fun n : Nat => Value.int .u8 (n : Int))) }
theorem diaryKeeps_laid (os : Os) : laidMet Tryd.prog Rows.diaryKeepsRow.laid ((diaryKeeps_world os).forCall (fun _ _ => 0) ⟨#[], #[.slice none 0 0, .int .u8 0, .int .u8 0, .int .u8 0], []⟩).memory :=
  laidMet_of_run' 8 (by kernel_rfl) (by kernel_rfl)
theorem diaryKeeps_reads (os : Os) {H : Type} (enc : TypeId × Value → H) : ∃ places, DataW.whole enc Tryd.prog ((diaryKeeps_world os).forCall (fun _ _ => 0) ⟨#[], #[.slice none 0 0, .int .u8 0, .int .u8 0, .int .u8 0], []⟩).memory Tryd.f16.params.toList Rows.diaryKeepsSpec.vars false (#[.slice none 0 0, .int .u8 0, .int .u8 0, .int .u8 0] : Array Value).toList 8 = some ([.nil, .lit (.int .u8 0), .lit (.int .u8 0), .lit (.int .u8 0)], [], places) :=
  ⟨[], by kernel_rfl⟩

theorem diaryKeeps_lifted (os : Os) (started : os.Started) (H : Type) (enc : TypeId × Value → H) (F : Stop.Interp) :
    ReturnsInHanded {} Tryd.checked os 16 .any ((OpenSpec.ofChange Rows.diaryKeepsSpec).preRow enc Tryd.prog Tryd.f16 Rows.diaryKeepsRow.domain false Rows.diaryKeepsRow.laid) (((OpenSpec.ofChange Rows.diaryKeepsSpec).at F).post enc Tryd.prog Tryd.f16 false true false false) := by
  obtain ⟨places, hx⟩ := diaryKeeps_reads os enc
  refine returnsInHanded_of_row (C := Tryd.checked) (s := OpenSpec.ofChange Rows.diaryKeepsSpec) own started (by kernel_rfl) Tryd.func16
    (witness_row_at (enc := enc) (C := Tryd.checked) false (diaryKeeps_world os) #[.slice none 0 0, .int .u8 0, .int .u8 0, .int .u8 0] rfl (by kernel_rfl) (by kernel_rfl) (by kernel_rfl)
      (OpenSpec.preRow_of_cond 8 hx (by kernel_rfl) (fun k hk => by cases hk) (by kernel_rfl) (diaryKeeps_laid os))) ?_
  intro W base args ds gs before hval hW _ _ _ hL _ _
  exact diaryKeeps_contract H enc W base args ds gs before hval hW hL

theorem diaryKeeps_said : Rows.DiaryKeepsSaid :=
  OpenClaim.holds_of_cond 16 Tryd.f16 rfl rfl rfl rfl rfl rfl rfl ⟨rfl, rfl, rfl, rfl, rfl⟩ rfl rfl rfl rfl rfl (by kernel_rfl) Tryd.func16 (by kernel_rfl)
    (of_decide_eq_true (by kernel_rfl)) (by unfold Func.isWrapper; first | (rw [if_pos (by decide +kernel)]; kernel_rfl) | (rw [if_neg (by decide +kernel)]; exact ⟨rfl, rfl⟩))
    (fun os started H enc _ F => by rw [OpenClaim.pre_eq_preRow]; exact diaryKeeps_lifted os started H enc F)

theorem diaryKeeps_plain (f : FuncId) (fn : Func) (hf : Tryd.pinned.checked.prog.funcNamed "postmark/postmarklaw19.DiaryKeeps" = some f) (hfn : Tryd.pinned.checked.prog.funcs[f]? = some fn) :
    false = Tryd.pinned.checked.prog.looks [] ∧ ∀ (j : Nat) t, fn.params[j]? = some t → Tryd.pinned.checked.prog.wantsStandIn t = false := by
  obtain rfl : f = 16 := Option.some.inj ((show Tryd.prog.funcNamed "postmark/postmarklaw19.DiaryKeeps" = some 16 by kernel_rfl).symm.trans hf) |>.symm
  obtain rfl : fn = Tryd.f16 := (Option.some.inj (Tryd.func16.symm.trans hfn)).symm
  refine ⟨by kernel_rfl, fun j t ht => ?_⟩
  rw [Tryd.params16] at ht
  have h : ∀ u ∈ ([113, 5, 5, 5] : List Nat), Tryd.prog.wantsStandIn u = false := by decide +kernel
  exact h t (by have := Array.mem_of_getElem? ht; simpa using this)

/-- The card. -/
theorem diaryKeeps_card : Rows.DiaryKeepsCardSaid :=
  Claim7.holds_tied_plain_at .later [] _ _ _ _ diaryKeeps_said (fun _ h => by cases h) (by kernel_rfl) (fun _ h => by cases h) diaryKeeps_row_tie rfl ⟨rfl, rfl⟩ (by kernel_rfl) rfl diaryKeeps_plain (by kernel_rfl)
end Go.Proofs.YtokhediaibdkjaaDoor
