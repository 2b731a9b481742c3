/- The proof's texts, merged: C0 C1 R6 C2 CF ND NF NG NH NI L6 C6. -/
import Derived.Test.YtokhediaibdkjaaDoorMB
import Derived.Test.YtokhediaibdkjaaDoorCards
import Derived.Test.YtokhediaibdkjaaDoorTie
import Derived.WalkKit
import Derived.ProofKit
import Derived.OpenShut
import Derived.Deep.DeepHandedRow
import Derived.Lib.LaidTab
import Derived.Carry
import Derived.Test.YtokhediaibdkjaaDoorMD
import Derived.Test.YtokhediaibdkjaaDoorMH
/-! From C0 -/
/- What all the rows' proofs share: the tables from the row's list; an argument of bytes, opened; the post. -/
namespace Go.Proofs.YtokhediaibdkjaaDoor
set_option maxRecDepth 100000
open Go.Pm Go.ChangeShapes Go.WideShapes Go.ChangeAt Go.RowKit

theorem own : ownKnob Tryd.prog.godebug = none := by kernel_rfl
theorem laidOut : laidOutB Tryd.prog = true := by kernel_rfl
theorem gCubes : Tryd.prog.globalNamed "postmark/sha256.cubes" = some 1 := by kernel_rfl
theorem gFirst : Tryd.prog.globalNamed "postmark/sha256.first" = some 0 := by kernel_rfl
theorem gCubesT : (Tryd.prog.globals[1]?).map (·.type) = some 118 := by kernel_rfl
theorem gFirstT : (Tryd.prog.globals[0]?).map (·.type) = some 122 := by kernel_rfl
theorem un_118 : Tryd.prog.underlying 118 = some (.array 64 38) := by kernel_rfl
theorem un_122 : Tryd.prog.underlying 122 = some (.array 2 39) := by kernel_rfl
theorem un_38 : Tryd.prog.underlying 38 = some (.int .u32) := by kernel_rfl
theorem un39 : Tryd.prog.underlying 39 = some (.array 8 38) := by kernel_rfl
theorem un_4 : Tryd.prog.underlying 4 = some .bool := by kernel_rfl
theorem co_38 : Tryd.prog.cellsOf 38 = 1 := by kernel_rfl
theorem co_118 : Tryd.prog.cellsOf 118 = 64 := by kernel_rfl
theorem co_39 : Tryd.prog.cellsOf 39 = 8 := by kernel_rfl
theorem co_122 : Tryd.prog.cellsOf 122 = 16 := by kernel_rfl
theorem co5 : Tryd.prog.cellsOf 5 = 1 := by kernel_rfl

/-- A row in which a table is laid. -/
def layTab (cs : List Value) : Obj → Obj
  | .cells _ t fr => .cells cs.toArray t fr
  | o => o
theorem laidVars_mem {P : Program} {W : World} : ∀ {l : List (String × DataW Unit)} {ps : List MemPlace}, DataW.LaidVars P W l ps → ∀ {n : String} {d : DataW Unit}, (n, d) ∈ l →
    ∃ g t cs fuel p, P.globalNamed n = some g ∧ (P.globals[g]?).map (·.type) = some t ∧ W.var? P n = some cs ∧ DataW.trod (fun _ => ()) P W 0 (fun _ => true) false fuel t cs.toList = some (d, p)
  | [], _, _, _, _, hm => by cases hm
  | (n', d') :: r, ps, h, n, d, hm => by
    obtain ⟨g, t, cs, fuel, p, q, h1, h2, h3, h4, h5, _⟩ := h
    rcases List.mem_cons.1 hm with he | hm
    · cases he; exact ⟨g, t, cs, fuel, p, h1, h2, h3, h4⟩
    · exact laidVars_mem h5 hm

theorem rd_var {W : World} {n : String} {g : Nat} {cs : Array Value} (hg : Tryd.prog.globalNamed n = some g) (h : W.var? Tryd.prog n = some cs) : RdC W (some ⟨g, 0, none⟩) cs.toList := fun j u hj => by
  refine ⟨g, 0, rfl, ?_⟩
  have := World.var?_cell hg h j
  rw [Nat.zero_add, this]
  simpa using hj

/-- The tables, from the row's list. -/
theorem gl_of_laid {laid : List (String × DataW Unit)} (h1 : ("postmark/sha256.cubes", Rows.laid_postmark_sha256_cubes) ∈ laid) (h2 : ("postmark/sha256.first", Rows.laid_postmark_sha256_first) ∈ laid) {W : World} (h : laidMet Tryd.prog laid W) : Gl W [] := by
  obtain ⟨ps, hv, _⟩ := h
  obtain ⟨g, t, cs, fuel, p, hg, ht, hvar, hd⟩ := laidVars_mem hv h1
  obtain ⟨g', t', cs', fuel', p', hg', ht', hvar', hd'⟩ := laidVars_mem hv h2
  cases Option.some.inj (gCubes.symm.trans hg)
  cases Option.some.inj (gFirst.symm.trans hg')
  cases Option.some.inj (gCubesT.symm.trans ht)
  cases Option.some.inj (gFirstT.symm.trans ht')
  have e1 : cs.toList = cubesL.map U32 := by
    have := Lib.cells_of_tab (zs := cubesL.map fun x => (x.toNat : Int)) un_118 un_38 co_38 co_118 hd
    rw [this]; simp
  obtain ⟨xs, m, rfl, hx, hlen, hxl, hel⟩ := DataW.trod_array un_122 hd'
  rw [co_122] at hlen
  have hxs : xs.map (·.1) = [Lib.tabData .u32 (first224.map fun x => (x.toNat : Int)), Lib.tabData .u32 (first256.map fun x => (x.toNat : Int))] := by
    have := congrArg Prod.fst hx
    exact (DataW.agg.inj (show Rows.laid_postmark_sha256_first = DataW.agg (xs.map (·.1)) from this)).symm
  have hat : ∀ i (zs : List (BitVec 32)), i < 2 → (xs.map (·.1))[i]? = some (Lib.tabData .u32 (zs.map fun x => (x.toNat : Int))) → (cs'.toList.drop (i * 8)).take 8 = zs.map U32 := fun i zs hi hz => by
    have h3 := hel i hi
    rw [co_39] at h3
    rw [List.getElem?_map] at hz
    cases hxi : xs[i]? with
    | none => simp [hxi] at hz
    | some y =>
      rw [hxi] at h3 hz
      simp only [Option.map_some, Option.some.injEq] at hz
      obtain ⟨y1, y2⟩ := y
      subst hz
      have := Lib.cells_of_tab (zs := zs.map fun x => (x.toNat : Int)) un39 un_38 co_38 co_39 h3
      rw [this]; simp
  have e2 := hat 0 first224 (by decide) (by rw [hxs]; rfl)
  have e3 := hat 1 first256 (by decide) (by rw [hxs]; rfl)
  have e4 : cs'.toList = (first224 ++ first256).map U32 := by
    rw [List.map_append, ← e2, ← e3]
    simp only [Nat.zero_mul, List.drop_zero, Nat.one_mul]
    have : (cs'.toList.drop 8).take 8 = cs'.toList.drop 8 := List.take_of_length_le (by simp; simp at hlen; omega)
    rw [this, List.take_append_drop]
  refine ⟨RdC.s ?_, RdC.s ?_⟩
  · rw [← e4]; exact rd_var gFirst hvar'
  · rw [← e1]; exact rd_var gCubes hvar

theorem trodAll_below {H : Type} {enc : TypeId × Value → H} {W W' : World} (hb : Below W.heap.size W W') : ∀ {ts : List TypeId} {vs : List Value} {ds : List (DataW H)} {ps : List MemPlace}, (∀ t ∈ ts, Tryd.prog.readableRec t = true ∧ t < Tryd.prog.types.size) →
    DataW.TrodAll enc Tryd.prog W 0 (fun _ => true) true ts vs ds ps → (∀ x ∈ ps, x.block < W.heap.size) → DataW.TrodAll enc Tryd.prog W' 0 (fun b => decide (b < W.heap.size)) true ts vs ds ps
  | [], _, _, _, _, h, _ => by
    obtain ⟨rfl, rfl, rfl⟩ := trodAll_nil h
    exact trodAll_mk0
  | t :: ts, _, _, _, ht, h, hlt => by
    obtain ⟨v, vs, d, ds, p, q, rfl, rfl, rfl, h1, h2⟩ := trodAll_cons h
    exact trodAll_cons_mk (Below.trod laidOut (ht t (by simp)).1 (ht t (by simp)).2 h1 hb (fun x hx => hlt x (by simp [hx]))) (trodAll_below hb (fun u hu => ht u (by simp [hu])) h2 (fun x hx => hlt x (by simp [hx])))

/-- The post of a law: it answers true, and the input reads as it did. -/
theorem law_post {H : Type} {enc : TypeId × Value → H} {f : Func} {s : ChangeSpec} {W W' : World} {args : Array Value} {ds gs : List (DataW H)} {before : List MemPlace} (hW : DataW.Whole enc Tryd.prog f.params.toList s.vars false W args.toList ds gs before)
    (hrt : f.resultTypes = #[4]) (hv : s.vars = []) (hfn : (s.fn H (ds ++ gs)).results = [.lit (.bool true)] ∧ (s.fn H (ds ++ gs)).args = ds ∧ (s.fn H (ds ++ gs)).vars = []) (hread : ∀ t ∈ f.params.toList, Tryd.prog.readableRec t = true ∧ t < Tryd.prog.types.size)
    (hb : Below W.heap.size W W') : s.post enc Tryd.prog f false true false false W args (.bool true) W' := by
  have hW' := hW
  obtain ⟨p, q, hA, hV, rfl, _, _⟩ := hW
  rw [hv] at hV
  obtain ⟨rfl, rfl⟩ := trodVars_none hV
  obtain ⟨f1, f2, f3⟩ := hfn
  refine ⟨ds, [], p ++ [], [], p, [], hW', ?_, ?_, ?_, Below.frame hb _, fun h => by cases h⟩
  · rw [f1, hrt]; exact trodAll_cons_mk (shut_bool un_4 _) trodAll_mk0
  · rw [f2]; exact trodAll_below hb hread hA (fun x hx => hW'.lt x (by simp [hx]))
  · rw [f3, hv]; rfl
end Go.Proofs.YtokhediaibdkjaaDoor

/-! From C1 -/
/- Numbers of eight bytes among a row's arguments. -/
namespace Go.Proofs.YtokhediaibdkjaaDoor
set_option maxRecDepth 100000
open Go.Pm Go.ChangeShapes Go.WideShapes Go.ChangeAt Go.RowKit
theorem exists_list {α : Type} {P : Nat → α → Prop} : ∀ n, (∀ i, i < n → ∃ a, P i a) → ∃ l : List α, l.length = n ∧ ∀ i a, l[i]? = some a → P i a
  | 0, _ => ⟨[], rfl, fun i a h => by simp at h⟩
  | n + 1, h => by
    obtain ⟨l, hl, hp⟩ := exists_list n (fun i hi => h i (by omega))
    obtain ⟨a, ha⟩ := h n (by omega)
    refine ⟨l ++ [a], by simp [hl], fun i b hb => ?_⟩
    rcases Nat.lt_or_ge i n with hi | hi
    · rw [List.getElem?_append_left (by omega)] at hb; exact hp i b hb
    · rw [List.getElem?_append_right (by omega)] at hb
      have : i - l.length = 0 := by
        rcases Nat.eq_zero_or_pos (i - l.length) with h0 | h0
        · exact h0
        · rw [List.getElem?_eq_none (by simp; omega)] at hb; cases hb
      rw [this] at hb
      simp at hb
      subst hb
      rw [show i = n by omega]; exact ha
/-- Bytes, from what a row says of their cell. -/
theorem bytes_of_trod {H : Type} {enc : TypeId × Value → H} {W : World} {fuel : Nat} {cs : List Value} {x : DataW H × List MemPlace} (hf : DataW.trod enc Tryd.prog W 0 (fun _ => true) true fuel 23 cs = some x) : ∃ s : Sl, cs = [s.v] ∧ s.ok W ∧ s.c ≤ maxLen := by
  rcases open_ints un_23 un_5 co5 hf with ⟨hcs, hx⟩ | ⟨a', len, cap, zs, hcs, _, hl, hm, hz, hx, hcell, hwz⟩
  · exact ⟨⟨none, 0, 0, []⟩, hcs, ⟨rfl, fun _ => rfl, Nat.le_refl _, RdC.nil⟩, Nat.zero_le _⟩
  · simp only [if_true] at hz
    refine ⟨⟨some a', len, cap, (zs.take len).map fun z => UInt8.ofNat z.toNat⟩, hcs, ⟨by simp; omega, by simp, hl, ?_⟩, hm⟩
    intro j u hj
    simp only [List.map_map, List.getElem?_map, Option.map_eq_some_iff] at hj
    obtain ⟨z, hzj, rfl⟩ := hj
    rw [List.getElem?_take] at hzj
    split at hzj
    · rename_i hjl
      have hjz : j < zs.length := by omega
      have hc := hcell j hjz
      have hzv : zs.getD j 0 = z := by simp [hzj]
      rw [hzv] at hc
      have hw := hwz z (List.mem_of_getElem? hzj)
      have hb : 0 ≤ z ∧ z < 256 := by
        simp [Lit.wf, IntKind.min, IntKind.max, IntKind.signed, IntKind.bits] at hw
        omega
      obtain ⟨b, o, sp⟩ := a'
      have hspot : sp = none := by
        have h0 := World.cell?_spot (hcell 0 (by omega))
        simpa [Addr.add] using h0
      subst hspot
      refine ⟨b, o, rfl, ?_⟩
      rw [add_at] at hc
      rw [hc]
      have : ((UInt8.ofNat z.toNat).toNat : Int) = z := by
        rw [UInt8.toNat_ofNat']
        omega
      exact congrArg (fun t : Int => some (Value.int .u8 t)) this.symm
    · cases hzj
theorem co_23 : Tryd.prog.cellsOf 23 = 1 := by kernel_rfl
theorem un_2 : Tryd.prog.underlying 2 = some (.int .i64) := by kernel_rfl
theorem i64_of {z : Int} (h : Lit.wf (.int .i64 z) = true) : -9223372036854775808 ≤ z ∧ z < 9223372036854775808 := by
  simp [Lit.wf, IntKind.min, IntKind.max, IntKind.signed, IntKind.bits] at h
  omega
theorem co_2 : Tryd.prog.cellsOf 2 = 1 := by kernel_rfl
end Go.Proofs.YtokhediaibdkjaaDoor

/-! From R6 -/
/- The operations of law 19; the walk of its great. (printed by gen1.py) -/
namespace Go.Proofs.YtokhediaibdkjaaDoor
open Go.Pm Go.RowKit
set_option maxRecDepth 100000
theorem flat_at {α : Type} {l : List (List α)} {n i j : Nat} {x : List α} (h : ∀ y ∈ l, y.length = n) (hi : l[i]? = some x) (hj : j < n) : l.flatten[i * n + j]? = x[j]? := by
  have h1 := flat_get h hi
  have h2 := congrArg (fun z : List α => z[j]?) h1
  simp only [List.getElem?_take_of_lt hj, List.getElem?_drop] at h2
  exact h2
theorem Cell.rdO {cx : Cx} {Rs : List Res} {b o j m : Nat} {vs : List Value} {u : Value} (h : RdA cx Rs (some ⟨b, o, none⟩) vs) (hj : vs[j]? = some u) (hm : o + j = m) : Cell cx Rs ⟨b, m, none⟩ u := fun w hw => by
  subst hm
  exact (h w hw).cell hj
theorem RdC.head {w : World} {p : Option Addr} {vs : List Value} (h : RdC w p vs) (hn : vs ≠ []) : ∃ b o, p = some ⟨b, o, none⟩ := by
  cases vs with
  | nil => exact absurd rfl hn
  | cons v vs =>
    obtain ⟨b, o, e, _⟩ := h 0 v rfl
    exact ⟨b, o, e⟩
/-- An operation of law 19. -/
structure O19 where
  kind : Int
  time : Int
  first : Int
  n : Int
  s : Sl
def O19.cells (o : O19) : List Value := [I64 o.kind, I64 o.time, I64 o.first, I64 o.n, o.s.v]
def O19.ok (o : O19) (w : World) : Prop := o.s.ok w ∧ o.n < 9223372036854775808
def opC (os : List O19) : List Value := (os.map O19.cells).flatten
theorem op_get {os : List O19} {i j : Nat} {o : O19} (h : os[i]? = some o) (hj : j < 5) : (opC os)[i * 5 + j]? = o.cells[j]? :=
  flat_at (n := 5) (by intro y hy; obtain ⟨z, _, rfl⟩ := List.mem_map.1 hy; rfl) (by rw [List.getElem?_map, h]; rfl) hj
theorem op_ne {os : List O19} {i : Nat} {o : O19} (h : os[i]? = some o) : opC os ≠ [] := fun e => by
  have := op_get h (j := 0) (by decide)
  rw [e] at this
  cases this
/-- Are they more than the statements go through? -/
def great19 (os : List O19) : Bool := decide (80 < os.length) || os.any fun o => decide (100 < o.s.n)
theorem great_no {os : List O19} (h : great19 os = false) : os.length ≤ 80 ∧ ∀ o ∈ os, o.s.n ≤ 100 := by
  unfold great19 at h
  rw [Bool.or_eq_false_iff] at h
  refine ⟨by have := h.1; simp at this; exact this, fun o ho => ?_⟩
  have := List.any_eq_false.1 h.2 o ho
  simpa using this


theorem f27_spec (q : Option Addr) (c : Nat) (os : List O19) (hl : os.length ≤ 9223372036854775807) (w : World) (hrq : RdC w q (opC os)) : Calls Tryd.prog 27 [.slice q os.length c].toArray w (fun en w2 => en = .returned (.bool (great19 os)) ∧ Sat w [] [] w2) := by
  refine used hl (used hrq (?_))
  refine enter (n := 20) Tryd.func27 rfl rfl rfl (Sat.refl w) ?_
  refine seq ?_
  refine region ?_
  refine st (g_assign rfl) rfl ?_
  refine done ?_
  refine th_n ?_
  refine seq ?_
  refine seq ?_
  refine region ?_
  refine st (g_move rfl) rfl ?_
  refine st (g_len el_46 rfl) rfl ?_
  refine st (g_bin rfl rfl rfl) rfl ?_
  refine done ?_
  refine th_n ?_
  refine condS rfl (fun h6 => ?_) (fun h6 => ?_)
  · try simp only [decide_eq_true_eq] at h6
    have hg : great19 os = true := by unfold great19; rw [decide_eq_true (by omega)]; rfl
    refine seq ?_
    refine region ?_
    refine st (g_assign rfl) rfl ?_
    refine done ?_
    refine th_n ?_
    refine ret ?_
    refine th_r ?_
    exact ret1 rfl rfl rfl (fun w2 hw2 => ⟨by rw [hg], hw2.clear⟩)
  · try simp only [decide_eq_false_iff_not] at h6
    refine skip ?_
    refine th_n ?_
    refine seq ?_
    refine seq ?_
    refine region ?_
    refine st (g_move rfl) rfl ?_
    refine st (g_len el_46 rfl) rfl ?_
    refine st (g_move rfl) rfl ?_
    refine done ?_
    refine th_n ?_
    refine block ?_
    refine loop (α := Nat) (fun i => i ≤ os.length ∧ ∀ j o, j < i → os[j]? = some o → o.s.n ≤ 100) (fun i => [(0, .slice q os.length c), (8, I64 (os.length : Nat)), (9, I64 (i : Nat))]) (fun i => []) (fun i => os.length - i) 0 ⟨Nat.zero_le _, fun j o h => absurd h (Nat.not_lt_zero j)⟩ ⟨rfl, rfl, rfl, trivial⟩ .nil (fun i hI => ?_)
    refine seq ?_
    refine region ?_
    refine st (g_bin rfl rfl rfl) rfl ?_
    refine done ?_
    refine th_n ?_
    refine seq ?_
    refine condS rfl (fun h10 => ?_) (fun h10 => ?_)
    · try simp only [decide_eq_true_eq] at h10
      have hi : i < os.length := by omega
      obtain ⟨o, ho⟩ : ∃ o, os[i]? = some o := ⟨os[i], by simp [hi]⟩
      obtain ⟨qb, qo, rfl⟩ := RdC.head hrq (op_ne ho)
      refine skip ?_
      refine th_n ?_
      refine seq ?_
      refine block ?_
      refine seq ?_
      refine region ?_
      refine st (g_move rfl) rfl ?_
      refine st (g_assign rfl) rfl ?_
      refine done ?_
      refine th_n ?_
      refine seq ?_
      refine region ?_
      refine st (g_move rfl) rfl ?_
      refine st (g_move rfl) rfl ?_
      refine st (g_indexS (m := qo + i * 5) el_46 rfl rfl (by omega) (by omega) (by omega)) rfl ?_
      refine st (g_fieldAddr fo_59_4 rfl rfl) rfl ?_
      refine st (g_load (v := o.s.v) sc_23 rfl (Cell.rdO (RdA.of hrq.s) (op_get ho (j := 4) (by decide)) (by omega))) rfl ?_
      refine st (g_len el_23 rfl) rfl ?_
      refine st (g_bin rfl rfl rfl) rfl ?_
      refine done ?_
      refine th_n ?_
      refine condS rfl (fun h18 => ?_) (fun h18 => ?_)
      · try simp only [decide_eq_true_eq] at h18
        have hg : great19 os = true := by
          unfold great19
          rw [Bool.or_eq_true]
          exact .inr (List.any_eq_true.2 ⟨o, List.mem_of_getElem? ho, decide_eq_true (by omega)⟩)
        refine seq ?_
        refine region ?_
        refine st (g_assign rfl) rfl ?_
        refine done ?_
        refine th_n ?_
        refine ret ?_
        refine ib_r ?_
        refine th_r ?_
        refine th_r ?_
        refine ib_r ?_
        refine th_r ?_
        exact ret1 rfl rfl rfl (fun w2 hw2 => ⟨by rw [hg], hw2.clear⟩)
      · try simp only [decide_eq_false_iff_not] at h18
        have hnext : ∀ j o, j < i + 1 → os[j]? = some o → o.s.n ≤ 100 := fun j o1 hj h1 => by
          rcases Nat.lt_or_ge j i with h2 | h2
          · exact hI.2 j o1 h2 h1
          · rw [show j = i by omega, ho] at h1
            cases h1
            omega
        refine skip ?_
        refine ib_n ?_
        refine th_n ?_
        refine region ?_
        refine st (g_iadd (c := ((i + 1 : Nat) : Int)) rfl rfl (by omega) (by omega) (by omega)) rfl ?_
        refine st (g_move rfl) rfl ?_
        refine done ?_
        refine th_n ?_
        exact again (i + 1) ⟨by omega, hnext⟩ (by omega) ⟨rfl, rfl, rfl, trivial⟩ .nil
    · try simp only [decide_eq_false_iff_not] at h10
      have hie : i = os.length := by omega
      have hg : great19 os = false := by
        unfold great19
        rw [Bool.or_eq_false_iff]
        refine ⟨decide_eq_false (by omega), List.any_eq_false.2 fun o ho => ?_⟩
        obtain ⟨j, hj⟩ := List.getElem?_of_mem ho
        have hjl := (List.getElem?_eq_some_iff.1 hj).1
        have := hI.2 j o (by omega) hj
        simpa using this
      refine exitc ?_
      refine th_x ?_
      refine th_x ?_
      refine ib_x ?_
      refine th_n ?_
      refine seq ?_
      refine region ?_
      refine st (g_assign rfl) rfl ?_
      refine done ?_
      refine th_n ?_
      refine ret ?_
      exact ret1 rfl rfl rfl (fun w2 hw2 => ⟨by rw [hg], hw2.clear⟩)

theorem f27_as (q : Option Addr) (c : Nat) (os : List O19) (hl : os.length ≤ 9223372036854775807) {g : Bool} (hg : great19 os = g) (w : World) (hrq : RdC w q (opC os)) : Calls Tryd.prog 27 [.slice q os.length c].toArray w (fun en w2 => en = .returned (.bool g) ∧ Sat w [] [] w2) := by
  subst hg
  exact f27_spec q c os hl w hrq
end Go.Proofs.YtokhediaibdkjaaDoor

/-! From C2 -/
/- Structs among a row's arguments; the operations of law 19. -/
namespace Go.Proofs.YtokhediaibdkjaaDoor
set_option maxRecDepth 100000
open Go.Pm Go.ChangeShapes Go.WideShapes Go.ChangeAt Go.RowKit
/-- A struct's fields: their types and where they lie. -/
def fieldsOf (P : Program) (t : TypeId) : Option (List (Nat × Nat)) :=
  match P.underlying t with
  | some (.struct fs) => some (fs.toList.map fun f => (f.type, f.offset))
  | _ => none
theorem fieldsOf_spec {P : Program} {t : TypeId} {l : List (Nat × Nat)} (h : fieldsOf P t = some l) : ∃ fs, P.underlying t = some (.struct fs) ∧ fs.toList.map (fun f => (f.type, f.offset)) = l := by
  unfold fieldsOf at h
  split at h
  · rename_i fs hfs; exact ⟨fs, hfs, Option.some.inj h⟩
  · cases h
/-- A struct's cells, field by field. -/
theorem open_fields {H : Type} {enc : TypeId × Value → H} {P : Program} {W : World} {base : Nat} {sp : Nat → Bool} {hd : Bool} {fuel : Nat} {t : TypeId} {l : List (Nat × Nat)} {cs : List Value} {x : DataW H × List MemPlace} (hf : fieldsOf P t = some l) (h : DataW.trod enc P W base sp hd fuel t cs = some x) :
    cs.length = P.cellsOf t ∧ ∀ (j u o : Nat), l[j]? = some (u, o) → ∃ n y, DataW.trod enc P W base sp hd n u ((cs.drop o).take (P.cellsOf u)) = some y := by
  obtain ⟨fs, hu, hl⟩ := fieldsOf_spec hf
  obtain ⟨xs, n, _, _, h1, h2, h3⟩ := DataW.trod_struct hu h
  refine ⟨h1, fun j u o hj => ?_⟩
  rw [← hl, List.getElem?_map] at hj
  cases hfj : fs.toList[j]? with
  | none => rw [hfj] at hj; cases hj
  | some f =>
    rw [hfj] at hj
    simp only [Option.map_some, Option.some.injEq, Prod.mk.injEq] at hj
    obtain ⟨rfl, rfl⟩ := hj
    have hfa : fs[j]? = some f := by rw [← Array.getElem?_toList]; exact hfj
    have h4 := h3 j f hfa
    have hjl : j < xs.length := by
      have := (Array.getElem?_eq_some_iff.1 hfa).1
      omega
    rw [List.getElem?_eq_getElem hjl] at h4
    exact ⟨n, _, h4⟩
theorem fs_59 : fieldsOf Tryd.prog 59 = some [(3, 0), (2, 1), (2, 2), (3, 3), (23, 4)] := by kernel_rfl
theorem un_46 : Tryd.prog.underlying 46 = some (.slice 59) := by kernel_rfl
theorem co_59 : Tryd.prog.cellsOf 59 = 5 := by kernel_rfl
theorem co_3 : Tryd.prog.cellsOf 3 = 1 := by kernel_rfl
theorem flat_in {α : Type} {l : List (List α)} {n j : Nat} {u : α} (h : ∀ y ∈ l, y.length = n) (hn : 0 < n) (hj : l.flatten[j]? = some u) : ∃ x, l[j / n]? = some x ∧ x[j % n]? = some u := by
  have hl := flat_length h
  have hjl : j < l.length * n := by rw [← hl]; exact (List.getElem?_eq_some_iff.1 hj).1
  have hi : j / n < l.length := (Nat.div_lt_iff_lt_mul hn).2 hjl
  refine ⟨l[j / n], List.getElem?_eq_getElem hi, ?_⟩
  rw [← flat_at h (List.getElem?_eq_getElem hi) (Nat.mod_lt j hn), Nat.mul_comm, Nat.div_add_mod, hj]
end Go.Proofs.YtokhediaibdkjaaDoor

/-! From CF -/
/- The operations of law 19 among a row's arguments, with what bounds their first serials. -/
namespace Go.Proofs.YtokhediaibdkjaaDoor
set_option maxRecDepth 100000
open Go.Pm Go.ChangeShapes Go.WideShapes Go.ChangeAt Go.RowKit
theorem op_of_trodF {H : Type} {enc : TypeId × Value → H} {W : World} {fuel : Nat} {cs : List Value} {x : DataW H × List MemPlace} (h : DataW.trod enc Tryd.prog W 0 (fun _ => true) true fuel 59 cs = some x) : ∃ o : O19, cs = o.cells ∧ o.ok W ∧ o.first ≤ 9223372036854775807 := by
  obtain ⟨hl, hf⟩ := open_fields fs_59 h
  rw [co_59] at hl
  match cs, hl with
  | [c0, c1, c2, c3, c4], _ =>
    obtain ⟨_, _, h0⟩ := hf 0 3 0 rfl
    obtain ⟨_, _, h1⟩ := hf 1 2 1 rfl
    obtain ⟨_, _, h2⟩ := hf 2 2 2 rfl
    obtain ⟨_, _, h3⟩ := hf 3 3 3 rfl
    obtain ⟨_, _, h4⟩ := hf 4 23 4 rfl
    rw [co_3] at h0 h3
    rw [co_2] at h1 h2
    rw [co_23] at h4
    obtain ⟨k, e0, _, _⟩ := DataW.trod_int un_3 h0
    obtain ⟨t, e1, _, _⟩ := DataW.trod_int un_2 h1
    obtain ⟨f, e2, _, w2⟩ := DataW.trod_int un_2 h2
    obtain ⟨n, e3, _, w3⟩ := DataW.trod_int un_3 h3
    obtain ⟨s, e4, hs, _⟩ := bytes_of_trod h4
    have a0 : [c0] = [Value.int .i64 k] := e0
    have a1 : [c1] = [Value.int .i64 t] := e1
    have a2 : [c2] = [Value.int .i64 f] := e2
    have a3 : [c3] = [Value.int .i64 n] := e3
    have a4 : [c4] = [s.v] := e4
    simp only [List.cons.injEq, and_true] at a0 a1 a2 a3 a4
    subst a0 a1 a2 a3 a4
    exact ⟨⟨k, t, f, n, s⟩, rfl, ⟨hs, (i64_of w3).2⟩, by have := (i64_of w2).2; show f ≤ _; omega⟩
/-- An argument: the operations of law 19. -/
theorem open_opsF {H : Type} {enc : TypeId × Value → H} {W : World} {base : Nat} {v : Value} {d : DataW H} {p : List MemPlace} (hval : Value.okWide Tryd.prog W .any base 46 v) (h : DataW.Trod enc Tryd.prog W 0 (fun _ => true) true 46 v d p) :
    ∃ (q : Option Addr) (c : Nat) (os : List O19), v = .slice q os.length c ∧ os.length ≤ 9223372036854775807 ∧ RdC W q (opC os) ∧ ∀ o ∈ os, o.ok W ∧ o.first ≤ 9223372036854775807 := by
  obtain ⟨a, n, c, rfl⟩ := okWide_slice un_46 hval
  obtain ⟨fuel, hf⟩ := h
  rcases DataW.trod_slice un_46 hf with ⟨hcs, _⟩ | ⟨a', len, cap, elems, rest, m, _, hcs, _, _, hl, hm, hlen, hel, _, _⟩
  · simp [Value.cells] at hcs
    obtain ⟨rfl, rfl, rfl⟩ := hcs
    exact ⟨none, 0, [], rfl, Nat.zero_le _, RdC.nil, by simp⟩
  · simp [Value.cells] at hcs
    obtain ⟨rfl, rfl, rfl⟩ := hcs
    have each : ∀ i, i < n → ∃ o : O19, (o.ok W ∧ o.first ≤ 9223372036854775807) ∧ ∀ r, r < 5 → W.cell? ((a'.add (i * 5)).add r) = o.cells[r]? := fun i hi => by
      have he := hel i hi
      rw [co_59, List.getElem?_eq_getElem (by omega)] at he
      obtain ⟨cs', hcs', hy⟩ := Option.bind_eq_some_iff.1 he
      obtain ⟨o, rfl, hok⟩ := op_of_trodF hy
      exact ⟨o, hok, (World.cells?_some hcs').2.2⟩
    obtain ⟨os, hsl, hss⟩ := exists_list n each
    refine ⟨some a', c, os, by rw [hsl], by simp only [maxLen] at hm; omega, ?_, fun o ho => ?_⟩
    · intro j u hj
      obtain ⟨x, hx, hxr⟩ := flat_in (n := 5) (by intro y hy; obtain ⟨z, _, rfl⟩ := List.mem_map.1 hy; rfl) (by decide) hj
      rw [List.getElem?_map] at hx
      obtain ⟨o, ho, rfl⟩ := Option.map_eq_some_iff.1 hx
      have hc := (hss (j / 5) o ho).2 (j % 5) (Nat.mod_lt _ (by decide))
      rw [hxr] at hc
      obtain ⟨b, of, spt⟩ := a'
      have hspot : spt = none := by
        have hn0 : 0 < n := by have := (List.getElem?_eq_some_iff.1 ho).1; omega
        obtain ⟨o0, _, h0⟩ := each 0 hn0
        have h1 := World.cell?_spot (v := I64 o0.kind) (h0 0 (by decide))
        simpa [Addr.add] using h1
      subst hspot
      refine ⟨b, of, rfl, ?_⟩
      rw [add_at, add_at] at hc
      rw [← hc]
      congr 2
      omega
    · obtain ⟨i, hi⟩ := List.getElem?_of_mem ho
      exact (hss i o hi).1
end Go.Proofs.YtokhediaibdkjaaDoor

/-! From ND -/
/- Law18's operations: great, sector. (printed by gen1.py) -/
namespace Go.Proofs.YtokhediaibdkjaaDoor
open Go.Pm Go.RowKit
set_option maxRecDepth 100000
/-- An operation of law 18. -/
structure O18 where
  kind : Int
  sector : Int
  n : Int
  s : Sl
def O18.cells (o : O18) : List Value := [I64 o.kind, I64 o.sector, I64 o.n, o.s.v]
def O18.ok (o : O18) (w : World) : Prop := o.s.ok w ∧ o.n < 9223372036854775808
abbrev twoR (b : Nat) (k : Dk) (r : Rp) (c : Nat) (s : Rr) : List Res := [dkB b k r, dkS k r, dkW k r, dkC k r, rkB c k s, rkS s, rkW s, rkC k s, poolR s.ps]


section
variable (b : Nat) (k : Dk) (r : Rr)
theorem f38_as (p : Option Addr) (n c : Nat) (l : List UInt8) (hl : l.length = n) (hpn : p = none → c = 0) (hnc : n ≤ c) {L : Ld} {k' : Dk} (e : k.save l = (L, k')) (w : World) (hA : Sat w (fps (rkR b k r)) (rkR b k r) w) (hr : RdS w (fps (rkR b k r)) p (l.map B8)) (hk : k.ok) (hro : r.ok k) :
    Calls Tryd.prog 38 [.pointer (some ⟨b, 0, none⟩), .slice p n c].toArray w (fun en w2 => ∃ x : (Option Addr × Nat) × Rr, (ldOk L x.1 ∧ x.2.ok k') ∧ en = .returned (.tuple #[.agg (ldv L x.1).toArray, I64 L.w]) ∧ Sat w (fps (rkR b k r)) (ldR L x.1 :: rkR b k' x.2) w2) := by
  have h := f38_spec b k hk r hro p n c l hl hpn hnc w hA hr
  rw [e] at h
  exact h
end
theorem ld_vec {w : World} {L : Ld} {y : Option Addr × Nat} (h : (ldR L y).P w) : w.ownsRow 0 5 1 (slv L.d.length y) L.d.length (L.d.map B8) := h


end Go.Proofs.YtokhediaibdkjaaDoor

/-! From NF -/
/- Ref19's Open. (printed by gen1.py) -/
namespace Go.Proofs.YtokhediaibdkjaaDoor
open Go.Pm Go.RowKit
set_option maxRecDepth 100000
/-- The reference's diary. -/
abbrev ryC (b : Nat) (s t : Int) : List Value := [.pointer (some ⟨b, 0, none⟩), I64 s, I64 t]
abbrev ryB (x b : Nat) (s t : Int) : Res := blk x 81 (ryC b s t)
theorem bu_81a (v : Value) (h : v.oneCell' = true) (n : Int) : Tryd.prog.built 81 [(0, v), (1, I64 n)] = some [v, I64 n, I64 0].toArray := by
  have h1 : Tryd.prog.built 81 [(0, v), (1, I64 n)] = Instr.fill (fun i => ([(0, 1), (1, 1), (2, 1)] : List (Nat × Nat)).toArray[i]?) #[.pointer none, .int .i64 0, .int .i64 0] [(0, v), (1, I64 n)] := by kernel_rfl
  rw [h1, fill_cons1 (off := 0) rfl h (by simp), fill_cons1 (off := 1) rfl rfl (by simp)]; rfl
theorem bu_81b (v : Value) (h : v.oneCell' = true) (n m : Int) : Tryd.prog.built 81 [(0, v), (1, I64 n), (2, I64 m)] = some [v, I64 n, I64 m].toArray := by
  have h1 : Tryd.prog.built 81 [(0, v), (1, I64 n), (2, I64 m)] = Instr.fill (fun i => ([(0, 1), (1, 1), (2, 1)] : List (Nat × Nat)).toArray[i]?) #[.pointer none, .int .i64 0, .int .i64 0] [(0, v), (1, I64 n), (2, I64 m)] := by kernel_rfl
  rw [h1, fill_cons1 (off := 0) rfl h (by simp), fill_cons1 (off := 1) rfl rfl (by simp), fill_cons1 (off := 2) rfl rfl (by simp)]; rfl
theorem readW_yes {d : List UInt8} {s t : Int} (h : readW d = (s, t, true)) : (rdN d 0).toNat ≤ 9223372036854775807 ∧ (rdN d 1).toNat ≤ 253402300799999 ∧ (rdN d 2).toNat ≤ 0 ∧ s = ((rdN d 0).toNat : Int) ∧ t = ((rdN d 1).toNat : Int) := by
  unfold readW at h
  split at h
  · rename_i hc
    simp only [Prod.mk.injEq, and_true] at h
    obtain ⟨h0, h1, h2⟩ := hc
    exact ⟨of_decide_eq_true h0, of_decide_eq_true h1, of_decide_eq_true h2, h.1.symm, h.2.symm⟩
  · simp at h
theorem readW_no {d : List UInt8} {s t : Int} (h : readW d = (s, t, false)) : ¬ ((rdN d 0).toNat ≤ 9223372036854775807 ∧ (rdN d 1).toNat ≤ 253402300799999 ∧ (rdN d 2).toNat ≤ 0) := by
  intro ⟨h0, h1, h2⟩
  unfold readW at h
  rw [if_pos ⟨decide_eq_true h0, decide_eq_true h1, decide_eq_true h2⟩] at h
  simp at h


theorem f71_neg (b : Nat) (k : Dk) (hk : k.ok) (r : Rr) (hro : r.ok k) (first : Int) (h0 : first < 0) (w : World) (hA : Sat w (fps (rkR b k r)) (rkR b k r) w) : Calls Tryd.prog 71 [.pointer (some ⟨b, 0, none⟩), I64 first].toArray w (fun en w2 => ∃ _x : Unit, True ∧ en = .returned (.tuple #[.pointer none, I64 191]) ∧ Sat w (fps (rkR b k r)) (rkR b k r) w2) := by
  refine used hk (used hro (used h0 (used hA (?_))))
  refine enter (n := 71) Tryd.func71 rfl rfl rfl hA ?_
  refine seq ?_
  refine region ?_
  refine st (g_assign rfl) rfl ?_
  refine st (g_assign rfl) rfl ?_
  refine done ?_
  refine th_n ?_
  refine seq ?_
  refine seq ?_
  refine region ?_
  refine st (g_move rfl) rfl ?_
  refine st (g_T rfl rfl rfl (by omega)) rfl ?_
  refine done ?_
  refine th_n ?_
  refine condT rfl ?_
  refine seq ?_
  refine region ?_
  refine st (g_assign rfl) rfl ?_
  refine st (g_assign rfl) rfl ?_
  refine done ?_
  refine th_n ?_
  refine ret ?_
  refine th_r ?_
  exact ret2 rfl rfl rfl rfl (fun w2 hw2 => ⟨(), trivial, rfl, Sat.left (hw2.split (.cons .here (.cons .here (.cons .here (.cons .here (.cons .here .nil))))))⟩)

theorem f71_err (b : Nat) (k : Dk) (hk : k.ok) (r : Rr) (hro : r.ok k) (first : Int) (h0 : ¬ first < 0) (hw0 : k.load.w ≠ 0) (w : World) (hA : Sat w (fps (rkR b k r)) (rkR b k r) w) : Calls Tryd.prog 71 [.pointer (some ⟨b, 0, none⟩), I64 first].toArray w (fun en w2 => ∃ _x : Unit, True ∧ en = .returned (.tuple #[.pointer none, I64 k.load.w]) ∧ Sat w (fps (rkR b k r)) (rkR b k r) w2) := by
  refine used hk (used hro (used h0 (used hw0 (used hA (?_)))))
  refine enter (n := 71) Tryd.func71 rfl rfl rfl hA ?_
  refine seq ?_
  refine region ?_
  refine st (g_assign rfl) rfl ?_
  refine st (g_assign rfl) rfl ?_
  refine done ?_
  refine th_n ?_
  refine seq ?_
  refine seq ?_
  refine region ?_
  refine st (g_move rfl) rfl ?_
  refine st (g_F rfl rfl rfl (by omega)) rfl ?_
  refine done ?_
  refine th_n ?_
  refine condF rfl ?_
  refine skip ?_
  refine th_n ?_
  refine seq ?_
  refine region ?_
  refine st (g_move rfl) rfl ?_
  refine sq rfl (o_call Tryd.func58 rfl rfl rfl (.cons .here (.cons .here (.cons .here (.cons .here (.cons .here .nil))))) (fun w hw hA => f58_spec b k hk r hro w hA) rfl (fun y hy => ?_))
  refine st (g_move rfl) rfl ?_
  refine st (g_extract rfl rfl) rfl ?_
  refine st (g_extract rfl rfl) rfl ?_
  refine st (g_extract rfl rfl) rfl ?_
  refine sq rfl (o_alloc (zs := [U64 0#64, .slice none 0 0]) zr_73 rfl (fun b6 => ?_))
  refine sq rfl (o_storeA (cs' := ldv k.load y) sz_73 rfl rfl rfl (by simp [ldv]; exact ⟨rfl, rfl⟩) .here (Nat.le_of_ble_eq_true rfl) rfl ?_)
  refine st (g_assign rfl) rfl ?_
  refine st (g_assign rfl) rfl ?_
  refine done ?_
  refine th_n ?_
  refine seq ?_
  refine seq ?_
  refine region ?_
  refine st (g_move rfl) rfl ?_
  refine st (g_T rfl rfl rfl (hw0)) rfl ?_
  refine done ?_
  refine th_n ?_
  refine condT rfl ?_
  refine seq ?_
  refine region ?_
  refine st (g_move rfl) rfl ?_
  refine st (g_assign rfl) rfl ?_
  refine st (g_assign rfl) rfl ?_
  refine done ?_
  refine th_n ?_
  refine ret ?_
  refine th_r ?_
  exact ret2 rfl rfl rfl rfl (fun w2 hw2 => ⟨(), trivial, rfl, Sat.left (hw2.split (.cons (.there (.there (.here))) (.cons (.there (.there (.here))) (.cons (.there (.there (.here))) (.cons (.there (.there (.here))) (.cons (.there (.there (.here))) .nil))))))⟩)

theorem f71_zero (b : Nat) (k : Dk) (hk : k.ok) (r : Rr) (hro : r.ok k) (first : Int) (h0 : ¬ first < 0) (hw0 : k.load.w = 0) (hn0 : k.load.n = 0#64) (w : World) (hA : Sat w (fps (rkR b k r)) (rkR b k r) w) : Calls Tryd.prog 71 [.pointer (some ⟨b, 0, none⟩), I64 first].toArray w (fun en w2 => ∃ x : Nat, True ∧ en = .returned (.tuple #[.pointer (some ⟨x, 0, none⟩), I64 0]) ∧ Sat w (fps (rkR b k r)) (ryB x b first 0 :: rkR b k r) w2) := by
  refine used hk (used hro (used h0 (used hw0 (used hn0 (used hA (?_))))))
  refine enter (n := 71) Tryd.func71 rfl rfl rfl hA ?_
  refine seq ?_
  refine region ?_
  refine st (g_assign rfl) rfl ?_
  refine st (g_assign rfl) rfl ?_
  refine done ?_
  refine th_n ?_
  refine seq ?_
  refine seq ?_
  refine region ?_
  refine st (g_move rfl) rfl ?_
  refine st (g_F rfl rfl rfl (by omega)) rfl ?_
  refine done ?_
  refine th_n ?_
  refine condF rfl ?_
  refine skip ?_
  refine th_n ?_
  refine seq ?_
  refine region ?_
  refine st (g_move rfl) rfl ?_
  refine sq rfl (o_call Tryd.func58 rfl rfl rfl (.cons .here (.cons .here (.cons .here (.cons .here (.cons .here .nil))))) (fun w hw hA => f58_spec b k hk r hro w hA) rfl (fun y hy => ?_))
  refine st (g_move rfl) rfl ?_
  refine st (g_extract rfl rfl) rfl ?_
  refine st (g_extract rfl rfl) rfl ?_
  refine st (g_extract rfl rfl) rfl ?_
  refine sq rfl (o_alloc (zs := [U64 0#64, .slice none 0 0]) zr_73 rfl (fun b6 => ?_))
  refine sq rfl (o_storeA (cs' := ldv k.load y) sz_73 rfl rfl rfl (by simp [ldv]; exact ⟨rfl, rfl⟩) .here (Nat.le_of_ble_eq_true rfl) rfl ?_)
  refine st (g_assign rfl) rfl ?_
  refine st (g_assign rfl) rfl ?_
  refine done ?_
  refine th_n ?_
  refine seq ?_
  refine seq ?_
  refine region ?_
  refine st (g_move rfl) rfl ?_
  refine st (g_F rfl rfl rfl (fun h => h hw0)) rfl ?_
  refine done ?_
  refine th_n ?_
  refine condF rfl ?_
  refine skip ?_
  refine th_n ?_
  refine seq ?_
  refine seq ?_
  refine region ?_
  refine st (g_fieldAddr fo_73_0 rfl rfl) rfl ?_
  refine st (g_load (v := U64 k.load.n) sc_34 rfl (Cell.own .here rfl)) rfl ?_
  refine st (g_T rfl rfl rfl (by rw [hn0]; rfl)) rfl ?_
  refine done ?_
  refine th_n ?_
  refine condT rfl ?_
  refine seq ?_
  refine region ?_
  refine st (g_move rfl) rfl ?_
  refine st (g_move rfl) rfl ?_
  refine st (g_build rfl (bu_81a _ rfl _)) rfl ?_
  refine sq rfl (o_box (cs := ryC b first 0) rfl rfl rfl (fun b32 => ?_))
  refine st (g_assign rfl) rfl ?_
  refine st (g_assign rfl) rfl ?_
  refine done ?_
  refine th_n ?_
  refine ret ?_
  refine th_r ?_
  exact ret2 rfl rfl rfl rfl (fun w2 hw2 => ⟨b32, trivial, rfl, Sat.left (hw2.split (A := [_, _, _, _, _, _]) (.cons .here (.cons (.there (.there (.here))) (.cons (.there (.there (.here))) (.cons (.there (.there (.here))) (.cons (.there (.there (.here))) (.cons (.there (.there (.here))) .nil)))))))⟩)

theorem f71_rec (b : Nat) (k : Dk) (hk : k.ok) (r : Rr) (hro : r.ok k) (first : Int) (h0 : ¬ first < 0) (hw0 : k.load.w = 0) (hn0 : k.load.n ≠ 0#64) {s t : Int} (hrd : readW k.load.d = (s, t, true)) (w : World) (hA : Sat w (fps (rkR b k r)) (rkR b k r) w) : Calls Tryd.prog 71 [.pointer (some ⟨b, 0, none⟩), I64 first].toArray w (fun en w2 => ∃ x : Nat, True ∧ en = .returned (.tuple #[.pointer (some ⟨x, 0, none⟩), I64 0]) ∧ Sat w (fps (rkR b k r)) (ryB x b s t :: rkR b k r) w2) := by
  obtain ⟨e0, e1, e2, rfl, rfl⟩ := readW_yes hrd
  have en0 : (wholeW (rdB k.load.d 0)).toNat ≤ 9223372036854775807 := e0
  have en1 : (wholeW (rdB k.load.d 1)).toNat ≤ 253402300799999 := e1
  have en2 : (wholeW (rdB k.load.d 2)).toNat ≤ 0 := e2
  refine enter (n := 71) Tryd.func71 rfl rfl rfl hA ?_
  refine seq ?_
  refine region ?_
  refine st (g_assign rfl) rfl ?_
  refine st (g_assign rfl) rfl ?_
  refine done ?_
  refine th_n ?_
  refine seq ?_
  refine seq ?_
  refine region ?_
  refine st (g_move rfl) rfl ?_
  refine st (g_F rfl rfl rfl (by omega)) rfl ?_
  refine done ?_
  refine th_n ?_
  refine condF rfl ?_
  refine skip ?_
  refine th_n ?_
  refine seq ?_
  refine region ?_
  refine st (g_move rfl) rfl ?_
  refine sq rfl (o_call Tryd.func58 rfl rfl rfl (.cons .here (.cons .here (.cons .here (.cons .here (.cons .here .nil))))) (fun w hw hA => f58_spec b k hk r hro w hA) rfl (fun y hy => ?_))
  refine st (g_move rfl) rfl ?_
  refine st (g_extract rfl rfl) rfl ?_
  refine st (g_extract rfl rfl) rfl ?_
  refine st (g_extract rfl rfl) rfl ?_
  refine sq rfl (o_alloc (zs := [U64 0#64, .slice none 0 0]) zr_73 rfl (fun b6 => ?_))
  refine sq rfl (o_storeA (cs' := ldv k.load y) sz_73 rfl rfl rfl (by simp [ldv]; exact ⟨rfl, rfl⟩) .here (Nat.le_of_ble_eq_true rfl) rfl ?_)
  refine st (g_assign rfl) rfl ?_
  refine st (g_assign rfl) rfl ?_
  refine done ?_
  refine th_n ?_
  refine seq ?_
  refine seq ?_
  refine region ?_
  refine st (g_move rfl) rfl ?_
  refine st (g_F rfl rfl rfl (fun h => h hw0)) rfl ?_
  refine done ?_
  refine th_n ?_
  refine condF rfl ?_
  refine skip ?_
  refine th_n ?_
  refine seq ?_
  refine seq ?_
  refine region ?_
  refine st (g_fieldAddr fo_73_0 rfl rfl) rfl ?_
  refine st (g_load (v := U64 k.load.n) sc_34 rfl (Cell.own .here rfl)) rfl ?_
  refine st (g_F rfl rfl rfl (u64_ne hn0)) rfl ?_
  refine done ?_
  refine th_n ?_
  refine condF rfl ?_
  refine skip ?_
  refine th_n ?_
  refine seq ?_
  have h24 := load_24 k hn0
  have hyc := hy.2
  rw [h24] at hyc
  refine region ?_
  refine st (g_fieldAddr fo_73_1 rfl rfl) rfl ?_
  refine st (g_load (v := slv k.load.d.length y) sc_23 rfl (Cell.own .here rfl)) rfl ?_
  refine st (g_slice (l := 0) (h := 8) (m := (y.2 : Nat)) (p' := adv y.1 y.2 0 1) (n' := 8) (c' := y.2 - 0) el_23 rfl rfl rfl rfl (by simp) (by decide) (by decide) (by omega) (Int.le_refl _) rfl rfl (by omega)) rfl ?_
  refine sq rfl (o_callP Tryd.func86 rfl rfl rfl (fun w hw => f86_spec (adv y.1 y.2 0 1) 8 (y.2 - 0) (rdB k.load.d 0) (rdB_length h24 (by decide)) (by decide) w (by have h0 := ((RdC.ofVec (ld_vec (hw.get (.there (.here))))).s.adv (c := y.2) (k := 0) (s := 1) (fun he => by rw [List.length_map]; omega)).take 8; rw [← List.map_drop, ← List.map_take] at h0; exact h0.c)) rfl ?_)
  refine st (g_move rfl) rfl ?_
  refine st (g_extract rfl rfl) rfl ?_
  refine st (g_extract rfl rfl) rfl ?_
  refine st (g_assign rfl) rfl ?_
  refine st (g_assign rfl) rfl ?_
  refine done ?_
  refine th_n ?_
  refine seq ?_
  refine region ?_
  refine st (g_fieldAddr fo_73_1 rfl rfl) rfl ?_
  refine st (g_load (v := slv k.load.d.length y) sc_23 rfl (Cell.own .here rfl)) rfl ?_
  refine st (g_slice (l := 8) (h := 16) (m := (y.2 : Nat)) (p' := adv y.1 y.2 8 1) (n' := 8) (c' := y.2 - 8) el_23 rfl rfl rfl rfl (by simp) (by decide) (by decide) (by omega) (Int.le_refl _) rfl rfl (by omega)) rfl ?_
  refine sq rfl (o_callP Tryd.func86 rfl rfl rfl (fun w hw => f86_spec (adv y.1 y.2 8 1) 8 (y.2 - 8) (rdB k.load.d 1) (rdB_length h24 (by decide)) (by decide) w (by have h0 := ((RdC.ofVec (ld_vec (hw.get (.there (.here))))).s.adv (c := y.2) (k := 8) (s := 1) (fun he => by rw [List.length_map]; omega)).take 8; rw [← List.map_drop, ← List.map_take] at h0; exact h0.c)) rfl ?_)
  refine st (g_move rfl) rfl ?_
  refine st (g_extract rfl rfl) rfl ?_
  refine st (g_extract rfl rfl) rfl ?_
  refine st (g_assign rfl) rfl ?_
  refine st (g_assign rfl) rfl ?_
  refine done ?_
  refine th_n ?_
  refine seq ?_
  refine region ?_
  refine st (g_fieldAddr fo_73_1 rfl rfl) rfl ?_
  refine st (g_load (v := slv k.load.d.length y) sc_23 rfl (Cell.own .here rfl)) rfl ?_
  refine st (g_slice (l := 16) (h := (k.load.d.length : Nat)) (m := (y.2 : Nat)) (p' := adv y.1 y.2 16 1) (n' := 8) (c' := y.2 - 16) el_23 rfl rfl rfl rfl (by simp) (by decide) (by omega) (by omega) (Int.le_refl _) rfl (by omega) (by omega)) rfl ?_
  refine sq rfl (o_callP Tryd.func86 rfl rfl rfl (fun w hw => f86_spec (adv y.1 y.2 16 1) 8 (y.2 - 16) (rdB k.load.d 2) (rdB_length h24 (by decide)) (by decide) w (by have h0 := ((RdC.ofVec (ld_vec (hw.get (.there (.here))))).s.adv (c := y.2) (k := 16) (s := 1) (fun he => by rw [List.length_map]; omega)).take 8; rw [← List.map_drop, ← List.map_take] at h0; exact h0.c)) rfl ?_)
  refine st (g_move rfl) rfl ?_
  refine st (g_extract rfl rfl) rfl ?_
  refine st (g_extract rfl rfl) rfl ?_
  refine st (g_assign rfl) rfl ?_
  refine st (g_assign rfl) rfl ?_
  refine done ?_
  refine th_n ?_
  refine seq ?_
  refine seq ?_
  refine region ?_
  refine st (g_move rfl) rfl ?_
  refine st (g_F rfl rfl rfl (by omega)) rfl ?_
  refine st (g_move rfl) rfl ?_
  refine gt rfl ?_
  refine st (g_move rfl) rfl ?_
  refine gt rfl ?_
  refine st (g_F rfl rfl rfl (by omega)) rfl ?_
  refine st (g_pickF rfl rfl) rfl ?_
  refine st (g_move rfl) rfl ?_
  refine gt rfl ?_
  refine st (g_move rfl) rfl ?_
  refine gt rfl ?_
  refine st (g_F rfl rfl rfl (by omega)) rfl ?_
  refine st (g_pickF rfl rfl) rfl ?_
  refine done ?_
  refine th_n ?_
  refine condF rfl ?_
  refine skip ?_
  refine th_n ?_
  refine seq ?_
  refine region ?_
  refine st (g_move rfl) rfl ?_
  refine st (g_move rfl) rfl ?_
  refine st (g_toI (c := ((rdN k.load.d 0).toNat : Int)) it_34 it_2 rfl rfl (by omega) (by omega)) rfl ?_
  refine st (g_move rfl) rfl ?_
  refine st (g_toI (c := ((rdN k.load.d 1).toNat : Int)) it_34 it_2 rfl rfl (by omega) (by omega)) rfl ?_
  refine st (g_build rfl (bu_81b _ rfl _ _)) rfl ?_
  refine sq rfl (o_box (cs := ryC b ((rdN k.load.d 0).toNat : Int) ((rdN k.load.d 1).toNat : Int)) rfl rfl rfl (fun b70 => ?_))
  refine st (g_assign rfl) rfl ?_
  refine st (g_assign rfl) rfl ?_
  refine done ?_
  refine th_n ?_
  refine ret ?_
  exact ret2 rfl rfl rfl rfl (fun w2 hw2 => ⟨b70, trivial, rfl, Sat.left (hw2.split (A := [_, _, _, _, _, _]) (.cons .here (.cons (.there (.there (.here))) (.cons (.there (.there (.here))) (.cons (.there (.there (.here))) (.cons (.there (.there (.here))) (.cons (.there (.there (.here))) .nil)))))))⟩)

theorem f71_bad (b : Nat) (k : Dk) (hk : k.ok) (r : Rr) (hro : r.ok k) (first : Int) (h0 : ¬ first < 0) (hw0 : k.load.w = 0) (hn0 : k.load.n ≠ 0#64) {s t : Int} (hrd : readW k.load.d = (s, t, false)) (w : World) (hA : Sat w (fps (rkR b k r)) (rkR b k r) w) : Calls Tryd.prog 71 [.pointer (some ⟨b, 0, none⟩), I64 first].toArray w (fun en w2 => ∃ _x : Unit, True ∧ en = .returned (.tuple #[.pointer none, I64 191]) ∧ Sat w (fps (rkR b k r)) (rkR b k r) w2) := by
  have hno := readW_no hrd
  have hno : ¬ ((wholeW (rdB k.load.d 0)).toNat ≤ 9223372036854775807 ∧ (wholeW (rdB k.load.d 1)).toNat ≤ 253402300799999 ∧ (wholeW (rdB k.load.d 2)).toNat ≤ 0) := hno
  refine used hk (used hro (used h0 (used hw0 (used hn0 (used hrd (used hA (?_)))))))
  refine enter (n := 71) Tryd.func71 rfl rfl rfl hA ?_
  refine seq ?_
  refine region ?_
  refine st (g_assign rfl) rfl ?_
  refine st (g_assign rfl) rfl ?_
  refine done ?_
  refine th_n ?_
  refine seq ?_
  refine seq ?_
  refine region ?_
  refine st (g_move rfl) rfl ?_
  refine st (g_F rfl rfl rfl (by omega)) rfl ?_
  refine done ?_
  refine th_n ?_
  refine condF rfl ?_
  refine skip ?_
  refine th_n ?_
  refine seq ?_
  refine region ?_
  refine st (g_move rfl) rfl ?_
  refine sq rfl (o_call Tryd.func58 rfl rfl rfl (.cons .here (.cons .here (.cons .here (.cons .here (.cons .here .nil))))) (fun w hw hA => f58_spec b k hk r hro w hA) rfl (fun y hy => ?_))
  refine st (g_move rfl) rfl ?_
  refine st (g_extract rfl rfl) rfl ?_
  refine st (g_extract rfl rfl) rfl ?_
  refine st (g_extract rfl rfl) rfl ?_
  refine sq rfl (o_alloc (zs := [U64 0#64, .slice none 0 0]) zr_73 rfl (fun b6 => ?_))
  refine sq rfl (o_storeA (cs' := ldv k.load y) sz_73 rfl rfl rfl (by simp [ldv]; exact ⟨rfl, rfl⟩) .here (Nat.le_of_ble_eq_true rfl) rfl ?_)
  refine st (g_assign rfl) rfl ?_
  refine st (g_assign rfl) rfl ?_
  refine done ?_
  refine th_n ?_
  refine seq ?_
  refine seq ?_
  refine region ?_
  refine st (g_move rfl) rfl ?_
  refine st (g_F rfl rfl rfl (fun h => h hw0)) rfl ?_
  refine done ?_
  refine th_n ?_
  refine condF rfl ?_
  refine skip ?_
  refine th_n ?_
  refine seq ?_
  refine seq ?_
  refine region ?_
  refine st (g_fieldAddr fo_73_0 rfl rfl) rfl ?_
  refine st (g_load (v := U64 k.load.n) sc_34 rfl (Cell.own .here rfl)) rfl ?_
  refine st (g_F rfl rfl rfl (u64_ne hn0)) rfl ?_
  refine done ?_
  refine th_n ?_
  refine condF rfl ?_
  refine skip ?_
  refine th_n ?_
  refine seq ?_
  have h24 := load_24 k hn0
  have hyc := hy.2
  rw [h24] at hyc
  refine region ?_
  refine st (g_fieldAddr fo_73_1 rfl rfl) rfl ?_
  refine st (g_load (v := slv k.load.d.length y) sc_23 rfl (Cell.own .here rfl)) rfl ?_
  refine st (g_slice (l := 0) (h := 8) (m := (y.2 : Nat)) (p' := adv y.1 y.2 0 1) (n' := 8) (c' := y.2 - 0) el_23 rfl rfl rfl rfl (by simp) (by decide) (by decide) (by omega) (Int.le_refl _) rfl rfl (by omega)) rfl ?_
  refine sq rfl (o_callP Tryd.func86 rfl rfl rfl (fun w hw => f86_spec (adv y.1 y.2 0 1) 8 (y.2 - 0) (rdB k.load.d 0) (rdB_length h24 (by decide)) (by decide) w (by have h0 := ((RdC.ofVec (ld_vec (hw.get (.there (.here))))).s.adv (c := y.2) (k := 0) (s := 1) (fun he => by rw [List.length_map]; omega)).take 8; rw [← List.map_drop, ← List.map_take] at h0; exact h0.c)) rfl ?_)
  refine st (g_move rfl) rfl ?_
  refine st (g_extract rfl rfl) rfl ?_
  refine st (g_extract rfl rfl) rfl ?_
  refine st (g_assign rfl) rfl ?_
  refine st (g_assign rfl) rfl ?_
  refine done ?_
  refine th_n ?_
  refine seq ?_
  refine region ?_
  refine st (g_fieldAddr fo_73_1 rfl rfl) rfl ?_
  refine st (g_load (v := slv k.load.d.length y) sc_23 rfl (Cell.own .here rfl)) rfl ?_
  refine st (g_slice (l := 8) (h := 16) (m := (y.2 : Nat)) (p' := adv y.1 y.2 8 1) (n' := 8) (c' := y.2 - 8) el_23 rfl rfl rfl rfl (by simp) (by decide) (by decide) (by omega) (Int.le_refl _) rfl rfl (by omega)) rfl ?_
  refine sq rfl (o_callP Tryd.func86 rfl rfl rfl (fun w hw => f86_spec (adv y.1 y.2 8 1) 8 (y.2 - 8) (rdB k.load.d 1) (rdB_length h24 (by decide)) (by decide) w (by have h0 := ((RdC.ofVec (ld_vec (hw.get (.there (.here))))).s.adv (c := y.2) (k := 8) (s := 1) (fun he => by rw [List.length_map]; omega)).take 8; rw [← List.map_drop, ← List.map_take] at h0; exact h0.c)) rfl ?_)
  refine st (g_move rfl) rfl ?_
  refine st (g_extract rfl rfl) rfl ?_
  refine st (g_extract rfl rfl) rfl ?_
  refine st (g_assign rfl) rfl ?_
  refine st (g_assign rfl) rfl ?_
  refine done ?_
  refine th_n ?_
  refine seq ?_
  refine region ?_
  refine st (g_fieldAddr fo_73_1 rfl rfl) rfl ?_
  refine st (g_load (v := slv k.load.d.length y) sc_23 rfl (Cell.own .here rfl)) rfl ?_
  refine st (g_slice (l := 16) (h := (k.load.d.length : Nat)) (m := (y.2 : Nat)) (p' := adv y.1 y.2 16 1) (n' := 8) (c' := y.2 - 16) el_23 rfl rfl rfl rfl (by simp) (by decide) (by omega) (by omega) (Int.le_refl _) rfl (by omega) (by omega)) rfl ?_
  refine sq rfl (o_callP Tryd.func86 rfl rfl rfl (fun w hw => f86_spec (adv y.1 y.2 16 1) 8 (y.2 - 16) (rdB k.load.d 2) (rdB_length h24 (by decide)) (by decide) w (by have h0 := ((RdC.ofVec (ld_vec (hw.get (.there (.here))))).s.adv (c := y.2) (k := 16) (s := 1) (fun he => by rw [List.length_map]; omega)).take 8; rw [← List.map_drop, ← List.map_take] at h0; exact h0.c)) rfl ?_)
  refine st (g_move rfl) rfl ?_
  refine st (g_extract rfl rfl) rfl ?_
  refine st (g_extract rfl rfl) rfl ?_
  refine st (g_assign rfl) rfl ?_
  refine st (g_assign rfl) rfl ?_
  refine done ?_
  refine th_n ?_
  refine seq ?_
  refine seq ?_
  refine region ?_
  refine st (g_move rfl) rfl ?_
  refine sp (g_bin rfl rfl rfl) rfl (fun h55 => ?_) (fun h55 => ?_)
  · refine st (g_move rfl) rfl ?_
    refine gf rfl rfl ?_
    refine gf rfl rfl ?_
    refine st (g_pickT rfl rfl) rfl ?_
    refine st (g_move rfl) rfl ?_
    refine gf rfl rfl ?_
    refine gf rfl rfl ?_
    refine st (g_pickT rfl rfl) rfl ?_
    refine done ?_
    refine th_n ?_
    refine condT rfl ?_
    refine seq ?_
    refine region ?_
    refine st (g_assign rfl) rfl ?_
    refine st (g_assign rfl) rfl ?_
    refine done ?_
    refine th_n ?_
    refine ret ?_
    refine th_r ?_
    exact ret2 rfl rfl rfl rfl (fun w2 hw2 => ⟨(), trivial, rfl, Sat.left (hw2.split (.cons (.there (.there (.here))) (.cons (.there (.there (.here))) (.cons (.there (.there (.here))) (.cons (.there (.there (.here))) (.cons (.there (.there (.here))) .nil))))))⟩)
  · refine st (g_move rfl) rfl ?_
    refine gt rfl ?_
    refine st (g_move rfl) rfl ?_
    refine gt rfl ?_
    refine sp (g_bin rfl rfl rfl) rfl (fun h58 => ?_) (fun h58 => ?_)
    · refine st (g_pickF rfl rfl) rfl ?_
      refine st (g_move rfl) rfl ?_
      refine gf rfl rfl ?_
      refine gf rfl rfl ?_
      refine st (g_pickT rfl rfl) rfl ?_
      refine done ?_
      refine th_n ?_
      refine condT rfl ?_
      refine seq ?_
      refine region ?_
      refine st (g_assign rfl) rfl ?_
      refine st (g_assign rfl) rfl ?_
      refine done ?_
      refine th_n ?_
      refine ret ?_
      refine th_r ?_
      exact ret2 rfl rfl rfl rfl (fun w2 hw2 => ⟨(), trivial, rfl, Sat.left (hw2.split (.cons (.there (.there (.here))) (.cons (.there (.there (.here))) (.cons (.there (.there (.here))) (.cons (.there (.there (.here))) (.cons (.there (.there (.here))) .nil))))))⟩)
    · refine st (g_pickF rfl rfl) rfl ?_
      refine st (g_move rfl) rfl ?_
      refine gt rfl ?_
      refine st (g_move rfl) rfl ?_
      refine gt rfl ?_
      refine st (g_T rfl rfl rfl (by omega)) rfl ?_
      refine st (g_pickF rfl rfl) rfl ?_
      refine done ?_
      refine th_n ?_
      refine condT rfl ?_
      refine seq ?_
      refine region ?_
      refine st (g_assign rfl) rfl ?_
      refine st (g_assign rfl) rfl ?_
      refine done ?_
      refine th_n ?_
      refine ret ?_
      refine th_r ?_
      exact ret2 rfl rfl rfl rfl (fun w2 hw2 => ⟨(), trivial, rfl, Sat.left (hw2.split (.cons (.there (.there (.here))) (.cons (.there (.there (.here))) (.cons (.there (.there (.here))) (.cons (.there (.there (.here))) (.cons (.there (.there (.here))) .nil))))))⟩)

theorem f71_ok (b : Nat) (k : Dk) (hk : k.ok) (r : Rr) (hro : r.ok k) (first : Int) {s t : Int} (h : k.open first = (0, s, t)) (w : World) (hA : Sat w (fps (rkR b k r)) (rkR b k r) w) : Calls Tryd.prog 71 [.pointer (some ⟨b, 0, none⟩), I64 first].toArray w (fun en w2 => ∃ x : Nat, True ∧ en = .returned (.tuple #[.pointer (some ⟨x, 0, none⟩), I64 0]) ∧ Sat w (fps (rkR b k r)) (ryB x b s t :: rkR b k r) w2) := by
  rcases open_cases k first with ⟨_, e⟩ | ⟨_, h1, e⟩ | ⟨h0, h1, h2, e⟩ | ⟨h0, h1, h2, s', t', hr, e⟩ | ⟨_, _, _, _, _, _, e⟩
  · rw [e] at h; cases h
  · rw [e] at h; exact absurd (congrArg Prod.fst h) h1
  · rw [e] at h; cases h; exact f71_zero b k hk r hro first h0 h1 h2 w hA
  · rw [e] at h; cases h; exact f71_rec b k hk r hro first h0 h1 h2 hr w hA
  · rw [e] at h; cases h
theorem f71_no (b : Nat) (k : Dk) (hk : k.ok) (r : Rr) (hro : r.ok k) (first : Int) {e s t : Int} (h : k.open first = (e, s, t)) (he : e ≠ 0) (w : World) (hA : Sat w (fps (rkR b k r)) (rkR b k r) w) : Calls Tryd.prog 71 [.pointer (some ⟨b, 0, none⟩), I64 first].toArray w (fun en w2 => ∃ _x : Unit, True ∧ en = .returned (.tuple #[.pointer none, I64 e]) ∧ Sat w (fps (rkR b k r)) (rkR b k r) w2) := by
  rcases open_cases k first with ⟨h0, e'⟩ | ⟨h0, h1, e'⟩ | ⟨h0, h1, h2, e'⟩ | ⟨h0, h1, h2, s', t', hr, e'⟩ | ⟨h0, h1, h2, s', t', hr, e'⟩
  · rw [e'] at h; cases h; exact f71_neg b k hk r hro first h0 w hA
  · rw [e'] at h; cases h; exact f71_err b k hk r hro first h0 h1 w hA
  · rw [e'] at h; cases h; exact absurd rfl he
  · rw [e'] at h; cases h; exact absurd rfl he
  · rw [e'] at h; cases h; exact f71_bad b k hk r hro first h0 h1 h2 hr w hA

end Go.Proofs.YtokhediaibdkjaaDoor

/-! From NG -/
/- Ref19's Reserve. (printed by gen1.py) -/
namespace Go.Proofs.YtokhediaibdkjaaDoor
open Go.Pm Go.RowKit
set_option maxRecDepth 100000
theorem f32_low (x b : Nat) (k : Dk) (hk : k.ok) (r : Rr) (hro : r.ok k) (s t time : Int) (hs : 0 ≤ s) (hs2 : s ≤ 9223372036854775807) (ht : 0 ≤ t) (ht2 : t ≤ 253402300799999) (h1 : time < 0) (w : World) (hA : Sat w (fps (ryB x b s t :: rkR b k r)) (ryB x b s t :: rkR b k r) w) : Calls Tryd.prog 32 [.pointer (some ⟨x, 0, none⟩), I64 time].toArray w (fun en w2 => ∃ r2 : Rr, r2.ok k ∧ en = .returned (.tuple #[I64 0, I64 0, I64 191]) ∧ Sat w (fps (ryB x b s t :: rkR b k r)) (ryB x b s t :: rkR b k r2) w2) := by
  refine used hk (used hro (used hs (used hs2 (used ht (used ht2 (used h1 (used hA (?_))))))))
  refine enter (n := 87) Tryd.func32 rfl rfl rfl hA ?_
  refine seq ?_
  refine region ?_
  refine st (g_assign rfl) rfl ?_
  refine st (g_assign rfl) rfl ?_
  refine st (g_assign rfl) rfl ?_
  refine done ?_
  refine th_n ?_
  refine seq ?_
  refine seq ?_
  refine region ?_
  refine st (g_move rfl) rfl ?_
  refine st (g_T rfl rfl rfl (by omega)) rfl ?_
  refine st (g_move rfl) rfl ?_
  refine gf rfl rfl ?_
  refine gf rfl rfl ?_
  refine st (g_pickT rfl rfl) rfl ?_
  refine done ?_
  refine th_n ?_
  refine condT rfl ?_
  refine seq ?_
  refine region ?_
  refine st (g_assign rfl) rfl ?_
  refine st (g_assign rfl) rfl ?_
  refine st (g_assign rfl) rfl ?_
  refine done ?_
  refine th_n ?_
  refine ret ?_
  refine th_r ?_
  exact ret3 rfl rfl rfl rfl rfl (fun w2 hw2 => ⟨r, hro, rfl, Sat.left (hw2.split (A := [_, _, _, _, _, _]) (.cons .here (.cons .here (.cons .here (.cons .here (.cons .here (.cons .here .nil)))))))⟩)

theorem f32_high (x b : Nat) (k : Dk) (hk : k.ok) (r : Rr) (hro : r.ok k) (s t time : Int) (hs : 0 ≤ s) (hs2 : s ≤ 9223372036854775807) (ht : 0 ≤ t) (ht2 : t ≤ 253402300799999) (h1 : ¬ time < 0) (h2 : time > 253402300799999) (w : World) (hA : Sat w (fps (ryB x b s t :: rkR b k r)) (ryB x b s t :: rkR b k r) w) : Calls Tryd.prog 32 [.pointer (some ⟨x, 0, none⟩), I64 time].toArray w (fun en w2 => ∃ r2 : Rr, r2.ok k ∧ en = .returned (.tuple #[I64 0, I64 0, I64 191]) ∧ Sat w (fps (ryB x b s t :: rkR b k r)) (ryB x b s t :: rkR b k r2) w2) := by
  refine used hk (used hro (used hs (used hs2 (used ht (used ht2 (used h1 (used h2 (used hA (?_)))))))))
  refine enter (n := 87) Tryd.func32 rfl rfl rfl hA ?_
  refine seq ?_
  refine region ?_
  refine st (g_assign rfl) rfl ?_
  refine st (g_assign rfl) rfl ?_
  refine st (g_assign rfl) rfl ?_
  refine done ?_
  refine th_n ?_
  refine seq ?_
  refine seq ?_
  refine region ?_
  refine st (g_move rfl) rfl ?_
  refine st (g_F rfl rfl rfl (by omega)) rfl ?_
  refine st (g_move rfl) rfl ?_
  refine gt rfl ?_
  refine st (g_move rfl) rfl ?_
  refine gt rfl ?_
  refine st (g_T rfl rfl rfl (by omega)) rfl ?_
  refine st (g_pickF rfl rfl) rfl ?_
  refine done ?_
  refine th_n ?_
  refine condT rfl ?_
  refine seq ?_
  refine region ?_
  refine st (g_assign rfl) rfl ?_
  refine st (g_assign rfl) rfl ?_
  refine st (g_assign rfl) rfl ?_
  refine done ?_
  refine th_n ?_
  refine ret ?_
  refine th_r ?_
  exact ret3 rfl rfl rfl rfl rfl (fun w2 hw2 => ⟨r, hro, rfl, Sat.left (hw2.split (A := [_, _, _, _, _, _]) (.cons .here (.cons .here (.cons .here (.cons .here (.cons .here (.cons .here .nil)))))))⟩)

theorem f32_max (x b : Nat) (k : Dk) (hk : k.ok) (r : Rr) (hro : r.ok k) (s t time : Int) (hs : 0 ≤ s) (hs2 : s ≤ 9223372036854775807) (ht : 0 ≤ t) (ht2 : t ≤ 253402300799999) (h1 : ¬ time < 0) (h2 : ¬ time > 253402300799999) (h3 : s = 9223372036854775807) (w : World) (hA : Sat w (fps (ryB x b s t :: rkR b k r)) (ryB x b s t :: rkR b k r) w) : Calls Tryd.prog 32 [.pointer (some ⟨x, 0, none⟩), I64 time].toArray w (fun en w2 => ∃ r2 : Rr, r2.ok k ∧ en = .returned (.tuple #[I64 0, I64 0, I64 190]) ∧ Sat w (fps (ryB x b s t :: rkR b k r)) (ryB x b s t :: rkR b k r2) w2) := by
  refine used hk (used hro (used hs (used hs2 (used ht (used ht2 (used h1 (used h2 (used h3 (used hA (?_))))))))))
  refine enter (n := 87) Tryd.func32 rfl rfl rfl hA ?_
  refine seq ?_
  refine region ?_
  refine st (g_assign rfl) rfl ?_
  refine st (g_assign rfl) rfl ?_
  refine st (g_assign rfl) rfl ?_
  refine done ?_
  refine th_n ?_
  refine seq ?_
  refine seq ?_
  refine region ?_
  refine st (g_move rfl) rfl ?_
  refine st (g_F rfl rfl rfl (by omega)) rfl ?_
  refine st (g_move rfl) rfl ?_
  refine gt rfl ?_
  refine st (g_move rfl) rfl ?_
  refine gt rfl ?_
  refine st (g_F rfl rfl rfl (by omega)) rfl ?_
  refine st (g_pickF rfl rfl) rfl ?_
  refine done ?_
  refine th_n ?_
  refine condF rfl ?_
  refine skip ?_
  refine th_n ?_
  refine seq ?_
  refine seq ?_
  refine region ?_
  refine st (g_move rfl) rfl ?_
  refine st (g_nilCheck rfl) rfl ?_
  refine st (g_fieldAddr fo_81_1 rfl rfl) rfl ?_
  refine st (g_load (v := I64 s) sc_2 rfl (Cell.own .here rfl)) rfl ?_
  refine st (g_T rfl rfl rfl (by omega)) rfl ?_
  refine done ?_
  refine th_n ?_
  refine condT rfl ?_
  refine seq ?_
  refine region ?_
  refine st (g_assign rfl) rfl ?_
  refine st (g_assign rfl) rfl ?_
  refine st (g_assign rfl) rfl ?_
  refine done ?_
  refine th_n ?_
  refine ret ?_
  refine th_r ?_
  exact ret3 rfl rfl rfl rfl rfl (fun w2 hw2 => ⟨r, hro, rfl, Sat.left (hw2.split (A := [_, _, _, _, _, _]) (.cons .here (.cons .here (.cons .here (.cons .here (.cons .here (.cons .here .nil)))))))⟩)

theorem f32_errT (x b : Nat) (k : Dk) (hk : k.ok) (r : Rr) (hro : r.ok k) (s t time : Int) (hs : 0 ≤ s) (hs2 : s ≤ 9223372036854775807) (ht : 0 ≤ t) (ht2 : t ≤ 253402300799999) (h1 : ¬ time < 0) (h2 : ¬ time > 253402300799999) (h3 : ¬ s = 9223372036854775807) (hgt : t < time) {L : Ld} {k' : Dk} (hsv : k.save (recD (s + 1) time) = (L, k')) (h4 : L.w ≠ 0) (w : World) (hA : Sat w (fps (ryB x b s t :: rkR b k r)) (ryB x b s t :: rkR b k r) w) : Calls Tryd.prog 32 [.pointer (some ⟨x, 0, none⟩), I64 time].toArray w (fun en w2 => ∃ r2 : Rr, r2.ok k' ∧ en = .returned (.tuple #[I64 0, I64 0, I64 L.w]) ∧ Sat w (fps (ryB x b s t :: rkR b k r)) (ryB x b s t :: rkR b k' r2) w2) := by
  refine used hk (used hro (used hs (used hs2 (used ht (used ht2 (used h1 (used h2 (used h3 (used hgt (used hsv (used h4 (used hA (?_)))))))))))))
  refine enter (n := 87) Tryd.func32 rfl rfl rfl hA ?_
  refine seq ?_
  refine region ?_
  refine st (g_assign rfl) rfl ?_
  refine st (g_assign rfl) rfl ?_
  refine st (g_assign rfl) rfl ?_
  refine done ?_
  refine th_n ?_
  refine seq ?_
  refine seq ?_
  refine region ?_
  refine st (g_move rfl) rfl ?_
  refine st (g_F rfl rfl rfl (by omega)) rfl ?_
  refine st (g_move rfl) rfl ?_
  refine gt rfl ?_
  refine st (g_move rfl) rfl ?_
  refine gt rfl ?_
  refine st (g_F rfl rfl rfl (by omega)) rfl ?_
  refine st (g_pickF rfl rfl) rfl ?_
  refine done ?_
  refine th_n ?_
  refine condF rfl ?_
  refine skip ?_
  refine th_n ?_
  refine seq ?_
  refine seq ?_
  refine region ?_
  refine st (g_move rfl) rfl ?_
  refine st (g_nilCheck rfl) rfl ?_
  refine st (g_fieldAddr fo_81_1 rfl rfl) rfl ?_
  refine st (g_load (v := I64 s) sc_2 rfl (Cell.own .here rfl)) rfl ?_
  refine st (g_F rfl rfl rfl (by omega)) rfl ?_
  refine done ?_
  refine th_n ?_
  refine condF rfl ?_
  refine skip ?_
  refine th_n ?_
  refine seq ?_
  refine region ?_
  refine st (g_move rfl) rfl ?_
  refine st (g_nilCheck rfl) rfl ?_
  refine st (g_fieldAddr fo_81_2 rfl rfl) rfl ?_
  refine st (g_load (v := I64 t) sc_2 rfl (Cell.own .here rfl)) rfl ?_
  refine st (g_assign rfl) rfl ?_
  refine done ?_
  refine th_n ?_
  refine seq ?_
  refine seq ?_
  refine region ?_
  refine st (g_move rfl) rfl ?_
  refine st (g_move rfl) rfl ?_
  refine st (g_T rfl rfl rfl (by omega)) rfl ?_
  refine done ?_
  refine th_n ?_
  refine condT rfl ?_
  refine region ?_
  refine st (g_move rfl) rfl ?_
  refine st (g_assign rfl) rfl ?_
  refine done ?_
  refine th_n ?_
  refine seq ?_
  refine region ?_
  refine st (g_move rfl) rfl ?_
  refine st (g_nilCheck rfl) rfl ?_
  refine st (g_fieldAddr fo_81_1 rfl rfl) rfl ?_
  refine st (g_load (v := I64 s) sc_2 rfl (Cell.own .here rfl)) rfl ?_
  refine st (g_iadd (c := (s + 1)) rfl rfl (by omega) (by omega) (by omega)) rfl ?_
  refine st (g_to64i it_2 it_34 rfl) rfl ?_
  refine sq rfl (o_call Tryd.func74 rfl rfl rfl .nil (fun w hw hA => f74_spec (BitVec.ofInt 64 (s + 1)) w) rfl (fun g1 hg1 => ?_))
  refine st (g_move rfl) rfl ?_
  refine st (g_extract rfl rfl) rfl ?_
  refine st (g_extract rfl rfl) rfl ?_
  refine st (g_assign rfl) rfl ?_
  refine st (g_assign rfl) rfl ?_
  refine done ?_
  refine th_n ?_
  refine seq ?_
  refine region ?_
  refine st (g_move rfl) rfl ?_
  refine st (g_to64i it_2 it_34 rfl) rfl ?_
  refine sq rfl (o_call Tryd.func74 rfl rfl rfl .nil (fun w hw hA => f74_spec (BitVec.ofInt 64 time) w) rfl (fun g2 hg2 => ?_))
  refine st (g_move rfl) rfl ?_
  refine st (g_extract rfl rfl) rfl ?_
  refine st (g_extract rfl rfl) rfl ?_
  refine st (g_assign rfl) rfl ?_
  refine st (g_assign rfl) rfl ?_
  refine done ?_
  refine th_n ?_
  refine seq ?_
  refine region ?_
  refine st (g_move rfl) rfl ?_
  refine st (g_move rfl) rfl ?_
  refine sq rfl (o_append (n := 8) (m := 8) (news := (be8 (BitVec.ofInt 64 time)).map B8) un_23 zr_5 sz_5 rfl bt_5 (by decide) rfl rfl (.there (.here)) rfl (RdA.vec .here) oneB8 hg2.1 (by decide) (by decide) rfl (fun q1 cap1 hq1 hc1 hq01 => ?_))
  refine st (g_assign rfl) rfl ?_
  refine done ?_
  refine th_n ?_
  refine seq ?_
  refine region ?_
  refine st (g_move rfl) rfl ?_
  refine sq rfl (o_buildSlice1 (vs := (List.replicate 8 (0 : UInt8)).map B8) un_23 zr_5 sz_5 (by decide) (by decide) rfl rfl rfl oneB8 rfl (fun b54 => ?_))
  refine sq rfl (o_append (n := 16) (m := 8) (news := (List.replicate 8 (0 : UInt8)).map B8) un_23 zr_5 sz_5 rfl bt_5 (by decide) rfl rfl (.there (.here)) rfl (RdA.own .here (fun j v hj => by rw [Nat.zero_add]; exact hj)) oneB8 nofun (by decide) (by decide) rfl (fun q2 cap2 hq2 hc2 hq02 => ?_))
  rw [← List.map_append, ← List.map_append, show be8 (BitVec.ofInt 64 (s + 1)) ++ be8 (BitVec.ofInt 64 time) ++ List.replicate 8 0 = recD (s + 1) time from rfl]
  refine st (g_assign rfl) rfl ?_
  refine done ?_
  refine th_n ?_
  refine seq ?_
  refine region ?_
  refine st (g_move rfl) rfl ?_
  refine st (g_nilCheck rfl) rfl ?_
  refine st (g_fieldAddr fo_81_0 rfl rfl) rfl ?_
  refine st (g_load (v := .pointer (some ⟨b, 0, none⟩)) sc_51 rfl (Cell.own (.there (.there (.there (.here)))) rfl)) rfl ?_
  refine st (g_move rfl) rfl ?_
  refine sq rfl (o_call Tryd.func38 rfl rfl rfl (.cons (.there (.there (.there (.there (.here))))) (.cons (.there (.there (.there (.there (.here))))) (.cons (.there (.there (.there (.there (.here))))) (.cons (.there (.there (.there (.there (.here))))) (.cons (.there (.there (.there (.there (.here))))) .nil))))) (fun w hw hA => f38_as b k r q2 24 cap2 (recD (s + 1) time) rfl hq02 hc2 hsv w hA (RdS.ofVec hw (.cons (.there (.there (.there (.there (.here))))) (.cons (.there (.there (.there (.there (.here))))) (.cons (.there (.there (.there (.there (.here))))) (.cons (.there (.there (.there (.there (.here))))) (.cons (.there (.there (.there (.there (.here))))) .nil))))) .here) hk hro) rfl (fun ⟨y2, r2⟩ hx2 => ?_))
  refine st (g_move rfl) rfl ?_
  refine st (g_extract rfl rfl) rfl ?_
  refine st (g_extract rfl rfl) rfl ?_
  refine sq rfl (o_alloc (zs := [U64 0#64, .slice none 0 0]) zr_73 rfl (fun b13 => ?_))
  refine sq rfl (o_storeA (cs' := ldv L y2) sz_73 rfl rfl rfl (by simp [ldv]; exact ⟨rfl, rfl⟩) .here (Nat.le_of_ble_eq_true rfl) rfl ?_)
  refine st (g_assign rfl) rfl ?_
  refine done ?_
  refine th_n ?_
  refine seq ?_
  refine seq ?_
  refine region ?_
  refine st (g_move rfl) rfl ?_
  refine st (g_T rfl rfl rfl (h4)) rfl ?_
  refine done ?_
  refine th_n ?_
  refine condT rfl ?_
  refine seq ?_
  refine region ?_
  refine st (g_move rfl) rfl ?_
  refine st (g_assign rfl) rfl ?_
  refine st (g_assign rfl) rfl ?_
  refine st (g_assign rfl) rfl ?_
  refine done ?_
  refine th_n ?_
  refine ret ?_
  refine th_r ?_
  exact ret3 rfl rfl rfl rfl rfl (fun w2 hw2 => ⟨r2, hx2.2, rfl, Sat.left (hw2.split (A := [_, _, _, _, _, _]) (.cons (.there (.there (.there (.there (.there (.there (.there (.there (.there (.there (.here))))))))))) (.cons (.there (.there (.here))) (.cons (.there (.there (.here))) (.cons (.there (.there (.here))) (.cons (.there (.there (.here))) (.cons (.there (.there (.here))) .nil)))))))⟩)

theorem f32_okT (x b : Nat) (k : Dk) (hk : k.ok) (r : Rr) (hro : r.ok k) (s t time : Int) (hs : 0 ≤ s) (hs2 : s ≤ 9223372036854775807) (ht : 0 ≤ t) (ht2 : t ≤ 253402300799999) (h1 : ¬ time < 0) (h2 : ¬ time > 253402300799999) (h3 : ¬ s = 9223372036854775807) (hgt : t < time) {L : Ld} {k' : Dk} (hsv : k.save (recD (s + 1) time) = (L, k')) (h4 : L.w = 0) (w : World) (hA : Sat w (fps (ryB x b s t :: rkR b k r)) (ryB x b s t :: rkR b k r) w) : Calls Tryd.prog 32 [.pointer (some ⟨x, 0, none⟩), I64 time].toArray w (fun en w2 => ∃ r2 : Rr, r2.ok k' ∧ en = .returned (.tuple #[I64 (s + 1), I64 time, I64 0]) ∧ Sat w (fps (ryB x b s t :: rkR b k r)) (ryB x b (s + 1) time :: rkR b k' r2) w2) := by
  refine used hk (used hro (used hs (used hs2 (used ht (used ht2 (used h1 (used h2 (used h3 (used hgt (used hsv (used h4 (used hA (?_)))))))))))))
  refine enter (n := 87) Tryd.func32 rfl rfl rfl hA ?_
  refine seq ?_
  refine region ?_
  refine st (g_assign rfl) rfl ?_
  refine st (g_assign rfl) rfl ?_
  refine st (g_assign rfl) rfl ?_
  refine done ?_
  refine th_n ?_
  refine seq ?_
  refine seq ?_
  refine region ?_
  refine st (g_move rfl) rfl ?_
  refine st (g_F rfl rfl rfl (by omega)) rfl ?_
  refine st (g_move rfl) rfl ?_
  refine gt rfl ?_
  refine st (g_move rfl) rfl ?_
  refine gt rfl ?_
  refine st (g_F rfl rfl rfl (by omega)) rfl ?_
  refine st (g_pickF rfl rfl) rfl ?_
  refine done ?_
  refine th_n ?_
  refine condF rfl ?_
  refine skip ?_
  refine th_n ?_
  refine seq ?_
  refine seq ?_
  refine region ?_
  refine st (g_move rfl) rfl ?_
  refine st (g_nilCheck rfl) rfl ?_
  refine st (g_fieldAddr fo_81_1 rfl rfl) rfl ?_
  refine st (g_load (v := I64 s) sc_2 rfl (Cell.own .here rfl)) rfl ?_
  refine st (g_F rfl rfl rfl (by omega)) rfl ?_
  refine done ?_
  refine th_n ?_
  refine condF rfl ?_
  refine skip ?_
  refine th_n ?_
  refine seq ?_
  refine region ?_
  refine st (g_move rfl) rfl ?_
  refine st (g_nilCheck rfl) rfl ?_
  refine st (g_fieldAddr fo_81_2 rfl rfl) rfl ?_
  refine st (g_load (v := I64 t) sc_2 rfl (Cell.own .here rfl)) rfl ?_
  refine st (g_assign rfl) rfl ?_
  refine done ?_
  refine th_n ?_
  refine seq ?_
  refine seq ?_
  refine region ?_
  refine st (g_move rfl) rfl ?_
  refine st (g_move rfl) rfl ?_
  refine st (g_T rfl rfl rfl (by omega)) rfl ?_
  refine done ?_
  refine th_n ?_
  refine condT rfl ?_
  refine region ?_
  refine st (g_move rfl) rfl ?_
  refine st (g_assign rfl) rfl ?_
  refine done ?_
  refine th_n ?_
  refine seq ?_
  refine region ?_
  refine st (g_move rfl) rfl ?_
  refine st (g_nilCheck rfl) rfl ?_
  refine st (g_fieldAddr fo_81_1 rfl rfl) rfl ?_
  refine st (g_load (v := I64 s) sc_2 rfl (Cell.own .here rfl)) rfl ?_
  refine st (g_iadd (c := (s + 1)) rfl rfl (by omega) (by omega) (by omega)) rfl ?_
  refine st (g_to64i it_2 it_34 rfl) rfl ?_
  refine sq rfl (o_call Tryd.func74 rfl rfl rfl .nil (fun w hw hA => f74_spec (BitVec.ofInt 64 (s + 1)) w) rfl (fun g1 hg1 => ?_))
  refine st (g_move rfl) rfl ?_
  refine st (g_extract rfl rfl) rfl ?_
  refine st (g_extract rfl rfl) rfl ?_
  refine st (g_assign rfl) rfl ?_
  refine st (g_assign rfl) rfl ?_
  refine done ?_
  refine th_n ?_
  refine seq ?_
  refine region ?_
  refine st (g_move rfl) rfl ?_
  refine st (g_to64i it_2 it_34 rfl) rfl ?_
  refine sq rfl (o_call Tryd.func74 rfl rfl rfl .nil (fun w hw hA => f74_spec (BitVec.ofInt 64 time) w) rfl (fun g2 hg2 => ?_))
  refine st (g_move rfl) rfl ?_
  refine st (g_extract rfl rfl) rfl ?_
  refine st (g_extract rfl rfl) rfl ?_
  refine st (g_assign rfl) rfl ?_
  refine st (g_assign rfl) rfl ?_
  refine done ?_
  refine th_n ?_
  refine seq ?_
  refine region ?_
  refine st (g_move rfl) rfl ?_
  refine st (g_move rfl) rfl ?_
  refine sq rfl (o_append (n := 8) (m := 8) (news := (be8 (BitVec.ofInt 64 time)).map B8) un_23 zr_5 sz_5 rfl bt_5 (by decide) rfl rfl (.there (.here)) rfl (RdA.vec .here) oneB8 hg2.1 (by decide) (by decide) rfl (fun q1 cap1 hq1 hc1 hq01 => ?_))
  refine st (g_assign rfl) rfl ?_
  refine done ?_
  refine th_n ?_
  refine seq ?_
  refine region ?_
  refine st (g_move rfl) rfl ?_
  refine sq rfl (o_buildSlice1 (vs := (List.replicate 8 (0 : UInt8)).map B8) un_23 zr_5 sz_5 (by decide) (by decide) rfl rfl rfl oneB8 rfl (fun b54 => ?_))
  refine sq rfl (o_append (n := 16) (m := 8) (news := (List.replicate 8 (0 : UInt8)).map B8) un_23 zr_5 sz_5 rfl bt_5 (by decide) rfl rfl (.there (.here)) rfl (RdA.own .here (fun j v hj => by rw [Nat.zero_add]; exact hj)) oneB8 nofun (by decide) (by decide) rfl (fun q2 cap2 hq2 hc2 hq02 => ?_))
  rw [← List.map_append, ← List.map_append, show be8 (BitVec.ofInt 64 (s + 1)) ++ be8 (BitVec.ofInt 64 time) ++ List.replicate 8 0 = recD (s + 1) time from rfl]
  refine st (g_assign rfl) rfl ?_
  refine done ?_
  refine th_n ?_
  refine seq ?_
  refine region ?_
  refine st (g_move rfl) rfl ?_
  refine st (g_nilCheck rfl) rfl ?_
  refine st (g_fieldAddr fo_81_0 rfl rfl) rfl ?_
  refine st (g_load (v := .pointer (some ⟨b, 0, none⟩)) sc_51 rfl (Cell.own (.there (.there (.there (.here)))) rfl)) rfl ?_
  refine st (g_move rfl) rfl ?_
  refine sq rfl (o_call Tryd.func38 rfl rfl rfl (.cons (.there (.there (.there (.there (.here))))) (.cons (.there (.there (.there (.there (.here))))) (.cons (.there (.there (.there (.there (.here))))) (.cons (.there (.there (.there (.there (.here))))) (.cons (.there (.there (.there (.there (.here))))) .nil))))) (fun w hw hA => f38_as b k r q2 24 cap2 (recD (s + 1) time) rfl hq02 hc2 hsv w hA (RdS.ofVec hw (.cons (.there (.there (.there (.there (.here))))) (.cons (.there (.there (.there (.there (.here))))) (.cons (.there (.there (.there (.there (.here))))) (.cons (.there (.there (.there (.there (.here))))) (.cons (.there (.there (.there (.there (.here))))) .nil))))) .here) hk hro) rfl (fun ⟨y2, r2⟩ hx2 => ?_))
  refine st (g_move rfl) rfl ?_
  refine st (g_extract rfl rfl) rfl ?_
  refine st (g_extract rfl rfl) rfl ?_
  refine sq rfl (o_alloc (zs := [U64 0#64, .slice none 0 0]) zr_73 rfl (fun b13 => ?_))
  refine sq rfl (o_storeA (cs' := ldv L y2) sz_73 rfl rfl rfl (by simp [ldv]; exact ⟨rfl, rfl⟩) .here (Nat.le_of_ble_eq_true rfl) rfl ?_)
  refine st (g_assign rfl) rfl ?_
  refine done ?_
  refine th_n ?_
  refine seq ?_
  refine seq ?_
  refine region ?_
  refine st (g_move rfl) rfl ?_
  refine st (g_F rfl rfl rfl (fun h => h h4)) rfl ?_
  refine done ?_
  refine th_n ?_
  refine condF rfl ?_
  refine skip ?_
  refine th_n ?_
  refine seq ?_
  refine region ?_
  refine st (g_move rfl) rfl ?_
  refine st (g_nilCheck rfl) rfl ?_
  refine st (g_fieldAddr fo_81_1 rfl rfl) rfl ?_
  refine st (g_load (v := I64 s) sc_2 rfl (Cell.own (.there (.there (.there (.there (.there (.there (.there (.there (.there (.there (.here))))))))))) rfl)) rfl ?_
  refine st (g_iadd (c := (s + 1)) rfl rfl (by omega) (by omega) (by omega)) rfl ?_
  refine st (g_nilCheck rfl) rfl ?_
  refine st (g_fieldAddr fo_81_1 rfl rfl) rfl ?_
  refine sq rfl (o_store (cs' := ryC b (s + 1) t) sz_2 rfl rfl rfl (.there (.there (.there (.there (.there (.there (.there (.there (.there (.there (.here))))))))))) (Nat.le_of_ble_eq_true rfl) rfl ?_)
  refine done ?_
  refine th_n ?_
  refine seq ?_
  refine region ?_
  refine st (g_move rfl) rfl ?_
  refine st (g_move rfl) rfl ?_
  refine st (g_nilCheck rfl) rfl ?_
  refine st (g_fieldAddr fo_81_2 rfl rfl) rfl ?_
  refine sq rfl (o_store (cs' := ryC b (s + 1) time) sz_2 rfl rfl rfl .here (Nat.le_of_ble_eq_true rfl) rfl ?_)
  refine done ?_
  refine th_n ?_
  refine seq ?_
  refine regionQ mixed (by decide +kernel) (by decide +kernel) ?_
  refine Dr.st (g_move rfl) rfl ?_
  refine Dr.st (g_nilCheck rfl) rfl ?_
  refine Dr.st (g_fieldAddr fo_81_1 rfl rfl) rfl ?_
  refine Dr.st (g_load (v := I64 (s + 1)) sc_2 rfl (Cell.own .here rfl)) rfl ?_
  refine Dr.st (g_move rfl) rfl ?_
  refine Dr.st (g_nilCheck rfl) rfl ?_
  refine Dr.st (g_fieldAddr fo_81_2 rfl rfl) rfl ?_
  refine Dr.st (g_load (v := I64 time) sc_2 rfl (Cell.own .here rfl)) rfl ?_
  refine Dr.st (g_assign rfl) rfl ?_
  refine Dr.st (g_assign rfl) rfl ?_
  refine Dr.st (g_assign rfl) rfl ?_
  refine Dr.nil ?_
  refine th_n ?_
  refine ret ?_
  exact ret3 rfl rfl rfl rfl rfl (fun w2 hw2 => ⟨r2, hx2.2, rfl, Sat.left (hw2.split (A := [_, _, _, _, _, _]) (.cons .here (.cons (.there (.there (.here))) (.cons (.there (.there (.here))) (.cons (.there (.there (.here))) (.cons (.there (.there (.here))) (.cons (.there (.there (.here))) .nil)))))))⟩)

theorem f32_errF (x b : Nat) (k : Dk) (hk : k.ok) (r : Rr) (hro : r.ok k) (s t time : Int) (hs : 0 ≤ s) (hs2 : s ≤ 9223372036854775807) (ht : 0 ≤ t) (ht2 : t ≤ 253402300799999) (h1 : ¬ time < 0) (h2 : ¬ time > 253402300799999) (h3 : ¬ s = 9223372036854775807) (hgt : ¬ t < time) {L : Ld} {k' : Dk} (hsv : k.save (recD (s + 1) t) = (L, k')) (h4 : L.w ≠ 0) (w : World) (hA : Sat w (fps (ryB x b s t :: rkR b k r)) (ryB x b s t :: rkR b k r) w) : Calls Tryd.prog 32 [.pointer (some ⟨x, 0, none⟩), I64 time].toArray w (fun en w2 => ∃ r2 : Rr, r2.ok k' ∧ en = .returned (.tuple #[I64 0, I64 0, I64 L.w]) ∧ Sat w (fps (ryB x b s t :: rkR b k r)) (ryB x b s t :: rkR b k' r2) w2) := by
  refine used hk (used hro (used hs (used hs2 (used ht (used ht2 (used h1 (used h2 (used h3 (used hgt (used hsv (used h4 (used hA (?_)))))))))))))
  refine enter (n := 87) Tryd.func32 rfl rfl rfl hA ?_
  refine seq ?_
  refine region ?_
  refine st (g_assign rfl) rfl ?_
  refine st (g_assign rfl) rfl ?_
  refine st (g_assign rfl) rfl ?_
  refine done ?_
  refine th_n ?_
  refine seq ?_
  refine seq ?_
  refine region ?_
  refine st (g_move rfl) rfl ?_
  refine st (g_F rfl rfl rfl (by omega)) rfl ?_
  refine st (g_move rfl) rfl ?_
  refine gt rfl ?_
  refine st (g_move rfl) rfl ?_
  refine gt rfl ?_
  refine st (g_F rfl rfl rfl (by omega)) rfl ?_
  refine st (g_pickF rfl rfl) rfl ?_
  refine done ?_
  refine th_n ?_
  refine condF rfl ?_
  refine skip ?_
  refine th_n ?_
  refine seq ?_
  refine seq ?_
  refine region ?_
  refine st (g_move rfl) rfl ?_
  refine st (g_nilCheck rfl) rfl ?_
  refine st (g_fieldAddr fo_81_1 rfl rfl) rfl ?_
  refine st (g_load (v := I64 s) sc_2 rfl (Cell.own .here rfl)) rfl ?_
  refine st (g_F rfl rfl rfl (by omega)) rfl ?_
  refine done ?_
  refine th_n ?_
  refine condF rfl ?_
  refine skip ?_
  refine th_n ?_
  refine seq ?_
  refine region ?_
  refine st (g_move rfl) rfl ?_
  refine st (g_nilCheck rfl) rfl ?_
  refine st (g_fieldAddr fo_81_2 rfl rfl) rfl ?_
  refine st (g_load (v := I64 t) sc_2 rfl (Cell.own .here rfl)) rfl ?_
  refine st (g_assign rfl) rfl ?_
  refine done ?_
  refine th_n ?_
  refine seq ?_
  refine seq ?_
  refine region ?_
  refine st (g_move rfl) rfl ?_
  refine st (g_move rfl) rfl ?_
  refine st (g_F rfl rfl rfl (by omega)) rfl ?_
  refine done ?_
  refine th_n ?_
  refine condF rfl ?_
  refine skip ?_
  refine th_n ?_
  refine seq ?_
  refine region ?_
  refine st (g_move rfl) rfl ?_
  refine st (g_nilCheck rfl) rfl ?_
  refine st (g_fieldAddr fo_81_1 rfl rfl) rfl ?_
  refine st (g_load (v := I64 s) sc_2 rfl (Cell.own .here rfl)) rfl ?_
  refine st (g_iadd (c := (s + 1)) rfl rfl (by omega) (by omega) (by omega)) rfl ?_
  refine st (g_to64i it_2 it_34 rfl) rfl ?_
  refine sq rfl (o_call Tryd.func74 rfl rfl rfl .nil (fun w hw hA => f74_spec (BitVec.ofInt 64 (s + 1)) w) rfl (fun g1 hg1 => ?_))
  refine st (g_move rfl) rfl ?_
  refine st (g_extract rfl rfl) rfl ?_
  refine st (g_extract rfl rfl) rfl ?_
  refine st (g_assign rfl) rfl ?_
  refine st (g_assign rfl) rfl ?_
  refine done ?_
  refine th_n ?_
  refine seq ?_
  refine region ?_
  refine st (g_move rfl) rfl ?_
  refine st (g_to64i it_2 it_34 rfl) rfl ?_
  refine sq rfl (o_call Tryd.func74 rfl rfl rfl .nil (fun w hw hA => f74_spec (BitVec.ofInt 64 t) w) rfl (fun g2 hg2 => ?_))
  refine st (g_move rfl) rfl ?_
  refine st (g_extract rfl rfl) rfl ?_
  refine st (g_extract rfl rfl) rfl ?_
  refine st (g_assign rfl) rfl ?_
  refine st (g_assign rfl) rfl ?_
  refine done ?_
  refine th_n ?_
  refine seq ?_
  refine region ?_
  refine st (g_move rfl) rfl ?_
  refine st (g_move rfl) rfl ?_
  refine sq rfl (o_append (n := 8) (m := 8) (news := (be8 (BitVec.ofInt 64 t)).map B8) un_23 zr_5 sz_5 rfl bt_5 (by decide) rfl rfl (.there (.here)) rfl (RdA.vec .here) oneB8 hg2.1 (by decide) (by decide) rfl (fun q1 cap1 hq1 hc1 hq01 => ?_))
  refine st (g_assign rfl) rfl ?_
  refine done ?_
  refine th_n ?_
  refine seq ?_
  refine region ?_
  refine st (g_move rfl) rfl ?_
  refine sq rfl (o_buildSlice1 (vs := (List.replicate 8 (0 : UInt8)).map B8) un_23 zr_5 sz_5 (by decide) (by decide) rfl rfl rfl oneB8 rfl (fun b54 => ?_))
  refine sq rfl (o_append (n := 16) (m := 8) (news := (List.replicate 8 (0 : UInt8)).map B8) un_23 zr_5 sz_5 rfl bt_5 (by decide) rfl rfl (.there (.here)) rfl (RdA.own .here (fun j v hj => by rw [Nat.zero_add]; exact hj)) oneB8 nofun (by decide) (by decide) rfl (fun q2 cap2 hq2 hc2 hq02 => ?_))
  rw [← List.map_append, ← List.map_append, show be8 (BitVec.ofInt 64 (s + 1)) ++ be8 (BitVec.ofInt 64 t) ++ List.replicate 8 0 = recD (s + 1) t from rfl]
  refine st (g_assign rfl) rfl ?_
  refine done ?_
  refine th_n ?_
  refine seq ?_
  refine region ?_
  refine st (g_move rfl) rfl ?_
  refine st (g_nilCheck rfl) rfl ?_
  refine st (g_fieldAddr fo_81_0 rfl rfl) rfl ?_
  refine st (g_load (v := .pointer (some ⟨b, 0, none⟩)) sc_51 rfl (Cell.own (.there (.there (.there (.here)))) rfl)) rfl ?_
  refine st (g_move rfl) rfl ?_
  refine sq rfl (o_call Tryd.func38 rfl rfl rfl (.cons (.there (.there (.there (.there (.here))))) (.cons (.there (.there (.there (.there (.here))))) (.cons (.there (.there (.there (.there (.here))))) (.cons (.there (.there (.there (.there (.here))))) (.cons (.there (.there (.there (.there (.here))))) .nil))))) (fun w hw hA => f38_as b k r q2 24 cap2 (recD (s + 1) t) rfl hq02 hc2 hsv w hA (RdS.ofVec hw (.cons (.there (.there (.there (.there (.here))))) (.cons (.there (.there (.there (.there (.here))))) (.cons (.there (.there (.there (.there (.here))))) (.cons (.there (.there (.there (.there (.here))))) (.cons (.there (.there (.there (.there (.here))))) .nil))))) .here) hk hro) rfl (fun ⟨y2, r2⟩ hx2 => ?_))
  refine st (g_move rfl) rfl ?_
  refine st (g_extract rfl rfl) rfl ?_
  refine st (g_extract rfl rfl) rfl ?_
  refine sq rfl (o_alloc (zs := [U64 0#64, .slice none 0 0]) zr_73 rfl (fun b13 => ?_))
  refine sq rfl (o_storeA (cs' := ldv L y2) sz_73 rfl rfl rfl (by simp [ldv]; exact ⟨rfl, rfl⟩) .here (Nat.le_of_ble_eq_true rfl) rfl ?_)
  refine st (g_assign rfl) rfl ?_
  refine done ?_
  refine th_n ?_
  refine seq ?_
  refine seq ?_
  refine region ?_
  refine st (g_move rfl) rfl ?_
  refine st (g_T rfl rfl rfl (h4)) rfl ?_
  refine done ?_
  refine th_n ?_
  refine condT rfl ?_
  refine seq ?_
  refine region ?_
  refine st (g_move rfl) rfl ?_
  refine st (g_assign rfl) rfl ?_
  refine st (g_assign rfl) rfl ?_
  refine st (g_assign rfl) rfl ?_
  refine done ?_
  refine th_n ?_
  refine ret ?_
  refine th_r ?_
  exact ret3 rfl rfl rfl rfl rfl (fun w2 hw2 => ⟨r2, hx2.2, rfl, Sat.left (hw2.split (A := [_, _, _, _, _, _]) (.cons (.there (.there (.there (.there (.there (.there (.there (.there (.there (.there (.here))))))))))) (.cons (.there (.there (.here))) (.cons (.there (.there (.here))) (.cons (.there (.there (.here))) (.cons (.there (.there (.here))) (.cons (.there (.there (.here))) .nil)))))))⟩)

theorem f32_okF (x b : Nat) (k : Dk) (hk : k.ok) (r : Rr) (hro : r.ok k) (s t time : Int) (hs : 0 ≤ s) (hs2 : s ≤ 9223372036854775807) (ht : 0 ≤ t) (ht2 : t ≤ 253402300799999) (h1 : ¬ time < 0) (h2 : ¬ time > 253402300799999) (h3 : ¬ s = 9223372036854775807) (hgt : ¬ t < time) {L : Ld} {k' : Dk} (hsv : k.save (recD (s + 1) t) = (L, k')) (h4 : L.w = 0) (w : World) (hA : Sat w (fps (ryB x b s t :: rkR b k r)) (ryB x b s t :: rkR b k r) w) : Calls Tryd.prog 32 [.pointer (some ⟨x, 0, none⟩), I64 time].toArray w (fun en w2 => ∃ r2 : Rr, r2.ok k' ∧ en = .returned (.tuple #[I64 (s + 1), I64 t, I64 0]) ∧ Sat w (fps (ryB x b s t :: rkR b k r)) (ryB x b (s + 1) t :: rkR b k' r2) w2) := by
  refine used hk (used hro (used hs (used hs2 (used ht (used ht2 (used h1 (used h2 (used h3 (used hgt (used hsv (used h4 (used hA (?_)))))))))))))
  refine enter (n := 87) Tryd.func32 rfl rfl rfl hA ?_
  refine seq ?_
  refine region ?_
  refine st (g_assign rfl) rfl ?_
  refine st (g_assign rfl) rfl ?_
  refine st (g_assign rfl) rfl ?_
  refine done ?_
  refine th_n ?_
  refine seq ?_
  refine seq ?_
  refine region ?_
  refine st (g_move rfl) rfl ?_
  refine st (g_F rfl rfl rfl (by omega)) rfl ?_
  refine st (g_move rfl) rfl ?_
  refine gt rfl ?_
  refine st (g_move rfl) rfl ?_
  refine gt rfl ?_
  refine st (g_F rfl rfl rfl (by omega)) rfl ?_
  refine st (g_pickF rfl rfl) rfl ?_
  refine done ?_
  refine th_n ?_
  refine condF rfl ?_
  refine skip ?_
  refine th_n ?_
  refine seq ?_
  refine seq ?_
  refine region ?_
  refine st (g_move rfl) rfl ?_
  refine st (g_nilCheck rfl) rfl ?_
  refine st (g_fieldAddr fo_81_1 rfl rfl) rfl ?_
  refine st (g_load (v := I64 s) sc_2 rfl (Cell.own .here rfl)) rfl ?_
  refine st (g_F rfl rfl rfl (by omega)) rfl ?_
  refine done ?_
  refine th_n ?_
  refine condF rfl ?_
  refine skip ?_
  refine th_n ?_
  refine seq ?_
  refine region ?_
  refine st (g_move rfl) rfl ?_
  refine st (g_nilCheck rfl) rfl ?_
  refine st (g_fieldAddr fo_81_2 rfl rfl) rfl ?_
  refine st (g_load (v := I64 t) sc_2 rfl (Cell.own .here rfl)) rfl ?_
  refine st (g_assign rfl) rfl ?_
  refine done ?_
  refine th_n ?_
  refine seq ?_
  refine seq ?_
  refine region ?_
  refine st (g_move rfl) rfl ?_
  refine st (g_move rfl) rfl ?_
  refine st (g_F rfl rfl rfl (by omega)) rfl ?_
  refine done ?_
  refine th_n ?_
  refine condF rfl ?_
  refine skip ?_
  refine th_n ?_
  refine seq ?_
  refine region ?_
  refine st (g_move rfl) rfl ?_
  refine st (g_nilCheck rfl) rfl ?_
  refine st (g_fieldAddr fo_81_1 rfl rfl) rfl ?_
  refine st (g_load (v := I64 s) sc_2 rfl (Cell.own .here rfl)) rfl ?_
  refine st (g_iadd (c := (s + 1)) rfl rfl (by omega) (by omega) (by omega)) rfl ?_
  refine st (g_to64i it_2 it_34 rfl) rfl ?_
  refine sq rfl (o_call Tryd.func74 rfl rfl rfl .nil (fun w hw hA => f74_spec (BitVec.ofInt 64 (s + 1)) w) rfl (fun g1 hg1 => ?_))
  refine st (g_move rfl) rfl ?_
  refine st (g_extract rfl rfl) rfl ?_
  refine st (g_extract rfl rfl) rfl ?_
  refine st (g_assign rfl) rfl ?_
  refine st (g_assign rfl) rfl ?_
  refine done ?_
  refine th_n ?_
  refine seq ?_
  refine region ?_
  refine st (g_move rfl) rfl ?_
  refine st (g_to64i it_2 it_34 rfl) rfl ?_
  refine sq rfl (o_call Tryd.func74 rfl rfl rfl .nil (fun w hw hA => f74_spec (BitVec.ofInt 64 t) w) rfl (fun g2 hg2 => ?_))
  refine st (g_move rfl) rfl ?_
  refine st (g_extract rfl rfl) rfl ?_
  refine st (g_extract rfl rfl) rfl ?_
  refine st (g_assign rfl) rfl ?_
  refine st (g_assign rfl) rfl ?_
  refine done ?_
  refine th_n ?_
  refine seq ?_
  refine region ?_
  refine st (g_move rfl) rfl ?_
  refine st (g_move rfl) rfl ?_
  refine sq rfl (o_append (n := 8) (m := 8) (news := (be8 (BitVec.ofInt 64 t)).map B8) un_23 zr_5 sz_5 rfl bt_5 (by decide) rfl rfl (.there (.here)) rfl (RdA.vec .here) oneB8 hg2.1 (by decide) (by decide) rfl (fun q1 cap1 hq1 hc1 hq01 => ?_))
  refine st (g_assign rfl) rfl ?_
  refine done ?_
  refine th_n ?_
  refine seq ?_
  refine region ?_
  refine st (g_move rfl) rfl ?_
  refine sq rfl (o_buildSlice1 (vs := (List.replicate 8 (0 : UInt8)).map B8) un_23 zr_5 sz_5 (by decide) (by decide) rfl rfl rfl oneB8 rfl (fun b54 => ?_))
  refine sq rfl (o_append (n := 16) (m := 8) (news := (List.replicate 8 (0 : UInt8)).map B8) un_23 zr_5 sz_5 rfl bt_5 (by decide) rfl rfl (.there (.here)) rfl (RdA.own .here (fun j v hj => by rw [Nat.zero_add]; exact hj)) oneB8 nofun (by decide) (by decide) rfl (fun q2 cap2 hq2 hc2 hq02 => ?_))
  rw [← List.map_append, ← List.map_append, show be8 (BitVec.ofInt 64 (s + 1)) ++ be8 (BitVec.ofInt 64 t) ++ List.replicate 8 0 = recD (s + 1) t from rfl]
  refine st (g_assign rfl) rfl ?_
  refine done ?_
  refine th_n ?_
  refine seq ?_
  refine region ?_
  refine st (g_move rfl) rfl ?_
  refine st (g_nilCheck rfl) rfl ?_
  refine st (g_fieldAddr fo_81_0 rfl rfl) rfl ?_
  refine st (g_load (v := .pointer (some ⟨b, 0, none⟩)) sc_51 rfl (Cell.own (.there (.there (.there (.here)))) rfl)) rfl ?_
  refine st (g_move rfl) rfl ?_
  refine sq rfl (o_call Tryd.func38 rfl rfl rfl (.cons (.there (.there (.there (.there (.here))))) (.cons (.there (.there (.there (.there (.here))))) (.cons (.there (.there (.there (.there (.here))))) (.cons (.there (.there (.there (.there (.here))))) (.cons (.there (.there (.there (.there (.here))))) .nil))))) (fun w hw hA => f38_as b k r q2 24 cap2 (recD (s + 1) t) rfl hq02 hc2 hsv w hA (RdS.ofVec hw (.cons (.there (.there (.there (.there (.here))))) (.cons (.there (.there (.there (.there (.here))))) (.cons (.there (.there (.there (.there (.here))))) (.cons (.there (.there (.there (.there (.here))))) (.cons (.there (.there (.there (.there (.here))))) .nil))))) .here) hk hro) rfl (fun ⟨y2, r2⟩ hx2 => ?_))
  refine st (g_move rfl) rfl ?_
  refine st (g_extract rfl rfl) rfl ?_
  refine st (g_extract rfl rfl) rfl ?_
  refine sq rfl (o_alloc (zs := [U64 0#64, .slice none 0 0]) zr_73 rfl (fun b13 => ?_))
  refine sq rfl (o_storeA (cs' := ldv L y2) sz_73 rfl rfl rfl (by simp [ldv]; exact ⟨rfl, rfl⟩) .here (Nat.le_of_ble_eq_true rfl) rfl ?_)
  refine st (g_assign rfl) rfl ?_
  refine done ?_
  refine th_n ?_
  refine seq ?_
  refine seq ?_
  refine region ?_
  refine st (g_move rfl) rfl ?_
  refine st (g_F rfl rfl rfl (fun h => h h4)) rfl ?_
  refine done ?_
  refine th_n ?_
  refine condF rfl ?_
  refine skip ?_
  refine th_n ?_
  refine seq ?_
  refine region ?_
  refine st (g_move rfl) rfl ?_
  refine st (g_nilCheck rfl) rfl ?_
  refine st (g_fieldAddr fo_81_1 rfl rfl) rfl ?_
  refine st (g_load (v := I64 s) sc_2 rfl (Cell.own (.there (.there (.there (.there (.there (.there (.there (.there (.there (.there (.here))))))))))) rfl)) rfl ?_
  refine st (g_iadd (c := (s + 1)) rfl rfl (by omega) (by omega) (by omega)) rfl ?_
  refine st (g_nilCheck rfl) rfl ?_
  refine st (g_fieldAddr fo_81_1 rfl rfl) rfl ?_
  refine sq rfl (o_store (cs' := ryC b (s + 1) t) sz_2 rfl rfl rfl (.there (.there (.there (.there (.there (.there (.there (.there (.there (.there (.here))))))))))) (Nat.le_of_ble_eq_true rfl) rfl ?_)
  refine done ?_
  refine th_n ?_
  refine seq ?_
  refine region ?_
  refine st (g_move rfl) rfl ?_
  refine st (g_move rfl) rfl ?_
  refine st (g_nilCheck rfl) rfl ?_
  refine st (g_fieldAddr fo_81_2 rfl rfl) rfl ?_
  refine sq rfl (o_store (cs' := ryC b (s + 1) t) sz_2 rfl rfl rfl .here (Nat.le_of_ble_eq_true rfl) rfl ?_)
  refine done ?_
  refine th_n ?_
  refine seq ?_
  refine regionQ mixed (by decide +kernel) (by decide +kernel) ?_
  refine Dr.st (g_move rfl) rfl ?_
  refine Dr.st (g_nilCheck rfl) rfl ?_
  refine Dr.st (g_fieldAddr fo_81_1 rfl rfl) rfl ?_
  refine Dr.st (g_load (v := I64 (s + 1)) sc_2 rfl (Cell.own .here rfl)) rfl ?_
  refine Dr.st (g_move rfl) rfl ?_
  refine Dr.st (g_nilCheck rfl) rfl ?_
  refine Dr.st (g_fieldAddr fo_81_2 rfl rfl) rfl ?_
  refine Dr.st (g_load (v := I64 t) sc_2 rfl (Cell.own .here rfl)) rfl ?_
  refine Dr.st (g_assign rfl) rfl ?_
  refine Dr.st (g_assign rfl) rfl ?_
  refine Dr.st (g_assign rfl) rfl ?_
  refine Dr.nil ?_
  refine th_n ?_
  refine ret ?_
  exact ret3 rfl rfl rfl rfl rfl (fun w2 hw2 => ⟨r2, hx2.2, rfl, Sat.left (hw2.split (A := [_, _, _, _, _, _]) (.cons .here (.cons (.there (.there (.here))) (.cons (.there (.there (.here))) (.cons (.there (.there (.here))) (.cons (.there (.there (.here))) (.cons (.there (.there (.here))) .nil)))))))⟩)

theorem f32_spec (x b : Nat) (k : Dk) (hk : k.ok) (r : Rr) (hro : r.ok k) (s t time : Int) (hs : 0 ≤ s) (hs2 : s ≤ 9223372036854775807) (ht : 0 ≤ t) (ht2 : t ≤ 253402300799999) {a c e : Int} {k2 : Dk} {s2 t2 : Int} (hz : k.resv s t time = ((a, c, e), k2, (s2, t2))) (w : World) (hA : Sat w (fps (ryB x b s t :: rkR b k r)) (ryB x b s t :: rkR b k r) w) : Calls Tryd.prog 32 [.pointer (some ⟨x, 0, none⟩), I64 time].toArray w (fun en w2 => ∃ r2 : Rr, r2.ok k2 ∧ en = .returned (.tuple #[I64 a, I64 c, I64 e]) ∧ Sat w (fps (ryB x b s t :: rkR b k r)) (ryB x b s2 t2 :: rkR b k2 r2) w2) := by
  unfold Dk.resv at hz
  by_cases h1 : time < 0
  · rw [if_pos (.inl h1)] at hz; cases hz
    exact f32_low x b k hk r hro s t time hs hs2 ht ht2 h1 w hA
  · by_cases h2 : time > 253402300799999
    · rw [if_pos (.inr h2)] at hz; cases hz
      exact f32_high x b k hk r hro s t time hs hs2 ht ht2 h1 h2 w hA
    · rw [if_neg (by omega)] at hz
      by_cases h3 : s = 9223372036854775807
      · rw [if_pos h3] at hz; cases hz
        exact f32_max x b k hk r hro s t time hs hs2 ht ht2 h1 h2 h3 w hA
      · rw [if_neg h3] at hz
        by_cases hgt : t < time
        · have el : later t time = time := if_pos hgt
          rw [el] at hz
          by_cases h4 : (k.save (recD (s + 1) time)).1.w = 0
          · rw [if_neg (by simpa using h4)] at hz; cases hz
            exact f32_okT x b k hk r hro s t time hs hs2 ht ht2 h1 h2 h3 hgt rfl h4 w hA
          · rw [if_pos h4] at hz; cases hz
            exact f32_errT x b k hk r hro s t time hs hs2 ht ht2 h1 h2 h3 hgt rfl h4 w hA
        · have el : later t time = t := if_neg hgt
          rw [el] at hz
          by_cases h4 : (k.save (recD (s + 1) t)).1.w = 0
          · rw [if_neg (by simpa using h4)] at hz; cases hz
            exact f32_okF x b k hk r hro s t time hs hs2 ht ht2 h1 h2 h3 hgt rfl h4 w hA
          · rw [if_pos h4] at hz; cases hz
            exact f32_errF x b k hk r hro s t time hs hs2 ht ht2 h1 h2 h3 hgt rfl h4 w hA

end Go.Proofs.YtokhediaibdkjaaDoor

/-! From NH -/
/- Law19's open. (printed by gen1.py) -/
namespace Go.Proofs.YtokhediaibdkjaaDoor
open Go.Pm Go.RowKit
set_option maxRecDepth 100000
theorem f30_ok (b : Nat) (k : Dk) (hk : k.ok) (r : Rp) (hro : r.ok k) (d : Nat) (u : Rr) (huo : u.ok k) (first : Int) {s t : Int} (h : k.open first = (0, s, t)) (w : World) (hA : Sat w (fps (twoR b k r d u)) (twoR b k r d u) w) (hG : Gl w (fps (twoR b k r d u))) : Calls Tryd.prog 30 [.pointer (some ⟨b, 0, none⟩), .pointer (some ⟨d, 0, none⟩), I64 first].toArray w (fun en w2 => ∃ x : Nat × Nat, True ∧ en = .returned (.tuple #[.pointer (some ⟨x.1, 0, none⟩), .pointer (some ⟨x.2, 0, none⟩), .bool true]) ∧ Sat w (fps (twoR b k r d u)) (dyB x.1 b s t :: ryB x.2 d s t :: twoR b k r d u) w2) := by
  refine used hk (used hro (used huo (used h (used hA (used hG (?_))))))
  refine enter (n := 37) Tryd.func30 rfl rfl rfl hA ?_
  refine seq ?_
  refine region ?_
  refine st (g_assign rfl) rfl ?_
  refine st (g_assign rfl) rfl ?_
  refine st (g_assign rfl) rfl ?_
  refine done ?_
  refine th_n ?_
  refine seq ?_
  refine region ?_
  refine st (g_move rfl) rfl ?_
  refine st (g_move rfl) rfl ?_
  refine sq rfl (o_call Tryd.func42 rfl rfl rfl (.cons .here (.cons .here (.cons .here (.cons .here .nil)))) (fun w hw hA => f42_ok b k hk r hro first h w hA (Gl.ofOld (A := dkR b k r) hG hw (.cons .here (.cons .here (.cons .here (.cons .here .nil)))))) rfl (fun x1 _ => ?_))
  refine st (g_move rfl) rfl ?_
  refine st (g_extract rfl rfl) rfl ?_
  refine st (g_extract rfl rfl) rfl ?_
  refine st (g_assign rfl) rfl ?_
  refine st (g_assign rfl) rfl ?_
  refine done ?_
  refine th_n ?_
  refine seq ?_
  refine region ?_
  refine st (g_move rfl) rfl ?_
  refine st (g_move rfl) rfl ?_
  refine sq rfl (o_call Tryd.func71 rfl rfl rfl (.cons (.there (.there (.there (.there (.there (.here)))))) (.cons (.there (.there (.there (.there (.there (.here)))))) (.cons (.there (.there (.there (.there (.there (.here)))))) (.cons (.there (.there (.there (.there (.there (.here)))))) (.cons (.there (.there (.there (.there (.there (.here)))))) .nil))))) (fun w hw hA => f71_ok d k hk u huo first h w hA) rfl (fun x2 _ => ?_))
  refine st (g_move rfl) rfl ?_
  refine st (g_extract rfl rfl) rfl ?_
  refine st (g_extract rfl rfl) rfl ?_
  refine st (g_assign rfl) rfl ?_
  refine st (g_assign rfl) rfl ?_
  refine done ?_
  refine th_n ?_
  refine seq ?_
  refine region ?_
  refine st (g_move rfl) rfl ?_
  refine st (g_move rfl) rfl ?_
  refine st (g_move rfl) rfl ?_
  refine st (g_move rfl) rfl ?_
  refine st (g_T rfl rfl rfl (by decide)) rfl ?_
  refine st (g_move rfl) rfl ?_
  refine gt rfl ?_
  refine st (g_move rfl) rfl ?_
  refine gt rfl ?_
  refine st (g_eqNil pt_54 rfl rfl) rfl ?_
  refine gt rfl ?_
  refine st (g_move rfl) rfl ?_
  refine gt rfl ?_
  refine st (g_F rfl rfl rfl (by decide)) rfl ?_
  refine gt rfl ?_
  refine st (g_eqB bo_4 rfl rfl) rfl ?_
  refine st (g_pickT rfl rfl) rfl ?_
  refine st (g_assign rfl) rfl ?_
  refine st (g_assign rfl) rfl ?_
  refine st (g_assign rfl) rfl ?_
  refine done ?_
  refine th_n ?_
  refine ret ?_
  exact ret3 rfl rfl rfl rfl rfl (fun w2 hw2 => ⟨(x1, x2), trivial, rfl, Sat.left (hw2.split (A := [_, _, _, _, _, _, _, _, _, _, _]) (.cons (.there (.there (.there (.there (.there (.there (.here))))))) (.cons .here (.cons (.there (.there (.there (.there (.there (.here)))))) (.cons (.there (.there (.there (.there (.there (.here)))))) (.cons (.there (.there (.there (.there (.there (.here)))))) (.cons (.there (.there (.there (.there (.there (.here)))))) (.cons .here (.cons .here (.cons .here (.cons .here (.cons .here .nil))))))))))))⟩)

theorem f30_no (b : Nat) (k : Dk) (hk : k.ok) (r : Rp) (hro : r.ok k) (d : Nat) (u : Rr) (huo : u.ok k) (first : Int) {e s t : Int} (h : k.open first = (e, s, t)) (he : e ≠ 0) (w : World) (hA : Sat w (fps (twoR b k r d u)) (twoR b k r d u) w) (hG : Gl w (fps (twoR b k r d u))) : Calls Tryd.prog 30 [.pointer (some ⟨b, 0, none⟩), .pointer (some ⟨d, 0, none⟩), I64 first].toArray w (fun en w2 => ∃ _x : Unit, True ∧ en = .returned (.tuple #[.pointer none, .pointer none, .bool true]) ∧ Sat w (fps (twoR b k r d u)) (twoR b k r d u) w2) := by
  refine used hk (used hro (used huo (used h (used he (used hA (used hG (?_)))))))
  refine enter (n := 37) Tryd.func30 rfl rfl rfl hA ?_
  refine seq ?_
  refine region ?_
  refine st (g_assign rfl) rfl ?_
  refine st (g_assign rfl) rfl ?_
  refine st (g_assign rfl) rfl ?_
  refine done ?_
  refine th_n ?_
  refine seq ?_
  refine region ?_
  refine st (g_move rfl) rfl ?_
  refine st (g_move rfl) rfl ?_
  refine sq rfl (o_call Tryd.func42 rfl rfl rfl (.cons .here (.cons .here (.cons .here (.cons .here .nil)))) (fun w hw hA => f42_no b k hk r hro first h he w hA (Gl.ofOld (A := dkR b k r) hG hw (.cons .here (.cons .here (.cons .here (.cons .here .nil)))))) rfl (fun _ _ => ?_))
  refine st (g_move rfl) rfl ?_
  refine st (g_extract rfl rfl) rfl ?_
  refine st (g_extract rfl rfl) rfl ?_
  refine st (g_assign rfl) rfl ?_
  refine st (g_assign rfl) rfl ?_
  refine done ?_
  refine th_n ?_
  refine seq ?_
  refine region ?_
  refine st (g_move rfl) rfl ?_
  refine st (g_move rfl) rfl ?_
  refine sq rfl (o_call Tryd.func71 rfl rfl rfl (.cons (.there (.there (.there (.there (.here))))) (.cons (.there (.there (.there (.there (.here))))) (.cons (.there (.there (.there (.there (.here))))) (.cons (.there (.there (.there (.there (.here))))) (.cons (.there (.there (.there (.there (.here))))) .nil))))) (fun w hw hA => f71_no d k hk u huo first h he w hA) rfl (fun _ _ => ?_))
  refine st (g_move rfl) rfl ?_
  refine st (g_extract rfl rfl) rfl ?_
  refine st (g_extract rfl rfl) rfl ?_
  refine st (g_assign rfl) rfl ?_
  refine st (g_assign rfl) rfl ?_
  refine done ?_
  refine th_n ?_
  refine seq ?_
  refine region ?_
  refine st (g_move rfl) rfl ?_
  refine st (g_move rfl) rfl ?_
  refine st (g_move rfl) rfl ?_
  refine st (g_move rfl) rfl ?_
  refine st (g_T rfl rfl rfl (rfl)) rfl ?_
  refine st (g_move rfl) rfl ?_
  refine gt rfl ?_
  refine st (g_move rfl) rfl ?_
  refine gt rfl ?_
  refine st (g_eqNil pt_54 rfl rfl) rfl ?_
  refine gt rfl ?_
  refine st (g_move rfl) rfl ?_
  refine gt rfl ?_
  refine st (g_T rfl rfl rfl (he)) rfl ?_
  refine gt rfl ?_
  refine st (g_eqB bo_4 rfl rfl) rfl ?_
  refine st (g_pickT rfl rfl) rfl ?_
  refine st (g_assign rfl) rfl ?_
  refine st (g_assign rfl) rfl ?_
  refine st (g_assign rfl) rfl ?_
  refine done ?_
  refine th_n ?_
  refine ret ?_
  exact ret3 rfl rfl rfl rfl rfl (fun w2 hw2 => ⟨(), trivial, rfl, Sat.left (hw2.split (A := [_, _, _, _, _, _, _, _, _]) (.cons (.there (.there (.there (.there (.there (.here)))))) (.cons (.there (.there (.there (.there (.there (.here)))))) (.cons (.there (.there (.there (.there (.there (.here)))))) (.cons (.there (.there (.there (.there (.there (.here)))))) (.cons .here (.cons .here (.cons .here (.cons .here (.cons .here .nil))))))))))⟩)
end Go.Proofs.YtokhediaibdkjaaDoor

/-! From NI -/
/- Law19's diaries, or none. (printed by gen1.py) -/
namespace Go.Proofs.YtokhediaibdkjaaDoor
open Go.Pm Go.RowKit
set_option maxRecDepth 100000
/-- What lies nowhere. -/
def noR : Res := ⟨[], fun _ => True, fun _ h => h⟩
theorem noR_new {w0 w : World} {S0 : List Nat} {Rs : List Res} (h : Sat w0 S0 Rs w) : Sat w0 S0 (noR :: Rs) w :=
  ⟨h.os, h.tape, h.output, h.size, h.frame, fun R hR => by rcases List.mem_cons.1 hR with rfl | hR; exact trivial; exact h.holds R hR, fun k hk => h.lt k (by simpa [noR] using hk), by simpa [noR] using h.nodup, fun k hk => h.new k (by simpa [noR] using hk)⟩
theorem newDkOk {n m : Nat} (h1 : 1 ≤ n) (h2 : n ≤ 64) (h3 : m ≤ 10000) : (newDk n m).ok := by
  have hl : (newDk n m).stays.length = n := List.length_replicate
  refine ⟨?_, by rw [hl]; exact h1, by rw [hl]; exact h2, ?_, by show m + 0 ≤ 10000; omega, by show 0 < 9223372036854775808; decide, by show 0 ≤ 70368744177664; decide⟩
  · intro x hx
    have : x = zero64 := (List.mem_replicate.1 hx).2
    rw [this]; rfl
  · intro x hx; cases hx
/-- A diary, or none: its serial and time. -/
abbrev Dy := Option (Int × Int)
def dyA (x : Nat) (y : Dy) : Option Addr := y.map fun _ => ⟨x, 0, none⟩
def dyO (x b : Nat) (y : Dy) : Res := match y with | none => noR | some p => dyB x b p.1 p.2
def ryO (x b : Nat) (y : Dy) : Res := match y with | none => noR | some p => ryB x b p.1 p.2
def dyS (y : Dy) : Int := y.elim 0 Prod.fst
def dyT (y : Dy) : Int := y.elim 0 Prod.snd
def dyOk (y : Dy) : Prop := ∀ s t, y = some (s, t) → 0 ≤ s ∧ s ≤ 9223372036854775807 ∧ 0 ≤ t ∧ t ≤ 253402300799999
def opn (z : Int × Int × Int) : Dy := if z.1 = 0 then some (z.2.1, z.2.2) else none
theorem dyA_none {x : Nat} {y : Dy} (h : (dyA x y).isNone = true) : y = none := by
  cases y with
  | none => rfl
  | some p => cases h
theorem dyA_some {x : Nat} {y : Dy} (h : (dyA x y).isNone = false) : ∃ p, y = some p := by
  cases y with
  | none => cases h
  | some p => exact ⟨p, rfl⟩
theorem open_fit {k : Dk} {first : Int} (hf : first ≤ 9223372036854775807) : dyOk (opn (k.open first)) := by
  intro s t h
  rcases open_cases k first with ⟨_, e⟩ | ⟨_, h1, e⟩ | ⟨h0, _, _, e⟩ | ⟨_, _, _, s', t', hr, e⟩ | ⟨_, _, _, _, _, _, e⟩
  · rw [e] at h; exact absurd h (by simp [opn])
  · rw [e] at h; simp only [opn] at h; rw [if_neg h1] at h; cases h
  · rw [e] at h; simp only [opn, if_true, Option.some.injEq, Prod.mk.injEq] at h; obtain ⟨rfl, rfl⟩ := h; omega
  · rw [e] at h; simp only [opn, if_true, Option.some.injEq, Prod.mk.injEq] at h; obtain ⟨rfl, rfl⟩ := h
    obtain ⟨e0, e1, _, rfl, rfl⟩ := readW_yes hr
    omega
  · rw [e] at h; exact absurd h (by simp [opn])
theorem resv_fit {k k2 : Dk} {s t time s2 t2 : Int} {x : Int × Int × Int} (h : dyOk (some (s, t))) (hz : k.resv s t time = (x, k2, (s2, t2))) : dyOk (some (s2, t2)) := by
  obtain ⟨h1, h2, h3, h4⟩ := h s t rfl
  intro s' t' he
  cases he
  unfold Dk.resv at hz
  split at hz
  · cases hz; omega
  · split at hz
    · cases hz; omega
    · split at hz
      · cases hz; omega
      · cases hz
        have := later_ge t time
        have := later_le (t := t) (time := time) h4 (by omega)
        omega
theorem op_row {os : List O19} {i : Nat} {o : O19} (h : os[i]? = some o) : ((opC os).drop (i * 5)).take 5 = o.cells :=
  flat_get (n := 5) (by intro y hy; obtain ⟨z, _, rfl⟩ := List.mem_map.1 hy; rfl) (by rw [List.getElem?_map, h]; rfl)
theorem one59 {o : O19} : ∀ v ∈ o.cells, v.oneCell' = true := by
  intro v hv
  simp only [O19.cells, List.mem_cons, List.not_mem_nil, or_false] at hv
  rcases hv with rfl | rfl | rfl | rfl | rfl <;> rfl
theorem f30_all (b : Nat) (k : Dk) (hk : k.ok) (r : Rp) (hro : r.ok k) (d : Nat) (u : Rr) (huo : u.ok k) (first : Int) (w : World) (hA : Sat w (fps (twoR b k r d u)) (twoR b k r d u) w) (hG : Gl w (fps (twoR b k r d u))) : Calls Tryd.prog 30 [.pointer (some ⟨b, 0, none⟩), .pointer (some ⟨d, 0, none⟩), I64 first].toArray w (fun en w2 => ∃ x : Nat × Nat, True ∧ en = .returned (.tuple #[.pointer (dyA x.1 (opn (k.open first))), .pointer (dyA x.2 (opn (k.open first))), .bool true]) ∧ Sat w (fps (twoR b k r d u)) (dyO x.1 b (opn (k.open first)) :: ryO x.2 d (opn (k.open first)) :: twoR b k r d u) w2) := by
  obtain ⟨⟨e, s, t⟩, hz⟩ : ∃ z, k.open first = z := ⟨_, rfl⟩
  by_cases he : e = 0
  · subst he
    have e1 : opn (k.open first) = some (s, t) := by rw [hz]; rfl
    rw [e1]
    exact f30_ok b k hk r hro d u huo first hz w hA hG
  · have e1 : opn (k.open first) = none := by rw [hz]; exact if_neg he
    rw [e1]
    refine (f30_no b k hk r hro d u huo first hz he w hA hG).mono ?_
    rintro en w2 ⟨_, _, h1, h2⟩
    exact ⟨(0, 0), trivial, h1, noR_new (noR_new h2)⟩
theorem f40_all (x b : Nat) (y : Dy) (w : World) (hA : Sat w (fps [dyO x b y]) [dyO x b y] w) : Calls Tryd.prog 40 [.pointer (dyA x y)].toArray w (fun en w2 => ∃ _x : Unit, True ∧ en = .returned (.tuple #[I64 (dyS y), I64 (dyT y)]) ∧ Sat w (fps [dyO x b y]) [dyO x b y] w2) := by
  cases y with
  | none =>
    refine (f40_nil w).mono ?_
    rintro en w2 ⟨h1, h2⟩
    exact ⟨(), trivial, h1, noR_new h2⟩
  | some p => exact f40_spec x b p.1 p.2 w hA

end Go.Proofs.YtokhediaibdkjaaDoor

/-! From L6 -/
/- The walk of DiaryPlays. (printed by gen1.py) -/
namespace Go.Proofs.YtokhediaibdkjaaDoor
open Go.Pm Go.RowKit
set_option maxRecDepth 100000
theorem f6_great (n m : Int) (first : Int) (hfi : first ≤ 9223372036854775807) (q : Option Addr) (c : Nat) (os : List O19) (hln : os.length ≤ 9223372036854775807) (w : World) (hrq : RdC w q (opC os)) (hg : great19 os = true) : Calls Tryd.prog 6 [I64 n, I64 m, I64 first, .slice q os.length c].toArray w (fun en w2 => en = .returned (.bool true) ∧ Sat w [] [] w2) := by
  refine used hfi (used hln (used hrq (used hg (?_))))
  refine enter (n := 222) Tryd.func6 rfl rfl rfl (Sat.refl w) ?_
  refine seq ?_
  refine region ?_
  refine st (g_assign rfl) rfl ?_
  refine done ?_
  refine th_n ?_
  refine seq ?_
  refine seq ?_
  refine region ?_
  refine st (g_move rfl) rfl ?_
  refine sq rfl (o_callP Tryd.func27 rfl rfl rfl (fun w hw => f27_as q c os hln hg w (RdS.ofOld (A := []) hrq.s hw .nil).c) rfl ?_)
  refine done ?_
  refine th_n ?_
  refine condT rfl ?_
  refine seq ?_
  refine region ?_
  refine st (g_assign rfl) rfl ?_
  refine done ?_
  refine th_n ?_
  refine ret ?_
  refine th_r ?_
  exact ret1 rfl rfl rfl (fun w2 hw2 => ⟨rfl, hw2.clear⟩)

theorem f6_bad (n m : Int) (first : Int) (hfi : first ≤ 9223372036854775807) (q : Option Addr) (c : Nat) (os : List O19) (hln : os.length ≤ 9223372036854775807) (w : World) (hrq : RdC w q (opC os)) (hg : great19 os = false) (hb : n < 1 ∨ n > 64 ∨ m < 0 ∨ m > 10000) : Calls Tryd.prog 6 [I64 n, I64 m, I64 first, .slice q os.length c].toArray w (fun en w2 => en = .returned (.bool true) ∧ Sat w [] [] w2) := by
  refine used hfi (used hln (used hrq (used hg (used hb (?_)))))
  refine enter (n := 222) Tryd.func6 rfl rfl rfl (Sat.refl w) ?_
  refine seq ?_
  refine region ?_
  refine st (g_assign rfl) rfl ?_
  refine done ?_
  refine th_n ?_
  refine seq ?_
  refine seq ?_
  refine region ?_
  refine st (g_move rfl) rfl ?_
  refine sq rfl (o_callP Tryd.func27 rfl rfl rfl (fun w hw => f27_as q c os hln hg w (RdS.ofOld (A := []) hrq.s hw .nil).c) rfl ?_)
  refine done ?_
  refine th_n ?_
  refine condF rfl ?_
  refine skip ?_
  refine th_n ?_
  refine seq ?_
  refine region ?_
  refine st (g_move rfl) rfl ?_
  refine st (g_move rfl) rfl ?_
  refine sq rfl (o_callP Tryd.func28 rfl rfl rfl (fun w hw => f28_bad n m hb w) rfl ?_)
  refine st (g_move rfl) rfl ?_
  refine st (g_extract rfl rfl) rfl ?_
  refine st (g_extract rfl rfl) rfl ?_
  refine st (g_assign rfl) rfl ?_
  refine st (g_assign rfl) rfl ?_
  refine done ?_
  refine th_n ?_
  refine seq ?_
  refine region ?_
  refine st (g_move rfl) rfl ?_
  refine st (g_move rfl) rfl ?_
  refine sq rfl (o_callP Tryd.func29 rfl rfl rfl (fun w hw => f29_bad n m hb w) rfl ?_)
  refine st (g_move rfl) rfl ?_
  refine st (g_extract rfl rfl) rfl ?_
  refine st (g_extract rfl rfl) rfl ?_
  refine st (g_assign rfl) rfl ?_
  refine st (g_assign rfl) rfl ?_
  refine done ?_
  refine th_n ?_
  refine seq ?_
  refine seq ?_
  refine region ?_
  refine st (g_move rfl) rfl ?_
  refine st (g_move rfl) rfl ?_
  refine st (g_F rfl rfl rfl (by decide)) rfl ?_
  refine st (g_move rfl) rfl ?_
  refine gt rfl ?_
  refine st (g_move rfl) rfl ?_
  refine gt rfl ?_
  refine st (g_T rfl rfl rfl (by decide)) rfl ?_
  refine st (g_pickF rfl rfl) rfl ?_
  refine done ?_
  refine th_n ?_
  refine condT rfl ?_
  refine seq ?_
  refine region ?_
  refine st (g_move rfl) rfl ?_
  refine st (g_move rfl) rfl ?_
  refine st (g_T rfl rfl rfl (by decide)) rfl ?_
  refine st (g_assign rfl) rfl ?_
  refine done ?_
  refine th_n ?_
  refine ret ?_
  refine th_r ?_
  exact ret1 rfl rfl rfl (fun w2 hw2 => ⟨rfl, hw2.clear⟩)

theorem f6_good (n m : Nat) (h1 : 1 ≤ n) (h2 : n ≤ 64) (h3 : m ≤ 10000) (first : Int) (hfi : first ≤ 9223372036854775807) (q : Option Addr) (c : Nat) (os : List O19) (hln : os.length ≤ 9223372036854775807) (w : World) (hrq : RdC w q (opC os)) (hok : ∀ o ∈ os, o.ok w) (hfs : ∀ o ∈ os, o.first ≤ 9223372036854775807) (hg : great19 os = false) (hG : Gl w []) : Calls Tryd.prog 6 [I64 n, I64 m, I64 first, .slice q os.length c].toArray w (fun en w2 => en = .returned (.bool true) ∧ Sat w [] [] w2) := by
  obtain ⟨hol, hos⟩ := great_no hg
  refine used h1 (used h2 (used h3 (used hfi (used hln (used hrq (used hok (used hfs (used hg (used hG (?_))))))))))
  refine enter (n := 222) Tryd.func6 rfl rfl rfl (Sat.refl w) ?_
  refine seq ?_
  refine region ?_
  refine st (g_assign rfl) rfl ?_
  refine done ?_
  refine th_n ?_
  refine seq ?_
  refine seq ?_
  refine region ?_
  refine st (g_move rfl) rfl ?_
  refine sq rfl (o_callP Tryd.func27 rfl rfl rfl (fun w hw => f27_as q c os hln hg w (RdS.ofOld (A := []) hrq.s hw .nil).c) rfl ?_)
  refine done ?_
  refine th_n ?_
  refine condF rfl ?_
  refine skip ?_
  refine th_n ?_
  refine seq ?_
  refine region ?_
  refine st (g_move rfl) rfl ?_
  refine st (g_move rfl) rfl ?_
  refine sq rfl (o_call Tryd.func28 rfl rfl rfl .nil (fun w hw hA => f28_spec n m h1 h2 h3 w) rfl (fun ⟨b, r0⟩ hro0 => ?_))
  refine st (g_move rfl) rfl ?_
  refine st (g_extract rfl rfl) rfl ?_
  refine st (g_extract rfl rfl) rfl ?_
  refine st (g_assign rfl) rfl ?_
  refine st (g_assign rfl) rfl ?_
  refine done ?_
  refine th_n ?_
  refine seq ?_
  refine region ?_
  refine st (g_move rfl) rfl ?_
  refine st (g_move rfl) rfl ?_
  refine sq rfl (o_call Tryd.func29 rfl rfl rfl .nil (fun w hw hA => f29_spec n m h1 h2 h3 w) rfl (fun ⟨d, u0⟩ huo0 => ?_))
  refine st (g_move rfl) rfl ?_
  refine st (g_extract rfl rfl) rfl ?_
  refine st (g_extract rfl rfl) rfl ?_
  refine st (g_assign rfl) rfl ?_
  refine st (g_assign rfl) rfl ?_
  refine done ?_
  refine th_n ?_
  refine seq ?_
  refine seq ?_
  refine region ?_
  refine st (g_move rfl) rfl ?_
  refine st (g_move rfl) rfl ?_
  refine st (g_F rfl rfl rfl (by decide)) rfl ?_
  refine st (g_move rfl) rfl ?_
  refine gt rfl ?_
  refine st (g_move rfl) rfl ?_
  refine gt rfl ?_
  refine st (g_F rfl rfl rfl (by decide)) rfl ?_
  refine st (g_pickF rfl rfl) rfl ?_
  refine done ?_
  refine th_n ?_
  refine condF rfl ?_
  refine skip ?_
  refine th_n ?_
  refine seq ?_
  refine region ?_
  refine st (g_move rfl) rfl ?_
  refine st (g_move rfl) rfl ?_
  refine st (g_move rfl) rfl ?_
  refine sq rfl (o_call Tryd.func30 rfl rfl rfl (.cons (.there (.there (.there (.there (.there (.here)))))) (.cons (.there (.there (.there (.there (.there (.here)))))) (.cons (.there (.there (.there (.there (.there (.here)))))) (.cons (.there (.there (.there (.there (.there (.here)))))) (.cons .here (.cons .here (.cons .here (.cons .here (.cons .here .nil))))))))) (fun w hw hA => f30_all b (newDk n m) (newDkOk h1 h2 h3) r0 hro0 d u0 huo0 first w hA (Gl.ofOld hG hw (.cons (.there (.there (.there (.there (.there (.here)))))) (.cons (.there (.there (.there (.there (.there (.here)))))) (.cons (.there (.there (.there (.there (.there (.here)))))) (.cons (.there (.there (.there (.there (.there (.here)))))) (.cons .here (.cons .here (.cons .here (.cons .here (.cons .here .nil))))))))))) rfl (fun ⟨x0, z0⟩ _ => ?_))
  refine st (g_move rfl) rfl ?_
  refine st (g_extract rfl rfl) rfl ?_
  refine st (g_extract rfl rfl) rfl ?_
  refine st (g_extract rfl rfl) rfl ?_
  refine st (g_assign rfl) rfl ?_
  refine st (g_assign rfl) rfl ?_
  refine st (g_assign rfl) rfl ?_
  refine done ?_
  refine th_n ?_
  refine seq ?_
  refine seq ?_
  refine region ?_
  refine st (g_assign rfl) rfl ?_
  refine done ?_
  refine th_n ?_
  refine block ?_
  refine loop (α := Nat × Dk × Dy × Nat × Nat × Rp × Rr) (fun ⟨i, k, y, x, z, r, u⟩ => i ≤ os.length ∧ k.ok ∧ dyOk y ∧ r.ok k ∧ u.ok k) (fun ⟨i, k, y, x, z, r, u⟩ => [(3, .slice q os.length c), (9, .pointer (some ⟨b, 0, none⟩)), (11, .pointer (some ⟨d, 0, none⟩)), (13, .pointer (dyA x y)), (14, .pointer (dyA z y)), (15, .bool true), (16, I64 (i : Nat))]) (fun ⟨i, k, y, x, z, r, u⟩ => [dyO x b y, ryO z d y, dkB b k r, dkS k r, dkW k r, dkC k r, rkB d k u, rkS u, rkW u, rkC k u, poolR u.ps]) (fun ⟨i, k, y, x, z, r, u⟩ => os.length - i) (0, (newDk n m), opn (Dk.open (newDk n m) first), x0, z0, r0, u0) ⟨Nat.zero_le _, newDkOk h1 h2 h3, open_fit hfi, hro0, huo0⟩ ⟨rfl, rfl, rfl, rfl, rfl, rfl, rfl, trivial⟩ (.cons .here (.cons .here (.cons .here (.cons .here (.cons .here (.cons .here (.cons .here (.cons .here (.cons .here (.cons .here (.cons .here .nil))))))))))) (fun ⟨i, k, y, x, z, r, u⟩ ⟨hi, hk, hy, hro, huo⟩ => ?_)
  show At _ [(3, .slice q os.length c), (9, .pointer (some ⟨b, 0, none⟩)), (11, .pointer (some ⟨d, 0, none⟩)), (13, .pointer (dyA x y)), (14, .pointer (dyA z y)), (15, .bool true), (16, I64 (i : Nat))] [dyO x b y, ryO z d y, dkB b k r, dkS k r, dkW k r, dkC k r, rkB d k u, rkS u, rkW u, rkC k u, poolR u.ps] _
  refine seq ?_
  refine seq ?_
  refine region ?_
  refine st (g_move rfl) rfl ?_
  refine st (g_move rfl) rfl ?_
  refine st (g_len el_46 rfl) rfl ?_
  refine sp (g_bin rfl rfl rfl) rfl (fun h68 => ?_) (fun h68 => ?_)
  · have hi2 : i < os.length := by omega
    obtain ⟨o, ho⟩ : ∃ o, os[i]? = some o := ⟨os[i], by simp [hi2]⟩
    have hom := List.mem_of_getElem? ho
    obtain ⟨⟨hsl, hsp, hsc, hsr⟩, hon⟩ := hok o hom
    have hon2 := hos o hom
    have hof := hfs o hom
    have hps : q.isSome = true := hrq.some (op_ne ho)
    refine st (g_move rfl) rfl ?_
    refine gt rfl ?_
    refine st (g_move rfl) rfl ?_
    refine st (g_pickT rfl rfl) rfl ?_
    refine done ?_
    refine th_n ?_
    refine condT rfl ?_
    refine skip ?_
    refine th_n ?_
    refine seq ?_
    refine block ?_
    refine seq ?_
    refine region ?_
    refine st (g_move rfl) rfl ?_
    refine st (g_move rfl) rfl ?_
    refine st (g_indexP (m := i * 5) el_46 rfl rfl (hps) (by omega) (by omega) (by omega)) rfl ?_
    refine st (g_loadAP (p := q) (cs := opC os) (vs := o.cells) ag_59 rfl rfl (by decide) (RdA.of hrq.s) (op_row ho)) rfl ?_
    refine sq rfl (o_alloc (zs := [I64 0, I64 0, I64 0, I64 0, .slice none 0 0]) zr_59 rfl (fun b17 => ?_))
    refine sq rfl (o_storeA (cs' := o.cells) sz_59 rfl rfl rfl one59 .here (Nat.le_of_ble_eq_true rfl) rfl ?_)
    refine done ?_
    refine th_n ?_
    refine seq ?_
    refine cut (α := Dk × Dy × Nat × Nat × Rp × Rr) (fun ⟨k, y, x, z, r, u⟩ => k.ok ∧ dyOk y ∧ r.ok k ∧ u.ok k) (fun ⟨k, y, x, z, r, u⟩ => [(3, .slice q os.length c), (9, .pointer (some ⟨b, 0, none⟩)), (11, .pointer (some ⟨d, 0, none⟩)), (13, .pointer (dyA x y)), (14, .pointer (dyA z y)), (15, .bool true), (16, I64 (i : Nat))]) (fun ⟨k, y, x, z, r, u⟩ => [dyO x b y, ryO z d y, dkB b k r, dkS k r, dkW k r, dkC k r, rkB d k u, rkS u, rkW u, rkC k u, poolR u.ps]) ?_ ?_
    · refine seq ?_
      refine region ?_
      refine st (g_fieldAddr fo_59_0 rfl rfl) rfl ?_
      refine st (g_load (v := I64 o.kind) sc_3 rfl (Cell.own .here rfl)) rfl ?_
      refine done ?_
      refine th_n ?_
      refine block ?_
      refine seq ?_
      refine region ?_
      refine sp (g_bin rfl rfl rfl) rfl (fun hk0 => ?_) (fun hk0 => ?_)
      · refine st (g_assign rfl) rfl ?_
        refine done ?_
        refine th_n ?_
        refine condT rfl ?_
        refine seq ?_
        refine seq ?_
        refine region ?_
        refine st (g_move rfl) rfl ?_
        refine st (g_eqNil pt_55 rfl rfl) rfl ?_
        refine done ?_
        refine th_n ?_
        refine condS rfl (fun h83 => ?_) (fun h83 => ?_)
        · try simp only [decide_eq_true_eq] at h83
          obtain rfl := dyA_none h83
          refine seq ?_
          refine region ?_
          refine st (g_move rfl) rfl ?_
          refine st (g_fieldAddr fo_59_1 rfl rfl) rfl ?_
          refine st (g_load (v := I64 o.time) sc_2 rfl (Cell.own .here rfl)) rfl ?_
          refine sq rfl (o_callP Tryd.func31 rfl rfl rfl (fun w hw => f31_nil o.time w) rfl ?_)
          refine st (g_move rfl) rfl ?_
          refine st (g_extract rfl rfl) rfl ?_
          refine st (g_extract rfl rfl) rfl ?_
          refine st (g_extract rfl rfl) rfl ?_
          refine st (g_assign rfl) rfl ?_
          refine st (g_assign rfl) rfl ?_
          refine st (g_assign rfl) rfl ?_
          refine done ?_
          refine th_n ?_
          refine seq ?_
          refine region ?_
          refine st (g_move rfl) rfl ?_
          refine st (g_T rfl rfl rfl (by decide)) rfl ?_
          refine st (g_assign rfl) rfl ?_
          refine done ?_
          refine th_n ?_
          refine exitc ?_
          refine th_x ?_
          refine ib_y rfl ?_
          refine th_x ?_
          refine ib_x ?_
          refine th_n ?_
          refine region ?_
          refine st (g_move rfl) rfl ?_
          refine st (g_iadd (c := ((i + 1 : Nat) : Int)) rfl rfl (by omega) (by omega) (by omega)) rfl ?_
          refine st (g_assign rfl) rfl ?_
          refine done ?_
          refine th_n ?_
          exact again (i + 1, k, none, x, z, r, u) ⟨by omega, hk, hy, hro, huo⟩ (by show os.length - (i + 1) < os.length - i; omega) ⟨rfl, rfl, rfl, rfl, rfl, rfl, rfl, trivial⟩ (.cons (.there (.here)) (.cons (.there (.here)) (.cons (.there (.here)) (.cons (.there (.here)) (.cons (.there (.here)) (.cons (.there (.here)) (.cons (.there (.here)) (.cons (.there (.here)) (.cons (.there (.here)) (.cons (.there (.here)) (.cons (.there (.here)) .nil)))))))))))
        · try simp only [decide_eq_false_iff_not] at h83
          obtain ⟨⟨s, t⟩, rfl⟩ := dyA_some h83
          obtain ⟨hs0, hs1, ht0, ht1⟩ := hy s t rfl
          obtain ⟨⟨⟨a, c2, e⟩, k2, s2, t2⟩, hres⟩ : ∃ z, k.resv s t o.time = z := ⟨_, rfl⟩
          have hk2 : k2.ok := by
            have h1 := Dk.resv_ok hk s t o.time
            rw [hres] at h1
            exact h1
          refine skip ?_
          refine th_n ?_
          refine seq ?_
          refine region ?_
          refine st (g_move rfl) rfl ?_
          refine st (g_fieldAddr fo_59_1 rfl rfl) rfl ?_
          refine st (g_load (v := I64 o.time) sc_2 rfl (Cell.own .here rfl)) rfl ?_
          refine sq rfl (o_call Tryd.func31 rfl rfl rfl (.cons (.there (.here)) (.cons (.there (.there (.here))) (.cons (.there (.there (.here))) (.cons (.there (.there (.here))) (.cons (.there (.there (.here))) .nil))))) (fun w hw hA => f31_spec x b k hk r hro s t o.time hs0 hs1 ht0 ht1 hres w hA (Gl.ofOld (A := dyB x b s t :: dkR b k r) hG hw (.cons (.there (.here)) (.cons (.there (.there (.here))) (.cons (.there (.there (.here))) (.cons (.there (.there (.here))) (.cons (.there (.there (.here))) .nil))))))) rfl (fun r2 hr2 => ?_))
          refine st (g_move rfl) rfl ?_
          refine st (g_extract rfl rfl) rfl ?_
          refine st (g_extract rfl rfl) rfl ?_
          refine st (g_extract rfl rfl) rfl ?_
          refine st (g_assign rfl) rfl ?_
          refine st (g_assign rfl) rfl ?_
          refine st (g_assign rfl) rfl ?_
          refine done ?_
          refine th_n ?_
          refine seq ?_
          refine region ?_
          refine st (g_move rfl) rfl ?_
          refine st (g_fieldAddr fo_59_1 rfl rfl) rfl ?_
          refine st (g_load (v := I64 o.time) sc_2 rfl (Cell.own (.there (.there (.there (.there (.there (.here)))))) rfl)) rfl ?_
          refine sq rfl (o_call Tryd.func32 rfl rfl rfl (.cons (.there (.there (.there (.there (.there (.there (.here))))))) (.cons (.there (.there (.there (.there (.there (.there (.here))))))) (.cons (.there (.there (.there (.there (.there (.there (.here))))))) (.cons (.there (.there (.there (.there (.there (.there (.here))))))) (.cons (.there (.there (.there (.there (.there (.there (.here))))))) (.cons (.there (.there (.there (.there (.there (.there (.here))))))) .nil)))))) (fun w hw hA => f32_spec z d k hk u huo s t o.time hs0 hs1 ht0 ht1 hres w hA) rfl (fun u2 hu2 => ?_))
          refine st (g_move rfl) rfl ?_
          refine st (g_extract rfl rfl) rfl ?_
          refine st (g_extract rfl rfl) rfl ?_
          refine st (g_extract rfl rfl) rfl ?_
          refine st (g_assign rfl) rfl ?_
          refine st (g_assign rfl) rfl ?_
          refine st (g_assign rfl) rfl ?_
          refine done ?_
          refine th_n ?_
          refine region ?_
          refine st (g_move rfl) rfl ?_
          refine st (g_move rfl) rfl ?_
          refine st (g_T rfl rfl rfl (rfl)) rfl ?_
          refine st (g_move rfl) rfl ?_
          refine gt rfl ?_
          refine st (g_move rfl) rfl ?_
          refine gt rfl ?_
          refine st (g_move rfl) rfl ?_
          refine gt rfl ?_
          refine st (g_T rfl rfl rfl (rfl)) rfl ?_
          refine st (g_pickT rfl rfl) rfl ?_
          refine st (g_move rfl) rfl ?_
          refine gt rfl ?_
          refine st (g_move rfl) rfl ?_
          refine gt rfl ?_
          refine st (g_move rfl) rfl ?_
          refine gt rfl ?_
          refine st (g_T rfl rfl rfl (rfl)) rfl ?_
          refine st (g_pickT rfl rfl) rfl ?_
          refine st (g_assign rfl) rfl ?_
          refine done ?_
          refine ib_n ?_
          refine th_n ?_
          exact met (k2, some (s2, t2), x, z, r2, u2) ⟨hk2, resv_fit hy hres, hr2, hu2⟩ ⟨rfl, rfl, rfl, rfl, rfl, rfl, rfl, trivial⟩ (.cons (.there (.there (.there (.there (.there (.there (.here))))))) (.cons .here (.cons (.there (.there (.there (.there (.there (.here)))))) (.cons (.there (.there (.there (.there (.there (.here)))))) (.cons (.there (.there (.there (.there (.there (.here)))))) (.cons (.there (.there (.there (.there (.there (.here)))))) (.cons .here (.cons .here (.cons .here (.cons .here (.cons .here .nil)))))))))))
      · refine st (g_assign rfl) rfl ?_
        refine done ?_
        refine th_n ?_
        refine condF rfl ?_
        refine seq ?_
        refine region ?_
        refine sp (g_bin rfl rfl rfl) rfl (fun hk1 => ?_) (fun hk1 => ?_)
        · obtain ⟨⟨e, k'⟩, he⟩ : ∃ z, k.crash o.s.l = z := ⟨_, rfl⟩
          have hk' : k'.ok := by
            have h1 := Dk.crash_ok hk o.s.l
            rw [he] at h1
            exact h1
          refine st (g_assign rfl) rfl ?_
          refine done ?_
          refine th_n ?_
          refine condT rfl ?_
          refine regionL ⟨[_], [], []⟩ mixed (by decide +kernel) (.cons .here .nil) .nil ?_
          refine An'.q 0 [] rfl (by decide +kernel) rfl rfl (g_move rfl) rfl ?_
          refine An'.q 1 [] rfl (by decide +kernel) rfl rfl (g_fieldAddr fo_59_4 rfl rfl) rfl ?_
          refine An'.q 2 [] rfl (by decide +kernel) rfl rfl (g_load (v := o.s.v) sc_23 rfl (Cell.own .here rfl)) rfl ?_
          refine An'.q 4 [] rfl (by decide +kernel) rfl rfl (g_move rfl) rfl ?_
          refine An'.q 5 [] rfl (by decide +kernel) rfl rfl (g_fieldAddr fo_59_4 rfl rfl) rfl ?_
          refine An'.q 6 [] rfl (by decide +kernel) rfl rfl (g_load (v := o.s.v) sc_23 rfl (Cell.own .here rfl)) rfl ?_
          refine An'.oneG 3 (by decide +kernel) rfl rfl ?_
          refine o_call Tryd.func33 rfl rfl rfl (.cons (.there (.there (.there (.here)))) (.cons (.there (.there (.there (.here)))) (.cons (.there (.there (.there (.here)))) (.cons (.there (.there (.there (.here)))) .nil)))) (fun w hw hA => (by have h := f33_spec b k hk r hro o.s.p o.s.n o.s.c o.s.l hsl w hA (RdS.ofOld hsr.s hw (.cons (.there (.there (.there (.here)))) (.cons (.there (.there (.there (.here)))) (.cons (.there (.there (.there (.here)))) (.cons (.there (.there (.there (.here)))) .nil))))); rw [he] at h; exact h)) rfl (fun r2 hr2 => ?_)
          refine An'.on0 (.cons (.there (.there (.there (.there (.here))))) .nil) .nil rfl ?_
          refine An'.oneG 7 (by decide +kernel) rfl rfl ?_
          refine o_call Tryd.func34 rfl rfl rfl (.cons (.there (.there (.there (.there (.there (.there (.there (.here)))))))) (.cons (.there (.there (.there (.there (.there (.there (.there (.here)))))))) (.cons (.there (.there (.there (.there (.there (.there (.there (.here)))))))) (.cons (.there (.there (.there (.there (.there (.there (.there (.here)))))))) (.cons (.there (.there (.there (.there (.there (.there (.there (.here)))))))) .nil))))) (fun w hw hA => (by have h := f34_spec d k hk u huo o.s.p o.s.n o.s.c o.s.l hsl w hA (RdS.ofOld hsr.s hw (.cons (.there (.there (.there (.there (.there (.there (.there (.here)))))))) (.cons (.there (.there (.there (.there (.there (.there (.there (.here)))))))) (.cons (.there (.there (.there (.there (.there (.there (.there (.here)))))))) (.cons (.there (.there (.there (.there (.there (.there (.there (.here)))))))) (.cons (.there (.there (.there (.there (.there (.there (.there (.here)))))))) .nil)))))); rw [he] at h; exact h)) rfl (fun u2 hu2 => ?_)
          refine An'.on0 (.cons (.there (.there (.there (.there (.there (.there (.there (.there (.there (.here)))))))))) .nil) .nil rfl ?_
          refine An'.q 8 [] rfl (by decide +kernel) rfl rfl (g_T rfl rfl rfl (rfl)) rfl ?_
          refine An'.q 9 [] rfl (by decide +kernel) rfl rfl (g_assign rfl) rfl ?_
          refine An'.fin (by decide +kernel) ?_
          refine ib_n ?_
          refine th_n ?_
          exact met (k', y, x, z, r2, u2) ⟨hk', hy, hr2, hu2⟩ ⟨rfl, rfl, rfl, rfl, rfl, rfl, rfl, trivial⟩ (.cons (.there (.there (.there (.there (.there (.there (.there (.there (.there (.there (.here))))))))))) (.cons (.there (.there (.there (.there (.there (.there (.there (.there (.there (.there (.here))))))))))) (.cons (.there (.there (.there (.there (.there (.here)))))) (.cons (.there (.there (.there (.there (.there (.here)))))) (.cons (.there (.there (.there (.there (.there (.here)))))) (.cons (.there (.there (.there (.there (.there (.here)))))) (.cons .here (.cons .here (.cons .here (.cons .here (.cons .here .nil)))))))))))
        · refine st (g_assign rfl) rfl ?_
          refine done ?_
          refine th_n ?_
          refine condF rfl ?_
          refine seq ?_
          refine region ?_
          refine sp (g_bin rfl rfl rfl) rfl (fun hk2_ => ?_) (fun hk2_ => ?_)
          · obtain ⟨⟨e, k'⟩, he⟩ : ∃ z, k.armed o.n o.s.l = z := ⟨_, rfl⟩
            have hk' : k'.ok := by
              have h1 := Dk.arm_ok hk hon (c := o.s.l) (by omega)
              rw [he] at h1
              exact h1
            refine st (g_assign rfl) rfl ?_
            refine done ?_
            refine th_n ?_
            refine condT rfl ?_
            refine regionL ⟨[_], [], []⟩ mixed (by decide +kernel) (.cons .here .nil) .nil ?_
            refine An'.q 0 [] rfl (by decide +kernel) rfl rfl (g_move rfl) rfl ?_
            refine An'.q 1 [] rfl (by decide +kernel) rfl rfl (g_fieldAddr fo_59_3 rfl rfl) rfl ?_
            refine An'.q 2 [] rfl (by decide +kernel) rfl rfl (g_load (v := I64 o.n) sc_3 rfl (Cell.own .here rfl)) rfl ?_
            refine An'.q 3 [] rfl (by decide +kernel) rfl rfl (g_fieldAddr fo_59_4 rfl rfl) rfl ?_
            refine An'.q 4 [] rfl (by decide +kernel) rfl rfl (g_load (v := o.s.v) sc_23 rfl (Cell.own .here rfl)) rfl ?_
            refine An'.q 6 [] rfl (by decide +kernel) rfl rfl (g_move rfl) rfl ?_
            refine An'.q 7 [] rfl (by decide +kernel) rfl rfl (g_fieldAddr fo_59_3 rfl rfl) rfl ?_
            refine An'.q 8 [] rfl (by decide +kernel) rfl rfl (g_load (v := I64 o.n) sc_3 rfl (Cell.own .here rfl)) rfl ?_
            refine An'.q 9 [] rfl (by decide +kernel) rfl rfl (g_fieldAddr fo_59_4 rfl rfl) rfl ?_
            refine An'.q 10 [] rfl (by decide +kernel) rfl rfl (g_load (v := o.s.v) sc_23 rfl (Cell.own .here rfl)) rfl ?_
            refine An'.oneG 5 (by decide +kernel) rfl rfl ?_
            refine o_call Tryd.func35 rfl rfl rfl (.cons (.there (.there (.there (.here)))) (.cons (.there (.there (.there (.here)))) (.cons (.there (.there (.there (.here)))) (.cons (.there (.there (.there (.here)))) .nil)))) (fun w hw hA => (by have h := f35_spec b k hk r hro o.n hon o.s.p o.s.n o.s.c o.s.l hsl hsp hsc (by omega) w hA (RdS.ofOld hsr.s hw (.cons (.there (.there (.there (.here)))) (.cons (.there (.there (.there (.here)))) (.cons (.there (.there (.there (.here)))) (.cons (.there (.there (.there (.here)))) .nil))))); rw [he] at h; exact h)) rfl (fun r2 hr2 => ?_)
            refine An'.on0 (.cons (.there (.there (.there (.there (.here))))) .nil) .nil rfl ?_
            refine An'.oneG 11 (by decide +kernel) rfl rfl ?_
            refine o_call Tryd.func36 rfl rfl rfl (.cons (.there (.there (.there (.there (.there (.there (.there (.here)))))))) (.cons (.there (.there (.there (.there (.there (.there (.there (.here)))))))) (.cons (.there (.there (.there (.there (.there (.there (.there (.here)))))))) (.cons (.there (.there (.there (.there (.there (.there (.there (.here)))))))) (.cons (.there (.there (.there (.there (.there (.there (.there (.here)))))))) .nil))))) (fun w hw hA => (by have h := f36_spec d k hk u huo o.n hon o.s.p o.s.n o.s.c o.s.l hsl hsp hsc (by omega) w hA (RdS.ofOld hsr.s hw (.cons (.there (.there (.there (.there (.there (.there (.there (.here)))))))) (.cons (.there (.there (.there (.there (.there (.there (.there (.here)))))))) (.cons (.there (.there (.there (.there (.there (.there (.there (.here)))))))) (.cons (.there (.there (.there (.there (.there (.there (.there (.here)))))))) (.cons (.there (.there (.there (.there (.there (.there (.there (.here)))))))) .nil)))))); rw [he] at h; exact h)) rfl (fun u2 hu2 => ?_)
            refine An'.on0 (.cons (.there (.there (.there (.there (.there (.there (.there (.there (.there (.here)))))))))) .nil) .nil rfl ?_
            refine An'.q 12 [] rfl (by decide +kernel) rfl rfl (g_T rfl rfl rfl (rfl)) rfl ?_
            refine An'.q 13 [] rfl (by decide +kernel) rfl rfl (g_assign rfl) rfl ?_
            refine An'.fin (by decide +kernel) ?_
            refine ib_n ?_
            refine th_n ?_
            exact met (k', y, x, z, r2, u2) ⟨hk', hy, hr2, hu2⟩ ⟨rfl, rfl, rfl, rfl, rfl, rfl, rfl, trivial⟩ (.cons (.there (.there (.there (.there (.there (.there (.there (.there (.there (.there (.here))))))))))) (.cons (.there (.there (.there (.there (.there (.there (.there (.there (.there (.there (.here))))))))))) (.cons (.there (.there (.there (.there (.there (.here)))))) (.cons (.there (.there (.there (.there (.there (.here)))))) (.cons (.there (.there (.there (.there (.there (.here)))))) (.cons (.there (.there (.there (.there (.there (.here)))))) (.cons .here (.cons .here (.cons .here (.cons .here (.cons .here .nil)))))))))))
          · refine st (g_assign rfl) rfl ?_
            refine done ?_
            refine th_n ?_
            refine condF rfl ?_
            refine seq ?_
            refine seq ?_
            refine region ?_
            refine sp (g_bin rfl rfl rfl) rfl (fun hk3 => ?_) (fun hk3 => ?_)
            · refine st (g_assign rfl) rfl ?_
              refine done ?_
              refine th_n ?_
              refine condT rfl ?_
              refine skip ?_
              refine th_n ?_
              refine condT rfl ?_
              refine seq ?_
              refine seq ?_
              refine region ?_
              refine st (g_fieldAddr fo_59_0 rfl rfl) rfl ?_
              refine st (g_load (v := I64 o.kind) sc_3 rfl (Cell.own .here rfl)) rfl ?_
              refine st (g_T rfl rfl rfl (hk3)) rfl ?_
              refine done ?_
              refine th_n ?_
              refine condT rfl ?_
              refine seq ?_
              refine region ?_
              refine st (g_move rfl) rfl ?_
              refine sq rfl (o_call Tryd.func37 rfl rfl rfl (.cons (.there (.there (.there (.here)))) .nil) (fun w hw hA => f37_spec b k hk r w hA) rfl (fun _ _ => ?_))
              refine done ?_
              refine th_n ?_
              refine region ?_
              refine st (g_move rfl) rfl ?_
              refine st (g_nilCheck rfl) rfl ?_
              refine st (g_fieldAddr fo_71_3 rfl rfl) rfl ?_
              refine sq rfl (o_store (cs' := rkCells ({ k with down := false } : Dk) u) sz_4 rfl rfl rfl (.there (.there (.there (.there (.there (.there (.there (.here)))))))) (Nat.le_of_ble_eq_true rfl) rfl ?_)
              refine done ?_
              refine th_n ?_
              refine region ?_
              refine st (g_move rfl) rfl ?_
              refine st (g_move rfl) rfl ?_
              refine st (g_fieldAddr fo_59_2 rfl rfl) rfl ?_
              refine st (g_load (v := I64 o.first) sc_2 rfl (Cell.own (.there (.there (.here))) rfl)) rfl ?_
              refine sq rfl (o_call Tryd.func30 rfl rfl rfl (.cons (.there (.here)) (.cons (.there (.there (.there (.there (.here))))) (.cons (.there (.there (.there (.there (.here))))) (.cons (.there (.there (.there (.there (.here))))) (.cons .here (.cons (.there (.there (.there (.here)))) (.cons (.there (.there (.there (.here)))) (.cons (.there (.there (.there (.here)))) (.cons (.there (.there (.there (.here)))) .nil))))))))) (fun w hw hA => f30_all b ({ k with down := false } : Dk) (Dk.ok_down hk false) r ⟨hro.w0, hro.w1, hro.c0, hro.c1⟩ d u ⟨huo.s, huo.w, huo.sn, huo.sm, huo.wm, huo.pl, huo.c0, huo.c1⟩ o.first w hA (Gl.ofOld hG hw (.cons (.there (.here)) (.cons (.there (.there (.there (.there (.here))))) (.cons (.there (.there (.there (.there (.here))))) (.cons (.there (.there (.there (.there (.here))))) (.cons .here (.cons (.there (.there (.there (.here)))) (.cons (.there (.there (.there (.here)))) (.cons (.there (.there (.there (.here)))) (.cons (.there (.there (.there (.here)))) .nil))))))))))) rfl (fun ⟨x2, z2⟩ _ => ?_))
              refine st (g_move rfl) rfl ?_
              refine st (g_extract rfl rfl) rfl ?_
              refine st (g_extract rfl rfl) rfl ?_
              refine st (g_extract rfl rfl) rfl ?_
              refine st (g_assign rfl) rfl ?_
              refine st (g_assign rfl) rfl ?_
              refine st (g_assign rfl) rfl ?_
              refine done ?_
              refine ib_n ?_
              refine th_n ?_
              exact met (({ k with down := false } : Dk), opn (Dk.open ({ k with down := false } : Dk) o.first), x2, z2, r, u) ⟨Dk.ok_down hk false, open_fit hof, ⟨hro.w0, hro.w1, hro.c0, hro.c1⟩, ⟨huo.s, huo.w, huo.sn, huo.sm, huo.wm, huo.pl, huo.c0, huo.c1⟩⟩ ⟨rfl, rfl, rfl, rfl, rfl, rfl, rfl, trivial⟩ (.cons .here (.cons .here (.cons .here (.cons .here (.cons .here (.cons .here (.cons .here (.cons .here (.cons .here (.cons .here (.cons .here .nil)))))))))))
            · refine st (g_assign rfl) rfl ?_
              refine done ?_
              refine th_n ?_
              refine condF rfl ?_
              refine region ?_
              refine sp (g_bin rfl rfl rfl) rfl (fun hk4 => ?_) (fun hk4 => ?_)
              · refine st (g_assign rfl) rfl ?_
                refine done ?_
                refine th_n ?_
                refine condT rfl ?_
                refine seq ?_
                refine seq ?_
                refine region ?_
                refine st (g_fieldAddr fo_59_0 rfl rfl) rfl ?_
                refine st (g_load (v := I64 o.kind) sc_3 rfl (Cell.own .here rfl)) rfl ?_
                refine st (g_F rfl rfl rfl (hk3)) rfl ?_
                refine done ?_
                refine th_n ?_
                refine condF rfl ?_
                refine skip ?_
                refine th_n ?_
                refine region ?_
                refine st (g_move rfl) rfl ?_
                refine st (g_move rfl) rfl ?_
                refine st (g_fieldAddr fo_59_2 rfl rfl) rfl ?_
                refine st (g_load (v := I64 o.first) sc_2 rfl (Cell.own .here rfl)) rfl ?_
                refine sq rfl (o_call Tryd.func30 rfl rfl rfl (.cons (.there (.there (.there (.here)))) (.cons (.there (.there (.there (.here)))) (.cons (.there (.there (.there (.here)))) (.cons (.there (.there (.there (.here)))) (.cons (.there (.there (.there (.here)))) (.cons (.there (.there (.there (.here)))) (.cons (.there (.there (.there (.here)))) (.cons (.there (.there (.there (.here)))) (.cons (.there (.there (.there (.here)))) .nil))))))))) (fun w hw hA => f30_all b k hk r hro d u huo o.first w hA (Gl.ofOld hG hw (.cons (.there (.there (.there (.here)))) (.cons (.there (.there (.there (.here)))) (.cons (.there (.there (.there (.here)))) (.cons (.there (.there (.there (.here)))) (.cons (.there (.there (.there (.here)))) (.cons (.there (.there (.there (.here)))) (.cons (.there (.there (.there (.here)))) (.cons (.there (.there (.there (.here)))) (.cons (.there (.there (.there (.here)))) .nil))))))))))) rfl (fun ⟨x2, z2⟩ _ => ?_))
                refine st (g_move rfl) rfl ?_
                refine st (g_extract rfl rfl) rfl ?_
                refine st (g_extract rfl rfl) rfl ?_
                refine st (g_extract rfl rfl) rfl ?_
                refine st (g_assign rfl) rfl ?_
                refine st (g_assign rfl) rfl ?_
                refine st (g_assign rfl) rfl ?_
                refine done ?_
                refine ib_n ?_
                refine th_n ?_
                exact met (k, opn (k.open o.first), x2, z2, r, u) ⟨hk, open_fit hof, hro, huo⟩ ⟨rfl, rfl, rfl, rfl, rfl, rfl, rfl, trivial⟩ (.cons .here (.cons .here (.cons .here (.cons .here (.cons .here (.cons .here (.cons .here (.cons .here (.cons .here (.cons .here (.cons .here .nil)))))))))))
              · refine st (g_assign rfl) rfl ?_
                refine done ?_
                refine th_n ?_
                refine condF rfl ?_
                refine seq ?_
                refine region ?_
                refine sp (g_bin rfl rfl rfl) rfl (fun hk5 => ?_) (fun hk5 => ?_)
                · obtain ⟨⟨L, k'⟩, hsv⟩ : ∃ z, k.save o.s.l = z := ⟨_, rfl⟩
                  have hk' : k'.ok := by
                    have h1 := Dk.save_ok hk o.s.l
                    rw [hsv] at h1
                    exact h1
                  refine st (g_assign rfl) rfl ?_
                  refine done ?_
                  refine th_n ?_
                  refine condT rfl ?_
                  refine seq ?_
                  refine region ?_
                  refine st (g_move rfl) rfl ?_
                  refine st (g_fieldAddr fo_59_4 rfl rfl) rfl ?_
                  refine st (g_load (v := o.s.v) sc_23 rfl (Cell.own .here rfl)) rfl ?_
                  refine sq rfl (o_call Tryd.func38 rfl rfl rfl (.cons (.there (.there (.there (.there (.there (.there (.there (.here)))))))) (.cons (.there (.there (.there (.there (.there (.there (.there (.here)))))))) (.cons (.there (.there (.there (.there (.there (.there (.there (.here)))))))) (.cons (.there (.there (.there (.there (.there (.there (.there (.here)))))))) (.cons (.there (.there (.there (.there (.there (.there (.there (.here)))))))) .nil))))) (fun w hw hA => f38_as d k u o.s.p o.s.n o.s.c o.s.l hsl hsp hsc hsv w hA (RdS.ofOld hsr.s hw (.cons (.there (.there (.there (.there (.there (.there (.there (.here)))))))) (.cons (.there (.there (.there (.there (.there (.there (.there (.here)))))))) (.cons (.there (.there (.there (.there (.there (.there (.there (.here)))))))) (.cons (.there (.there (.there (.there (.there (.there (.there (.here)))))))) (.cons (.there (.there (.there (.there (.there (.there (.there (.here)))))))) .nil)))))) hk huo) rfl (fun x8 hx8 => ?_))
                  refine st (g_move rfl) rfl ?_
                  refine st (g_extract rfl rfl) rfl ?_
                  refine st (g_extract rfl rfl) rfl ?_
                  refine sq rfl (o_alloc (zs := [U64 0#64, .slice none 0 0]) zr_73 rfl (fun b27 => ?_))
                  refine sq rfl (o_storeA (cs' := ldv L x8.1) sz_73 rfl rfl rfl (by simp [ldv]; exact ⟨rfl, rfl⟩) .here (Nat.le_of_ble_eq_true rfl) rfl ?_)
                  refine st (g_assign rfl) rfl ?_
                  refine done ?_
                  refine th_n ?_
                  refine seq ?_
                  refine region ?_
                  refine st (g_move rfl) rfl ?_
                  refine st (g_fieldAddr fo_59_4 rfl rfl) rfl ?_
                  refine st (g_load (v := o.s.v) sc_23 rfl (Cell.own (.there (.there (.there (.there (.there (.there (.there (.here)))))))) rfl)) rfl ?_
                  refine sq rfl (o_call Tryd.func39 rfl rfl rfl (.cons (.there (.there (.there (.there (.there (.there (.there (.there (.there (.there (.here))))))))))) (.cons (.there (.there (.there (.there (.there (.there (.there (.there (.there (.there (.here))))))))))) (.cons (.there (.there (.there (.there (.there (.there (.there (.there (.there (.there (.here))))))))))) (.cons (.there (.there (.there (.there (.there (.there (.there (.there (.there (.there (.here))))))))))) .nil)))) (fun w hw hA => f39_as b k r o.s.p o.s.n o.s.c o.s.l hsl (fun h => by have h1 := hsp h; exact ⟨by omega, h1⟩) hsc hsv w hA (Gl.ofOld (A := dkR b k r) hG hw (.cons (.there (.there (.there (.there (.there (.there (.there (.there (.there (.there (.here))))))))))) (.cons (.there (.there (.there (.there (.there (.there (.there (.there (.there (.there (.here))))))))))) (.cons (.there (.there (.there (.there (.there (.there (.there (.there (.there (.there (.here))))))))))) (.cons (.there (.there (.there (.there (.there (.there (.there (.there (.there (.there (.here))))))))))) .nil))))) (RdS.ofOld hsr.s hw (.cons (.there (.there (.there (.there (.there (.there (.there (.there (.there (.there (.here))))))))))) (.cons (.there (.there (.there (.there (.there (.there (.there (.there (.there (.there (.here))))))))))) (.cons (.there (.there (.there (.there (.there (.there (.there (.there (.there (.there (.here))))))))))) (.cons (.there (.there (.there (.there (.there (.there (.there (.there (.there (.there (.here))))))))))) .nil))))) hk hro) rfl (fun x9 hx9 => ?_))
                  refine st (g_move rfl) rfl ?_
                  refine st (g_extract rfl rfl) rfl ?_
                  refine st (g_extract rfl rfl) rfl ?_
                  refine sq rfl (o_alloc (zs := [U64 0#64, .slice none 0 0]) zr_73 rfl (fun b29 => ?_))
                  refine sq rfl (o_storeA (cs' := ldv L x9.1) sz_73 rfl rfl rfl (by simp [ldv]; exact ⟨rfl, rfl⟩) .here (Nat.le_of_ble_eq_true rfl) rfl ?_)
                  refine st (g_assign rfl) rfl ?_
                  refine done ?_
                  refine th_n ?_
                  refine region ?_
                  refine st (g_move rfl) rfl ?_
                  refine st (g_move rfl) rfl ?_
                  refine st (g_T rfl rfl rfl (rfl)) rfl ?_
                  refine st (g_assign rfl) rfl ?_
                  refine done ?_
                  refine ib_n ?_
                  refine th_n ?_
                  exact met (k', y, x, z, x9.2, x8.2) ⟨hk', hy, hx9.2, hx8.2⟩ ⟨rfl, rfl, rfl, rfl, rfl, rfl, rfl, trivial⟩ (.cons (.there (.there (.there (.there (.there (.there (.there (.there (.there (.there (.there (.there (.there (.there (.here))))))))))))))) (.cons (.there (.there (.there (.there (.there (.there (.there (.there (.there (.there (.there (.there (.there (.there (.here))))))))))))))) (.cons (.there (.there (.here))) (.cons (.there (.there (.here))) (.cons (.there (.there (.here))) (.cons (.there (.there (.here))) (.cons (.there (.there (.there (.there (.here))))) (.cons (.there (.there (.there (.there (.here))))) (.cons (.there (.there (.there (.there (.here))))) (.cons (.there (.there (.there (.there (.here))))) (.cons (.there (.there (.there (.there (.here))))) .nil)))))))))))
                · refine st (g_assign rfl) rfl ?_
                  refine done ?_
                  refine th_n ?_
                  refine condF rfl ?_
                  refine skip ?_
                  refine ib_n ?_
                  refine th_n ?_
                  exact met (k, y, x, z, r, u) ⟨hk, hy, hro, huo⟩ ⟨rfl, rfl, rfl, rfl, rfl, rfl, rfl, trivial⟩ (.cons (.there (.here)) (.cons (.there (.here)) (.cons (.there (.here)) (.cons (.there (.here)) (.cons (.there (.here)) (.cons (.there (.here)) (.cons (.there (.here)) (.cons (.there (.here)) (.cons (.there (.here)) (.cons (.there (.here)) (.cons (.there (.here)) .nil)))))))))))
    · rintro ⟨k', y', x', z', r', u'⟩ ⟨hk', hy', hro', huo'⟩
      show At _ [(3, .slice q os.length c), (9, .pointer (some ⟨b, 0, none⟩)), (11, .pointer (some ⟨d, 0, none⟩)), (13, .pointer (dyA x' y')), (14, .pointer (dyA z' y')), (15, .bool true), (16, I64 (i : Nat))] [dyO x' b y', ryO z' d y', dkB b k' r', dkS k' r', dkW k' r', dkC k' r', rkB d k' u', rkS u', rkW u', rkC k' u', poolR u'.ps] _
      refine seq ?_
      refine region ?_
      refine st (g_move rfl) rfl ?_
      refine sq rfl (o_call Tryd.func40 rfl rfl rfl (.cons .here .nil) (fun w hw hA => f40_all x' b y' w hA) rfl (fun _ _ => ?_))
      refine st (g_move rfl) rfl ?_
      refine st (g_extract rfl rfl) rfl ?_
      refine st (g_extract rfl rfl) rfl ?_
      refine st (g_assign rfl) rfl ?_
      refine st (g_assign rfl) rfl ?_
      refine done ?_
      refine th_n ?_
      refine seq ?_
      refine region ?_
      refine st (g_move rfl) rfl ?_
      refine st (g_eqNil pt_55 rfl rfl) rfl ?_
      refine done ?_
      refine th_n ?_
      refine condS rfl (fun h194 => ?_) (fun h194 => ?_)
      · try simp only [decide_eq_true_eq] at h194
        obtain rfl := dyA_none h194
        refine region ?_
        refine st (g_move rfl) rfl ?_
        refine st (g_move rfl) rfl ?_
        refine gt rfl ?_
        refine st (g_move rfl) rfl ?_
        refine gt rfl ?_
        refine st (g_T rfl rfl rfl (rfl)) rfl ?_
        refine st (g_pickT rfl rfl) rfl ?_
        refine st (g_move rfl) rfl ?_
        refine gt rfl ?_
        refine st (g_move rfl) rfl ?_
        refine gt rfl ?_
        refine st (g_T rfl rfl rfl (rfl)) rfl ?_
        refine st (g_pickT rfl rfl) rfl ?_
        refine st (g_assign rfl) rfl ?_
        refine done ?_
        refine ib_n ?_
        refine th_n ?_
        refine region ?_
        refine st (g_move rfl) rfl ?_
        refine st (g_iadd (c := ((i + 1 : Nat) : Int)) rfl rfl (by omega) (by omega) (by omega)) rfl ?_
        refine st (g_assign rfl) rfl ?_
        refine done ?_
        refine th_n ?_
        exact again (i + 1, k', none, x', z', r', u') ⟨by omega, hk', hy', hro', huo'⟩ (by show os.length - (i + 1) < os.length - i; omega) ⟨rfl, rfl, rfl, rfl, rfl, rfl, rfl, trivial⟩ (.cons .here (.cons .here (.cons .here (.cons .here (.cons .here (.cons .here (.cons .here (.cons .here (.cons .here (.cons .here (.cons .here .nil)))))))))))
      · try simp only [decide_eq_false_iff_not] at h194
        obtain ⟨⟨s', t'⟩, rfl⟩ := dyA_some h194
        refine region ?_
        refine st (g_move rfl) rfl ?_
        refine st (g_move rfl) rfl ?_
        refine gt rfl ?_
        refine st (g_move rfl) rfl ?_
        refine gt rfl ?_
        refine st (g_move rfl) rfl ?_
        refine gt rfl ?_
        refine st (g_nilCheck rfl) rfl ?_
        refine gt rfl ?_
        refine st (g_fieldAddr fo_81_1 rfl rfl) rfl ?_
        refine gt rfl ?_
        refine st (g_load (v := I64 s') sc_2 rfl (Cell.own (T := 81) (cs := ryC d s' t') (.there (.here)) rfl)) rfl ?_
        refine gt rfl ?_
        refine st (g_T rfl rfl rfl (rfl)) rfl ?_
        refine st (g_pickT rfl rfl) rfl ?_
        refine st (g_move rfl) rfl ?_
        refine gt rfl ?_
        refine st (g_move rfl) rfl ?_
        refine gt rfl ?_
        refine st (g_move rfl) rfl ?_
        refine gt rfl ?_
        refine st (g_nilCheck rfl) rfl ?_
        refine gt rfl ?_
        refine st (g_fieldAddr fo_81_2 rfl rfl) rfl ?_
        refine gt rfl ?_
        refine st (g_load (v := I64 t') sc_2 rfl (Cell.own (T := 81) (cs := ryC d s' t') (.there (.here)) rfl)) rfl ?_
        refine gt rfl ?_
        refine st (g_T rfl rfl rfl (rfl)) rfl ?_
        refine st (g_pickT rfl rfl) rfl ?_
        refine st (g_assign rfl) rfl ?_
        refine done ?_
        refine ib_n ?_
        refine th_n ?_
        refine region ?_
        refine st (g_move rfl) rfl ?_
        refine st (g_iadd (c := ((i + 1 : Nat) : Int)) rfl rfl (by omega) (by omega) (by omega)) rfl ?_
        refine st (g_assign rfl) rfl ?_
        refine done ?_
        refine th_n ?_
        exact again (i + 1, k', (some (s', t')), x', z', r', u') ⟨by omega, hk', hy', hro', huo'⟩ (by show os.length - (i + 1) < os.length - i; omega) ⟨rfl, rfl, rfl, rfl, rfl, rfl, rfl, trivial⟩ (.cons .here (.cons .here (.cons .here (.cons .here (.cons .here (.cons .here (.cons .here (.cons .here (.cons .here (.cons .here (.cons .here .nil)))))))))))
  · refine st (g_move rfl) rfl ?_
    refine gf rfl rfl ?_
    refine st (g_pickF rfl rfl) rfl ?_
    refine done ?_
    refine th_n ?_
    refine condF rfl ?_
    refine exitc ?_
    refine th_x ?_
    refine th_x ?_
    refine ib_x ?_
    refine th_n ?_
    refine seq ?_
    refine region ?_
    refine st (g_move rfl) rfl ?_
    refine st (g_assign rfl) rfl ?_
    refine done ?_
    refine th_n ?_
    refine ret ?_
    exact ret1 rfl rfl rfl (fun w2 hw2 => ⟨rfl, hw2.clear⟩)

theorem f6_spec (n m : Int) (first : Int) (hfi : first ≤ 9223372036854775807) (q : Option Addr) (c : Nat) (os : List O19) (hln : os.length ≤ 9223372036854775807) (w : World) (hrq : RdC w q (opC os)) (hok : ∀ o ∈ os, o.ok w) (hfs : ∀ o ∈ os, o.first ≤ 9223372036854775807) (hG : Gl w []) : Calls Tryd.prog 6 [I64 n, I64 m, I64 first, .slice q os.length c].toArray w (fun en w2 => en = .returned (.bool true) ∧ Sat w [] [] w2) := by
  cases hg : great19 os with
  | true => exact f6_great n m first hfi q c os hln w hrq hg
  | false =>
    by_cases hb : n < 1 ∨ n > 64 ∨ m < 0 ∨ m > 10000
    · exact f6_bad n m first hfi q c os hln w hrq hg hb
    · obtain ⟨n, rfl⟩ := Int.eq_ofNat_of_zero_le (show 0 ≤ n by omega)
      obtain ⟨m, rfl⟩ := Int.eq_ofNat_of_zero_le (show 0 ≤ m by omega)
      exact f6_good n m (by omega) (by omega) (by omega) first hfi q c os hln w hrq hok hfs hg hG
end Go.Proofs.YtokhediaibdkjaaDoor

/-! From C6 -/
/- The law DiaryPlays: its row and its card. (printed by genC.py) -/
namespace Go.Proofs.YtokhediaibdkjaaDoor
set_option maxRecDepth 100000
open Go.Pm Go.ChangeShapes Go.WideShapes Go.ChangeAt Go.RowKit

theorem diaryPlays_contract (H : Type) (enc : TypeId × Value → H) (W : World) (base : Nat) (args : Array Value) (ds gs : List (DataW H)) (before : List MemPlace)
    (hval : ∀ (j : Nat) t v, Tryd.f6.params[j]? = some t → args[j]? = some v → Value.okWide Tryd.prog W .any base t v)
    (hW : DataW.Whole enc Tryd.prog Tryd.f6.params.toList Rows.diaryPlaysSpec.vars false W args.toList ds gs before) (hL : laidMetH Tryd.prog Rows.diaryPlaysRow.laid W) :
    Calls Tryd.prog 6 args W fun e W' => ∃ v, e = .returned v ∧ Rows.diaryPlaysSpec.post enc Tryd.prog Tryd.f6 false true false false W args v W' := by
  have hG : Gl W [] := gl_of_laid (.tail _ (.head _)) (.tail _ (.tail _ (.head _))) (show laidMet Tryd.prog Rows.diaryPlaysRow.laid W from hL)
  have hW' := hW
  obtain ⟨p, q, hA0, hV, rfl, hfz, hnd⟩ := hW
  have hAll : DataW.TrodAll enc Tryd.prog W 0 (fun _ => true) true Tryd.f6.params.toList args.toList ds p := hA0
  rw [Tryd.params6] at hAll hval
  obtain ⟨rfl, rfl⟩ := trodVars_none hV
  obtain ⟨vn, vs0, dn, ds0, pn0, q0, hv0, rfl, rfl, hn, hAll⟩ := trodAll_cons hAll
  obtain ⟨vm, vs1, dm, ds1, pm0, q1, hv1, rfl, rfl, hm, hAll⟩ := trodAll_cons hAll
  obtain ⟨vf, vs2, df, ds2, pf0, q2, hv2, rfl, rfl, hf, hAll⟩ := trodAll_cons hAll
  obtain ⟨vl, vs3, dl, ds3, pl0, q3, hv3, rfl, rfl, hl, hAll⟩ := trodAll_cons hAll
  obtain ⟨rfl, rfl, rfl⟩ := trodAll_nil hAll
  obtain rfl : args = #[vn, vm, vf, vl] := by cases args; simp_all
  obtain ⟨n, rfl, rfl, rfl, wfn⟩ := open_int un_3 (hval 0 3 _ rfl rfl) hn
  obtain ⟨m, rfl, rfl, rfl, wfm⟩ := open_int un_3 (hval 1 3 _ rfl rfl) hm
  obtain ⟨f, rfl, rfl, rfl, wff⟩ := open_int un_2 (hval 2 2 _ rfl rfl) hf
  obtain ⟨pl, cl, osl, rfl, hnl, hrl, hkl⟩ := open_opsF (hval 3 46 _ rfl rfl) hl
  clear hA0
  refine Calls.mono (R := fun e W' => e = .returned (.bool true) ∧ Sat W [] [] W') ?_ ?_
  · exact f6_spec n m f (by have := (i64_of wff).2; omega) pl cl osl hnl W hrl (fun o ho => (hkl o ho).1) (fun o ho => (hkl o ho).2) hG
  · rintro e W' ⟨rfl, hs⟩
    exact ⟨_, rfl, law_post hW' (by kernel_rfl) rfl ⟨rfl, rfl, rfl⟩ (by rw [Tryd.params6]; decide +kernel) hs.below⟩

noncomputable def diaryPlays_world (os : Os) : World :=
  { World.holding Tryd.prog os ⟨#[], #[], []⟩ with heap := ((((World.holding Tryd.prog os ⟨#[], #[], []⟩).heap.modify 0 (layTab ((first224 ++ first256).map U32))).modify 1 (layTab (cubesL.map U32))).modify 2 (layTab (Go.Pinned.utf8FirstZ.map fun n : Nat => Value.int .u8 (n : Int)))).modify 3 (layTab (([128, 191, 160, 191, 128, 159, 144, 191, 128, 143] ++ List.replicate 22 0).map fun n : Nat => Value.int .u8 (n : Int))) }
theorem diaryPlays_laid (os : Os) : laidMet Tryd.prog Rows.diaryPlaysRow.laid ((diaryPlays_world os).forCall (fun _ _ => 0) ⟨#[], #[.int .i64 0, .int .i64 0, .int .i64 0, .slice none 0 0], []⟩).memory :=
  laidMet_of_run' 8 (by kernel_rfl) (by kernel_rfl)
theorem diaryPlays_reads (os : Os) {H : Type} (enc : TypeId × Value → H) : ∃ places, DataW.whole enc Tryd.prog ((diaryPlays_world os).forCall (fun _ _ => 0) ⟨#[], #[.int .i64 0, .int .i64 0, .int .i64 0, .slice none 0 0], []⟩).memory Tryd.f6.params.toList Rows.diaryPlaysSpec.vars false (#[.int .i64 0, .int .i64 0, .int .i64 0, .slice none 0 0] : Array Value).toList 8 = some ([.lit (.int .i64 0), .lit (.int .i64 0), .lit (.int .i64 0), .nil], [], places) :=
  ⟨[], by kernel_rfl⟩

theorem diaryPlays_lifted (os : Os) (started : os.Started) (H : Type) (enc : TypeId × Value → H) (F : Stop.Interp) :
    ReturnsInHanded {} Tryd.checked os 6 .any ((OpenSpec.ofChange Rows.diaryPlaysSpec).preRow enc Tryd.prog Tryd.f6 Rows.diaryPlaysRow.domain false Rows.diaryPlaysRow.laid) (((OpenSpec.ofChange Rows.diaryPlaysSpec).at F).post enc Tryd.prog Tryd.f6 false true false false) := by
  obtain ⟨places, hx⟩ := diaryPlays_reads os enc
  refine returnsInHanded_of_row (C := Tryd.checked) (s := OpenSpec.ofChange Rows.diaryPlaysSpec) own started (by kernel_rfl) Tryd.func6
    (witness_row_at (enc := enc) (C := Tryd.checked) false (diaryPlays_world os) #[.int .i64 0, .int .i64 0, .int .i64 0, .slice none 0 0] rfl (by kernel_rfl) (by kernel_rfl) (by kernel_rfl)
      (OpenSpec.preRow_of_cond 8 hx (by kernel_rfl) (fun k hk => by cases hk) (by kernel_rfl) (diaryPlays_laid os))) ?_
  intro W base args ds gs before hval hW _ _ _ hL _ _
  exact diaryPlays_contract H enc W base args ds gs before hval hW hL

theorem diaryPlays_said : Rows.DiaryPlaysSaid :=
  OpenClaim.holds_of_cond 6 Tryd.f6 rfl rfl rfl rfl rfl rfl rfl ⟨rfl, rfl, rfl, rfl, rfl⟩ rfl rfl rfl rfl rfl (by kernel_rfl) Tryd.func6 (by kernel_rfl)
    (of_decide_eq_true (by kernel_rfl)) (by unfold Func.isWrapper; first | (rw [if_pos (by decide +kernel)]; kernel_rfl) | (rw [if_neg (by decide +kernel)]; exact ⟨rfl, rfl⟩))
    (fun os started H enc _ F => by rw [OpenClaim.pre_eq_preRow]; exact diaryPlays_lifted os started H enc F)

theorem diaryPlays_plain (f : FuncId) (fn : Func) (hf : Tryd.pinned.checked.prog.funcNamed "postmark/postmarklaw19.DiaryPlays" = some f) (hfn : Tryd.pinned.checked.prog.funcs[f]? = some fn) :
    false = Tryd.pinned.checked.prog.looks [] ∧ ∀ (j : Nat) t, fn.params[j]? = some t → Tryd.pinned.checked.prog.wantsStandIn t = false := by
  obtain rfl : f = 6 := Option.some.inj ((show Tryd.prog.funcNamed "postmark/postmarklaw19.DiaryPlays" = some 6 by kernel_rfl).symm.trans hf) |>.symm
  obtain rfl : fn = Tryd.f6 := (Option.some.inj (Tryd.func6.symm.trans hfn)).symm
  refine ⟨by kernel_rfl, fun j t ht => ?_⟩
  rw [Tryd.params6] at ht
  have h : ∀ u ∈ ([3, 3, 2, 46] : List Nat), Tryd.prog.wantsStandIn u = false := by decide +kernel
  exact h t (by have := Array.mem_of_getElem? ht; simpa using this)

/-- The card. -/
theorem diaryPlays_card : Rows.DiaryPlaysCardSaid :=
  Claim7.holds_tied_plain_at .later [] _ _ _ _ diaryPlays_said (fun _ h => by cases h) (by kernel_rfl) (fun _ h => by cases h) diaryPlays_row_tie rfl ⟨rfl, rfl⟩ (by kernel_rfl) rfl diaryPlays_plain (by kernel_rfl)
end Go.Proofs.YtokhediaibdkjaaDoor
