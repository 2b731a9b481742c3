/- The proof's texts, merged: C0 C1 L12 C12. -/
import Derived.Test.YtokhediaibdkjaaDoorMB
import Derived.Test.YtokhediaibdkjaaDoorCards
import Derived.Test.YtokhediaibdkjaaDoorTie
import Derived.WalkKit
import Derived.ProofKit
import Derived.OpenShut
import Derived.Deep.DeepHandedRow
import Derived.Lib.LaidTab
import Derived.Carry
import Derived.Test.YtokhediaibdkjaaDoorMC
/-! From C0 -/
/- What all the rows' proofs share: the tables from the row's list; an argument of bytes, opened; the post. -/
namespace Go.Proofs.YtokhediaibdkjaaDoor
set_option maxRecDepth 100000
open Go.Pm Go.ChangeShapes Go.WideShapes Go.ChangeAt Go.RowKit

theorem own : ownKnob Tryd.prog.godebug = none := by kernel_rfl
theorem laidOut : laidOutB Tryd.prog = true := by kernel_rfl
theorem gCubes : Tryd.prog.globalNamed "postmark/sha256.cubes" = some 1 := by kernel_rfl
theorem gFirst : Tryd.prog.globalNamed "postmark/sha256.first" = some 0 := by kernel_rfl
theorem gCubesT : (Tryd.prog.globals[1]?).map (·.type) = some 118 := by kernel_rfl
theorem gFirstT : (Tryd.prog.globals[0]?).map (·.type) = some 122 := by kernel_rfl
theorem un_118 : Tryd.prog.underlying 118 = some (.array 64 38) := by kernel_rfl
theorem un_122 : Tryd.prog.underlying 122 = some (.array 2 39) := by kernel_rfl
theorem un_38 : Tryd.prog.underlying 38 = some (.int .u32) := by kernel_rfl
theorem un39 : Tryd.prog.underlying 39 = some (.array 8 38) := by kernel_rfl
theorem un_86 : Tryd.prog.underlying 86 = some (.int .u16) := by kernel_rfl
theorem un_4 : Tryd.prog.underlying 4 = some .bool := by kernel_rfl
theorem co_38 : Tryd.prog.cellsOf 38 = 1 := by kernel_rfl
theorem co_118 : Tryd.prog.cellsOf 118 = 64 := by kernel_rfl
theorem co_39 : Tryd.prog.cellsOf 39 = 8 := by kernel_rfl
theorem co_122 : Tryd.prog.cellsOf 122 = 16 := by kernel_rfl
theorem co5 : Tryd.prog.cellsOf 5 = 1 := by kernel_rfl

/-- A row in which a table is laid. -/
def layTab (cs : List Value) : Obj → Obj
  | .cells _ t fr => .cells cs.toArray t fr
  | o => o
theorem laidVars_mem {P : Program} {W : World} : ∀ {l : List (String × DataW Unit)} {ps : List MemPlace}, DataW.LaidVars P W l ps → ∀ {n : String} {d : DataW Unit}, (n, d) ∈ l →
    ∃ g t cs fuel p, P.globalNamed n = some g ∧ (P.globals[g]?).map (·.type) = some t ∧ W.var? P n = some cs ∧ DataW.trod (fun _ => ()) P W 0 (fun _ => true) false fuel t cs.toList = some (d, p)
  | [], _, _, _, _, hm => by cases hm
  | (n', d') :: r, ps, h, n, d, hm => by
    obtain ⟨g, t, cs, fuel, p, q, h1, h2, h3, h4, h5, _⟩ := h
    rcases List.mem_cons.1 hm with he | hm
    · cases he; exact ⟨g, t, cs, fuel, p, h1, h2, h3, h4⟩
    · exact laidVars_mem h5 hm

theorem rd_var {W : World} {n : String} {g : Nat} {cs : Array Value} (hg : Tryd.prog.globalNamed n = some g) (h : W.var? Tryd.prog n = some cs) : RdC W (some ⟨g, 0, none⟩) cs.toList := fun j u hj => by
  refine ⟨g, 0, rfl, ?_⟩
  have := World.var?_cell hg h j
  rw [Nat.zero_add, this]
  simpa using hj

/-- The tables, from the row's list. -/
theorem gl_of_laid {laid : List (String × DataW Unit)} (h1 : ("postmark/sha256.cubes", Rows.laid_postmark_sha256_cubes) ∈ laid) (h2 : ("postmark/sha256.first", Rows.laid_postmark_sha256_first) ∈ laid) {W : World} (h : laidMet Tryd.prog laid W) : Gl W [] := by
  obtain ⟨ps, hv, _⟩ := h
  obtain ⟨g, t, cs, fuel, p, hg, ht, hvar, hd⟩ := laidVars_mem hv h1
  obtain ⟨g', t', cs', fuel', p', hg', ht', hvar', hd'⟩ := laidVars_mem hv h2
  cases Option.some.inj (gCubes.symm.trans hg)
  cases Option.some.inj (gFirst.symm.trans hg')
  cases Option.some.inj (gCubesT.symm.trans ht)
  cases Option.some.inj (gFirstT.symm.trans ht')
  have e1 : cs.toList = cubesL.map U32 := by
    have := Lib.cells_of_tab (zs := cubesL.map fun x => (x.toNat : Int)) un_118 un_38 co_38 co_118 hd
    rw [this]; simp
  obtain ⟨xs, m, rfl, hx, hlen, hxl, hel⟩ := DataW.trod_array un_122 hd'
  rw [co_122] at hlen
  have hxs : xs.map (·.1) = [Lib.tabData .u32 (first224.map fun x => (x.toNat : Int)), Lib.tabData .u32 (first256.map fun x => (x.toNat : Int))] := by
    have := congrArg Prod.fst hx
    exact (DataW.agg.inj (show Rows.laid_postmark_sha256_first = DataW.agg (xs.map (·.1)) from this)).symm
  have hat : ∀ i (zs : List (BitVec 32)), i < 2 → (xs.map (·.1))[i]? = some (Lib.tabData .u32 (zs.map fun x => (x.toNat : Int))) → (cs'.toList.drop (i * 8)).take 8 = zs.map U32 := fun i zs hi hz => by
    have h3 := hel i hi
    rw [co_39] at h3
    rw [List.getElem?_map] at hz
    cases hxi : xs[i]? with
    | none => simp [hxi] at hz
    | some y =>
      rw [hxi] at h3 hz
      simp only [Option.map_some, Option.some.injEq] at hz
      obtain ⟨y1, y2⟩ := y
      subst hz
      have := Lib.cells_of_tab (zs := zs.map fun x => (x.toNat : Int)) un39 un_38 co_38 co_39 h3
      rw [this]; simp
  have e2 := hat 0 first224 (by decide) (by rw [hxs]; rfl)
  have e3 := hat 1 first256 (by decide) (by rw [hxs]; rfl)
  have e4 : cs'.toList = (first224 ++ first256).map U32 := by
    rw [List.map_append, ← e2, ← e3]
    simp only [Nat.zero_mul, List.drop_zero, Nat.one_mul]
    have : (cs'.toList.drop 8).take 8 = cs'.toList.drop 8 := List.take_of_length_le (by simp; simp at hlen; omega)
    rw [this, List.take_append_drop]
  refine ⟨RdC.s ?_, RdC.s ?_⟩
  · rw [← e4]; exact rd_var gFirst hvar'
  · rw [← e1]; exact rd_var gCubes hvar

/-- An argument of bytes. -/
theorem open_bytes {H : Type} {enc : TypeId × Value → H} {W : World} {base : Nat} {v : Value} {d : DataW H} {p : List MemPlace} (hval : Value.okWide Tryd.prog W .any base 23 v) (h : DataW.Trod enc Tryd.prog W 0 (fun _ => true) true 23 v d p) :
    ∃ (q : Option Addr) (n c : Nat) (l : List UInt8), v = .slice q n c ∧ l.length = n ∧ (q = none → c = 0) ∧ n ≤ c ∧ c ≤ maxLen ∧ RdC W q (l.map B8) := by
  obtain ⟨a, n, c, rfl⟩ := okWide_slice un_23 hval
  obtain ⟨fuel, hf⟩ := h
  rcases open_ints un_23 un_5 co5 hf with ⟨hcs, hx⟩ | ⟨a', len, cap, zs, hcs, _, hl, hm, hz, hx, hcell, hwz⟩
  · simp [Value.cells] at hcs
    obtain ⟨rfl, rfl, rfl⟩ := hcs
    exact ⟨none, 0, 0, [], rfl, rfl, fun _ => rfl, Nat.le_refl _, Nat.zero_le _, RdC.nil⟩
  · simp [Value.cells] at hcs
    obtain ⟨rfl, rfl, rfl⟩ := hcs
    simp only [if_true] at hz
    refine ⟨some a', _, _, (zs.take n).map fun z => UInt8.ofNat z.toNat, rfl, by simp; omega, by simp, hl, hm, ?_⟩
    intro j u hj
    simp only [List.map_map, List.getElem?_map, Option.map_eq_some_iff] at hj
    obtain ⟨z, hzj, rfl⟩ := hj
    rw [List.getElem?_take] at hzj
    split at hzj
    · rename_i hjl
      have hjz : j < zs.length := by omega
      have hc := hcell j hjz
      have hzv : zs.getD j 0 = z := by simp [hzj]
      rw [hzv] at hc
      have hw := hwz z (List.mem_of_getElem? hzj)
      have hb : 0 ≤ z ∧ z < 256 := by
        simp [Lit.wf, IntKind.min, IntKind.max, IntKind.signed, IntKind.bits] at hw
        omega
      obtain ⟨b, o, sp⟩ := a'
      have hspot : sp = none := by
        have h0 := World.cell?_spot (hcell 0 (by omega))
        simpa [Addr.add] using h0
      subst hspot
      refine ⟨b, o, rfl, ?_⟩
      rw [add_at] at hc
      rw [hc]
      have : ((UInt8.ofNat z.toNat).toNat : Int) = z := by
        rw [UInt8.toNat_ofNat']
        omega
      exact congrArg (fun t : Int => some (Value.int .u8 t)) this.symm
    · cases hzj

theorem trodAll_below {H : Type} {enc : TypeId × Value → H} {W W' : World} (hb : Below W.heap.size W W') : ∀ {ts : List TypeId} {vs : List Value} {ds : List (DataW H)} {ps : List MemPlace}, (∀ t ∈ ts, Tryd.prog.readableRec t = true ∧ t < Tryd.prog.types.size) →
    DataW.TrodAll enc Tryd.prog W 0 (fun _ => true) true ts vs ds ps → (∀ x ∈ ps, x.block < W.heap.size) → DataW.TrodAll enc Tryd.prog W' 0 (fun b => decide (b < W.heap.size)) true ts vs ds ps
  | [], _, _, _, _, h, _ => by
    obtain ⟨rfl, rfl, rfl⟩ := trodAll_nil h
    exact trodAll_mk0
  | t :: ts, _, _, _, ht, h, hlt => by
    obtain ⟨v, vs, d, ds, p, q, rfl, rfl, rfl, h1, h2⟩ := trodAll_cons h
    exact trodAll_cons_mk (Below.trod laidOut (ht t (by simp)).1 (ht t (by simp)).2 h1 hb (fun x hx => hlt x (by simp [hx]))) (trodAll_below hb (fun u hu => ht u (by simp [hu])) h2 (fun x hx => hlt x (by simp [hx])))

/-- The post of a law: it answers true, and the input reads as it did. -/
theorem law_post {H : Type} {enc : TypeId × Value → H} {f : Func} {s : ChangeSpec} {W W' : World} {args : Array Value} {ds gs : List (DataW H)} {before : List MemPlace} (hW : DataW.Whole enc Tryd.prog f.params.toList s.vars false W args.toList ds gs before)
    (hrt : f.resultTypes = #[4]) (hv : s.vars = []) (hfn : (s.fn H (ds ++ gs)).results = [.lit (.bool true)] ∧ (s.fn H (ds ++ gs)).args = ds ∧ (s.fn H (ds ++ gs)).vars = []) (hread : ∀ t ∈ f.params.toList, Tryd.prog.readableRec t = true ∧ t < Tryd.prog.types.size)
    (hb : Below W.heap.size W W') : s.post enc Tryd.prog f false true false false W args (.bool true) W' := by
  have hW' := hW
  obtain ⟨p, q, hA, hV, rfl, _, _⟩ := hW
  rw [hv] at hV
  obtain ⟨rfl, rfl⟩ := trodVars_none hV
  obtain ⟨f1, f2, f3⟩ := hfn
  refine ⟨ds, [], p ++ [], [], p, [], hW', ?_, ?_, ?_, Below.frame hb _, fun h => by cases h⟩
  · rw [f1, hrt]; exact trodAll_cons_mk (shut_bool un_4 _) trodAll_mk0
  · rw [f2]; exact trodAll_below hb hread hA (fun x hx => hW'.lt x (by simp [hx]))
  · rw [f3, hv]; rfl
end Go.Proofs.YtokhediaibdkjaaDoor

/-! From C1 -/
/- Numbers of eight bytes among a row's arguments. -/
namespace Go.Proofs.YtokhediaibdkjaaDoor
set_option maxRecDepth 100000
open Go.Pm Go.ChangeShapes Go.WideShapes Go.ChangeAt Go.RowKit
theorem un_34 : Tryd.prog.underlying 34 = some (.int .u64) := by kernel_rfl
theorem u64_of {z : Int} (h : Lit.wf (.int .u64 z) = true) : ∃ N : BitVec 64, z = (N.toNat : Int) := by
  have hz : 0 ≤ z ∧ z < 18446744073709551616 := by
    simp [Lit.wf, IntKind.min, IntKind.max, IntKind.signed, IntKind.bits] at h
    omega
  refine ⟨BitVec.ofNat 64 z.toNat, ?_⟩
  rw [BitVec.toNat_ofNat, Nat.mod_eq_of_lt (by omega)]
  omega
end Go.Proofs.YtokhediaibdkjaaDoor

/-! From L12 -/
/- The walk of SlotBack. (printed by gen1.py) -/
namespace Go.Proofs.YtokhediaibdkjaaDoor
open Go.Pm Go.RowKit
set_option maxRecDepth 100000
theorem f12_zero (n : BitVec 64) (pA : Option Addr) (nA cA : Nat) (lA : List UInt8) (hlA : lA.length = nA) (hpA : pA = none → cA = 0) (hcA : nA ≤ cA) (pB : Option Addr) (nB cB : Nat) (lB : List UInt8) (hlB : lB.length = nB) (hpB : pB = none → cB = 0) (hcB : nB ≤ cB) (tail : BitVec 64) (w : World) (hrA : RdC w pA (lA.map B8)) (hrB : RdC w pB (lB.map B8)) (hG : Gl w []) (hn : n = 0#64) : Calls Tryd.prog 12 [U64 n, .slice pA nA cA, .slice pB nB cB, U64 tail].toArray w (fun en w2 => en = .returned (.bool true) ∧ Sat w [] [] w2) := by
  refine enter (n := 152) Tryd.func12 rfl rfl rfl (Sat.refl w) ?_
  refine seq ?_
  refine region ?_
  refine st (g_assign rfl) rfl ?_
  refine done ?_
  refine th_n ?_
  refine seq ?_
  refine region ?_
  refine sq rfl (o_callP Tryd.func54 rfl rfl rfl (fun w hw => f54_spec w (Gl.ofOld (A := []) hG hw .nil)) rfl ?_)
  refine st (g_assign rfl) rfl ?_
  refine done ?_
  refine th_n ?_
  refine seq ?_
  refine seq ?_
  refine region ?_
  refine st (g_move rfl) rfl ?_
  refine st (g_len el_23 rfl) rfl ?_
  refine sp (g_bin rfl rfl rfl) rfl (fun h25 => ?_) (fun h25 => ?_)
  · refine st (g_move rfl) rfl ?_
    refine gf rfl rfl ?_
    refine gf rfl rfl ?_
    refine gf rfl rfl ?_
    refine st (g_pickT rfl rfl) rfl ?_
    refine st (g_move rfl) rfl ?_
    refine gf rfl rfl ?_
    refine gf rfl rfl ?_
    refine st (g_pickT rfl rfl) rfl ?_
    refine done ?_
    refine th_n ?_
    refine condT rfl ?_
    refine seq ?_
    refine region ?_
    refine st (g_move rfl) rfl ?_
    refine st (g_assign rfl) rfl ?_
    refine done ?_
    refine th_n ?_
    refine ret ?_
    refine th_r ?_
    exact ret1 rfl rfl rfl (fun w2 hw2 => ⟨rfl, hw2.clear⟩)
  · refine st (g_move rfl) rfl ?_
    refine gt rfl ?_
    refine st (g_move rfl) rfl ?_
    refine gt rfl ?_
    refine st (g_len el_23 rfl) rfl ?_
    refine gt rfl ?_
    refine sp (g_bin rfl rfl rfl) rfl (fun h29 => ?_) (fun h29 => ?_)
    · refine st (g_pickF rfl rfl) rfl ?_
      refine st (g_move rfl) rfl ?_
      refine gf rfl rfl ?_
      refine gf rfl rfl ?_
      refine st (g_pickT rfl rfl) rfl ?_
      refine done ?_
      refine th_n ?_
      refine condT rfl ?_
      refine seq ?_
      refine region ?_
      refine st (g_move rfl) rfl ?_
      refine st (g_assign rfl) rfl ?_
      refine done ?_
      refine th_n ?_
      refine ret ?_
      refine th_r ?_
      exact ret1 rfl rfl rfl (fun w2 hw2 => ⟨rfl, hw2.clear⟩)
    · refine st (g_pickF rfl rfl) rfl ?_
      refine st (g_move rfl) rfl ?_
      refine gt rfl ?_
      refine st (g_move rfl) rfl ?_
      refine gt rfl ?_
      refine st (g_not rfl) rfl ?_
      refine st (g_pickF rfl rfl) rfl ?_
      refine done ?_
      refine th_n ?_
      refine condF rfl ?_
      refine skip ?_
      refine th_n ?_
      refine seq ?_
      refine region ?_
      refine st (g_move rfl) rfl ?_
      refine st (g_move rfl) rfl ?_
      refine sq rfl (o_call Tryd.func55 rfl rfl rfl .nil (fun w hw hA => f55_spec pA nA cA lA hlA w (RdS.c (S := []) (RdS.ofOld (A := []) hrA.s hw .nil))) rfl (fun g _ => ?_))
      refine st (g_build rfl (bu_73 _ _ rfl)) rfl ?_
      refine sq rfl (o_callP Tryd.func45 rfl rfl rfl (fun w hw => f45_bad n _ 24 24 (.inl hn) w) rfl ?_)
      refine st (g_move rfl) rfl ?_
      refine st (g_extract rfl rfl) rfl ?_
      refine st (g_extract rfl rfl) rfl ?_
      refine st (g_assign rfl) rfl ?_
      refine st (g_assign rfl) rfl ?_
      refine done ?_
      refine th_n ?_
      refine seq ?_
      refine seq ?_
      refine region ?_
      refine st (g_move rfl) rfl ?_
      refine st (g_T rfl rfl rfl (by rw [hn]; rfl)) rfl ?_
      refine done ?_
      refine th_n ?_
      refine condT rfl ?_
      refine seq ?_
      refine region ?_
      refine st (g_move rfl) rfl ?_
      refine st (g_move rfl) rfl ?_
      refine gt rfl ?_
      refine st (g_move rfl) rfl ?_
      refine gt rfl ?_
      refine st (g_T rfl rfl rfl (rfl)) rfl ?_
      refine st (g_pickT rfl rfl) rfl ?_
      refine st (g_move rfl) rfl ?_
      refine gt rfl ?_
      refine st (g_move rfl) rfl ?_
      refine gt rfl ?_
      refine st (g_len el_23 rfl) rfl ?_
      refine gt rfl ?_
      refine st (g_T rfl rfl rfl (rfl)) rfl ?_
      refine st (g_pickT rfl rfl) rfl ?_
      refine st (g_assign rfl) rfl ?_
      refine done ?_
      refine th_n ?_
      refine ret ?_
      refine th_r ?_
      exact ret1 rfl rfl rfl (fun w2 hw2 => ⟨rfl, hw2.clear⟩)

theorem f12_some (n : BitVec 64) (pA : Option Addr) (nA cA : Nat) (lA : List UInt8) (hlA : lA.length = nA) (hpA : pA = none → cA = 0) (hcA : nA ≤ cA) (pB : Option Addr) (nB cB : Nat) (lB : List UInt8) (hlB : lB.length = nB) (hpB : pB = none → cB = 0) (hcB : nB ≤ cB) (tail : BitVec 64) (w : World) (hrA : RdC w pA (lA.map B8)) (hrB : RdC w pB (lB.map B8)) (hG : Gl w []) (hn : n ≠ 0#64) : Calls Tryd.prog 12 [U64 n, .slice pA nA cA, .slice pB nB cB, U64 tail].toArray w (fun en w2 => en = .returned (.bool true) ∧ Sat w [] [] w2) := by
  refine enter (n := 152) Tryd.func12 rfl rfl rfl (Sat.refl w) ?_
  refine seq ?_
  refine region ?_
  refine st (g_assign rfl) rfl ?_
  refine done ?_
  refine th_n ?_
  refine seq ?_
  refine region ?_
  refine sq rfl (o_callP Tryd.func54 rfl rfl rfl (fun w hw => f54_spec w (Gl.ofOld (A := []) hG hw .nil)) rfl ?_)
  refine st (g_assign rfl) rfl ?_
  refine done ?_
  refine th_n ?_
  refine seq ?_
  refine seq ?_
  refine region ?_
  refine st (g_move rfl) rfl ?_
  refine st (g_len el_23 rfl) rfl ?_
  refine sp (g_bin rfl rfl rfl) rfl (fun h25 => ?_) (fun h25 => ?_)
  · refine st (g_move rfl) rfl ?_
    refine gf rfl rfl ?_
    refine gf rfl rfl ?_
    refine gf rfl rfl ?_
    refine st (g_pickT rfl rfl) rfl ?_
    refine st (g_move rfl) rfl ?_
    refine gf rfl rfl ?_
    refine gf rfl rfl ?_
    refine st (g_pickT rfl rfl) rfl ?_
    refine done ?_
    refine th_n ?_
    refine condT rfl ?_
    refine seq ?_
    refine region ?_
    refine st (g_move rfl) rfl ?_
    refine st (g_assign rfl) rfl ?_
    refine done ?_
    refine th_n ?_
    refine ret ?_
    refine th_r ?_
    exact ret1 rfl rfl rfl (fun w2 hw2 => ⟨rfl, hw2.clear⟩)
  · refine st (g_move rfl) rfl ?_
    refine gt rfl ?_
    refine st (g_move rfl) rfl ?_
    refine gt rfl ?_
    refine st (g_len el_23 rfl) rfl ?_
    refine gt rfl ?_
    refine sp (g_bin rfl rfl rfl) rfl (fun h29 => ?_) (fun h29 => ?_)
    · refine st (g_pickF rfl rfl) rfl ?_
      refine st (g_move rfl) rfl ?_
      refine gf rfl rfl ?_
      refine gf rfl rfl ?_
      refine st (g_pickT rfl rfl) rfl ?_
      refine done ?_
      refine th_n ?_
      refine condT rfl ?_
      refine seq ?_
      refine region ?_
      refine st (g_move rfl) rfl ?_
      refine st (g_assign rfl) rfl ?_
      refine done ?_
      refine th_n ?_
      refine ret ?_
      refine th_r ?_
      exact ret1 rfl rfl rfl (fun w2 hw2 => ⟨rfl, hw2.clear⟩)
    · refine st (g_pickF rfl rfl) rfl ?_
      refine st (g_move rfl) rfl ?_
      refine gt rfl ?_
      refine st (g_move rfl) rfl ?_
      refine gt rfl ?_
      refine st (g_not rfl) rfl ?_
      refine st (g_pickF rfl rfl) rfl ?_
      refine done ?_
      refine th_n ?_
      refine condF rfl ?_
      refine skip ?_
      refine th_n ?_
      refine seq ?_
      refine region ?_
      refine st (g_move rfl) rfl ?_
      refine st (g_move rfl) rfl ?_
      refine sq rfl (o_call Tryd.func55 rfl rfl rfl .nil (fun w hw hA => f55_spec pA nA cA lA hlA w (RdS.c (S := []) (RdS.ofOld (A := []) hrA.s hw .nil))) rfl (fun g _ => ?_))
      refine st (g_build rfl (bu_73 _ _ rfl)) rfl ?_
      refine sq rfl (o_call Tryd.func45 rfl rfl rfl .nil (fun w hw hA => f45_good n (some ⟨g, 0, none⟩) 24 24 (dat lA) (dat_length lA) nofun (Nat.le_refl _) hn rfl w (RdC.ofBlk hw .here List.take_length) (Gl.ofOld (A := []) hG hw .nil)) rfl (fun s hs => ?_))
      refine st (g_move rfl) rfl ?_
      refine st (g_extract rfl rfl) rfl ?_
      refine st (g_extract rfl rfl) rfl ?_
      refine st (g_assign rfl) rfl ?_
      refine st (g_assign rfl) rfl ?_
      refine done ?_
      refine th_n ?_
      refine seq ?_
      refine seq ?_
      refine region ?_
      refine st (g_move rfl) rfl ?_
      refine st (g_F rfl rfl rfl (u64_ne hn)) rfl ?_
      refine done ?_
      refine th_n ?_
      refine condF rfl ?_
      refine skip ?_
      refine th_n ?_
      refine seq ?_
      refine region ?_
      refine st (g_move rfl) rfl ?_
      refine sq rfl (o_call Tryd.func47 rfl rfl rfl .nil (fun w hw hA => f47_some s.1 64 s.2 (encW n (dat lA)) (encW_length n (dat_length lA)) hs.1 hs.2 (by decide) w (RdC.ofVec (hw.get .here)) (Gl.ofOld (A := []) hG hw .nil) n (dat lA) (decW_enc hn (dat_length lA))) rfl (fun y hy => ?_))
      refine st (g_move rfl) rfl ?_
      refine st (g_extract rfl rfl) rfl ?_
      refine st (g_extract rfl rfl) rfl ?_
      refine sq rfl (o_alloc (zs := [U64 0#64, .slice none 0 0]) zr_73 rfl (fun b12 => ?_))
      refine sq rfl (o_storeA (cs' := [U64 n, slv 24 y]) sz_73 rfl rfl rfl (by simp; exact ⟨rfl, rfl⟩) .here (Nat.le_of_ble_eq_true rfl) rfl ?_)
      refine st (g_assign rfl) rfl ?_
      refine done ?_
      refine th_n ?_
      refine seq ?_
      refine seq ?_
      refine regionL ⟨[_, _], [], []⟩ mixed (by decide +kernel) (.cons .here (.cons .here .nil)) .nil ?_
      refine An'.q 0 [] rfl (by decide +kernel) rfl rfl (g_move rfl) rfl ?_
      refine An'.q 1 [] rfl (by decide +kernel) rfl rfl (g_F rfl rfl rfl (by decide)) rfl ?_
      refine An'.q 2 [] rfl (by decide +kernel) rfl rfl (g_move rfl) rfl ?_
      refine An'.q 3 [] rfl (by decide +kernel) rfl rfl (g_move rfl) rfl ?_
      refine An'.q 4 [] rfl (by decide +kernel) rfl rfl (g_F rfl rfl rfl (by decide)) rfl ?_
      refine An'.q 5 [] rfl (by decide +kernel) rfl rfl (g_pickF rfl rfl) rfl ?_
      refine An'.q 6 [] rfl (by decide +kernel) rfl rfl (g_move rfl) rfl ?_
      refine An'.q 7 [] rfl (by decide +kernel) rfl rfl (g_fieldAddr fo_73_0 rfl rfl) rfl ?_
      refine An'.q 8 [] rfl (by decide +kernel) rfl rfl (g_load (v := U64 n) sc_34 rfl (Cell.own .here rfl)) rfl ?_
      refine An'.q 9 [] rfl (by decide +kernel) rfl rfl (g_move rfl) rfl ?_
      refine An'.q 10 [] rfl (by decide +kernel) rfl rfl (g_F rfl rfl rfl (fun h => h rfl)) rfl ?_
      refine An'.q 11 [] rfl (by decide +kernel) rfl rfl (g_pickF rfl rfl) rfl ?_
      refine An'.q 12 [] rfl (by decide +kernel) rfl rfl (g_move rfl) rfl ?_
      refine An'.q 13 [] rfl (by decide +kernel) rfl rfl (g_fieldAddr fo_73_1 rfl rfl) rfl ?_
      refine An'.q 14 [] rfl (by decide +kernel) rfl rfl (g_load (v := slv 24 y) sc_23 rfl (Cell.own .here rfl)) rfl ?_
      refine An'.q 15 [] rfl (by decide +kernel) rfl rfl (g_str (l := dat lA) by_23 str_9 rfl (dat_length lA) (RdA.vec (.there (.here)))) rfl ?_
      refine An'.q 16 [] rfl (by decide +kernel) rfl rfl (g_move rfl) rfl ?_
      refine An'.oneG 17 (by decide +kernel) rfl rfl ?_
      refine o_call Tryd.func55 rfl rfl rfl .nil (fun w hw hA => f55_spec pA nA cA lA hlA w (RdS.c (S := []) (RdS.ofOld (A := []) hrA.s hw .nil))) rfl (fun g2 _ => ?_)
      refine An'.on0 (.cons (.there (.here)) (.cons (.there (.here)) .nil)) .nil rfl ?_
      refine An'.oneG 18 (by decide +kernel) rfl rfl ?_
      refine gv (g_str (l := dat lA) by_23 str_9 rfl (dat_length lA) (RdA.own .here (fun j v hj => by rw [Nat.zero_add]; exact hj))) rfl rfl ?_
      refine An'.on0 (.cons (.there (.here)) (.cons (.there (.here)) .nil)) .nil rfl ?_
      refine An'.q 19 [] rfl (by decide +kernel) rfl rfl (g_neSF rfl rfl (rfl)) rfl ?_
      refine An'.q 20 [] rfl (by decide +kernel) rfl rfl (g_pickF rfl rfl) rfl ?_
      refine An'.q 21 [] rfl (by decide +kernel) rfl rfl (g_move rfl) rfl ?_
      refine An'.q 22 [] rfl (by decide +kernel) rfl rfl (g_move rfl) rfl ?_
      refine An'.q 23 [] rfl (by decide +kernel) rfl rfl (g_len el_23 rfl) rfl ?_
      refine An'.q 24 [] rfl (by decide +kernel) rfl rfl (g_F rfl rfl rfl (by decide)) rfl ?_
      refine An'.q 25 [] rfl (by decide +kernel) rfl rfl (g_pickF rfl rfl) rfl ?_
      refine An'.fin (by decide +kernel) ?_
      refine th_n ?_
      refine condF rfl ?_
      refine skip ?_
      refine th_n ?_
      refine seq ?_
      refine region ?_
      refine sq rfl (o_buildSlice0 un_23 sz_5 rfl (fun b87 => ?_))
      refine st (g_move rfl) rfl ?_
      refine sq rfl (o_append (n := 0) (m := 64) (news := (encW n (dat lA)).map B8) un_23 zr_5 sz_5 rfl bt_5 (by decide) rfl rfl .here (by rw [List.length_map, encW_length n (dat_length lA)]) (RdA.vec (.there (.there (.there (.there (.here)))))) oneB8 hs.1 (by decide) (by decide) rfl (fun q1 cap1 hq1 hc1 hq01 => ?_))
      refine blkOfVec .here (by decide) (fun bx rx hx => ?_)
      subst hx
      refine st (g_assign rfl) rfl ?_
      refine done ?_
      refine th_n ?_
      refine seq ?_
      refine seq ?_
      refine region ?_
      refine st (g_assign rfl) rfl ?_
      refine done ?_
      refine th_n ?_
      refine block ?_
      refine loop (α := Nat) (fun i => i ≤ 8) (fun i => [(0, U64 n), (2, .slice pB nB cB), (3, U64 tail), (9, .bool true), (14, .slice (some ⟨bx, 0, none⟩) 64 cap1), (15, I64 (i : Nat))]) (fun i => [blk bx 5 ((tailW n (dat lA) tail i).map B8 ++ rx)]) (fun i => 8 - i) 0 (Nat.zero_le _) ⟨rfl, rfl, rfl, rfl, rfl, rfl, trivial⟩ (.cons .here .nil) (fun i hI => ?_)
      refine seq ?_
      refine seq ?_
      refine region ?_
      refine st (g_move rfl) rfl ?_
      refine st (g_bin rfl rfl rfl) rfl ?_
      refine done ?_
      refine th_n ?_
      refine condS rfl (fun h91 => ?_) (fun h91 => ?_)
      · try simp only [decide_eq_true_eq, decide_eq_false_iff_not] at h91
        have hi : i < 8 := by omega
        have htl := tailW_length n (dat_length lA) tail (i := i) (by omega)
        refine skip ?_
        refine th_n ?_
        refine seq ?_
        refine block ?_
        refine region ?_
        refine st (g_move rfl) rfl ?_
        refine st (g_move rfl) rfl ?_
        refine st (g_iadd (c := ((52 + i : Nat) : Int)) rfl rfl (by omega) (by omega) (by omega)) rfl ?_
        refine st (g_move rfl) rfl ?_
        refine st (g_move rfl) rfl ?_
        refine st (g_imul (c := ((8 * i : Nat) : Int)) rfl rfl (by omega) (by omega) (by omega)) rfl ?_
        refine st (g_isub (c := ((56 - 8 * i : Nat) : Int)) rfl rfl (by omega) (by omega) (by omega)) rfl ?_
        refine st (g_to64 (n := 56 - 8 * i) it_3 it_99 rfl (by omega)) rfl ?_
        refine st (g_shr64 (n := 56 - 8 * i) rfl rfl (by rw [BitVec.toNat_ofNat, Nat.mod_eq_of_lt (by omega)])) rfl ?_
        refine st (g_to8 it_34 it_5 rfl rfl) rfl ?_
        refine st (g_indexS (m := 52 + i) el_23 rfl rfl (by omega) (by omega) (by omega)) rfl ?_
        refine sq rfl (o_store (cs' := (tailW n (dat lA) tail (i + 1)).map B8 ++ rx) sz_5 rfl rfl rfl .here (by simp only [List.length_append, List.length_map, htl]; omega) (tail_store n (dat_length lA) tail hi rx) ?_)
        refine done ?_
        refine ib_n ?_
        refine th_n ?_
        refine region ?_
        refine st (g_move rfl) rfl ?_
        refine st (g_iadd (c := ((i + 1 : Nat) : Int)) rfl rfl (by omega) (by omega) (by omega)) rfl ?_
        refine st (g_assign rfl) rfl ?_
        refine done ?_
        refine th_n ?_
        exact again (i + 1) (by omega) (by omega) ⟨rfl, rfl, rfl, rfl, rfl, rfl, trivial⟩ (.cons .here .nil)
      · try simp only [decide_eq_true_eq, decide_eq_false_iff_not] at h91
        have hie : i = 8 := by omega
        subst hie
        refine exitc ?_
        refine th_x ?_
        refine th_x ?_
        refine ib_x ?_
        refine th_n ?_
        refine seq ?_
        refine region ?_
        refine st (g_move rfl) rfl ?_
        refine sq rfl (o_call Tryd.func47 rfl rfl rfl .nil (fun w hw hA => f47_all (some ⟨bx, 0, none⟩) 64 cap1 (tailW n (dat lA) tail 8) (tailW_length n (dat_length lA) tail (Nat.le_refl _)) nofun (by omega) (by decide) w (RdC.ofBlk hw .here take_app) (Gl.ofOld (A := []) hG hw .nil)) rfl (fun z hz => ?_))
        refine st (g_move rfl) rfl ?_
        refine st (g_extract rfl rfl) rfl ?_
        refine st (g_extract rfl rfl) rfl ?_
        refine sq rfl (o_alloc (zs := [U64 0#64, .slice none 0 0]) zr_73 rfl (fun b16 => ?_))
        refine sq rfl (o_storeA (cs' := [U64 (decR (tailW n (dat lA) tail 8)).1, slv (decR (tailW n (dat lA) tail 8)).2.1.length z]) sz_73 rfl rfl rfl (by simp; exact ⟨rfl, rfl⟩) .here (Nat.le_of_ble_eq_true rfl) rfl ?_)
        refine st (g_assign rfl) rfl ?_
        refine done ?_
        refine th_n ?_
        refine seq ?_
        refine seq ?_
        refine region ?_
        refine st (g_move rfl) rfl ?_
        refine st (g_bin rfl rfl rfl) rfl ?_
        refine st (g_move rfl) rfl ?_
        refine st (g_move rfl) rfl ?_
        refine st (g_bin rfl rfl rfl) rfl ?_
        refine st (g_neBF bo_4 rfl rfl (tail_dec hn (dat_length lA) tail)) rfl ?_
        refine done ?_
        refine th_n ?_
        refine condF rfl ?_
        refine skip ?_
        refine th_n ?_
        refine seq ?_
        refine region ?_
        refine st (g_move rfl) rfl ?_
        refine sq rfl (o_call Tryd.func47 rfl rfl rfl .nil (fun w hw hA => f47_all pB nB cB lB hlB hpB hcB (by omega) w (RdS.c (S := []) (RdS.ofOld (A := []) hrB.s hw .nil)) (Gl.ofOld (A := []) hG hw .nil)) rfl (fun u hu => ?_))
        refine st (g_move rfl) rfl ?_
        refine st (g_extract rfl rfl) rfl ?_
        refine st (g_extract rfl rfl) rfl ?_
        refine sq rfl (o_alloc (zs := [U64 0#64, .slice none 0 0]) zr_73 rfl (fun b18 => ?_))
        refine sq rfl (o_storeA (cs' := [U64 (decR lB).1, slv (decR lB).2.1.length u]) sz_73 rfl rfl rfl (by simp; exact ⟨rfl, rfl⟩) .here (Nat.le_of_ble_eq_true rfl) rfl ?_)
        refine st (g_assign rfl) rfl ?_
        refine done ?_
        refine th_n ?_
        refine seq ?_
        refine seq ?_
        refine region ?_
        refine st (g_move rfl) rfl ?_
        refine st (g_bin rfl rfl rfl) rfl ?_
        refine done ?_
        refine th_n ?_
        refine condS rfl (fun h122 => ?_) (fun h122 => ?_)
        · try simp only [decide_eq_true_eq, decide_eq_false_iff_not] at h122
          obtain ⟨e1, e2⟩ := decR_bad (l := lB) (by simpa using h122)
          refine seq ?_
          refine region ?_
          refine st (g_move rfl) rfl ?_
          refine st (g_move rfl) rfl ?_
          refine gt rfl ?_
          refine st (g_fieldAddr fo_73_0 rfl rfl) rfl ?_
          refine gt rfl ?_
          refine st (g_load (v := U64 (decR lB).1) sc_34 rfl (Cell.own .here rfl)) rfl ?_
          refine gt rfl ?_
          refine st (g_T rfl rfl rfl (by rw [e1]; rfl)) rfl ?_
          refine st (g_pickT rfl rfl) rfl ?_
          refine st (g_move rfl) rfl ?_
          refine gt rfl ?_
          refine st (g_fieldAddr fo_73_1 rfl rfl) rfl ?_
          refine gt rfl ?_
          refine st (g_load (v := slv (decR lB).2.1.length u) sc_23 rfl (Cell.own .here rfl)) rfl ?_
          refine gt rfl ?_
          refine st (g_len el_23 rfl) rfl ?_
          refine gt rfl ?_
          refine st (g_T rfl rfl rfl (by rw [e2]; rfl)) rfl ?_
          refine st (g_pickT rfl rfl) rfl ?_
          refine st (g_assign rfl) rfl ?_
          refine done ?_
          refine th_n ?_
          refine ret ?_
          refine th_r ?_
          exact ret1 rfl rfl rfl (fun w2 hw2 => ⟨rfl, hw2.clear⟩)
        · try simp only [decide_eq_true_eq, decide_eq_false_iff_not] at h122
          obtain ⟨m0, m24, hbk, _⟩ := decR_good (l := lB) (by simpa using h122)
          refine skip ?_
          refine th_n ?_
          refine seq ?_
          refine region ?_
          refine st (g_loadA (vs := [U64 (decR lB).1, slv (decR lB).2.1.length u]) ag_73 rfl rfl (Cells.part .here rfl)) rfl ?_
          refine sq rfl (o_call Tryd.func45 rfl rfl rfl .nil (fun w hw hA => f45_good (decR lB).1 u.1 _ u.2 (decR lB).2.1 rfl hu.1 hu.2 m0 m24 w (RdC.ofVec (hw.get (.there (.here)))) (Gl.ofOld (A := []) hG hw .nil)) rfl (fun v hv => ?_))
          refine st (g_move rfl) rfl ?_
          refine st (g_extract rfl rfl) rfl ?_
          refine st (g_extract rfl rfl) rfl ?_
          refine st (g_assign rfl) rfl ?_
          refine st (g_assign rfl) rfl ?_
          refine done ?_
          refine th_n ?_
          refine seq ?_
          refine region ?_
          refine st (g_move rfl) rfl ?_
          refine st (g_move rfl) rfl ?_
          refine gt rfl ?_
          refine st (g_move rfl) rfl ?_
          refine gt rfl ?_
          refine st (g_T rfl rfl rfl (rfl)) rfl ?_
          refine st (g_pickT rfl rfl) rfl ?_
          refine st (g_move rfl) rfl ?_
          refine gt rfl ?_
          refine st (g_move rfl) rfl ?_
          refine gt rfl ?_
          refine st (g_str (l := encW (decR lB).1 (decR lB).2.1) by_23 str_9 rfl (encW_length _ m24) (RdA.vec .here)) rfl ?_
          refine gt rfl ?_
          refine st (g_move rfl) rfl ?_
          refine gt rfl ?_
          refine st (g_str (l := lB) by_23 str_9 rfl hlB (RdA.of hrB.s)) rfl ?_
          refine gt rfl ?_
          refine st (g_eqST rfl rfl (by rw [hbk])) rfl ?_
          refine st (g_pickT rfl rfl) rfl ?_
          refine st (g_assign rfl) rfl ?_
          refine done ?_
          refine th_n ?_
          refine ret ?_
          exact ret1 rfl rfl rfl (fun w2 hw2 => ⟨rfl, hw2.clear⟩)

theorem f12_spec (n : BitVec 64) (pA : Option Addr) (nA cA : Nat) (lA : List UInt8) (hlA : lA.length = nA) (hpA : pA = none → cA = 0) (hcA : nA ≤ cA) (pB : Option Addr) (nB cB : Nat) (lB : List UInt8) (hlB : lB.length = nB) (hpB : pB = none → cB = 0) (hcB : nB ≤ cB) (tail : BitVec 64) (w : World) (hrA : RdC w pA (lA.map B8)) (hrB : RdC w pB (lB.map B8)) (hG : Gl w []) : Calls Tryd.prog 12 [U64 n, .slice pA nA cA, .slice pB nB cB, U64 tail].toArray w (fun en w2 => en = .returned (.bool true) ∧ Sat w [] [] w2) := by
  by_cases hn : n = 0#64
  · exact f12_zero n pA nA cA lA hlA hpA hcA pB nB cB lB hlB hpB hcB tail w hrA hrB hG hn
  · exact f12_some n pA nA cA lA hlA hpA hcA pB nB cB lB hlB hpB hcB tail w hrA hrB hG hn
end Go.Proofs.YtokhediaibdkjaaDoor

/-! From C12 -/
/- The law SlotBack: its row and its card. (printed by genC.py) -/
namespace Go.Proofs.YtokhediaibdkjaaDoor
set_option maxRecDepth 100000
open Go.Pm Go.ChangeShapes Go.WideShapes Go.ChangeAt Go.RowKit

theorem slotBack_contract (H : Type) (enc : TypeId × Value → H) (W : World) (base : Nat) (args : Array Value) (ds gs : List (DataW H)) (before : List MemPlace)
    (hval : ∀ (j : Nat) t v, Tryd.f12.params[j]? = some t → args[j]? = some v → Value.okWide Tryd.prog W .any base t v)
    (hW : DataW.Whole enc Tryd.prog Tryd.f12.params.toList Rows.slotBackSpec.vars false W args.toList ds gs before) (hL : laidMetH Tryd.prog Rows.slotBackRow.laid W) :
    Calls Tryd.prog 12 args W fun e W' => ∃ v, e = .returned v ∧ Rows.slotBackSpec.post enc Tryd.prog Tryd.f12 false true false false W args v W' := by
  have hG : Gl W [] := gl_of_laid (.tail _ (.head _)) (.tail _ (.tail _ (.head _))) (show laidMet Tryd.prog Rows.slotBackRow.laid W from hL)
  have hW' := hW
  obtain ⟨p, q, hA0, hV, rfl, hfz, hnd⟩ := hW
  have hAll : DataW.TrodAll enc Tryd.prog W 0 (fun _ => true) true Tryd.f12.params.toList args.toList ds p := hA0
  rw [Tryd.params12] at hAll hval
  obtain ⟨rfl, rfl⟩ := trodVars_none hV
  obtain ⟨vn, vs0, dn, ds0, pn0, q0, hv0, rfl, rfl, hn, hAll⟩ := trodAll_cons hAll
  obtain ⟨vA, vs1, dA, ds1, pA0, q1, hv1, rfl, rfl, hA, hAll⟩ := trodAll_cons hAll
  obtain ⟨vB, vs2, dB, ds2, pB0, q2, hv2, rfl, rfl, hB, hAll⟩ := trodAll_cons hAll
  obtain ⟨vt, vs3, dt, ds3, pt0, q3, hv3, rfl, rfl, ht, hAll⟩ := trodAll_cons hAll
  obtain ⟨rfl, rfl, rfl⟩ := trodAll_nil hAll
  obtain rfl : args = #[vn, vA, vB, vt] := by cases args; simp_all
  obtain ⟨n, rfl, rfl, rfl, wfn⟩ := open_int un_34 (hval 0 34 _ rfl rfl) hn
  obtain ⟨pA, nA, cA, lA, rfl, hlA, hpA, hcA, hmA, hrA⟩ := open_bytes (hval 1 23 _ rfl rfl) hA
  obtain ⟨pB, nB, cB, lB, rfl, hlB, hpB, hcB, hmB, hrB⟩ := open_bytes (hval 2 23 _ rfl rfl) hB
  obtain ⟨t, rfl, rfl, rfl, wft⟩ := open_int un_34 (hval 3 34 _ rfl rfl) ht
  clear hA0
  refine Calls.mono (R := fun e W' => e = .returned (.bool true) ∧ Sat W [] [] W') ?_ ?_
  · obtain ⟨N, rfl⟩ := u64_of wfn
    obtain ⟨T, rfl⟩ := u64_of wft
    exact f12_spec N pA nA cA lA hlA hpA hcA pB nB cB lB hlB hpB hcB T W hrA hrB hG
  · rintro e W' ⟨rfl, hs⟩
    exact ⟨_, rfl, law_post hW' (by kernel_rfl) rfl ⟨rfl, rfl, rfl⟩ (by rw [Tryd.params12]; decide +kernel) hs.below⟩

noncomputable def slotBack_world (os : Os) : World :=
  { World.holding Tryd.prog os ⟨#[], #[], []⟩ with heap := ((((World.holding Tryd.prog os ⟨#[], #[], []⟩).heap.modify 0 (layTab ((first224 ++ first256).map U32))).modify 1 (layTab (cubesL.map U32))).modify 2 (layTab (Go.Pinned.utf8FirstZ.map fun n : Nat => Value.int .u8 (n : Int)))).modify 3 (layTab (([128, 191, 160, 191, 128, 159, 144, 191, 128, 143] ++ List.replicate 22 0).map fun n : Nat => Value.int .u8 (n : Int))) }
theorem slotBack_laid (os : Os) : laidMet Tryd.prog Rows.slotBackRow.laid ((slotBack_world os).forCall (fun _ _ => 0) ⟨#[], #[.int .u64 0, .slice none 0 0, .slice none 0 0, .int .u64 0], []⟩).memory :=
  laidMet_of_run' 8 (by kernel_rfl) (by kernel_rfl)
theorem slotBack_reads (os : Os) {H : Type} (enc : TypeId × Value → H) : ∃ places, DataW.whole enc Tryd.prog ((slotBack_world os).forCall (fun _ _ => 0) ⟨#[], #[.int .u64 0, .slice none 0 0, .slice none 0 0, .int .u64 0], []⟩).memory Tryd.f12.params.toList Rows.slotBackSpec.vars false (#[.int .u64 0, .slice none 0 0, .slice none 0 0, .int .u64 0] : Array Value).toList 8 = some ([.lit (.int .u64 0), .nil, .nil, .lit (.int .u64 0)], [], places) :=
  ⟨[], by kernel_rfl⟩

theorem slotBack_lifted (os : Os) (started : os.Started) (H : Type) (enc : TypeId × Value → H) (F : Stop.Interp) :
    ReturnsInHanded {} Tryd.checked os 12 .any ((OpenSpec.ofChange Rows.slotBackSpec).preRow enc Tryd.prog Tryd.f12 Rows.slotBackRow.domain false Rows.slotBackRow.laid) (((OpenSpec.ofChange Rows.slotBackSpec).at F).post enc Tryd.prog Tryd.f12 false true false false) := by
  obtain ⟨places, hx⟩ := slotBack_reads os enc
  refine returnsInHanded_of_row (C := Tryd.checked) (s := OpenSpec.ofChange Rows.slotBackSpec) own started (by kernel_rfl) Tryd.func12
    (witness_row_at (enc := enc) (C := Tryd.checked) false (slotBack_world os) #[.int .u64 0, .slice none 0 0, .slice none 0 0, .int .u64 0] rfl (by kernel_rfl) (by kernel_rfl) (by kernel_rfl)
      (OpenSpec.preRow_of_cond 8 hx (by kernel_rfl) (fun k hk => by cases hk) (by kernel_rfl) (slotBack_laid os))) ?_
  intro W base args ds gs before hval hW _ _ _ hL _ _
  exact slotBack_contract H enc W base args ds gs before hval hW hL

theorem slotBack_said : Rows.SlotBackSaid :=
  OpenClaim.holds_of_cond 12 Tryd.f12 rfl rfl rfl rfl rfl rfl rfl ⟨rfl, rfl, rfl, rfl, rfl⟩ rfl rfl rfl rfl rfl (by kernel_rfl) Tryd.func12 (by kernel_rfl)
    (of_decide_eq_true (by kernel_rfl)) (by unfold Func.isWrapper; first | (rw [if_pos (by decide +kernel)]; kernel_rfl) | (rw [if_neg (by decide +kernel)]; exact ⟨rfl, rfl⟩))
    (fun os started H enc _ F => by rw [OpenClaim.pre_eq_preRow]; exact slotBack_lifted os started H enc F)

theorem slotBack_plain (f : FuncId) (fn : Func) (hf : Tryd.pinned.checked.prog.funcNamed "postmark/postmarklaw18.SlotBack" = some f) (hfn : Tryd.pinned.checked.prog.funcs[f]? = some fn) :
    false = Tryd.pinned.checked.prog.looks [] ∧ ∀ (j : Nat) t, fn.params[j]? = some t → Tryd.pinned.checked.prog.wantsStandIn t = false := by
  obtain rfl : f = 12 := Option.some.inj ((show Tryd.prog.funcNamed "postmark/postmarklaw18.SlotBack" = some 12 by kernel_rfl).symm.trans hf) |>.symm
  obtain rfl : fn = Tryd.f12 := (Option.some.inj (Tryd.func12.symm.trans hfn)).symm
  refine ⟨by kernel_rfl, fun j t ht => ?_⟩
  rw [Tryd.params12] at ht
  have h : ∀ u ∈ ([34, 23, 23, 34] : List Nat), Tryd.prog.wantsStandIn u = false := by decide +kernel
  exact h t (by have := Array.mem_of_getElem? ht; simpa using this)

/-- The card. -/
theorem slotBack_card : Rows.SlotBackCardSaid :=
  Claim7.holds_tied_plain_at .later [] _ _ _ _ slotBack_said (fun _ h => by cases h) (by kernel_rfl) (fun _ h => by cases h) slotBack_row_tie rfl ⟨rfl, rfl⟩ (by kernel_rfl) rfl slotBack_plain (by kernel_rfl)
end Go.Proofs.YtokhediaibdkjaaDoor
