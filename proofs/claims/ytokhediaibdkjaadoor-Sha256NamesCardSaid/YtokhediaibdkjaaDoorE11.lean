/- The engine, part 11: what may be read beside what is owned; more on slices that grow. -/
import Derived.Test.YtokhediaibdkjaaDoorE10
import Derived.Lib.AppendZerosOnto
namespace Go.Pm
open Go.RowKit

/-- These cells lie there, in no block of S. -/
def RdS (w : World) (S : List Nat) (p : Option Addr) (vs : List Value) : Prop := ∀ j u, vs[j]? = some u → ∃ b o, p = some ⟨b, o, none⟩ ∧ b ∉ S ∧ w.cell? ⟨b, o + j, none⟩ = some u

theorem RdS.c {w : World} {S : List Nat} {p : Option Addr} {vs : List Value} (h : RdS w S p vs) : RdC w p vs := fun j u hj => by
  obtain ⟨b, o, h1, _, h3⟩ := h j u hj; exact ⟨b, o, h1, h3⟩
theorem RdC.s {w : World} {p : Option Addr} {vs : List Value} (h : RdC w p vs) : RdS w [] p vs := fun j u hj => by
  obtain ⟨b, o, h1, h3⟩ := h j u hj; exact ⟨b, o, h1, by simp, h3⟩
theorem RdS.nil {w : World} {S : List Nat} {p : Option Addr} : RdS w S p [] := fun j u h => by simp at h
theorem RdS.some {w : World} {S : List Nat} {p : Option Addr} {vs : List Value} (h : RdS w S p vs) (hn : vs ≠ []) : p.isSome = true := h.c.some hn
theorem RdA.of {cx : Cx} {Rs : List Res} {p : Option Addr} {vs : List Value} (h : RdS cx.w0 cx.S0 p vs) : RdA cx Rs p vs := fun w hw j u hj => by
  obtain ⟨b, o, rfl, hS, hc⟩ := h j u hj
  exact ⟨b, o, rfl, hw.oldCell hc hS⟩
theorem RdS.adv {w : World} {S : List Nat} {p : Option Addr} {vs : List Value} (h : RdS w S p vs) {c k s : Nat} (hc : c = k → vs.length ≤ k * s) : RdS w S (Pm.adv p c k s) (vs.drop (k * s)) := by
  intro j u hj
  rw [List.getElem?_drop] at hj
  obtain ⟨b, o, rfl, hS, hcell⟩ := h _ u hj
  have hne : c ≠ k := fun he => by
    have := hc he
    have hlt : k * s + j < vs.length := by
      rcases Nat.lt_or_ge (k * s + j) vs.length with h' | h'
      · exact h'
      · simp [List.getElem?_eq_none h'] at hj
    omega
  refine ⟨b, o + k * s, by simp [Pm.adv, hne, add_at], hS, ?_⟩
  rw [Nat.add_assoc]; exact hcell
theorem RdS.take {w : World} {S : List Nat} {p : Option Addr} {vs : List Value} (h : RdS w S p vs) (n : Nat) : RdS w S p (vs.take n) := by
  intro j u hj
  rw [List.getElem?_take] at hj
  split at hj
  · exact h j u hj
  · cases hj
theorem RdS.sub {w : World} {S S' : List Nat} {p : Option Addr} {vs : List Value} (h : RdS w S p vs) (hs : ∀ k, k ∈ S' → k ∈ S) : RdS w S' p vs := fun j u hj => by
  obtain ⟨b, o, h1, h2, h3⟩ := h j u hj; exact ⟨b, o, h1, fun hh => h2 (hs _ hh), h3⟩

/-- What was there before, handed on. -/
theorem RdS.ofOld {w0 w : World} {S0 : List Nat} {p : Option Addr} {vs : List Value} {A Rs B : List Res} (h : RdS w0 S0 p vs) (hw : Sat w0 S0 Rs w) (hs : Split A Rs B) : RdS w (fps A) p vs := fun j u hj => by
  obtain ⟨b, o, rfl, hS, hc⟩ := h j u hj
  refine ⟨b, o, rfl, fun hA => ?_, hw.oldCell hc hS⟩
  have hb : b < w0.heap.size := block_lt_of_cell hc
  have := (hw.split hs).new b (by rw [fps_append]; simp [hA])
  rcases this with h1 | h1
  · exact hS h1
  · omega
/-- What another thing owns, handed on. -/
theorem RdS.ofOwn {w0 w : World} {S0 : List Nat} {p : Option Addr} {vs : List Value} {A Rs B B' : List Res} {R : Res} (hw : Sat w0 S0 Rs w) (hs : Split A Rs B) (hk : Pick R B B') (h : RdC w p vs) (hp : ∀ b o, p = Option.some ⟨b, o, none⟩ → b ∈ R.fp) : RdS w (fps A) p vs := fun j u hj => by
  obtain ⟨b, o, rfl, hc⟩ := h j u hj
  refine ⟨b, o, rfl, fun hA => ?_, hc⟩
  have hnd := (hw.split hs).nodup
  rw [fps_append] at hnd
  have hBm : b ∈ fps B := by
    have hp1 : (fps B).Perm (fps (R :: B')) := List.Perm.flatMap_right _ hk.perm
    exact hp1.mem_iff.2 (by rw [fps_cons]; exact List.mem_append_left _ (hp b o rfl))
  exact (List.nodup_append.1 hnd).2.2 b hA b hBm rfl
theorem RdC.ofVec {w : World} {p : Option Addr} {n cap T s : Nat} {xs : List Value} (h : w.ownsRow 0 T s (.slice p n cap) n xs) : RdC w p xs := by
  intro j u hj
  rcases h.2 with ⟨he, hn⟩ | ⟨g, cap', cur, he, _, hg, hnc, _, hsz, htk⟩
  · have := h.1
    subst hn
    simp at this
    subst this
    simp at hj
  · simp only [Value.slice.injEq, true_and] at he
    obtain ⟨rfl, rfl⟩ := he
    refine ⟨g, 0, rfl, ?_⟩
    rw [← htk, List.getElem?_take] at hj
    split at hj
    · simp [World.cell?, hg]; simpa using hj
    · cases hj
theorem RdS.ofVec {w0 w : World} {S0 : List Nat} {p : Option Addr} {n cap T s : Nat} {xs : List Value} {A Rs B B' : List Res} (hw : Sat w0 S0 Rs w) (hs : Split A Rs B) (hk : Pick (vec (.slice p n cap) T s n xs) B B') : RdS w (fps A) p xs := by
  have hB : Sat w0 S0 B w := (hw.split hs).dropA A
  have hv : w.ownsRow 0 T s (.slice p n cap) n xs := hB.get hk
  refine RdS.ofOwn hw hs hk (RdC.ofVec hv) fun b o hp => ?_
  subst hp
  simp [vec, vecFp]

section
variable {cx : Cx} {e : Env} {Rs : List Res} {r : Option Nat} {P : Program} {Q : Exit → Act → World → Prop} {K : Act → World → Prop}
  {d : Nat} {t : TypeId} {ps : String} {af : Array Edge} {gd : Option (Nat × Bool)}

theorem At.up {Rs' : List Res} (hs : ∀ w, Sat cx.w0 cx.S0 Rs w → Sat cx.w0 cx.S0 Rs' w) (h : At cx e Rs' K) : At cx e Rs K := fun a w ha hw => h a w ha (hs w hw)

theorem vec_of_blk {b E s n : Nat} {cs : List Value} {B : List Res} (hk : Pick (blk b E cs) Rs B) (hl : cs.length = n * s) (hm : n ≤ maxLen) (h : At cx e (vec (.slice (some ⟨b, 0, none⟩) n n) E s n cs :: B) K) : At cx e Rs K :=
  At.up (fun w hw => by
    have hw' := hw.pick hk
    refine hw'.upd (R' := vec (.slice (some ⟨b, 0, none⟩) n n) E s n cs) rfl rfl rfl rfl rfl (fun _ _ => rfl) ⟨hl, .inr ⟨b, n, cs.toArray, rfl, Nat.zero_le _, hw'.hd, Nat.le_refl _, hm, by simpa using hl, ?_⟩⟩
    rw [← hl]; simp) h

theorem vec_cut {p : Option Addr} {E s n m cap : Nat} {xs : List Value} {B : List Res} (hk : Pick (vec (.slice p n cap) E s n xs) Rs B) (hm : m ≤ n) (hp : p.isSome = true) (h : At cx e (vec (.slice p m cap) E s m (xs.take (m * s)) :: B) K) : At cx e Rs K :=
  At.up (fun w hw => by
    have hw' := hw.pick hk
    have hv : w.ownsRow 0 E s (.slice p n cap) n xs := hw'.holds (vec (.slice p n cap) E s n xs) (by simp)
    have hms : m * s ≤ n * s := Nat.mul_le_mul_right s hm
    refine hw'.upd (R' := vec (.slice p m cap) E s m (xs.take (m * s))) (by cases p <;> rfl) rfl rfl rfl rfl (fun _ _ => rfl) ?_
    refine ⟨by rw [List.length_take, hv.1]; omega, ?_⟩
    rcases hv.2 with ⟨he, _⟩ | ⟨g, cap', cur, he, h1, h2, h3, h4, h5, h6⟩
    · simp only [Value.slice.injEq] at he; rw [he.1] at hp; cases hp
    · simp only [Value.slice.injEq, true_and] at he
      obtain ⟨rfl, rfl⟩ := he
      exact .inr ⟨g, cap, cur, rfl, h1, h2, by omega, h4, h5, by rw [← h6, List.take_take, Nat.min_eq_left hms]⟩) h

/-- []T{}. -/
theorem o_buildSlice0 {T E s : Nat} (hu : P.underlying T = some (.slice E)) (hsz : szT P E = some s) (hd : Nat.blt d cx.n = true)
    (h : ∀ b, At cx ((d, .slice (some ⟨b, 0, none⟩) 0 0) :: e) (vec (.slice (some ⟨b, 0, none⟩) 0 0) E s 0 [] :: Rs) K) : OpAt cx e Rs r P Q ⟨some d, .buildSlice T 0 (List.toArray []), t, ps, af, gd⟩ K :=
  OpAt.of_run nofun fun a w ha hw => by
    cases hi : P.info? E with
    | none => simp [szT, hi] at hsz
    | some i =>
      have hrun : (execOp a.eval ⟨some d, .buildSlice T 0 (List.toArray []), t, ps, af, gd⟩).run P w = .ok (.value (.slice (some ⟨w.heap.size, 0, none⟩) 0 0)) (w.alloc (.cells #[] E (0, 0))) := by
        simp [execOp, Instr.buildSlice, run_underlying hu, sizeOf, typeInfo, hi, Instr.fill, newRow, Array.range]
        exact congrArg (fun x => w.alloc (Obj.cells x E)) (by
          apply Array.ext
          · simp
          · intro i h1 h2; simp at h2)
      show Oper.uponIn (FR r) 0 P _ a K Q _
      rw [hrun, Oper.uponIn_value]
      have h1 := hw.new' (R := vec (.slice (some ⟨w.heap.size, 0, none⟩) 0 0) E s 0 []) (w' := w.alloc (.cells #[] E (0, 0))) rfl rfl rfl rfl (by simp) (fun k (hk : k < w.heap.size) => Below.heap_alloc w _ k hk)
        ⟨by simp, .inr ⟨w.heap.size, 0, #[], rfl, Nat.zero_le _, heap_alloc_new w _, Nat.le_refl _, by simp [maxLen], by simp, by simp⟩⟩
      exact h w.heap.size _ _ (ha.put hd _) h1

theorem zeroCells_one {z : Value} {zv : Value} (hz : z.cells.toList = [zv]) (n : Nat) : Builtin.zeroCells z.cells n = (List.replicate n zv).toArray := by
  have h1 : z.cells = #[zv] := by rw [← hz]
  rw [h1]
  apply Array.ext
  · simp [Builtin.zeroCells]
  · intro i h1 h2
    simp [Builtin.zeroCells, Nat.mod_one]

/-- append(s, make([]T, k)...), s full (or nil). -/
theorem o_appendZ {T TI E n k by_ : Nat} {ki kn : IntKind} {x y : Operand} {p : Option Addr} {xs : List Value} {zv : Value} {B : List Res} (hu : P.underlying T = some (.slice E)) (htn : P.underlying TI = some (.int kn)) (hz : zeroCs P E = some [zv]) (hsz : szT P E = some 1) (hby : (P.info? E).map (·.bytes) = some by_)
    (hx : ev e x = some (.slice p n n)) (hy : ev e y = some (.int ki (k : Int))) (hk : Pick (vec (.slice p n n) E 1 n xs) Rs B) (h63 : n + k ≤ maxLen) (hbytes : (n + k) * by_ ≤ 140737488355328) (hd : Nat.blt d cx.n = true)
    (h : ∀ q cap, (q = none ↔ p = none ∧ k = 0) → n + k ≤ cap → (q = none → cap = 0) → At cx ((d, .slice q (n + k) cap) :: e) (vec (.slice q (n + k) cap) E 1 (n + k) (xs ++ List.replicate k zv) :: B) K) :
    OpAt cx e Rs r P Q ⟨some d, .call { callee := .builtin .append, args := #[x, y], argTypes := #[T, TI] }, t, ps, af, gd⟩ K :=
  OpAt.of_run nofun fun a w ha hw => by
    obtain ⟨i, z, hi, hz0, hzc⟩ := zeroCs_spec hz
    have his : i.size = 1 := by simpa [szT, hi] using hsz
    have hib : i.bytes = by_ := by simpa [hi] using hby
    subst hib
    have hw' := hw.pick hk
    have hown : w.ownsRow 0 E 1 (.slice p n n) n xs := hw'.holds (vec (.slice p n n) E 1 n xs) (by simp)
    have key : ∃ v' w', (Builtin.append_ #[T, TI] t #[.slice p n n, .int ki (k : Int)]).run P w = .ok v' w' ∧ w'.ownsRow 0 E 1 v' (n + k) (xs ++ List.replicate k zv) ∧ w.grownBy w' (Value.slice p n n).ownBlock ∧
        (v' = .slice none 0 0 ↔ p = none ∧ k = 0) ∧ (v'.ownBlock = (Value.slice p n n).ownBlock ∨ ∀ g, v'.ownBlock = some g → w.heap.size ≤ g) := by
      rcases Nat.eq_zero_or_pos k with rfl | hk0
      · have hw0 : IntKind.i64.wrap (0 : Int) = 0 := by decide
        refine ⟨.slice p n n, w, ?_, by simpa using hown, ⟨rfl, rfl, rfl, Nat.le_refl _, fun _ _ _ => rfl⟩, ?_, .inl rfl⟩
        · cases p <;> simp [Builtin.append_, run_underlying hu, run_underlying htn, sizeOf, typeInfo, hi, asInt, asIntOf, hw0, storeCells]
        · simp only [Value.slice.injEq, and_true]
          constructor
          · rintro ⟨rfl, _⟩; rfl
          · rintro rfl
            rcases hown.2 with ⟨_, hn⟩ | ⟨g, cap, cur, he, _⟩
            · exact ⟨rfl, hn, hn⟩
            · simp at he
      · have hge := grownCap_ge w (n + k) n E
        have hcm : grownCap w (n + k) n E ≤ maxLen := grownCap_le_maxLen w (n + k) n E h63
        have hxl : xs.length = n := by simpa using hown.1
        have hfirst : (Builtin.firstCells i.size n (.slice p n n)).run P w.drew = .ok xs.toArray w.drew := by
          rw [his]
          cases p with
          | none =>
            rcases hown.2 with ⟨_, hn⟩ | ⟨g, cap, cur, he, _⟩
            · subst hn
              have : xs = [] := List.eq_nil_of_length_eq_zero hxl
              subst this
              simpa using run_firstCells_none (P := P) (w := w.drew) 1 0 0 0
            · simp at he
          | some ad =>
            refine run_firstCells_some (P := P) (w := w.drew) 1 n ad n n xs (by simp [hxl]) (fun j u hj => ?_)
            rcases hown.2 with ⟨he, _⟩ | ⟨g, cap, cur, he, _, hg, _⟩
            · simp at he
            · have := hown.cells (g := ad.block) (by rfl) j u hj
              simp only [Value.slice.injEq, Option.some.injEq] at he
              rw [he.1]
              rw [he.1] at this
              exact this
        have h63' : n + k ≤ 9223372036854775807 := by simp only [maxLen] at h63; omega
        have hr := Go.Lib.run_append_grow_zeros (P := P) w T TI t E i z ki kn hu htn hi hz0 p n n xs hfirst k hk0 (by omega) (by omega) (by omega) (by
          have : k * i.bytes ≤ (n + k) * i.bytes := Nat.mul_le_mul_right _ (by omega)
          omega) (growslice_fits (by omega) hbytes)
        rw [zeroCells_one hzc, zeroCells_one hzc] at hr
        refine ⟨_, _, hr, ⟨by simp [hxl], .inr ⟨w.heap.size, _, _, rfl, Nat.zero_le _, heap_alloc_new w.drew _, hge, hcm, ?_, ?_⟩⟩, ⟨rfl, rfl, rfl, by simp, fun k hk _ => heap_alloc_old w.drew _ hk⟩, ?_, .inr ?_⟩
        · simp [hxl]; omega
        · have e1 : (xs.toArray ++ (List.replicate k zv).toArray ++ (List.replicate (grownCap w (n + k) n E - (n + k)) zv).toArray).toList = (xs ++ List.replicate k zv) ++ List.replicate (grownCap w (n + k) n E - (n + k)) zv := by simp
          rw [e1, Nat.mul_one]
          exact List.take_left' (by simp [hxl])
        · simp; omega
        · intro g hg
          simp [Value.ownBlock] at hg
          omega
    obtain ⟨v', w', hrun', hown', hg, hnn, hfresh⟩ := key
    have hrun : (execOp a.eval ⟨some d, .call { callee := .builtin .append, args := #[x, y], argTypes := #[T, TI] }, t, ps, af, gd⟩).run P w = .ok (.value v') w' := by
      rw [BigFrame.execOp_builtin, BigFrame.builtin_append]
      simp [ha.eval hx, ha.eval hy, hrun']
    show Oper.uponIn (FR r) 0 P _ a K Q _
    rw [hrun, Oper.uponIn_value]
    obtain ⟨q, cap, rfl, hcap, hqc⟩ : ∃ q cap, v' = .slice q (n + k) cap ∧ n + k ≤ cap ∧ (q = none → cap = 0) := by
      rcases hown'.2 with ⟨rfl, hz⟩ | ⟨g, cap, cur, rfl, _, _, hle, _⟩
      · exact ⟨none, 0, by rw [hz], by omega, fun _ => rfl⟩
      · exact ⟨_, cap, rfl, hle, by simp⟩
    refine h q cap ?_ hcap hqc _ _ (ha.put hd _) (hw'.grown hg hown' hfresh)
    rw [← hnn]
    constructor
    · rintro rfl
      have hz0 := hqc rfl
      subst hz0
      have : n + k = 0 := by omega
      rw [this]
    · intro he
      simp only [Value.slice.injEq] at he
      exact he.1
end

section
variable {cx : Cx} {e : Env} {Rs : List Res} {P : Program} {K : Act → World → Prop} {ops : Array Oper} {g : Rg}
theorem An'.onx {f : Nat} {L : List Bool} {i : Nat} {B : List Res} (X : List Nat) (hX : g.X = X) (hc : (X.all fun k => !(L.set i true).toArray.getD k false) = false) (hQ : Split g.RsQ Rs B) (h : An' cx e Rs P ops g K f (L.set i true)) :
    At cx e Rs (fun a' w' => g.S cx (L.set i true).toArray w' ∧ (Closed ops (L.set i true).toArray → AnyS P ops (g.S cx) K f (L.set i true).toArray a' w')) := by
  subst hX
  exact An'.onX hQ hc rfl h
theorem Cells.rd {b o : Nat} {vs us : List Value} (h : RdA cx Rs (some ⟨b, 0, none⟩) vs) (hv : (vs.drop o).take us.length = us) : Cells cx Rs b o us := by
  intro w hw j v hj
  have h1 : vs[o + j]? = some v := by
    rw [← hv, List.getElem?_take] at hj
    split at hj
    · rwa [List.getElem?_drop] at hj
    · cases hj
  obtain ⟨b', o', he, hc⟩ := h w hw (o + j) v h1
  simp only [Option.some.injEq, Addr.mk.injEq, and_true] at he
  obtain ⟨rfl, rfl⟩ := he
  rw [Nat.zero_add] at hc
  exact hc
end
theorem RdC.ofBlk {w0 w : World} {S0 : List Nat} {Rs B : List Res} {b o : Nat} {T : TypeId} {cs vs : List Value} (hw : Sat w0 S0 Rs w) (hk : Pick (blk b T cs) Rs B) (hv : (cs.drop o).take vs.length = vs) : RdC w (Option.some ⟨b, o, none⟩) vs :=
  RdA.part (cx := ⟨0, [], w0, S0⟩) hk hv w hw
theorem RdC.cell {w : World} {b o : Nat} {vs : List Value} (h : RdC w (Option.some ⟨b, o, none⟩) vs) {j : Nat} {u : Value} (hj : vs[j]? = Option.some u) : w.cell? ⟨b, o + j, none⟩ = Option.some u := by
  obtain ⟨b', o', he, hc⟩ := h j u hj
  simp only [Option.some.injEq, Addr.mk.injEq, and_true] at he
  obtain ⟨rfl, rfl⟩ := he
  exact hc
theorem ret0n {cx : Cx} {e : Env} {Rs : List Res} {P : Program} {fn : Func} {R : Ending → World → Prop} (hds : cx.ds = []) (hr : fn.results = #[]) (hR : ∀ w, Sat cx.w0 cx.S0 Rs w → R (.returned (.tuple #[])) w) : At cx e Rs (bodyPost P fn R .normal) :=
  fun _ w ha hw => ⟨ha.defs.trans hds, _, results_none hr _ _ _, hR w hw⟩
theorem Cell.rd0 {cx : Cx} {Rs : List Res} {b j : Nat} {vs : List Value} {u : Value} (h : RdA cx Rs (some ⟨b, 0, none⟩) vs) (hj : vs[j]? = some u) : Cell cx Rs ⟨b, j, none⟩ u := fun w hw => by
  have := (h w hw).cell hj
  rwa [Nat.zero_add] at this
theorem fill_cons1 {place : Nat → Option (Nat × Nat)} {cells : Array Value} {i off : Nat} {v : Value} {rest : List (Nat × Value)} (hp : place i = some (off, 1)) (h1 : v.oneCell' = true) (ho : off < cells.size) :
    Instr.fill place cells ((i, v) :: rest) = Instr.fill place (cells.setIfInBounds off v) rest := by
  have hc : v.cells = #[v] := by cases v <;> first | rfl | cases h1
  have hsz : v.cells.size = 1 := by rw [hc]; rfl
  rw [Instr.fill]
  simp only [hp]
  rw [if_neg (by simp [hsz]; omega)]
  congr 1
  rw [hc]
  simp [Array.zipIdx]
theorem fill_all : ∀ (vs : List Value) (k : Nat) (cells : Array Value), (∀ v ∈ vs, v.oneCell' = true) → k + vs.length = cells.size → Instr.fill (fun i => some (i * 1, 1)) cells ((List.range' k vs.length).zip vs) = some (cells.toList.take k ++ vs).toArray
  | [], k, cells, _, h => by
    have : k = cells.toList.length := by simpa using h
    subst this
    rw [List.take_length]
    simp [Instr.fill]
  | v :: vs, k, cells, h1, h => by
    simp only [List.length_cons] at h ⊢
    rw [List.range'_succ, List.zip_cons_cons, fill_cons1 (off := k) (by simp) (h1 v (by simp)) (by omega), fill_all vs (k + 1) _ (fun u hu => h1 u (by simp [hu])) (by simp; omega)]
    congr 2
    have hk : k < cells.toList.length := by simp; omega
    rw [Array.toList_setIfInBounds, List.take_add_one, List.getElem?_set_self hk, List.take_set_of_le (by omega)]
    simp
section
variable {cx : Cx} {e : Env} {Rs : List Res} {r : Option Nat} {P : Program} {Q : Exit → Act → World → Prop} {K : Act → World → Prop}
  {d : Nat} {t : TypeId} {ps : String} {af : Array Edge} {gd : Option (Nat × Bool)}
/-- A slice's literal, of one-celled elements. -/
theorem o_buildSlice1 {T E len : Nat} {parts : List (Nat × Operand)} {vs zs : List Value} (hu : P.underlying T = some (.slice E)) (hz : zeroCs P E = some zs) (hsz : szT P E = some 1) (hlen : 0 < len) (hmax : len ≤ 16777216)
    (hp : evs e (parts.map (·.2)) = some vs) (hl : vs.length = len) (hi : parts.map (·.1) = List.range' 0 len) (h1 : ∀ v ∈ vs, v.oneCell' = true) (hd : Nat.blt d cx.n = true)
    (h : ∀ b, At cx ((d, .slice (some ⟨b, 0, none⟩) len len) :: e) (blk b E vs :: Rs) K) : OpAt cx e Rs r P Q ⟨some d, .buildSlice T len parts.toArray, t, ps, af, gd⟩ K :=
  o_buildSlice (s := 1) (cs := vs) hu hz hsz (by omega) (by omega) hp (by
    subst hl
    rw [hi, fill_all vs 0 _ h1 (by simp)]
    simp) hd h
end
theorem Sat.clear {w0 w : World} {S0 : List Nat} {Rs : List Res} (h : Sat w0 S0 Rs w) : Sat w0 S0 [] w := ⟨h.os, h.tape, h.output, h.size, h.frame, by simp, by simp, by simp, by simp⟩
end Go.Pm
