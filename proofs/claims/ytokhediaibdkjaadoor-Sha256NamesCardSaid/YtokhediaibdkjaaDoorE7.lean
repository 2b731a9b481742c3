/- The engine, part 7: a range over a function. -/
import Derived.Test.YtokhediaibdkjaaDoorE6
namespace Go.Pm
open Go.RowKit

/-- One call of yield: it comes to a round, which hands back a Bool. -/
def YieldCall (P : Program) (lp : Nat) (vs : List Value) (w : World) (R : Bool → World → Prop) : Prop :=
  ∃ fn tmps assign body, (Instr.yield lp vs.toArray).run P w = .ok (.round lp fn tmps assign body) w ∧
    RoundIn (FR none) 0 P lp fn tmps assign body w (fun en w' => ∃ b, en = .returned (.bool b) ∧ R b w')

section
variable {cx : Cx} {e : Env} {Rs : List Res} {r : Option Nat} {P : Program} {Q : Exit → Act → World → Prop} {K : Act → World → Prop}
  {d : Nat} {t : TypeId} {ps : String} {af : Array Edge} {gd : Option (Nat × Bool)}

/-- A call of yield in the iterator's text. -/
theorem o_yield {x : Operand} {lp : Nat} {l : List Operand} {vs : List Value} {ats : Array TypeId} {A B : List Res} {β : Type} {I : β → Bool → Prop} {A' : β → List Res} (hx : ev e x = some (.func (.yield lp) #[] #[])) (ha : evs e l = some vs) (hs : Split A Rs B)
    (hY : ∀ w, Sat cx.w0 cx.S0 Rs w → Sat w (fps A) A w → YieldCall P lp vs w (fun b w' => ∃ s, I s b ∧ Sat w (fps A) (A' s) w')) (hd : Nat.blt d cx.n = true)
    (h : ∀ s b, I s b → At cx ((d, .bool b) :: e) (A' s ++ B) K) : OpAt cx e Rs r P Q ⟨some d, .call { callee := .value x, args := l.toArray, argTypes := ats }, t, ps, af, gd⟩ K :=
  OpAt.of_run nofun fun a w haa hw => by
    have e1 := evs_map ha a.eval (fun x u _ hx => haa.eval hx)
    obtain ⟨fn, tmps, assign, body, hy, hR⟩ := hY w hw (hw.split hs).hand
    have e2 : l.toArray.map a.eval = vs.toArray := by rw [← e1]; simp
    have hrun : (execOp a.eval ⟨some d, .call { callee := .value x, args := l.toArray, argTypes := ats }, t, ps, af, gd⟩).run P w = .ok (.round lp fn tmps assign body) w := by
      simp only [execOp, resolve, haa.eval hx, Deferred.ofValue, Sem.run_bind, Sem.run_pure, Result.andThen_ok, invoke, e2]
      simpa using hy
    show Oper.uponIn (FR r) 0 P _ a K Q _
    rw [hrun, Oper.uponIn_round]
    refine ⟨by simp, ?_⟩
    have hR' : RoundIn (FR r) 0 P lp fn tmps assign body w (fun en w' => ∃ b, en = .returned (.bool b) ∧ ∃ s, I s b ∧ Sat w (fps A) (A' s) w') := hR
    refine hR'.mono ?_
    rintro en w' ⟨b, rfl, s, hI, hsat⟩
    exact h s b hI _ w' (haa.put hd _) ((hw.split hs).join hsat)

theorem foldl_tmpsL (ps : List Tmp) : ∀ (vs : List Value) (e : Env) (T : Array Value) (n : Nat), ps.length = vs.length → (∀ p ∈ ps, p < n) → Ok n [] e ⟨T, []⟩ →
    Ok n [] ((ps.zip vs).reverse ++ e) ⟨(ps.zip vs).foldl (fun tmps (x : Tmp × Value) => tmps.setIfInBounds x.1 x.2) T, []⟩ := by
  induction ps with
  | nil => intro vs e T n hl _ h; cases vs with
    | nil => simpa using h
    | cons v vs => simp at hl
  | cons p ps ih =>
    intro vs e T n hl hlt h
    cases vs with
    | nil => simp at hl
    | cons v vs =>
      have hp : Ok n [] ((p, v) :: e) ⟨T.setIfInBounds p v, []⟩ := h.put (by simpa using hlt p (by simp)) v
      have := ih vs ((p, v) :: e) (T.setIfInBounds p v) n (by simpa using hl) (fun q hq => hlt q (by simp [hq])) hp
      simpa using this
theorem foldl_tmps (ps : List Tmp) (vs : List Value) (e : Env) (T : Array Value) (n : Nat) (hl : ps.length = vs.length) (hlt : ∀ p ∈ ps, p < n) (h : Ok n [] e ⟨T, []⟩) :
    Ok n [] ((ps.zip vs).reverse ++ e) ⟨(ps.toArray.zip vs.toArray).foldl (fun tmps (p, v) => tmps.setIfInBounds p v) T, []⟩ := by
  have he : (ps.toArray.zip vs.toArray).foldl (fun tmps (p, v) => tmps.setIfInBounds p v) T = (ps.zip vs).foldl (fun tmps (x : Tmp × Value) => tmps.setIfInBounds x.1 x.2) T := by
    rw [← Array.foldl_toList]; simp
  rw [he]
  exact foldl_tmpsL ps vs e T n hl hlt h

/-- A round: the assignments to the loop's left sides, then the body, in a frame that holds what was known where the loop began. -/
theorem yield_walk {lp n : Nat} {fn : FuncId} {T : Array Value} {psl : List Tmp} {assign body : Code} {D : Nat} {vs : List Value} {A : List Res} {w : World} {R : Bool → World → Prop} {ds : List Deferred}
    (hs : Sat w (fps (objR lp (.loop ⟨.ready, none, fn, T, psl.toArray, assign, body, D⟩) :: A)) (objR lp (.loop ⟨.ready, none, fn, T, psl.toArray, assign, body, D⟩) :: A) w)
    (hT : Ok n ds e ⟨T, ds⟩) (hl : psl.length = vs.length) (hlt : ∀ p ∈ psl, p < n)
    (h : At ⟨n, [], w, fps (objR lp (.loop ⟨.ready, none, fn, T, psl.toArray, assign, body, D⟩) :: A)⟩ ((psl.zip vs).reverse ++ e) (objR lp (.loop ⟨.ready, none, fn, T, psl.toArray, assign, body, D⟩) :: A)
      (assign.wpIn (FR (some lp)) 0 P (Exit.then (fun a₁ w₁ => ∃ w₂, (Instr.beginRound lp).run P w₁ = .ok () w₂ ∧ body.wpIn (FR (some lp)) 0 P (roundPost P lp (fun en w' => ∃ b, en = .returned (.bool b) ∧ R b w')) a₁ w₂) (fun _ _ _ => False)))) :
    YieldCall P lp vs w R := by
  have hlp : w.heap[lp]? = some (.loop ⟨.ready, none, fn, T, psl.toArray, assign, body, D⟩) := hs.holds (objR lp (.loop ⟨.ready, none, fn, T, psl.toArray, assign, body, D⟩)) (by simp)
  have hy := run_yield (P := P) (args := vs.toArray) hlp (by simp [hl])
  have hT' : Ok n [] e ⟨T, []⟩ := ⟨hT.size, rfl, hT.get⟩
  refine ⟨fn, _, assign, body, hy, roundIn_of_wpIn (F := FR none) trivial ?_⟩
  exact h _ w (foldl_tmps psl vs e T n hl hlt hT') hs

theorem objR_put {b : Nat} {o o' : Obj} {B : List Res} {w0 w : World} {S0 : List Nat} (hw : Sat w0 S0 (objR b o :: B) w) : Sat w0 S0 (objR b o' :: B) (w.putObj b o') := by
  have hb : w.heap[b]? = some o := hw.holds (objR b o) (by simp)
  exact hw.upd (R' := objR b o') rfl rfl rfl rfl (by simp) (fun k hk => World.putObj_heap_other (by simpa [objR] using hk)) (World.putObj_heap_same (Array.getElem?_eq_some_iff.1 hb).1)

/-- The body begins. -/
theorem begin_round {lp : Nat} {L : Loop} {B : List Res} {body : Code} (hk : Pick (objR lp (.loop L)) Rs B) (hr : L.state = .ready) {Q : Exit → Act → World → Prop}
    (h : At cx e (objR lp (.loop { L with state := .busy }) :: B) (body.wpIn (FR (some lp)) 0 P Q)) :
    At cx e Rs (fun a₁ w₁ => ∃ w₂, (Instr.beginRound lp).run P w₁ = .ok () w₂ ∧ body.wpIn (FR (some lp)) 0 P Q a₁ w₂) := by
  intro a w ha hw
  have hlp : w.heap[lp]? = some (.loop L) := hw.get hk
  exact ⟨_, run_beginRound hlp hr, h _ _ ha (objR_put (hw.pick hk))⟩

/-- The round ends: on to the next one. -/
theorem round_on {lp : Nat} {L : Loop} {B : List Res} {R : Bool → World → Prop} (hk : Pick (objR lp (.loop L)) Rs B) (h : ∀ w, Sat cx.w0 cx.S0 (objR lp (.loop { L with state := .ready, pending := none }) :: B) w → R true w) :
    At cx e Rs (roundPost P lp (fun en w' => ∃ b, en = .returned (.bool b) ∧ R b w') .normal) := by
  intro a w _ hw
  have hlp : w.heap[lp]? = some (.loop L) := hw.get hk
  exact ⟨_, _, run_endRound none hlp, true, rfl, h _ (objR_put (hw.pick hk))⟩

/-- The round ends by a jump out of the loop. -/
theorem round_exit {lp id : Nat} {L : Loop} {B : List Res} {R : Bool → World → Prop} (hk : Pick (objR lp (.loop L)) Rs B) (h : ∀ w, Sat cx.w0 cx.S0 (objR lp (.loop { L with state := .done, pending := some (.exit id) }) :: B) w → R false w) :
    At cx e Rs (roundPost P lp (fun en w' => ∃ b, en = .returned (.bool b) ∧ R b w') (.exit id)) := by
  intro a w _ hw
  have hlp : w.heap[lp]? = some (.loop L) := hw.get hk
  exact ⟨_, _, run_endRound (some (.exit id)) hlp, false, rfl, h _ (objR_put (hw.pick hk))⟩

theorem round_ret {lp : Nat} {L : Loop} {B : List Res} {R : Bool → World → Prop} (hk : Pick (objR lp (.loop L)) Rs B) (h : ∀ w, Sat cx.w0 cx.S0 (objR lp (.loop { L with state := .done, pending := some .ret }) :: B) w → R false w) :
    At cx e Rs (roundPost P lp (fun en w' => ∃ b, en = .returned (.bool b) ∧ R b w') .ret) := by
  intro a w _ hw
  have hlp : w.heap[lp]? = some (.loop L) := hw.get hk
  exact ⟨_, _, run_endRound (some .ret) hlp, false, rfl, h _ (objR_put (hw.pick hk))⟩

abbrev markOf (D : Nat) : Deferred := { target := .collected D, args := #[] }

/-- The statement. -/
theorem rangeF {β : Type} {g : Operand} {psl : List Tmp} {assign body : Code} {gf : FuncId} {fnn : Func} {lb : List Value} {I : β → Prop} {stt : β → LoopState} {pend : β → Option Code} {RR : β → List Res} (hg : ev e g = some (.func (.func gf) #[] lb.toArray))
    (hf : P.funcs[gf]? = some fnn) (hb : fnn.body.isSome = true) (hnm : (fnn.name == "runtime.NumGoroutine") = false)
    (h : ∀ (a : Act) (fn : FuncId) (D lp : Nat) (w : World), Ok cx.n cx.ds e a → Sat cx.w0 cx.S0 (objR lp (.loop ⟨.ready, none, fn, a.tmps, psl.toArray, assign, body, D⟩) :: objR D (.deferred (some [])) :: Rs) w →
      Calls P gf (.func (.yield lp) #[] #[] :: lb).toArray w (fun en w' => (∃ v, en = .returned v) ∧ ∃ x, I x ∧ Sat cx.w0 cx.S0 (objR lp (.loop ⟨stt x, pend x, fn, a.tmps, psl.toArray, assign, body, D⟩) :: objR D (.deferred (some [])) :: RR x) w'))
    (hst : ∀ x, I x → stt x ≠ .busy)
    (hgo : ∀ D x, I x → pend x = none → At { cx with ds := markOf D :: cx.ds } e (objR D (.deferred (some [])) :: RR x) (Q .normal))
    (hjump : ∀ D x c, I x → pend x = some c → At { cx with ds := markOf D :: cx.ds } e (objR D (.deferred (some [])) :: RR x) (c.wpIn (FR none) 0 P Q)) :
    At cx e Rs ((Code.rangeFunc g psl.toArray assign body).wpIn (FR none) 0 P Q) := by
  intro a w ha hw
  refine wpIn_rangeFunc fun fn _ => ?_
  have hbn : fnn.body.isNone = false := by cases hbb : fnn.body <;> simp_all
  have h1 : Sat cx.w0 cx.S0 (objR w.heap.size (.deferred (some [])) :: Rs) (w.alloc (.deferred (some []))) :=
    hw.new' (R := objR w.heap.size (.deferred (some []))) rfl rfl rfl rfl (by simp) (fun k (hk : k < w.heap.size) => Below.heap_alloc w _ k hk) (heap_alloc_new w _)
  have h2 : Sat cx.w0 cx.S0 (objR (w.heap.size + 1) (.loop ⟨.ready, none, fn, a.tmps, psl.toArray, assign, body, w.heap.size⟩) :: objR w.heap.size (.deferred (some [])) :: Rs)
      ((w.alloc (.deferred (some []))).alloc (.loop ⟨.ready, none, fn, a.tmps, psl.toArray, assign, body, w.heap.size⟩)) := by
    have := h1.new' (R := objR (w.heap.size + 1) (.loop ⟨.ready, none, fn, a.tmps, psl.toArray, assign, body, w.heap.size⟩)) (w' := (w.alloc (.deferred (some []))).alloc (.loop ⟨.ready, none, fn, a.tmps, psl.toArray, assign, body, w.heap.size⟩))
      (by simp [objR]) rfl rfl rfl (by simp) (fun k (hk : k < (w.alloc (.deferred (some []))).heap.size) => Below.heap_alloc _ _ k hk) (by have := heap_alloc_new (w.alloc (.deferred (some []))) (.loop ⟨.ready, none, fn, a.tmps, psl.toArray, assign, body, w.heap.size⟩); rwa [World.size_alloc] at this)
    exact this
  obtain ⟨W2, hW2⟩ : ∃ W2, (w.alloc (.deferred (some []))).alloc (.loop ⟨.ready, none, fn, a.tmps, psl.toArray, assign, body, w.heap.size⟩) = W2 := ⟨_, rfl⟩
  rw [hW2] at h2
  refine ⟨w.heap.size + 1, [markOf w.heap.size], W2, { target := .fn (.func gf) lb.toArray, args := #[.func (.yield (w.heap.size + 1)) #[] #[]] }, W2, gf, (.func (.yield (w.heap.size + 1)) #[] #[] :: lb).toArray, W2,
    by rw [← hW2]; exact run_enterLoop_outer _ _ _ _ _, ?_, fun _ _ => trivial, ?_, by simp, ?_⟩
  · have h3 : a.eval (.const (.func (.yield (w.heap.size + 1)) #[] #[])) = .func (.yield (w.heap.size + 1)) #[] #[] := rfl
    simp [resolve, ha.eval hg, Deferred.ofValue, h3]
  · have hne : ¬ fnn.name = "runtime.NumGoroutine" := by simpa using hnm
    have hbs : ¬ fnn.body = none := fun h0 => by simp [h0] at hb
    simp [invoke, callFunc, hf, hne, hbs]
  · refine callsIn_FR.2 ((h a fn w.heap.size (w.heap.size + 1) _ ha h2).mono ?_)
    rintro en w' ⟨⟨v, rfl⟩, x, hI, hsat⟩
    have hlp := hsat.holds (objR (w.heap.size + 1) (.loop ⟨stt x, pend x, fn, a.tmps, psl.toArray, assign, body, w.heap.size⟩)) (by simp)
    have hend := run_endLoop (P := P) (w := w') hlp (hst x hI)
    refine ⟨pend x, _, hend, ?_⟩
    have hsat' := (objR_put (o' := .loop ⟨.exhausted, pend x, fn, a.tmps, psl.toArray, assign, body, w.heap.size⟩) hsat).drop
    have ha' : Ok cx.n (markOf w.heap.size :: cx.ds) e { a with defers := [markOf w.heap.size] ++ a.defers } := ⟨ha.size, by simp [ha.defs], ha.get⟩
    cases hp : pend x with
    | none => rw [hp] at hsat'; exact hgo w.heap.size x hI hp { a with defers := [markOf w.heap.size] ++ a.defers } _ ha' hsat'
    | some c => rw [hp] at hsat'; exact hjump w.heap.size x c hI hp { a with defers := [markOf w.heap.size] ++ a.defers } _ ha' hsat'

end

section leave
variable {cx : Cx} {e : Env} {Rs : List Res} {P : Program} {fn : Func} {R : Ending → World → Prop}

/-- Leaving a function that has no mark (yet). -/
theorem retM0 {vf : Act → World → Value} (hds : cx.ds = []) (hv : ∀ a w, Ok cx.n cx.ds e a → Sat cx.w0 cx.S0 Rs w → (results fn a.tmps).run P w = .ok (vf a w) w ∧ R (.returned (vf a w)) w) : At cx e Rs (bodyPostM (FR none) 0 P fn R .ret) := by
  intro a w ha hw
  have h := hv a w ha hw
  show LeavesInM (FR none) 0 P fn a.tmps R a.defers .returning w
  rw [ha.defs, hds]
  exact ⟨_, h.1, h.2⟩

/-- Leaving a function that ranged over a function once. -/
theorem retM1 {D : Nat} {B : List Res} {vf : Act → World → Value} (hds : cx.ds = [markOf D]) (hk : Pick (objR D (.deferred (some []))) Rs B)
    (hv : ∀ a w, Ok cx.n cx.ds e a → Sat cx.w0 cx.S0 B w → (results fn a.tmps).run P w = .ok (vf a w) w ∧ R (.returned (vf a w)) w) : At cx e Rs (bodyPostM (FR none) 0 P fn R .ret) := by
  intro a w ha hw
  have hD : w.heap[D]? = some (.deferred (some [])) := hw.get hk
  show LeavesInM (FR none) 0 P fn a.tmps R a.defers .returning w
  rw [ha.defs, hds]
  have hsat := (objR_put (o' := .deferred none) (hw.pick hk)).drop
  have h := hv a _ ha hsat
  exact ⟨by simp, .inl ⟨D, _, rfl, run_takeDeferred hD, ⟨_, h.1, h.2⟩⟩⟩

/-- The results, for 'retM': by the known slots. -/
theorem res0 {a : Act} {w : World} (hr : fn.results = #[]) : (results fn a.tmps).run P w = .ok (.tuple #[]) w := results_none hr _ _ _
theorem res1 {n ds} {a : Act} {w : World} {t : Tmp} {v : Value} (ha : Ok n ds e a) (hr : fn.results = #[.tmp t]) (hv : e.get t = some v) : (results fn a.tmps).run P w = .ok v w := by
  have h1 := ha.get t v hv; simpa [h1] using results_tmp hr a.tmps P w
theorem res2 {n ds} {a : Act} {w : World} {t u : Tmp} {v x : Value} (ha : Ok n ds e a) (hr : fn.results = #[.tmp t, .tmp u]) (hv : e.get t = some v) (hx : e.get u = some x) : (results fn a.tmps).run P w = .ok (.tuple #[v, x]) w := by
  have h1 := ha.get t v hv; have h2 := ha.get u x hx; simpa [h1, h2] using results_tmp2 hr a.tmps P w
theorem res3 {n ds} {a : Act} {w : World} {t u s : Tmp} {v x y : Value} (ha : Ok n ds e a) (hr : fn.results = #[.tmp t, .tmp u, .tmp s]) (hv : e.get t = some v) (hx : e.get u = some x) (hy : e.get s = some y) : (results fn a.tmps).run P w = .ok (.tuple #[v, x, y]) w := by
  have h1 := ha.get t v hv; have h2 := ha.get u x hx; have h3 := ha.get s y hy; simpa [h1, h2, h3] using results_tmp3 hr a.tmps P w

/-- A result that lies in memory: a struct or an array in a block of its own. -/
theorem run_cellRes {b T n : Nat} {vs : List Value} {E : TypeId} {w : World} (hT : agT P T = some n) (hn : vs.length = n) (hb : w.heap[b]? = some (.cells vs.toArray E (0, 0))) : (loadVar T ⟨b, 0, none⟩).run P w = .ok (.agg vs.toArray) w :=
  run_loadAgg hT hn (fun j v hj => by simp [World.cell?, hb, hj])
theorem resc1 {n ds} {a : Act} {w : World} {t : Tmp} {b T m : Nat} {vs : List Value} {E : TypeId} (ha : Ok n ds e a) (hr : fn.results = #[.cell t T]) (hv : e.get t = some (.pointer (some ⟨b, 0, none⟩))) (hT : agT P T = some m) (hn : vs.length = m) (hb : w.heap[b]? = some (.cells vs.toArray E (0, 0))) :
    (results fn a.tmps).run P w = .ok (.agg vs.toArray) w := by
  have h1 := ha.get t _ hv
  simp [results, hr, h1, asAddr, run_cellRes hT hn hb]
theorem resc2 {n ds} {a : Act} {w : World} {t u : Tmp} {b T m : Nat} {vs : List Value} {x : Value} {E : TypeId} (ha : Ok n ds e a) (hr : fn.results = #[.cell t T, .tmp u]) (hv : e.get t = some (.pointer (some ⟨b, 0, none⟩))) (hx : e.get u = some x) (hT : agT P T = some m) (hn : vs.length = m) (hb : w.heap[b]? = some (.cells vs.toArray E (0, 0))) :
    (results fn a.tmps).run P w = .ok (.tuple #[.agg vs.toArray, x]) w := by
  have h1 := ha.get t _ hv
  have h2 := ha.get u _ hx
  simp [results, hr, h1, h2, asAddr, run_cellRes hT hn hb]
theorem resc3 {n ds} {a : Act} {w : World} {t u s : Tmp} {b T m : Nat} {vs : List Value} {x y : Value} {E : TypeId} (ha : Ok n ds e a) (hr : fn.results = #[.cell t T, .tmp u, .tmp s]) (hv : e.get t = some (.pointer (some ⟨b, 0, none⟩))) (hx : e.get u = some x) (hy : e.get s = some y) (hT : agT P T = some m) (hn : vs.length = m) (hb : w.heap[b]? = some (.cells vs.toArray E (0, 0))) :
    (results fn a.tmps).run P w = .ok (.tuple #[.agg vs.toArray, x, y]) w := by
  have h1 := ha.get t _ hv
  have h2 := ha.get u _ hx
  have h3 := ha.get s _ hy
  simp [results, hr, h1, h2, h3, asAddr, run_cellRes hT hn hb]

/-- Leaving, by 'resc..' or 'res..'. -/
theorem retG {vf : Act → World → Value} (hds : cx.ds = []) (hv : ∀ a w, Ok cx.n cx.ds e a → Sat cx.w0 cx.S0 Rs w → (results fn a.tmps).run P w = .ok (vf a w) w ∧ R (.returned (vf a w)) w) : At cx e Rs (bodyPost P fn R .ret) :=
  fun a w ha hw => ⟨ha.defs.trans hds, _, (hv a w ha hw).1, (hv a w ha hw).2⟩

end leave
end Go.Pm
