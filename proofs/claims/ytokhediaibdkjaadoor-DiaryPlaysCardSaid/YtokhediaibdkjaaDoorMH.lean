/- The proof's texts, merged: N4 N5 N6 N7 N8 N9 NA NB NC. -/
import Derived.Test.YtokhediaibdkjaaDoorMG
import Derived.Test.YtokhediaibdkjaaDoorMD
/-! From N4 -/
/- Ref17's disk: how it lies. (printed by gen1.py) -/
namespace Go.Proofs.YtokhediaibdkjaaDoor
open Go.Pm Go.RowKit
set_option maxRecDepth 100000
theorem un_69 : Tryd.prog.underlying 69 = some (.slice 178) := by kernel_rfl
theorem bt_178 : (Tryd.prog.info? 178).map (·.bytes) = some 32 := by kernel_rfl
/-- A block of bytes: its bytes, where it lies. -/
abbrev Pb := List UInt8 × (Option Addr × Nat)
def pbV (p : Pb) : Value := slv 64 p.2
/-- Blocks that are owned and never written. -/
def poolR (ps : List Pb) : Res := ⟨ps.flatMap (fun p => vecFp (slv 64 p.2)), fun w => ∀ p ∈ ps, w.ownsRow 0 5 1 (slv 64 p.2) 64 (p.1.map B8), fun {_w _w'} h hp p hm =>
  (vec (slv 64 p.2) 5 1 64 (p.1.map B8)).loc (fun k hk => h k (List.mem_flatMap.2 ⟨p, hm, show k ∈ vecFp (slv 64 p.2) from hk⟩)) (hp p hm)⟩
theorem poolRd {cx : Cx} {Rs B : List Res} {ps : List Pb} {p : Pb} (hk : Pick (poolR ps) Rs B) (hm : p ∈ ps) : RdA cx Rs p.2.1 (p.1.map B8) := fun _ hw => RdC.ofVec (hw.get hk p hm)
theorem pool_none {w0 w : World} {S0 : List Nat} {Rs : List Res} (h : Sat w0 S0 Rs w) : Sat w0 S0 (poolR [] :: Rs) w :=
  ⟨h.os, h.tape, h.output, h.size, h.frame, fun R hR => by rcases List.mem_cons.1 hR with rfl | hR; exact (fun p hp => by cases hp); exact h.holds R hR, fun k hk => h.lt k (by simpa [poolR] using hk), by simpa [poolR] using h.nodup, fun k hk => h.new k (by simpa [poolR] using hk)⟩
theorem poolAdd {cx : Cx} {e : Env} {Rs B B' : List Res} {K : Act → World → Prop} {ps : List Pb} {p : Pb} (h1 : Pick (vec (slv 64 p.2) 5 1 64 (p.1.map B8)) Rs B) (h2 : Pick (poolR ps) B B') (h : At cx e (poolR (p :: ps) :: B') K) : At cx e Rs K :=
  At.up (fun w hw => by
    have h0 := (hw.pick h1).perm (List.Perm.cons _ h2.perm)
    have hf : fps (poolR (p :: ps) :: B') = fps (vec (slv 64 p.2) 5 1 64 (p.1.map B8) :: poolR ps :: B') := by
      simp only [fps_cons, poolR, List.flatMap_cons, List.append_assoc]; rfl
    refine ⟨h0.os, h0.tape, h0.output, h0.size, h0.frame, fun R hR => ?_, by rw [hf]; exact h0.lt, by rw [hf]; exact h0.nodup, by rw [hf]; exact h0.new⟩
    rcases List.mem_cons.1 hR with rfl | hR
    · intro q hq
      rcases List.mem_cons.1 hq with rfl | hq
      · exact h0.holds _ (List.mem_cons_self ..)
      · exact h0.holds (poolR ps) (by simp) q hq
    · exact h0.holds R (by simp [hR])) h
/-- Where the reference's disk lies. -/
structure Rr where
  sb : Nat
  sc : Nat
  sr : List Value
  wq : Option Addr × Nat
  cq : Option Addr × Nat
  st : List Pb
  ws : List (Nat × Pb)
  ps : List Pb
def pbOk (p : Pb) : Prop := p.1.length = 64 ∧ (p.2.1 = none → p.2.2 = 0) ∧ 64 ≤ p.2.2 ∧ p.2.1.isSome = true
structure Rr.ok (r : Rr) (k : Dk) : Prop where
  s : k.stays = r.st.map (·.1)
  w : k.waits = r.ws.map (fun x => (x.1, x.2.1))
  sn : r.st.length ≤ r.sc
  sm : ∀ p ∈ r.st, p ∈ r.ps
  wm : ∀ x ∈ r.ws, x.2 ∈ r.ps
  pl : ∀ p ∈ r.ps, pbOk p
  c0 : r.cq.1 = none → r.cq.2 = 0
  c1 : k.choice.length ≤ r.cq.2
def rwC (l : List (Nat × Pb)) : List Value := (l.map fun x => [I64 x.1, pbV x.2]).flatten
def rkCells (k : Dk) (r : Rr) : List Value := [.slice (some ⟨r.sb, 0, none⟩) r.st.length r.sc, slv r.ws.length r.wq, I64 k.room, .bool k.down, I64 k.steps, slv k.choice.length r.cq]
abbrev rkB (b : Nat) (k : Dk) (r : Rr) : Res := blk b 71 (rkCells k r)
abbrev rkS (r : Rr) : Res := blk r.sb 23 (r.st.map pbV ++ r.sr)
abbrev rkW (r : Rr) : Res := vec (slv r.ws.length r.wq) 178 2 r.ws.length (rwC r.ws)
abbrev rkC (k : Dk) (r : Rr) : Res := vec (slv k.choice.length r.cq) 5 1 k.choice.length (k.choice.map B8)
abbrev rkR (b : Nat) (k : Dk) (r : Rr) : List Res := [rkB b k r, rkS r, rkW r, rkC k r, poolR r.ps]
theorem rwC_get {l : List (Nat × Pb)} {i : Nat} {x : Nat × Pb} (hi : l[i]? = some x) : ((rwC l).drop (i * 2)).take 2 = [I64 x.1, pbV x.2] :=
  flat_get (n := 2) (by intro y hy; obtain ⟨z, _, rfl⟩ := List.mem_map.1 hy; rfl) (by simp [hi])
theorem rwC_app (l : List (Nat × Pb)) (x : Nat × Pb) : rwC l ++ [I64 x.1, pbV x.2] = rwC (l ++ [x]) := by simp [rwC]
theorem rwC_at {l : List (Nat × Pb)} {i : Nat} {x : Nat × Pb} (hi : l[i]? = some x) : (rwC l)[i * 2]? = some (I64 x.1) ∧ (rwC l)[i * 2 + 1]? = some (pbV x.2) := by
  have h := rwC_get hi
  constructor
  · have h0 : (((rwC l).drop (i * 2)).take 2)[0]? = some (I64 x.1) := by rw [h]; rfl
    rwa [List.getElem?_take_of_lt (by decide), List.getElem?_drop, Nat.add_zero] at h0
  · have h0 : (((rwC l).drop (i * 2)).take 2)[1]? = some (pbV x.2) := by rw [h]; rfl
    rwa [List.getElem?_take_of_lt (by decide), List.getElem?_drop] at h0
theorem Rr.ok.n {r : Rr} {k : Dk} (h : r.ok k) : r.st.length = k.stays.length := by rw [h.s, List.length_map]
theorem Rr.ok.m {r : Rr} {k : Dk} (h : r.ok k) : r.ws.length = k.waits.length := by rw [h.w, List.length_map]
theorem Rr.ok.wg {r : Rr} {k : Dk} (h : r.ok k) {i : Nat} {x : Nat × Pb} (hx : r.ws[i]? = some x) : k.waits[i]? = some (x.1, x.2.1) := by rw [h.w, List.getElem?_map, hx]; rfl
theorem st_get {st : List Pb} {rest : List Value} {a : Nat} {p : Pb} (h : st[a]? = some p) : (st.map pbV ++ rest)[a]? = some (pbV p) := by
  rw [List.getElem?_append_left (by rw [List.length_map]; exact (List.getElem?_eq_some_iff.1 h).1), List.getElem?_map, h]; rfl
theorem st_set {st : List Pb} {rest : List Value} {a : Nat} {p : Pb} (h : a < st.length) : (st.map pbV ++ rest).set a (pbV p) = (st.set a p).map pbV ++ rest := by
  rw [List.set_append_left _ _ (by rw [List.length_map]; exact h), List.map_set]
theorem set_self {α : Type} {l : List α} {i : Nat} {x : α} (h : l[i]? = some x) : l.set i x = l := by
  apply List.ext_getElem?
  intro j
  by_cases hj : i = j
  · subst hj; rw [List.getElem?_set_self (List.getElem?_eq_some_iff.1 h).1, h]
  · rw [List.getElem?_set_ne hj]
theorem take_next {l : List UInt8} {j : Nat} (h : j < l.length) : (l.take j).map B8 ++ ([l.getD j 0] : List UInt8).map B8 = (l.take (j + 1)).map B8 := by
  rw [← List.map_append, ← take_one (getD_get (d := (0 : UInt8)) h)]
/-- What falls makes of a sector. -/
def rowF (c : List UInt8) (i : Nat) (x old : List UInt8) : List UInt8 := x.take (keepN c i) ++ old.drop (keepN c i)
theorem keepN_le (c : List UInt8) (i : Nat) : keepN c i ≤ 64 := by unfold keepN; split <;> omega
theorem rowF_length {c : List UInt8} {i : Nat} {x old : List UInt8} (hx : x.length = 64) (ho : old.length = 64) : (rowF c i x old).length = 64 := by
  have := keepN_le c i
  simp only [rowF, List.length_append, List.length_take, List.length_drop]; omega
theorem rowF_lt {c : List UInt8} {i j : Nat} {x old : List UInt8} (hx : x.length = 64) (h : j < keepN c i) : (rowF c i x old).getD j 0 = x.getD j 0 := by
  have := keepN_le c i
  rw [rowF, List.getD_eq_getElem?_getD, List.getElem?_append_left (by rw [List.length_take]; omega), List.getElem?_take_of_lt h, ← List.getD_eq_getElem?_getD]
theorem rowF_ge {c : List UInt8} {i j : Nat} {x old : List UInt8} (hx : x.length = 64) (h : ¬ j < keepN c i) : (rowF c i x old).getD j 0 = old.getD j 0 := by
  have := keepN_le c i
  have e : (x.take (keepN c i)).length = keepN c i := by rw [List.length_take]; omega
  rw [rowF, List.getD_eq_getElem?_getD, List.getElem?_append_right (by omega), e, List.getElem?_drop, show keepN c i + (j - keepN c i) = j by omega, ← List.getD_eq_getElem?_getD]
theorem fall_step {c : List UInt8} {ws : List (Nat × List UInt8)} {i a : Nat} {x old : List UInt8} {st : List (List UInt8)} (hx : ws[i]? = some (a, x)) (ho : st[a]? = some old) : fallStep c ws i st = st.set a (rowF c i x old) := by
  have e1 : ws.getD i (0, []) = (a, x) := by rw [List.getD_eq_getElem?_getD, hx]; rfl
  have e2 : st.getD a [] = old := by rw [List.getD_eq_getElem?_getD, ho]; rfl
  unfold fallStep
  simp only [e1, e2]
  split
  · rename_i h
    rw [rowF, h, List.take_zero, List.nil_append, List.drop_zero, set_self ho]
  · rfl
theorem bu_71 (n : Int) : Tryd.prog.built 71 [(2, I64 n)] = some [.slice none 0 0, .slice none 0 0, I64 n, .bool false, I64 0, .slice none 0 0].toArray := by
  have h1 : Tryd.prog.built 71 [(2, I64 n)] = Instr.fill (fun i => ([(0, 1), (1, 1), (2, 1), (3, 1), (4, 2)] : List (Nat × Nat)).toArray[i]?) #[.slice none 0 0, .slice none 0 0, .int .i64 0, .bool false, .int .i64 0, .slice none 0 0] [(2, I64 n)] := by kernel_rfl
  rw [h1, fill_cons1 (off := 2) rfl rfl (by simp)]; rfl

end Go.Proofs.YtokhediaibdkjaaDoor

/-! From N5 -/
/- Ref17's New. (printed by gen1.py) -/
namespace Go.Proofs.YtokhediaibdkjaaDoor
open Go.Pm Go.RowKit
set_option maxRecDepth 100000
theorem f29_spec (n m : Nat) (h1 : 1 ≤ n) (h2 : n ≤ 64) (h3 : m ≤ 10000) (w : World) :
    Calls Tryd.prog 29 [I64 n, I64 m].toArray w (fun en w2 => ∃ y : Nat × Rr, Rr.ok y.2 (newDk n m) ∧ en = .returned (.tuple #[.pointer (some ⟨y.1, 0, none⟩), I64 0]) ∧ Sat w (fps []) (rkR y.1 (newDk n m) y.2) w2) := by
  refine enter (n := 41) Tryd.func29 rfl rfl rfl (Sat.refl w) ?_
  refine seq ?_
  refine region ?_
  refine st (g_assign rfl) rfl ?_
  refine st (g_assign rfl) rfl ?_
  refine done ?_
  refine th_n ?_
  refine seq ?_
  refine seq ?_
  refine region ?_
  refine st (g_move rfl) rfl ?_
  refine st (g_F rfl rfl rfl (by omega)) rfl ?_
  refine st (g_move rfl) rfl ?_
  refine gt rfl ?_
  refine st (g_move rfl) rfl ?_
  refine gt rfl ?_
  refine st (g_F rfl rfl rfl (by omega)) rfl ?_
  refine st (g_pickF rfl rfl) rfl ?_
  refine st (g_move rfl) rfl ?_
  refine gt rfl ?_
  refine st (g_move rfl) rfl ?_
  refine gt rfl ?_
  refine st (g_F rfl rfl rfl (by omega)) rfl ?_
  refine st (g_pickF rfl rfl) rfl ?_
  refine st (g_move rfl) rfl ?_
  refine gt rfl ?_
  refine st (g_move rfl) rfl ?_
  refine gt rfl ?_
  refine st (g_F rfl rfl rfl (by omega)) rfl ?_
  refine st (g_pickF rfl rfl) rfl ?_
  refine done ?_
  refine th_n ?_
  refine condF rfl ?_
  refine skip ?_
  refine th_n ?_
  refine seq ?_
  refine region ?_
  refine st (g_move rfl) rfl ?_
  refine st (g_build rfl (bu_71 _)) rfl ?_
  refine sq rfl (o_box (cs := [.slice none 0 0, .slice none 0 0, I64 m, .bool false, I64 0, .slice none 0 0]) rfl rfl rfl (fun b24 => ?_))
  refine st (g_assign rfl) rfl ?_
  refine done ?_
  refine th_n ?_
  refine seq ?_
  refine seq ?_
  refine At.up (fun w hw => new0_vec (T := 23) (s := 1) hw ⟨rfl, .inl ⟨rfl, rfl⟩⟩) ?_
  refine At.up (fun w hw => pool_none hw) ?_
  refine region ?_
  refine st (g_assign rfl) rfl ?_
  refine done ?_
  refine th_n ?_
  refine block ?_
  refine loop (α := Nat × (Option Addr × Nat) × List Pb) (fun ⟨i, z, ps⟩ => i ≤ n ∧ (z.1 = none → z.2 = 0) ∧ i ≤ z.2 ∧ ps.length = i ∧ ps.map (·.1) = List.replicate i zero64 ∧ ∀ p ∈ ps, pbOk p) (fun ⟨i, z, ps⟩ => [(0, I64 n), (6, .pointer (some ⟨b24, 0, none⟩)), (7, I64 (i : Nat))]) (fun ⟨i, z, ps⟩ => [blk b24 71 [slv i z, .slice none 0 0, I64 m, .bool false, I64 0, .slice none 0 0], vec (slv i z) 23 1 i (ps.reverse.map pbV), poolR ps]) (fun ⟨i, z, ps⟩ => n - i) (0, (none, 0), []) ⟨Nat.zero_le _, fun _ => rfl, Nat.le_refl _, rfl, rfl, by simp⟩ ⟨rfl, rfl, rfl, trivial⟩ (.cons (.there (.there (.here))) (.cons (.there (.here)) (.cons .here .nil))) (fun ⟨i, z, ps⟩ ⟨hi, hz, hz2, hpl, hpz, hpo⟩ => ?_)
  show At _ [(0, I64 n), (6, .pointer (some ⟨b24, 0, none⟩)), (7, I64 (i : Nat))] [blk b24 71 [slv i z, .slice none 0 0, I64 m, .bool false, I64 0, .slice none 0 0], vec (slv i z) 23 1 i (ps.reverse.map pbV), poolR ps] _
  refine seq ?_
  refine seq ?_
  refine region ?_
  refine st (g_move rfl) rfl ?_
  refine st (g_move rfl) rfl ?_
  refine st (g_bin rfl rfl rfl) rfl ?_
  refine done ?_
  refine th_n ?_
  refine condS rfl (fun h27 => ?_) (fun h27 => ?_)
  · try simp only [decide_eq_true_eq] at h27
    have hi2 : i < n := by omega
    refine skip ?_
    refine th_n ?_
    refine seq ?_
    refine block ?_
    refine regionL ⟨[], [_], [10]⟩ mixed (by decide +kernel) .nil (.cons .here .nil) ?_
    refine An'.q 0 [10] rfl (by decide +kernel) rfl rfl (g_move rfl) rfl ?_
    refine An'.q 1 [10] rfl (by decide +kernel) rfl rfl (g_move rfl) rfl ?_
    refine An'.q 2 [10] rfl (by decide +kernel) rfl rfl (g_nilCheck rfl) rfl ?_
    refine An'.q 3 [10] rfl (by decide +kernel) rfl rfl (g_fieldAddr fo_71_0 rfl rfl) rfl ?_
    refine An'.z 4 [10] rfl (by decide +kernel) rfl rfl (g_load (v := slv i z) sc_22 rfl (Cell.own .here rfl)) rfl ?_
    refine An'.oneG 5 (by decide +kernel) rfl rfl ?_
    refine o_make (s := 1) (zv := B8 0) un_23 zr_5 sz_5 bt_5 (by decide) rfl rfl (by decide) (by decide) (by decide) rfl (fun b35 => ?_)
    refine An'.on0 .nil (.cons (.there (.here)) .nil) rfl ?_
    refine An'.oneG 6 (by decide +kernel) rfl rfl ?_
    refine o_buildSlice1 (vs := [.slice (some ⟨b35, 0, none⟩) 64 64]) un_22 zr_23 sz_23 (by decide) (by decide) rfl rfl rfl (by simp [Value.oneCell']) rfl (fun b36 => ?_)
    refine An'.on0 .nil (.cons (.there (.there (.here))) .nil) rfl ?_
    refine An'.oneG 7 (by decide +kernel) rfl rfl ?_
    refine o_append (n := i) (m := 1) (news := [.slice (some ⟨b35, 0, none⟩) 64 64]) un_22 zr_23 sz_23 rfl bt_23 (by decide) rfl rfl (.there (.there (.there (.here)))) rfl (RdA.own .here (by simp)) (by simp [Value.oneCell']) nofun (by simp only [maxLen]; omega) (by omega) rfl (fun q1 cap1 hq1 hc1 hq01 => ?_)
    refine An'.on0 .nil (.cons (.there (.there (.there (.here)))) .nil) rfl ?_
    refine An'.q 8 [10] rfl (by decide +kernel) rfl rfl (g_nilCheck rfl) rfl ?_
    refine An'.q 9 [10] rfl (by decide +kernel) rfl rfl (g_fieldAddr fo_71_0 rfl rfl) rfl ?_
    refine An'.oneG 10 (by decide +kernel) rfl rfl ?_
    refine o_store (cs' := [slv (i + 1) (q1, cap1), .slice none 0 0, I64 m, .bool false, I64 0, .slice none 0 0]) sz_22 rfl rfl rfl (.there (.there (.there (.here)))) (Nat.le_of_ble_eq_true rfl) rfl ?_
    refine An'.onx [10] rfl (by decide +kernel) .nil ?_
    refine An'.fin (by decide +kernel) ?_
    refine ib_n ?_
    refine th_n ?_
    have hnb : ps.reverse.map pbV ++ [.slice (some ⟨b35, 0, none⟩) 64 64] = (((zero64, (some ⟨b35, 0, none⟩, 64)) : Pb) :: ps).reverse.map pbV := by rw [List.reverse_cons, List.map_append]; rfl
    rw [hnb]
    refine vec_of_blk (s := 1) (n := 64) (.there (.there (.there (.here)))) (by simp) (by decide) ?_
    refine poolAdd (p := ((zero64, (some ⟨b35, 0, none⟩, 64)) : Pb)) .here (.there (.there (.there (.here)))) ?_
    refine region ?_
    refine st (g_move rfl) rfl ?_
    refine st (g_iadd (c := ((i + 1 : Nat) : Int)) rfl rfl (by omega) (by omega) (by omega)) rfl ?_
    refine st (g_assign rfl) rfl ?_
    refine done ?_
    refine th_n ?_
    exact again (i + 1, (q1, cap1), ((zero64, (some ⟨b35, 0, none⟩, 64)) : Pb) :: ps) ⟨by omega, hq01, hc1, by simp [hpl], by rw [List.map_cons, hpz]; rfl, fun p hp => by rcases List.mem_cons.1 hp with rfl | hp; exact ⟨rfl, nofun, Nat.le_refl _, rfl⟩; exact hpo p hp⟩ (by show n - (i + 1) < n - i; omega) ⟨rfl, rfl, rfl, trivial⟩ (.cons (.there (.here)) (.cons (.there (.here)) (.cons .here .nil)))
  · try simp only [decide_eq_false_iff_not] at h27
    have hie : i = n := by omega
    subst hie
    refine exitc ?_
    refine th_x ?_
    refine th_x ?_
    refine ib_x ?_
    refine th_n ?_
    refine seq ?_
    refine region ?_
    refine st (g_move rfl) rfl ?_
    refine st (g_assign rfl) rfl ?_
    refine st (g_assign rfl) rfl ?_
    refine done ?_
    refine th_n ?_
    refine ret ?_
    refine At.up (fun w hw => new0_vec (T := 178) (s := 2) hw ⟨rfl, .inl ⟨rfl, rfl⟩⟩) ?_
    refine At.up (fun w hw => new0_vec (T := 5) (s := 1) hw ⟨rfl, .inl ⟨rfl, rfl⟩⟩) ?_
    obtain ⟨zp, zc⟩ := z
    refine vecOpen (.there (.there (.there (.here)))) (by omega) (fun bx rx hx ho1 ho2 ho3 ho4 => ?_)
    subst hx
    exact ret2 rfl rfl rfl rfl (fun w2 hw2 => ⟨(b24, ⟨bx, zc, rx, (none, 0), (none, 0), ps.reverse, [], ps⟩), ⟨by show List.replicate i zero64 = ps.reverse.map (·.1); rw [List.map_reverse, hpz, List.reverse_replicate], rfl, by show ps.reverse.length ≤ zc; rw [List.length_reverse, hpl]; exact hz2, fun p hp => List.mem_reverse.1 hp, by simp, hpo, fun _ => rfl, Nat.le_refl _⟩, rfl, by
      have h0 := hw2.split (A := [_, _, _, _, _]) (.cons (.there (.there (.there (.here)))) (.cons .here (.cons (.there (.here)) (.cons .here (.cons .here .nil)))))
      have e3 : rkCells (newDk i m) ⟨bx, zc, rx, (none, 0), (none, 0), ps.reverse, [], ps⟩ = [slv i (some ⟨bx, 0, none⟩, zc), .slice none 0 0, I64 m, .bool false, I64 0, .slice none 0 0] := by simp [rkCells, newDk, slv, hpl]
      rw [← e3] at h0
      exact Sat.app0 h0⟩)

theorem f29_bad (n m : Int) (h : n < 1 ∨ n > 64 ∨ m < 0 ∨ m > 10000) (w : World) : Calls Tryd.prog 29 [I64 n, I64 m].toArray w (fun en w2 => en = .returned (.tuple #[.pointer none, I64 170]) ∧ Sat w [] [] w2) := by
  refine enter (n := 41) Tryd.func29 rfl rfl rfl (Sat.refl w) ?_
  refine seq ?_
  refine region ?_
  refine st (g_assign rfl) rfl ?_
  refine st (g_assign rfl) rfl ?_
  refine done ?_
  refine th_n ?_
  refine seq ?_
  refine seq ?_
  refine region ?_
  refine st (g_move rfl) rfl ?_
  refine sp (g_bin rfl rfl rfl) rfl (fun h9 => ?_) (fun h9 => ?_)
  · refine st (g_move rfl) rfl ?_
    refine gf rfl rfl ?_
    refine gf rfl rfl ?_
    refine st (g_pickT rfl rfl) rfl ?_
    refine st (g_move rfl) rfl ?_
    refine gf rfl rfl ?_
    refine gf rfl rfl ?_
    refine st (g_pickT rfl rfl) rfl ?_
    refine st (g_move rfl) rfl ?_
    refine gf rfl rfl ?_
    refine gf rfl rfl ?_
    refine st (g_pickT rfl rfl) rfl ?_
    refine done ?_
    refine th_n ?_
    refine condT rfl ?_
    refine seq ?_
    refine region ?_
    refine st (g_assign rfl) rfl ?_
    refine st (g_assign rfl) rfl ?_
    refine done ?_
    refine th_n ?_
    refine ret ?_
    refine th_r ?_
    exact ret2 rfl rfl rfl rfl (fun w2 hw2 => ⟨rfl, hw2⟩)
  · refine st (g_move rfl) rfl ?_
    refine gt rfl ?_
    refine st (g_move rfl) rfl ?_
    refine gt rfl ?_
    refine sp (g_bin rfl rfl rfl) rfl (fun h12 => ?_) (fun h12 => ?_)
    · refine st (g_pickF rfl rfl) rfl ?_
      refine st (g_move rfl) rfl ?_
      refine gf rfl rfl ?_
      refine gf rfl rfl ?_
      refine st (g_pickT rfl rfl) rfl ?_
      refine st (g_move rfl) rfl ?_
      refine gf rfl rfl ?_
      refine gf rfl rfl ?_
      refine st (g_pickT rfl rfl) rfl ?_
      refine done ?_
      refine th_n ?_
      refine condT rfl ?_
      refine seq ?_
      refine region ?_
      refine st (g_assign rfl) rfl ?_
      refine st (g_assign rfl) rfl ?_
      refine done ?_
      refine th_n ?_
      refine ret ?_
      refine th_r ?_
      exact ret2 rfl rfl rfl rfl (fun w2 hw2 => ⟨rfl, hw2⟩)
    · refine st (g_pickF rfl rfl) rfl ?_
      refine st (g_move rfl) rfl ?_
      refine gt rfl ?_
      refine st (g_move rfl) rfl ?_
      refine gt rfl ?_
      refine sp (g_bin rfl rfl rfl) rfl (fun h16 => ?_) (fun h16 => ?_)
      · refine st (g_pickF rfl rfl) rfl ?_
        refine st (g_move rfl) rfl ?_
        refine gf rfl rfl ?_
        refine gf rfl rfl ?_
        refine st (g_pickT rfl rfl) rfl ?_
        refine done ?_
        refine th_n ?_
        refine condT rfl ?_
        refine seq ?_
        refine region ?_
        refine st (g_assign rfl) rfl ?_
        refine st (g_assign rfl) rfl ?_
        refine done ?_
        refine th_n ?_
        refine ret ?_
        refine th_r ?_
        exact ret2 rfl rfl rfl rfl (fun w2 hw2 => ⟨rfl, hw2⟩)
      · refine st (g_pickF rfl rfl) rfl ?_
        refine st (g_move rfl) rfl ?_
        refine gt rfl ?_
        refine st (g_move rfl) rfl ?_
        refine gt rfl ?_
        refine st (g_T rfl rfl rfl (by omega)) rfl ?_
        refine st (g_pickF rfl rfl) rfl ?_
        refine done ?_
        refine th_n ?_
        refine condT rfl ?_
        refine seq ?_
        refine region ?_
        refine st (g_assign rfl) rfl ?_
        refine st (g_assign rfl) rfl ?_
        refine done ?_
        refine th_n ?_
        refine ret ?_
        refine th_r ?_
        exact ret2 rfl rfl rfl rfl (fun w2 hw2 => ⟨rfl, hw2⟩)
end Go.Proofs.YtokhediaibdkjaaDoor

/-! From N6 -/
/- Ref17's fall. (printed by gen1.py) -/
namespace Go.Proofs.YtokhediaibdkjaaDoor
open Go.Pm Go.RowKit
set_option maxRecDepth 100000
theorem f77_spec (b : Nat) (k : Dk) (hk : k.ok) (r : Rr) (hro : r.ok k) (p : Option Addr) (cl cc : Nat) (choice : List UInt8) (hcl : choice.length = cl) (w : World) (hA : Sat w (fps [rkB b k r, rkS r, rkW r, poolR r.ps]) [rkB b k r, rkS r, rkW r, poolR r.ps] w) (hr : RdS w (fps [rkB b k r, rkS r, rkW r, poolR r.ps]) p (choice.map B8)) :
    Calls Tryd.prog 77 [.pointer (some ⟨b, 0, none⟩), .slice p cl cc].toArray w (fun en w2 => ∃ r2 : Rr, r2.ok (k.fall choice) ∧ en = .returned (.tuple #[]) ∧ Sat w (fps [rkB b k r, rkS r, rkW r, poolR r.ps]) (rkR b (k.fall choice) r2) w2) := by
  have hnn := hro.n
  have hmm0 := hro.m
  have hrm0 := hk.rm
  refine enter (n := 83) Tryd.func77 rfl rfl rfl hA ?_
  refine seq ?_
  refine seq ?_
  refine region ?_
  refine st (g_assign rfl) rfl ?_
  refine done ?_
  refine th_n ?_
  refine block ?_
  refine loop (α := Nat × List Pb × List Pb) (fun ⟨i, sx, ps⟩ => i ≤ r.ws.length ∧ sx.map (·.1) = iter (fallStep choice k.waits) (i) k.stays ∧ (∀ p ∈ sx, p ∈ ps) ∧ (∀ p ∈ r.ps, p ∈ ps) ∧ (∀ p ∈ ps, pbOk p) ∧ sx.length = r.st.length) (fun ⟨i, sx, ps⟩ => [(0, .pointer (some ⟨b, 0, none⟩)), (1, .slice p cl cc), (4, I64 (i : Nat))]) (fun ⟨i, sx, ps⟩ => [rkB b k r, blk r.sb 23 (sx.map pbV ++ r.sr), rkW r, poolR ps]) (fun ⟨i, sx, ps⟩ => r.ws.length - i) (0, r.st, r.ps) ⟨Nat.zero_le _, hro.s.symm, hro.sm, fun p hp => hp, hro.pl, rfl⟩ ⟨rfl, rfl, rfl, trivial⟩ (.cons .here (.cons .here (.cons .here (.cons .here .nil)))) (fun ⟨i, sx, ps⟩ ⟨hi, hst, hsm, hps, hpo, hsl⟩ => ?_)
  show At _ [(0, .pointer (some ⟨b, 0, none⟩)), (1, .slice p cl cc), (4, I64 (i : Nat))] [rkB b k r, blk r.sb 23 (sx.map pbV ++ r.sr), rkW r, poolR ps] _
  refine seq ?_
  refine seq ?_
  refine region ?_
  refine st (g_move rfl) rfl ?_
  refine st (g_move rfl) rfl ?_
  refine st (g_nilCheck rfl) rfl ?_
  refine st (g_fieldAddr fo_71_1 rfl rfl) rfl ?_
  refine st (g_load (v := slv r.ws.length r.wq) sc_69 rfl (Cell.own .here rfl)) rfl ?_
  refine st (g_len el_69 rfl) rfl ?_
  refine st (g_bin rfl rfl rfl) rfl ?_
  refine done ?_
  refine th_n ?_
  refine condS rfl (fun h14 => ?_) (fun h14 => ?_)
  · try simp only [decide_eq_true_eq] at h14
    have hi2 : i < r.ws.length := by omega
    obtain ⟨x, hx⟩ : ∃ x, r.ws[i]? = some x := ⟨r.ws[i], by simp [hi2]⟩
    have hkx := hro.wg hx
    obtain ⟨hx1, hx2⟩ := wt_get hk hkx
    have hx1 : x.1 < k.stays.length := hx1
    have hx2 : x.2.1.length = 64 := hx2
    have hxm := hps _ (hro.wm _ (List.mem_of_getElem? hx))
    obtain ⟨_, _, _, hxs⟩ := hpo _ hxm
    obtain ⟨od, hod⟩ : ∃ od, sx[x.1]? = some od := ⟨_, List.getElem?_eq_getElem (by omega)⟩
    have hodm := hsm _ (List.mem_of_getElem? hod)
    obtain ⟨hod1, _, _, hods⟩ := hpo _ hodm
    have hrow := rowF_length (c := choice) (i := i) hx2 hod1
    have hmm := hk.rm
    have hn64 := hk.n64
    have hw1 := hro.m
    have hstep : iter (fallStep choice k.waits) (i + 1) k.stays = (sx.set x.1 ((rowF choice i x.2.1 od.1), od.2)).map (·.1) := by
      show fallStep choice k.waits i (iter (fallStep choice k.waits) (i) k.stays) = _
      rw [← hst, fall_step hkx (by rw [List.getElem?_map, hod]; rfl), List.map_set]
    refine At.up2 (fun w hw => vec_isSome (hw.get (.there (.there (.here)))) (by omega)) (fun hqs => ?_)
    refine skip ?_
    refine th_n ?_
    refine seq ?_
    refine block ?_
    refine seq ?_
    refine region ?_
    refine st (g_move rfl) rfl ?_
    refine st (g_nilCheck rfl) rfl ?_
    refine st (g_fieldAddr fo_71_1 rfl rfl) rfl ?_
    refine st (g_load (v := slv r.ws.length r.wq) sc_69 rfl (Cell.own .here rfl)) rfl ?_
    refine st (g_move rfl) rfl ?_
    refine st (g_indexP (m := i * 2) el_69 rfl rfl (hqs) (by omega) (by omega) (by omega)) rfl ?_
    refine st (g_loadAP (p := r.wq.1) (cs := rwC r.ws) (vs := [I64 x.1, pbV x.2]) ag_178 rfl rfl (by decide) (RdA.vec (.there (.there (.here)))) (rwC_get hx)) rfl ?_
    refine sq rfl (o_alloc (zs := [I64 0, .slice none 0 0]) zr_178 rfl (fun b5 => ?_))
    refine sq rfl (o_storeA (cs' := [I64 x.1, pbV x.2]) sz_178 rfl rfl rfl (by simp; exact ⟨rfl, rfl⟩) .here (Nat.le_of_ble_eq_true rfl) rfl ?_)
    refine done ?_
    refine th_n ?_
    refine seq ?_
    refine region ?_
    refine st (g_assign rfl) rfl ?_
    refine done ?_
    refine th_n ?_
    refine seq ?_
    refine seq ?_
    refine At.up (fun w hw => new0_vec (T := 5) (s := 1) hw ⟨rfl, .inl ⟨rfl, rfl⟩⟩) ?_
    refine region ?_
    refine st (g_assign rfl) rfl ?_
    refine done ?_
    refine th_n ?_
    refine block ?_
    refine loop (α := Nat × (Option Addr × Nat)) (fun ⟨j, z⟩ => j ≤ 64 ∧ (z.1 = none → z.2 = 0) ∧ j ≤ z.2) (fun ⟨j, z⟩ => [(0, .pointer (some ⟨b, 0, none⟩)), (1, .slice p cl cc), (4, I64 (i : Nat)), (5, .pointer (some ⟨b5, 0, none⟩)), (6, slv j z), (7, I64 (j : Nat))]) (fun ⟨j, z⟩ => [vec (slv j z) 5 1 j (((rowF choice i x.2.1 od.1).take j).map B8), rkB b k r, blk r.sb 23 (sx.map pbV ++ r.sr), rkW r, poolR ps, blk b5 178 [I64 x.1, pbV x.2]]) (fun ⟨j, z⟩ => 64 - j) (0, (none, 0)) ⟨Nat.zero_le _, fun _ => rfl, Nat.le_refl _⟩ ⟨rfl, rfl, rfl, rfl, rfl, rfl, trivial⟩ (.cons .here (.cons (.there (.here)) (.cons (.there (.here)) (.cons (.there (.here)) (.cons (.there (.here)) (.cons .here .nil)))))) (fun ⟨j, z⟩ ⟨hj, hz, hz2⟩ => ?_)
    show At _ [(0, .pointer (some ⟨b, 0, none⟩)), (1, .slice p cl cc), (4, I64 (i : Nat)), (5, .pointer (some ⟨b5, 0, none⟩)), (6, slv j z), (7, I64 (j : Nat))] [vec (slv j z) 5 1 j (((rowF choice i x.2.1 od.1).take j).map B8), rkB b k r, blk r.sb 23 (sx.map pbV ++ r.sr), rkW r, poolR ps, blk b5 178 [I64 x.1, pbV x.2]] _
    refine seq ?_
    refine seq ?_
    refine region ?_
    refine st (g_move rfl) rfl ?_
    refine st (g_bin rfl rfl rfl) rfl ?_
    refine done ?_
    refine th_n ?_
    refine condS rfl (fun h25 => ?_) (fun h25 => ?_)
    · try simp only [decide_eq_true_eq] at h25
      have hj2 : j < 64 := by omega
      refine skip ?_
      refine th_n ?_
      refine seq ?_
      refine block ?_
      refine seq ?_
      refine region ?_
      refine st (g_move rfl) rfl ?_
      refine st (g_move rfl) rfl ?_
      refine st (g_len el_23 rfl) rfl ?_
      refine sp (g_bin rfl rfl rfl) rfl (fun h31 => ?_) (fun h31 => ?_)
      · have hlt8 := (choice.getD i 0).toNat_lt
        have hic : i < choice.length := by omega
        have hkp : keepN choice i = min (choice.getD i 0).toNat 64 := by unfold keepN; rw [if_pos hic]
        have hpc : p.isSome = true := hr.some (by intro h; rw [List.map_eq_nil_iff] at h; rw [h] at hic; exact absurd hic (Nat.not_lt_zero _))
        refine st (g_move rfl) rfl ?_
        refine gt rfl ?_
        refine st (g_move rfl) rfl ?_
        refine gt rfl ?_
        refine st (g_move rfl) rfl ?_
        refine gt rfl ?_
        refine st (g_move rfl) rfl ?_
        refine gt rfl ?_
        refine st (g_indexP (m := i) el_23 rfl rfl (hpc) (by omega) (by omega) (by omega)) rfl ?_
        refine gt rfl ?_
        refine st (g_load (v := B8 (choice.getD i 0)) sc_5 rfl (Cell.rd (RdA.of hr) (get_B8 rfl (by omega)))) rfl ?_
        refine gt rfl ?_
        refine st (g_toI it_5 it_3 rfl rfl (by omega) (by omega)) rfl ?_
        refine gt rfl ?_
        refine sp (g_bin rfl rfl rfl) rfl (fun h39 => ?_) (fun h39 => ?_)
        · have hlt := rowF_lt (c := choice) (i := i) (j := j) (old := od.1) hx2 (by omega)
          refine st (g_pickT rfl rfl) rfl ?_
          refine done ?_
          refine th_n ?_
          refine condT rfl ?_
          refine region ?_
          refine st (g_move rfl) rfl ?_
          refine st (g_fieldAddr fo_178_1 rfl rfl) rfl ?_
          refine st (g_load (v := slv 64 x.2.2) sc_23 rfl (Cell.own (.there (.there (.there (.there (.there (.here)))))) rfl)) rfl ?_
          refine st (g_move rfl) rfl ?_
          refine st (g_indexP (m := j) el_23 rfl rfl (hxs) (by omega) (by omega) (by omega)) rfl ?_
          refine st (g_load (v := B8 (x.2.1.getD j 0)) sc_5 rfl (Cell.rd (poolRd (.there (.there (.there (.there (.here))))) hxm) (get_B8 rfl (by omega)))) rfl ?_
          refine sq rfl (o_buildSlice1 (vs := ([x.2.1.getD j 0] : List UInt8).map B8) un_23 zr_5 sz_5 (by decide) (by decide) rfl rfl rfl oneB8 rfl (fun b47 => ?_))
          refine sq rfl (o_append (n := j) (m := 1) (news := ([x.2.1.getD j 0] : List UInt8).map B8) un_23 zr_5 sz_5 rfl bt_5 (by decide) rfl rfl (.there (.here)) rfl (RdA.own .here (by simp)) oneB8 nofun (by simp only [maxLen]; omega) (by omega) rfl (fun q1 cap1 hq1 hc1 hq01 => ?_))
          rw [← hlt, take_next (by omega)]
          refine st (g_assign rfl) rfl ?_
          refine done ?_
          refine ib_n ?_
          refine th_n ?_
          refine region ?_
          refine st (g_move rfl) rfl ?_
          refine st (g_iadd (c := ((j + 1 : Nat) : Int)) rfl rfl (by omega) (by omega) (by omega)) rfl ?_
          refine st (g_assign rfl) rfl ?_
          refine done ?_
          refine th_n ?_
          exact again (j + 1, (q1, cap1)) ⟨by omega, hq01, hc1⟩ (by show 64 - (j + 1) < 64 - j; omega) ⟨rfl, rfl, rfl, rfl, rfl, rfl, trivial⟩ (.cons .here (.cons (.there (.here)) (.cons (.there (.here)) (.cons (.there (.here)) (.cons (.there (.here)) (.cons (.there (.here)) .nil))))))
        · have hge := rowF_ge (c := choice) (i := i) (j := j) (old := od.1) hx2 (by omega)
          refine st (g_pickT rfl rfl) rfl ?_
          refine done ?_
          refine th_n ?_
          refine condF rfl ?_
          refine regionL ⟨[_, _, _, _], [], []⟩ mixed (by decide +kernel) (.cons (.there (.here)) (.cons (.there (.here)) (.cons (.there (.there (.there (.here)))) (.cons (.there (.there (.here))) .nil)))) .nil ?_
          refine An'.q 0 [] rfl (by decide +kernel) rfl rfl (g_move rfl) rfl ?_
          refine An'.q 1 [] rfl (by decide +kernel) rfl rfl (g_move rfl) rfl ?_
          refine An'.q 2 [] rfl (by decide +kernel) rfl rfl (g_nilCheck rfl) rfl ?_
          refine An'.q 3 [] rfl (by decide +kernel) rfl rfl (g_fieldAddr fo_71_0 rfl rfl) rfl ?_
          refine An'.q 4 [] rfl (by decide +kernel) rfl rfl (g_load (v := .slice (some ⟨r.sb, 0, none⟩) r.st.length r.sc) sc_22 rfl (Cell.own .here rfl)) rfl ?_
          refine An'.q 5 [] rfl (by decide +kernel) rfl rfl (g_fieldAddr fo_178_0 rfl rfl) rfl ?_
          refine An'.q 6 [] rfl (by decide +kernel) rfl rfl (g_load (v := I64 x.1) sc_3 rfl (Cell.own (.there (.there (.here))) rfl)) rfl ?_
          refine An'.q 7 [] rfl (by decide +kernel) rfl rfl (g_indexS (m := x.1) el_22 rfl rfl (by omega) (by omega) (by omega)) rfl ?_
          refine An'.q 8 [] rfl (by decide +kernel) rfl rfl (g_load (v := pbV od) sc_23 rfl (Cell.own (.there (.here)) (st_get hod))) rfl ?_
          refine An'.q 9 [] rfl (by decide +kernel) rfl rfl (g_move rfl) rfl ?_
          refine An'.q 10 [] rfl (by decide +kernel) rfl rfl (g_indexP (m := j) el_23 rfl rfl (hods) (by omega) (by omega) (by omega)) rfl ?_
          refine An'.q 11 [] rfl (by decide +kernel) rfl rfl (g_load (v := B8 (od.1.getD j 0)) sc_5 rfl (Cell.rd (poolRd (.there (.there (.there (.here)))) hodm) (get_B8 rfl (by omega)))) rfl ?_
          refine An'.oneG 12 (by decide +kernel) rfl rfl ?_
          refine o_buildSlice1 (vs := ([od.1.getD j 0] : List UInt8).map B8) un_23 zr_5 sz_5 (by decide) (by decide) rfl rfl rfl oneB8 rfl (fun b61 => ?_)
          refine An'.on0 (.cons (.there (.there (.here))) (.cons (.there (.there (.here))) (.cons (.there (.there (.there (.there (.here))))) (.cons (.there (.there (.there (.here)))) .nil)))) .nil rfl ?_
          refine An'.oneG 13 (by decide +kernel) rfl rfl ?_
          refine o_append (n := j) (m := 1) (news := ([od.1.getD j 0] : List UInt8).map B8) un_23 zr_5 sz_5 rfl bt_5 (by decide) rfl rfl (.there (.here)) rfl (RdA.own .here (by simp)) oneB8 nofun (by simp only [maxLen]; omega) (by omega) rfl (fun q1 cap1 hq1 hc1 hq01 => ?_)
          rw [← hge, take_next (by omega)]
          refine An'.on0 (.cons (.there (.there (.here))) (.cons (.there (.there (.here))) (.cons (.there (.there (.there (.there (.here))))) (.cons (.there (.there (.there (.here)))) .nil)))) .nil rfl ?_
          refine An'.q 14 [] rfl (by decide +kernel) rfl rfl (g_assign rfl) rfl ?_
          refine An'.fin (by decide +kernel) ?_
          refine ib_n ?_
          refine th_n ?_
          refine region ?_
          refine st (g_move rfl) rfl ?_
          refine st (g_iadd (c := ((j + 1 : Nat) : Int)) rfl rfl (by omega) (by omega) (by omega)) rfl ?_
          refine st (g_assign rfl) rfl ?_
          refine done ?_
          refine th_n ?_
          exact again (j + 1, (q1, cap1)) ⟨by omega, hq01, hc1⟩ (by show 64 - (j + 1) < 64 - j; omega) ⟨rfl, rfl, rfl, rfl, rfl, rfl, trivial⟩ (.cons .here (.cons (.there (.here)) (.cons (.there (.here)) (.cons (.there (.here)) (.cons (.there (.here)) (.cons (.there (.here)) .nil))))))
      · have hkp : keepN choice i = 0 := by unfold keepN; rw [if_neg (by omega)]
        have hge := rowF_ge (c := choice) (i := i) (j := j) (old := od.1) hx2 (by omega)
        refine st (g_move rfl) rfl ?_
        refine gf rfl rfl ?_
        refine gf rfl rfl ?_
        refine gf rfl rfl ?_
        refine gf rfl rfl ?_
        refine gf rfl rfl ?_
        refine gf rfl rfl ?_
        refine gf rfl rfl ?_
        refine st (g_pickF rfl rfl) rfl ?_
        refine done ?_
        refine th_n ?_
        refine condF rfl ?_
        refine regionL ⟨[_, _, _, _], [], []⟩ mixed (by decide +kernel) (.cons (.there (.here)) (.cons (.there (.here)) (.cons (.there (.there (.there (.here)))) (.cons (.there (.there (.here))) .nil)))) .nil ?_
        refine An'.q 0 [] rfl (by decide +kernel) rfl rfl (g_move rfl) rfl ?_
        refine An'.q 1 [] rfl (by decide +kernel) rfl rfl (g_move rfl) rfl ?_
        refine An'.q 2 [] rfl (by decide +kernel) rfl rfl (g_nilCheck rfl) rfl ?_
        refine An'.q 3 [] rfl (by decide +kernel) rfl rfl (g_fieldAddr fo_71_0 rfl rfl) rfl ?_
        refine An'.q 4 [] rfl (by decide +kernel) rfl rfl (g_load (v := .slice (some ⟨r.sb, 0, none⟩) r.st.length r.sc) sc_22 rfl (Cell.own .here rfl)) rfl ?_
        refine An'.q 5 [] rfl (by decide +kernel) rfl rfl (g_fieldAddr fo_178_0 rfl rfl) rfl ?_
        refine An'.q 6 [] rfl (by decide +kernel) rfl rfl (g_load (v := I64 x.1) sc_3 rfl (Cell.own (.there (.there (.here))) rfl)) rfl ?_
        refine An'.q 7 [] rfl (by decide +kernel) rfl rfl (g_indexS (m := x.1) el_22 rfl rfl (by omega) (by omega) (by omega)) rfl ?_
        refine An'.q 8 [] rfl (by decide +kernel) rfl rfl (g_load (v := pbV od) sc_23 rfl (Cell.own (.there (.here)) (st_get hod))) rfl ?_
        refine An'.q 9 [] rfl (by decide +kernel) rfl rfl (g_move rfl) rfl ?_
        refine An'.q 10 [] rfl (by decide +kernel) rfl rfl (g_indexP (m := j) el_23 rfl rfl (hods) (by omega) (by omega) (by omega)) rfl ?_
        refine An'.q 11 [] rfl (by decide +kernel) rfl rfl (g_load (v := B8 (od.1.getD j 0)) sc_5 rfl (Cell.rd (poolRd (.there (.there (.there (.here)))) hodm) (get_B8 rfl (by omega)))) rfl ?_
        refine An'.oneG 12 (by decide +kernel) rfl rfl ?_
        refine o_buildSlice1 (vs := ([od.1.getD j 0] : List UInt8).map B8) un_23 zr_5 sz_5 (by decide) (by decide) rfl rfl rfl oneB8 rfl (fun b61 => ?_)
        refine An'.on0 (.cons (.there (.there (.here))) (.cons (.there (.there (.here))) (.cons (.there (.there (.there (.there (.here))))) (.cons (.there (.there (.there (.here)))) .nil)))) .nil rfl ?_
        refine An'.oneG 13 (by decide +kernel) rfl rfl ?_
        refine o_append (n := j) (m := 1) (news := ([od.1.getD j 0] : List UInt8).map B8) un_23 zr_5 sz_5 rfl bt_5 (by decide) rfl rfl (.there (.here)) rfl (RdA.own .here (by simp)) oneB8 nofun (by simp only [maxLen]; omega) (by omega) rfl (fun q1 cap1 hq1 hc1 hq01 => ?_)
        rw [← hge, take_next (by omega)]
        refine An'.on0 (.cons (.there (.there (.here))) (.cons (.there (.there (.here))) (.cons (.there (.there (.there (.there (.here))))) (.cons (.there (.there (.there (.here)))) .nil)))) .nil rfl ?_
        refine An'.q 14 [] rfl (by decide +kernel) rfl rfl (g_assign rfl) rfl ?_
        refine An'.fin (by decide +kernel) ?_
        refine ib_n ?_
        refine th_n ?_
        refine region ?_
        refine st (g_move rfl) rfl ?_
        refine st (g_iadd (c := ((j + 1 : Nat) : Int)) rfl rfl (by omega) (by omega) (by omega)) rfl ?_
        refine st (g_assign rfl) rfl ?_
        refine done ?_
        refine th_n ?_
        exact again (j + 1, (q1, cap1)) ⟨by omega, hq01, hc1⟩ (by show 64 - (j + 1) < 64 - j; omega) ⟨rfl, rfl, rfl, rfl, rfl, rfl, trivial⟩ (.cons .here (.cons (.there (.here)) (.cons (.there (.here)) (.cons (.there (.here)) (.cons (.there (.here)) (.cons (.there (.here)) .nil))))))
    · try simp only [decide_eq_false_iff_not] at h25
      have hje : j = 64 := by omega
      subst hje
      refine exitc ?_
      refine th_x ?_
      refine th_x ?_
      refine ib_x ?_
      refine th_n ?_
      rw [List.take_of_length_le (Nat.le_of_eq hrow)]
      refine At.up2 (fun w hw => vec_isSome (hw.get .here) (by decide)) (fun hzs => ?_)
      refine poolAdd (p := (((rowF choice i x.2.1 od.1), z) : Pb)) .here (.there (.there (.there (.here)))) ?_
      refine regionX mixed (by decide +kernel) ?_
      refine Dr.st (g_move rfl) rfl ?_
      refine Dr.st (g_nilCheck rfl) rfl ?_
      refine Dr.st (g_fieldAddr fo_71_0 rfl rfl) rfl ?_
      refine Dr.st (g_load (v := .slice (some ⟨r.sb, 0, none⟩) r.st.length r.sc) sc_22 rfl (Cell.own (.there (.here)) rfl)) rfl ?_
      refine Dr.st (g_fieldAddr fo_178_0 rfl rfl) rfl ?_
      refine Dr.st (g_load (v := I64 x.1) sc_3 rfl (Cell.own (.there (.there (.there (.there (.here))))) rfl)) rfl ?_
      refine Dr.st (g_move rfl) rfl ?_
      refine Dr.st (g_indexS (m := x.1) el_22 rfl rfl (by omega) (by omega) (by omega)) rfl ?_
      refine Dr.last ?_
      refine o_store (cs' := (sx.set x.1 (((rowF choice i x.2.1 od.1), z) : Pb)).map pbV ++ r.sr) sz_23 rfl rfl rfl (.there (.there (.here))) (by rw [List.length_append, List.length_map]; omega) (st_set (p := (((rowF choice i x.2.1 od.1), z) : Pb)) (by omega)) ?_
      refine ib_n ?_
      refine th_n ?_
      refine region ?_
      refine st (g_move rfl) rfl ?_
      refine st (g_iadd (c := ((i + 1 : Nat) : Int)) rfl rfl (by omega) (by omega) (by omega)) rfl ?_
      refine st (g_assign rfl) rfl ?_
      refine done ?_
      refine th_n ?_
      exact again (i + 1, sx.set x.1 ((rowF choice i x.2.1 od.1), z), (((rowF choice i x.2.1 od.1), z) : Pb) :: ps) ⟨by omega, by rw [hstep, List.map_set, List.map_set], fun q hq => by rcases List.mem_or_eq_of_mem_set hq with hq | rfl; exact List.mem_cons_of_mem _ (hsm q hq); exact List.mem_cons_self .., fun q hq => List.mem_cons_of_mem _ (hps q hq), fun q hq => by rcases List.mem_cons.1 hq with rfl | hq; exact ⟨hrow, hz, hz2, hzs⟩; exact hpo q hq, by rw [List.length_set]; exact hsl⟩ (by show r.ws.length - (i + 1) < r.ws.length - i; omega) ⟨rfl, rfl, rfl, trivial⟩ (.cons (.there (.there (.here))) (.cons .here (.cons (.there (.here)) (.cons .here .nil))))
  · try simp only [decide_eq_false_iff_not] at h14
    have hie : i = r.ws.length := by omega
    subst hie
    refine exitc ?_
    refine th_x ?_
    refine th_x ?_
    refine ib_x ?_
    refine th_n ?_
    refine seq ?_
    refine region ?_
    refine st (g_move rfl) rfl ?_
    refine st (g_nilCheck rfl) rfl ?_
    refine st (g_fieldAddr fo_71_1 rfl rfl) rfl ?_
    refine sq rfl (o_store (cs' := [.slice (some ⟨r.sb, 0, none⟩) r.st.length r.sc, .slice none 0 0, I64 k.room, .bool k.down, I64 k.steps, slv k.choice.length r.cq]) sz_69 rfl rfl rfl .here (Nat.le_of_ble_eq_true rfl) rfl ?_)
    refine done ?_
    refine th_n ?_
    refine seq ?_
    refine region ?_
    refine st (g_move rfl) rfl ?_
    refine st (g_nilCheck rfl) rfl ?_
    refine st (g_fieldAddr fo_71_3 rfl rfl) rfl ?_
    refine sq rfl (o_store (cs' := [.slice (some ⟨r.sb, 0, none⟩) r.st.length r.sc, .slice none 0 0, I64 k.room, .bool true, I64 k.steps, slv k.choice.length r.cq]) sz_4 rfl rfl rfl .here (Nat.le_of_ble_eq_true rfl) rfl ?_)
    refine done ?_
    refine th_n ?_
    refine seq ?_
    refine region ?_
    refine st (g_move rfl) rfl ?_
    refine st (g_nilCheck rfl) rfl ?_
    refine st (g_fieldAddr fo_71_4 rfl rfl) rfl ?_
    refine sq rfl (o_store (cs' := [.slice (some ⟨r.sb, 0, none⟩) r.st.length r.sc, .slice none 0 0, I64 k.room, .bool true, I64 0, slv k.choice.length r.cq]) sz_3 rfl rfl rfl .here (Nat.le_of_ble_eq_true rfl) rfl ?_)
    refine done ?_
    refine th_n ?_
    refine region ?_
    refine st (g_move rfl) rfl ?_
    refine st (g_nilCheck rfl) rfl ?_
    refine st (g_fieldAddr fo_71_5 rfl rfl) rfl ?_
    refine sq rfl (o_store (cs' := [.slice (some ⟨r.sb, 0, none⟩) r.st.length r.sc, .slice none 0 0, I64 k.room, .bool true, I64 0, .slice none 0 0]) sz_23 rfl rfl rfl .here (Nat.le_of_ble_eq_true rfl) rfl ?_)
    refine done ?_
    refine At.up (fun w hw => new0_vec (T := 178) (s := 2) hw ⟨rfl, .inl ⟨rfl, rfl⟩⟩) ?_
    refine At.up (fun w hw => new0_vec (T := 5) (s := 1) hw ⟨rfl, .inl ⟨rfl, rfl⟩⟩) ?_
    exact ret0n rfl rfl (fun w2 hw2 => ⟨⟨r.sb, r.sc, r.sr, (none, 0), (none, 0), sx, [], ps⟩, ⟨by show fallSt choice k.waits k.stays = _; rw [fallSt, ← hro.m]; exact hst.symm, rfl, by show sx.length ≤ r.sc; have := hro.sn; omega, hsm, by simp, hpo, fun _ => rfl, Nat.le_refl _⟩, rfl, by
      have h0 := hw2.split (A := [_, _, _, _, _]) (.cons (.there (.there (.here))) (.cons (.there (.there (.here))) (.cons (.there (.here)) (.cons .here (.cons (.there (.here)) .nil)))))
      have e3 : rkCells (k.fall choice) ⟨r.sb, r.sc, r.sr, (none, 0), (none, 0), sx, [], ps⟩ = [.slice (some ⟨r.sb, 0, none⟩) r.st.length r.sc, .slice none 0 0, I64 k.room, .bool true, I64 0, .slice none 0 0] := by rw [← hsl]; rfl
      rw [← e3] at h0
      exact Sat.left h0⟩)
end Go.Proofs.YtokhediaibdkjaaDoor

/-! From N7 -/
/- Ref17's step, Crash, Arm. (printed by gen1.py) -/
namespace Go.Proofs.YtokhediaibdkjaaDoor
open Go.Pm Go.RowKit
set_option maxRecDepth 100000
theorem f105_zero (b : Nat) (k : Dk) (hk : k.ok) (r : Rr) (hro : r.ok k) (h0 : k.steps = 0) (w : World) (hA : Sat w (fps (rkR b k r)) (rkR b k r) w) : Calls Tryd.prog 105 [.pointer (some ⟨b, 0, none⟩)].toArray w (fun en w2 => ∃ r2 : Rr, r2.ok k.step.2 ∧ en = .returned (.bool k.step.1) ∧ Sat w (fps (rkR b k r)) (rkR b k.step.2 r2) w2) := by
  have hsp := hk.sp
  rw [step_zero h0]
  refine enter (n := 26) Tryd.func105 rfl rfl rfl hA ?_
  refine seq ?_
  refine region ?_
  refine st (g_assign rfl) rfl ?_
  refine done ?_
  refine th_n ?_
  refine seq ?_
  refine seq ?_
  refine region ?_
  refine st (g_move rfl) rfl ?_
  refine st (g_nilCheck rfl) rfl ?_
  refine st (g_fieldAddr fo_71_4 rfl rfl) rfl ?_
  refine st (g_load (v := I64 k.steps) sc_3 rfl (Cell.own .here rfl)) rfl ?_
  refine st (g_T rfl rfl rfl (by omega)) rfl ?_
  refine done ?_
  refine th_n ?_
  refine condT rfl ?_
  refine seq ?_
  refine region ?_
  refine st (g_assign rfl) rfl ?_
  refine done ?_
  refine th_n ?_
  refine ret ?_
  refine th_r ?_
  exact ret1 rfl rfl rfl (fun w2 hw2 => ⟨r, hro, rfl, Sat.left (hw2.split (.cons .here (.cons .here (.cons .here (.cons .here (.cons .here .nil))))))⟩)

theorem f105_more (b : Nat) (k : Dk) (hk : k.ok) (r : Rr) (hro : r.ok k) (h0 : k.steps ≠ 0) (h1 : k.steps - 1 > 0) (w : World) (hA : Sat w (fps (rkR b k r)) (rkR b k r) w) : Calls Tryd.prog 105 [.pointer (some ⟨b, 0, none⟩)].toArray w (fun en w2 => ∃ r2 : Rr, r2.ok k.step.2 ∧ en = .returned (.bool k.step.1) ∧ Sat w (fps (rkR b k r)) (rkR b k.step.2 r2) w2) := by
  have hsp := hk.sp
  rw [step_more h0 h1]
  refine enter (n := 26) Tryd.func105 rfl rfl rfl hA ?_
  refine seq ?_
  refine region ?_
  refine st (g_assign rfl) rfl ?_
  refine done ?_
  refine th_n ?_
  refine seq ?_
  refine seq ?_
  refine region ?_
  refine st (g_move rfl) rfl ?_
  refine st (g_nilCheck rfl) rfl ?_
  refine st (g_fieldAddr fo_71_4 rfl rfl) rfl ?_
  refine st (g_load (v := I64 k.steps) sc_3 rfl (Cell.own .here rfl)) rfl ?_
  refine st (g_F rfl rfl rfl (by omega)) rfl ?_
  refine done ?_
  refine th_n ?_
  refine condF rfl ?_
  refine skip ?_
  refine th_n ?_
  refine seq ?_
  refine region ?_
  refine st (g_move rfl) rfl ?_
  refine st (g_nilCheck rfl) rfl ?_
  refine st (g_fieldAddr fo_71_4 rfl rfl) rfl ?_
  refine st (g_load (v := I64 k.steps) sc_3 rfl (Cell.own .here rfl)) rfl ?_
  refine st (g_isub (c := ((k.steps - 1 : Nat) : Int)) rfl rfl (by omega) (by omega) (by omega)) rfl ?_
  refine st (g_nilCheck rfl) rfl ?_
  refine st (g_fieldAddr fo_71_4 rfl rfl) rfl ?_
  refine sq rfl (o_store (cs' := rkCells { k with steps := k.steps - 1 } r) sz_3 rfl rfl rfl .here (Nat.le_of_ble_eq_true rfl) rfl ?_)
  refine done ?_
  refine th_n ?_
  refine seq ?_
  refine seq ?_
  refine region ?_
  refine st (g_move rfl) rfl ?_
  refine st (g_nilCheck rfl) rfl ?_
  refine st (g_fieldAddr fo_71_4 rfl rfl) rfl ?_
  refine st (g_load (v := I64 (k.steps - 1 : Nat)) sc_3 rfl (Cell.own .here rfl)) rfl ?_
  refine st (g_T rfl rfl rfl (by omega)) rfl ?_
  refine done ?_
  refine th_n ?_
  refine condT rfl ?_
  refine seq ?_
  refine region ?_
  refine st (g_assign rfl) rfl ?_
  refine done ?_
  refine th_n ?_
  refine ret ?_
  refine th_r ?_
  exact ret1 rfl rfl rfl (fun w2 hw2 => ⟨r, ⟨hro.s, hro.w, hro.sn, hro.sm, hro.wm, hro.pl, hro.c0, hro.c1⟩, rfl, Sat.left (hw2.split (.cons .here (.cons .here (.cons .here (.cons .here (.cons .here .nil))))))⟩)

theorem f105_one (b : Nat) (k : Dk) (hk : k.ok) (r : Rr) (hro : r.ok k) (h0 : k.steps ≠ 0) (h1 : ¬ k.steps - 1 > 0) (w : World) (hA : Sat w (fps (rkR b k r)) (rkR b k r) w) : Calls Tryd.prog 105 [.pointer (some ⟨b, 0, none⟩)].toArray w (fun en w2 => ∃ r2 : Rr, r2.ok k.step.2 ∧ en = .returned (.bool k.step.1) ∧ Sat w (fps (rkR b k r)) (rkR b k.step.2 r2) w2) := by
  have hsp := hk.sp
  rw [step_one h0 h1]
  have hz : k.steps - 1 = 0 := by omega
  refine enter (n := 26) Tryd.func105 rfl rfl rfl hA ?_
  refine seq ?_
  refine region ?_
  refine st (g_assign rfl) rfl ?_
  refine done ?_
  refine th_n ?_
  refine seq ?_
  refine seq ?_
  refine region ?_
  refine st (g_move rfl) rfl ?_
  refine st (g_nilCheck rfl) rfl ?_
  refine st (g_fieldAddr fo_71_4 rfl rfl) rfl ?_
  refine st (g_load (v := I64 k.steps) sc_3 rfl (Cell.own .here rfl)) rfl ?_
  refine st (g_F rfl rfl rfl (by omega)) rfl ?_
  refine done ?_
  refine th_n ?_
  refine condF rfl ?_
  refine skip ?_
  refine th_n ?_
  refine seq ?_
  refine region ?_
  refine st (g_move rfl) rfl ?_
  refine st (g_nilCheck rfl) rfl ?_
  refine st (g_fieldAddr fo_71_4 rfl rfl) rfl ?_
  refine st (g_load (v := I64 k.steps) sc_3 rfl (Cell.own .here rfl)) rfl ?_
  refine st (g_isub (c := ((k.steps - 1 : Nat) : Int)) rfl rfl (by omega) (by omega) (by omega)) rfl ?_
  refine st (g_nilCheck rfl) rfl ?_
  refine st (g_fieldAddr fo_71_4 rfl rfl) rfl ?_
  refine sq rfl (o_store (cs' := rkCells { k with steps := k.steps - 1 } r) sz_3 rfl rfl rfl .here (Nat.le_of_ble_eq_true rfl) rfl ?_)
  refine done ?_
  refine th_n ?_
  refine seq ?_
  refine seq ?_
  refine region ?_
  refine st (g_move rfl) rfl ?_
  refine st (g_nilCheck rfl) rfl ?_
  refine st (g_fieldAddr fo_71_4 rfl rfl) rfl ?_
  refine st (g_load (v := I64 (k.steps - 1 : Nat)) sc_3 rfl (Cell.own .here rfl)) rfl ?_
  refine st (g_F rfl rfl rfl (by omega)) rfl ?_
  refine done ?_
  refine th_n ?_
  refine condF rfl ?_
  refine skip ?_
  refine th_n ?_
  refine seq ?_
  refine region ?_
  rw [hz]
  refine st (g_move rfl) rfl ?_
  refine st (g_move rfl) rfl ?_
  refine st (g_nilCheck rfl) rfl ?_
  refine st (g_fieldAddr fo_71_5 rfl rfl) rfl ?_
  refine st (g_load (v := slv k.choice.length r.cq) sc_23 rfl (Cell.own .here rfl)) rfl ?_
  refine sq rfl (o_call Tryd.func77 rfl rfl rfl (.cons .here (.cons .here (.cons .here (.cons (.there (.here)) .nil)))) (fun w hw hA => f77_spec b { k with steps := 0 } (Dk.ok_steps hk 0 (by decide)) r ⟨hro.s, hro.w, hro.sn, hro.sm, hro.wm, hro.pl, hro.c0, hro.c1⟩ _ _ _ k.choice rfl w hA (RdS.ofVec hw (.cons .here (.cons .here (.cons .here (.cons (.there (.here)) .nil)))) .here)) rfl (fun r2 hr2 => ?_))
  refine done ?_
  refine th_n ?_
  refine seq ?_
  refine region ?_
  refine st (g_assign rfl) rfl ?_
  refine done ?_
  refine th_n ?_
  refine ret ?_
  exact ret1 rfl rfl rfl (fun w2 hw2 => ⟨r2, hr2, rfl, Sat.left (hw2.split (.cons .here (.cons .here (.cons .here (.cons .here (.cons .here .nil))))))⟩)

theorem f105_spec (b : Nat) (k : Dk) (hk : k.ok) (r : Rr) (hro : r.ok k) (w : World) (hA : Sat w (fps (rkR b k r)) (rkR b k r) w) : Calls Tryd.prog 105 [.pointer (some ⟨b, 0, none⟩)].toArray w (fun en w2 => ∃ r2 : Rr, r2.ok k.step.2 ∧ en = .returned (.bool k.step.1) ∧ Sat w (fps (rkR b k r)) (rkR b k.step.2 r2) w2) := by
  by_cases h0 : k.steps = 0
  · exact f105_zero b k hk r hro h0 w hA
  · by_cases h1 : k.steps - 1 > 0
    · exact f105_more b k hk r hro h0 h1 w hA
    · exact f105_one b k hk r hro h0 h1 w hA

theorem f34_down (b : Nat) (k : Dk) (hk : k.ok) (r : Rr) (hro : r.ok k) (p : Option Addr) (cl cc : Nat) (choice : List UInt8) (hcl : choice.length = cl) (hd : k.down = true) (w : World) (hA : Sat w (fps (rkR b k r)) (rkR b k r) w) (hr : RdS w (fps (rkR b k r)) p (choice.map B8)) : Calls Tryd.prog 34 [.pointer (some ⟨b, 0, none⟩), .slice p cl cc].toArray w (fun en w2 => ∃ r2 : Rr, r2.ok (k.crash choice).2 ∧ en = .returned (I64 (k.crash choice).1) ∧ Sat w (fps (rkR b k r)) (rkR b (k.crash choice).2 r2) w2) := by
  have hcr : k.crash choice = (171, k) := by unfold Dk.crash; rw [if_pos hd]
  rw [hcr]
  refine used hk (used hro (used hcl (used hd (used hA (used hr (?_))))))
  refine enter (n := 12) Tryd.func34 rfl rfl rfl hA ?_
  refine seq ?_
  refine region ?_
  refine st (g_assign rfl) rfl ?_
  refine done ?_
  refine th_n ?_
  refine seq ?_
  refine seq ?_
  refine region ?_
  refine st (g_move rfl) rfl ?_
  refine st (g_nilCheck rfl) rfl ?_
  refine st (g_fieldAddr fo_71_3 rfl rfl) rfl ?_
  refine st (g_load (v := .bool true) sc_4 rfl (Cell.own .here (by rw [← hd]; rfl))) rfl ?_
  refine done ?_
  refine th_n ?_
  refine condT rfl ?_
  refine seq ?_
  refine region ?_
  refine st (g_assign rfl) rfl ?_
  refine done ?_
  refine th_n ?_
  refine ret ?_
  refine th_r ?_
  exact ret1 rfl rfl rfl (fun w2 hw2 => ⟨r, hro, rfl, Sat.left (hw2.split (.cons .here (.cons .here (.cons .here (.cons .here (.cons .here .nil))))))⟩)

theorem f34_up (b : Nat) (k : Dk) (hk : k.ok) (r : Rr) (hro : r.ok k) (p : Option Addr) (cl cc : Nat) (choice : List UInt8) (hcl : choice.length = cl) (hd : k.down = false) (w : World) (hA : Sat w (fps (rkR b k r)) (rkR b k r) w) (hr : RdS w (fps (rkR b k r)) p (choice.map B8)) : Calls Tryd.prog 34 [.pointer (some ⟨b, 0, none⟩), .slice p cl cc].toArray w (fun en w2 => ∃ r2 : Rr, r2.ok (k.crash choice).2 ∧ en = .returned (I64 (k.crash choice).1) ∧ Sat w (fps (rkR b k r)) (rkR b (k.crash choice).2 r2) w2) := by
  have hcr : k.crash choice = (0, k.fall choice) := by unfold Dk.crash; rw [if_neg (by rw [hd]; decide)]
  rw [hcr]
  refine used hk (used hro (used hcl (used hd (used hA (used hr (?_))))))
  refine enter (n := 12) Tryd.func34 rfl rfl rfl hA ?_
  refine seq ?_
  refine region ?_
  refine st (g_assign rfl) rfl ?_
  refine done ?_
  refine th_n ?_
  refine seq ?_
  refine seq ?_
  refine region ?_
  refine st (g_move rfl) rfl ?_
  refine st (g_nilCheck rfl) rfl ?_
  refine st (g_fieldAddr fo_71_3 rfl rfl) rfl ?_
  refine st (g_load (v := .bool false) sc_4 rfl (Cell.own .here (by rw [← hd]; rfl))) rfl ?_
  refine done ?_
  refine th_n ?_
  refine condF rfl ?_
  refine skip ?_
  refine th_n ?_
  refine seq ?_
  refine region ?_
  refine st (g_move rfl) rfl ?_
  refine st (g_move rfl) rfl ?_
  refine sq rfl (o_call Tryd.func77 rfl rfl rfl (.cons .here (.cons .here (.cons .here (.cons (.there (.here)) .nil)))) (fun w hw hA => f77_spec b k hk r hro p cl cc choice hcl w hA (RdS.ofOld hr hw (.cons .here (.cons .here (.cons .here (.cons (.there (.here)) .nil)))))) rfl (fun r2 hr2 => ?_))
  refine done ?_
  refine th_n ?_
  refine seq ?_
  refine region ?_
  refine st (g_assign rfl) rfl ?_
  refine done ?_
  refine th_n ?_
  refine ret ?_
  exact ret1 rfl rfl rfl (fun w2 hw2 => ⟨r2, hr2, rfl, Sat.left (hw2.split (.cons .here (.cons .here (.cons .here (.cons .here (.cons .here .nil))))))⟩)

theorem f34_spec (b : Nat) (k : Dk) (hk : k.ok) (r : Rr) (hro : r.ok k) (p : Option Addr) (cl cc : Nat) (choice : List UInt8) (hcl : choice.length = cl) (w : World) (hA : Sat w (fps (rkR b k r)) (rkR b k r) w) (hr : RdS w (fps (rkR b k r)) p (choice.map B8)) : Calls Tryd.prog 34 [.pointer (some ⟨b, 0, none⟩), .slice p cl cc].toArray w (fun en w2 => ∃ r2 : Rr, r2.ok (k.crash choice).2 ∧ en = .returned (I64 (k.crash choice).1) ∧ Sat w (fps (rkR b k r)) (rkR b (k.crash choice).2 r2) w2) := by
  cases hd : k.down
  · exact f34_up b k hk r hro p cl cc choice hcl hd w hA hr
  · exact f34_down b k hk r hro p cl cc choice hcl hd w hA hr

theorem f36_bad (b : Nat) (k : Dk) (hk : k.ok) (r : Rr) (hro : r.ok k) (n : Int) (hn : n < 9223372036854775808) (p : Option Addr) (cl cc : Nat) (choice : List UInt8) (hcl : choice.length = cl) (hpn : p = none → cc = 0) (hcc : cl ≤ cc) (hm : cl ≤ 1000000000) (h1 : n < 1) (w : World) (hA : Sat w (fps (rkR b k r)) (rkR b k r) w) (hr : RdS w (fps (rkR b k r)) p (choice.map B8)) : Calls Tryd.prog 36 [.pointer (some ⟨b, 0, none⟩), I64 n, .slice p cl cc].toArray w (fun en w2 => ∃ r2 : Rr, r2.ok (k.armed n choice).2 ∧ en = .returned (I64 (k.armed n choice).1) ∧ Sat w (fps (rkR b k r)) (rkR b (k.armed n choice).2 r2) w2) := by
  have har : k.armed n choice = (2, k) := by unfold Dk.armed; rw [if_pos h1]
  rw [har]
  refine used hk (used hro (used hn (used hcl (used hpn (used hcc (used hm (used h1 (used hA (used hr (?_))))))))))
  refine enter (n := 18) Tryd.func36 rfl rfl rfl hA ?_
  refine seq ?_
  refine region ?_
  refine st (g_assign rfl) rfl ?_
  refine done ?_
  refine th_n ?_
  refine seq ?_
  refine seq ?_
  refine region ?_
  refine st (g_move rfl) rfl ?_
  refine st (g_T rfl rfl rfl (h1)) rfl ?_
  refine done ?_
  refine th_n ?_
  refine condT rfl ?_
  refine seq ?_
  refine region ?_
  refine st (g_assign rfl) rfl ?_
  refine done ?_
  refine th_n ?_
  refine ret ?_
  refine th_r ?_
  exact ret1 rfl rfl rfl (fun w2 hw2 => ⟨r, hro, rfl, Sat.left (hw2.split (.cons .here (.cons .here (.cons .here (.cons .here (.cons .here .nil))))))⟩)

theorem f36_good (b : Nat) (k : Dk) (_hk : k.ok) (r : Rr) (hro : r.ok k) (n : Int) (hn : n < 9223372036854775808) (p : Option Addr) (cl cc : Nat) (choice : List UInt8) (hcl : choice.length = cl) (hpn : p = none → cc = 0) (hcc : cl ≤ cc) (hm : cl ≤ 1000000000) (h1 : ¬ n < 1) (w : World) (hA : Sat w (fps (rkR b k r)) (rkR b k r) w) (hr : RdS w (fps (rkR b k r)) p (choice.map B8)) : Calls Tryd.prog 36 [.pointer (some ⟨b, 0, none⟩), I64 n, .slice p cl cc].toArray w (fun en w2 => ∃ r2 : Rr, r2.ok (k.armed n choice).2 ∧ en = .returned (I64 (k.armed n choice).1) ∧ Sat w (fps (rkR b k r)) (rkR b (k.armed n choice).2 r2) w2) := by
  subst hcl
  have har : k.armed n choice = (0, { k with steps := n.toNat, choice := choice }) := by unfold Dk.armed; rw [if_neg h1]
  rw [har]
  have hnn : (n.toNat : Int) = n := by omega
  refine enter (n := 18) Tryd.func36 rfl rfl rfl hA ?_
  refine seq ?_
  refine region ?_
  refine st (g_assign rfl) rfl ?_
  refine done ?_
  refine th_n ?_
  refine seq ?_
  refine seq ?_
  refine region ?_
  refine st (g_move rfl) rfl ?_
  refine st (g_F rfl rfl rfl (h1)) rfl ?_
  refine done ?_
  refine th_n ?_
  refine condF rfl ?_
  refine skip ?_
  refine th_n ?_
  refine seq ?_
  refine region ?_
  refine st (g_move rfl) rfl ?_
  refine st (g_move rfl) rfl ?_
  refine st (g_nilCheck rfl) rfl ?_
  refine st (g_fieldAddr fo_71_4 rfl rfl) rfl ?_
  refine sq rfl (o_store (cs' := [.slice (some ⟨r.sb, 0, none⟩) r.st.length r.sc, slv r.ws.length r.wq, I64 k.room, .bool k.down, I64 n, slv k.choice.length r.cq]) sz_3 rfl rfl rfl .here (Nat.le_of_ble_eq_true rfl) rfl ?_)
  refine done ?_
  refine th_n ?_
  refine seq ?_
  refine region ?_
  refine st (g_move rfl) rfl ?_
  refine st (g_move rfl) rfl ?_
  refine sq rfl (o_call Tryd.func44 rfl rfl rfl .nil (fun w hw hA => f44_spec p choice.length cc choice rfl hpn hm w (RdS.ofOld (A := []) hr hw .nil).c) rfl (fun y hy => ?_))
  refine st (g_nilCheck rfl) rfl ?_
  refine st (g_fieldAddr fo_71_5 rfl rfl) rfl ?_
  refine sq rfl (o_store (cs' := rkCells { k with steps := n.toNat, choice := choice } { r with cq := y }) sz_23 rfl rfl rfl (.there (.here)) (Nat.le_of_ble_eq_true rfl) (by show _ = [_, _, _, _, I64 ((n.toNat : Nat) : Int), _]; rw [hnn]; rfl) ?_)
  refine done ?_
  refine th_n ?_
  refine seq ?_
  refine region ?_
  refine st (g_assign rfl) rfl ?_
  refine done ?_
  refine th_n ?_
  refine ret ?_
  exact ret1 rfl rfl rfl (fun w2 hw2 => ⟨{ r with cq := y }, ⟨hro.s, hro.w, hro.sn, hro.sm, hro.wm, hro.pl, hy.1, hy.2⟩, rfl, Sat.left (hw2.split (.cons .here (.cons (.there (.here)) (.cons (.there (.here)) (.cons .here (.cons (.there (.here)) .nil))))))⟩)

theorem f36_spec (b : Nat) (k : Dk) (hk : k.ok) (r : Rr) (hro : r.ok k) (n : Int) (hn : n < 9223372036854775808) (p : Option Addr) (cl cc : Nat) (choice : List UInt8) (hcl : choice.length = cl) (hpn : p = none → cc = 0) (hcc : cl ≤ cc) (hm : cl ≤ 1000000000) (w : World) (hA : Sat w (fps (rkR b k r)) (rkR b k r) w) (hr : RdS w (fps (rkR b k r)) p (choice.map B8)) : Calls Tryd.prog 36 [.pointer (some ⟨b, 0, none⟩), I64 n, .slice p cl cc].toArray w (fun en w2 => ∃ r2 : Rr, r2.ok (k.armed n choice).2 ∧ en = .returned (I64 (k.armed n choice).1) ∧ Sat w (fps (rkR b k r)) (rkR b (k.armed n choice).2 r2) w2) := by
  by_cases h1 : n < 1
  · exact f36_bad b k hk r hro n hn p cl cc choice hcl hpn hcc hm h1 w hA hr
  · exact f36_good b k hk r hro n hn p cl cc choice hcl hpn hcc hm h1 w hA hr
end Go.Proofs.YtokhediaibdkjaaDoor

/-! From N8 -/
/- Ref17's Write. (printed by gen1.py) -/
namespace Go.Proofs.YtokhediaibdkjaaDoor
open Go.Pm Go.RowKit
set_option maxRecDepth 100000
theorem bu_178 (n : Int) (v : Value) (h : v.oneCell' = true) : Tryd.prog.built 178 [(0, I64 n), (1, v)] = some [I64 n, v].toArray := by
  have h1 : Tryd.prog.built 178 [(0, I64 n), (1, v)] = Instr.fill (fun i => ([(0, 1), (1, 1)] : List (Nat × Nat)).toArray[i]?) #[.int .i64 0, .slice none 0 0] [(0, I64 n), (1, v)] := by kernel_rfl
  rw [h1, fill_cons1 (off := 0) rfl rfl (by simp), fill_cons1 (off := 1) rfl h (by simp)]; rfl
theorem Cell.rdV {cx : Cx} {Rs : List Res} {p : Option Addr} {b j m : Nat} {vs : List Value} {u : Value} (h : RdA cx Rs p vs) (hp : p = some ⟨b, 0, none⟩) (hj : vs[j]? = some u) (hm : j = m) : Cell cx Rs ⟨b, m, none⟩ u := fun w hw => by
  subst hm hp
  have := (h w hw).cell hj
  rwa [Nat.zero_add] at this
theorem vec_addr {w : World} {T s n : Nat} {y : Option Addr × Nat} {xs : List Value} (h : w.ownsRow 0 T s (slv n y) n xs) (hn : 0 < n) : ∃ g, y.1 = some ⟨g, 0, none⟩ := by
  rcases h.2 with ⟨he, h0⟩ | ⟨g, cap, cur, he, _⟩
  · omega
  · simp only [slv, Value.slice.injEq] at he; exact ⟨g, he.1⟩


theorem f79_down (b : Nat) (k : Dk) (hk : k.ok) (r : Rr) (hro : r.ok k) (a : Int) (p : Option Addr) (n c : Nat) (bs : List UInt8) (hl : bs.length = n) (hpn : p = none → c = 0) (hd : k.down = true) (w : World) (hA : Sat w (fps (rkR b k r)) (rkR b k r) w) (hr : RdS w (fps (rkR b k r)) p (bs.map B8)) : Calls Tryd.prog 79 [.pointer (some ⟨b, 0, none⟩), I64 a, .slice p n c].toArray w (fun en w2 => ∃ r2 : Rr, r2.ok (k.write a bs).2 ∧ en = .returned (I64 (k.write a bs).1) ∧ Sat w (fps (rkR b k r)) (rkR b (k.write a bs).2 r2) w2) := by
  have hnn := hro.n
  have hn64 := hk.n64
  have he : k.write a bs = (171, k) := by unfold Dk.write; rw [if_pos hd]
  rw [he]
  refine used hk (used hro (used hl (used hpn (used hd (used hA (used hr (?_)))))))
  refine enter (n := 60) Tryd.func79 rfl rfl rfl hA ?_
  refine seq ?_
  refine region ?_
  refine st (g_assign rfl) rfl ?_
  refine done ?_
  refine th_n ?_
  refine seq ?_
  refine seq ?_
  refine region ?_
  refine st (g_move rfl) rfl ?_
  refine st (g_nilCheck rfl) rfl ?_
  refine st (g_fieldAddr fo_71_3 rfl rfl) rfl ?_
  refine st (g_load (v := .bool true) sc_4 rfl (Cell.own .here (by rw [← hd]; rfl))) rfl ?_
  refine done ?_
  refine th_n ?_
  refine condT rfl ?_
  refine seq ?_
  refine region ?_
  refine st (g_assign rfl) rfl ?_
  refine done ?_
  refine th_n ?_
  refine ret ?_
  refine th_r ?_
  exact ret1 rfl rfl rfl (fun w2 hw2 => ⟨r, hro, rfl, Sat.left (hw2.split (.cons .here (.cons .here (.cons .here (.cons .here (.cons .here .nil))))))⟩)

theorem f79_bad (b : Nat) (k : Dk) (hk : k.ok) (r : Rr) (hro : r.ok k) (a : Int) (p : Option Addr) (n c : Nat) (bs : List UInt8) (hl : bs.length = n) (hpn : p = none → c = 0) (hd : k.down = false) (hb : a < 0 ∨ a ≥ k.stays.length ∨ bs.length ≠ 64) (w : World) (hA : Sat w (fps (rkR b k r)) (rkR b k r) w) (hr : RdS w (fps (rkR b k r)) p (bs.map B8)) : Calls Tryd.prog 79 [.pointer (some ⟨b, 0, none⟩), I64 a, .slice p n c].toArray w (fun en w2 => ∃ r2 : Rr, r2.ok (k.write a bs).2 ∧ en = .returned (I64 (k.write a bs).1) ∧ Sat w (fps (rkR b k r)) (rkR b (k.write a bs).2 r2) w2) := by
  have hnn := hro.n
  have hn64 := hk.n64
  have he : k.write a bs = (170, k) := by unfold Dk.write; rw [if_neg (by rw [hd]; decide), if_pos hb]
  rw [he]
  refine used hk (used hro (used hl (used hpn (used hd (used hb (used hA (used hr (?_))))))))
  refine enter (n := 60) Tryd.func79 rfl rfl rfl hA ?_
  refine seq ?_
  refine region ?_
  refine st (g_assign rfl) rfl ?_
  refine done ?_
  refine th_n ?_
  refine seq ?_
  refine seq ?_
  refine region ?_
  refine st (g_move rfl) rfl ?_
  refine st (g_nilCheck rfl) rfl ?_
  refine st (g_fieldAddr fo_71_3 rfl rfl) rfl ?_
  refine st (g_load (v := .bool false) sc_4 rfl (Cell.own .here (by rw [← hd]; rfl))) rfl ?_
  refine done ?_
  refine th_n ?_
  refine condF rfl ?_
  refine skip ?_
  refine th_n ?_
  refine seq ?_
  refine seq ?_
  refine region ?_
  refine st (g_move rfl) rfl ?_
  refine sp (g_bin rfl rfl rfl) rfl (fun h14 => ?_) (fun h14 => ?_)
  · refine st (g_move rfl) rfl ?_
    refine gf rfl rfl ?_
    refine gf rfl rfl ?_
    refine gf rfl rfl ?_
    refine gf rfl rfl ?_
    refine gf rfl rfl ?_
    refine gf rfl rfl ?_
    refine gf rfl rfl ?_
    refine st (g_pickT rfl rfl) rfl ?_
    refine st (g_move rfl) rfl ?_
    refine gf rfl rfl ?_
    refine gf rfl rfl ?_
    refine gf rfl rfl ?_
    refine st (g_pickT rfl rfl) rfl ?_
    refine done ?_
    refine th_n ?_
    refine condT rfl ?_
    refine seq ?_
    refine region ?_
    refine st (g_assign rfl) rfl ?_
    refine done ?_
    refine th_n ?_
    refine ret ?_
    refine th_r ?_
    exact ret1 rfl rfl rfl (fun w2 hw2 => ⟨r, hro, rfl, Sat.left (hw2.split (.cons .here (.cons .here (.cons .here (.cons .here (.cons .here .nil))))))⟩)
  · refine st (g_move rfl) rfl ?_
    refine gt rfl ?_
    refine st (g_move rfl) rfl ?_
    refine gt rfl ?_
    refine st (g_move rfl) rfl ?_
    refine gt rfl ?_
    refine st (g_nilCheck rfl) rfl ?_
    refine gt rfl ?_
    refine st (g_fieldAddr fo_71_0 rfl rfl) rfl ?_
    refine gt rfl ?_
    refine st (g_load (v := .slice (some ⟨r.sb, 0, none⟩) r.st.length r.sc) sc_22 rfl (Cell.own .here rfl)) rfl ?_
    refine gt rfl ?_
    refine st (g_len el_22 rfl) rfl ?_
    refine gt rfl ?_
    refine sp (g_bin rfl rfl rfl) rfl (fun h22 => ?_) (fun h22 => ?_)
    · refine st (g_pickF rfl rfl) rfl ?_
      refine st (g_move rfl) rfl ?_
      refine gf rfl rfl ?_
      refine gf rfl rfl ?_
      refine gf rfl rfl ?_
      refine st (g_pickT rfl rfl) rfl ?_
      refine done ?_
      refine th_n ?_
      refine condT rfl ?_
      refine seq ?_
      refine region ?_
      refine st (g_assign rfl) rfl ?_
      refine done ?_
      refine th_n ?_
      refine ret ?_
      refine th_r ?_
      exact ret1 rfl rfl rfl (fun w2 hw2 => ⟨r, hro, rfl, Sat.left (hw2.split (.cons .here (.cons .here (.cons .here (.cons .here (.cons .here .nil))))))⟩)
    · refine st (g_pickF rfl rfl) rfl ?_
      refine st (g_move rfl) rfl ?_
      refine gt rfl ?_
      refine st (g_move rfl) rfl ?_
      refine gt rfl ?_
      refine st (g_len el_23 rfl) rfl ?_
      refine gt rfl ?_
      refine st (g_T rfl rfl rfl (by omega)) rfl ?_
      refine st (g_pickF rfl rfl) rfl ?_
      refine done ?_
      refine th_n ?_
      refine condT rfl ?_
      refine seq ?_
      refine region ?_
      refine st (g_assign rfl) rfl ?_
      refine done ?_
      refine th_n ?_
      refine ret ?_
      refine th_r ?_
      exact ret1 rfl rfl rfl (fun w2 hw2 => ⟨r, hro, rfl, Sat.left (hw2.split (.cons .here (.cons .here (.cons .here (.cons .here (.cons .here .nil))))))⟩)

theorem f79_room (b : Nat) (k : Dk) (hk : k.ok) (r : Rr) (hro : r.ok k) (a : Int) (p : Option Addr) (n c : Nat) (bs : List UInt8) (hl : bs.length = n) (hpn : p = none → c = 0) (hd : k.down = false) (ha0 : 0 ≤ a) (ha : a < k.stays.length) (h64 : bs.length = 64) (h0 : k.room > 0) (w : World) (hA : Sat w (fps (rkR b k r)) (rkR b k r) w) (hr : RdS w (fps (rkR b k r)) p (bs.map B8)) : Calls Tryd.prog 79 [.pointer (some ⟨b, 0, none⟩), I64 a, .slice p n c].toArray w (fun en w2 => ∃ r2 : Rr, r2.ok (k.write a bs).2 ∧ en = .returned (I64 (k.write a bs).1) ∧ Sat w (fps (rkR b k r)) (rkR b (k.write a bs).2 r2) w2) := by
  have hnn := hro.n
  have hn64 := hk.n64
  obtain ⟨a, rfl⟩ := Int.eq_ofNat_of_zero_le ha0
  obtain rfl : n = 64 := by omega
  have hrm := hk.rm
  have hmm := hro.m
  have heT : (k.put a bs).step.1 = true → k.write a bs = (171, (k.put a bs).step.2) := fun h => by unfold Dk.write; rw [if_neg (by rw [hd]; decide), if_neg (by omega), if_pos h0]; show (if (k.put a bs).step.1 then _ else _, _) = _; rw [if_pos h]; rfl
  have heF : (k.put a bs).step.1 = false → k.write a bs = (0, (k.put a bs).step.2) := fun h => by unfold Dk.write; rw [if_neg (by rw [hd]; decide), if_neg (by omega), if_pos h0]; show (if (k.put a bs).step.1 then _ else _, _) = _; rw [if_neg (by rw [h]; decide)]; rfl
  refine used hk (used hro (used hl (used hpn (used hd (used ha0 (used ha (used h64 (used h0 (used hA (used hr (?_)))))))))))
  refine enter (n := 60) Tryd.func79 rfl rfl rfl hA ?_
  refine seq ?_
  refine region ?_
  refine st (g_assign rfl) rfl ?_
  refine done ?_
  refine th_n ?_
  refine seq ?_
  refine seq ?_
  refine region ?_
  refine st (g_move rfl) rfl ?_
  refine st (g_nilCheck rfl) rfl ?_
  refine st (g_fieldAddr fo_71_3 rfl rfl) rfl ?_
  refine st (g_load (v := .bool false) sc_4 rfl (Cell.own .here (by rw [← hd]; rfl))) rfl ?_
  refine done ?_
  refine th_n ?_
  refine condF rfl ?_
  refine skip ?_
  refine th_n ?_
  refine seq ?_
  refine seq ?_
  refine region ?_
  refine st (g_move rfl) rfl ?_
  refine st (g_F rfl rfl rfl (by omega)) rfl ?_
  refine st (g_move rfl) rfl ?_
  refine gt rfl ?_
  refine st (g_move rfl) rfl ?_
  refine gt rfl ?_
  refine st (g_move rfl) rfl ?_
  refine gt rfl ?_
  refine st (g_nilCheck rfl) rfl ?_
  refine gt rfl ?_
  refine st (g_fieldAddr fo_71_0 rfl rfl) rfl ?_
  refine gt rfl ?_
  refine st (g_load (v := .slice (some ⟨r.sb, 0, none⟩) r.st.length r.sc) sc_22 rfl (Cell.own .here rfl)) rfl ?_
  refine gt rfl ?_
  refine st (g_len el_22 rfl) rfl ?_
  refine gt rfl ?_
  refine st (g_F rfl rfl rfl (by omega)) rfl ?_
  refine st (g_pickF rfl rfl) rfl ?_
  refine st (g_move rfl) rfl ?_
  refine gt rfl ?_
  refine st (g_move rfl) rfl ?_
  refine gt rfl ?_
  refine st (g_len el_23 rfl) rfl ?_
  refine gt rfl ?_
  refine st (g_F rfl rfl rfl (by omega)) rfl ?_
  refine st (g_pickF rfl rfl) rfl ?_
  refine done ?_
  refine th_n ?_
  refine condF rfl ?_
  refine skip ?_
  refine th_n ?_
  refine seq ?_
  refine region ?_
  refine st (g_move rfl) rfl ?_
  refine st (g_nilCheck rfl) rfl ?_
  refine st (g_fieldAddr fo_71_2 rfl rfl) rfl ?_
  refine st (g_load (v := I64 k.room) sc_3 rfl (Cell.own .here rfl)) rfl ?_
  refine st (g_F rfl rfl rfl (by omega)) rfl ?_
  refine st (g_assign rfl) rfl ?_
  refine done ?_
  refine th_n ?_
  refine seq ?_
  refine seq ?_
  refine region ?_
  refine st (g_move rfl) rfl ?_
  refine st (g_not rfl) rfl ?_
  refine done ?_
  refine th_n ?_
  refine condT rfl ?_
  refine seq ?_
  refine regionL ⟨[], [_], [13]⟩ mixed (by decide +kernel) .nil (.cons .here .nil) ?_
  refine An'.q 0 [13] rfl (by decide +kernel) rfl rfl (g_move rfl) rfl ?_
  refine An'.q 1 [13] rfl (by decide +kernel) rfl rfl (g_move rfl) rfl ?_
  refine An'.q 2 [13] rfl (by decide +kernel) rfl rfl (g_nilCheck rfl) rfl ?_
  refine An'.q 3 [13] rfl (by decide +kernel) rfl rfl (g_fieldAddr fo_71_1 rfl rfl) rfl ?_
  refine An'.z 4 [13] rfl (by decide +kernel) rfl rfl (g_load (v := slv r.ws.length r.wq) sc_69 rfl (Cell.own .here rfl)) rfl ?_
  refine An'.q 5 [13] rfl (by decide +kernel) rfl rfl (g_move rfl) rfl ?_
  refine An'.q 6 [13] rfl (by decide +kernel) rfl rfl (g_move rfl) rfl ?_
  refine An'.oneG 7 (by decide +kernel) rfl rfl ?_
  refine o_call Tryd.func44 rfl rfl rfl .nil (fun w hw hA => f44_spec p 64 c bs h64 hpn (by decide) w (RdS.ofOld (A := []) hr hw .nil).c) rfl (fun y hy => ?_)
  refine An'.on0 .nil (.cons (.there (.here)) .nil) rfl ?_
  refine An'.q 8 [13] rfl (by decide +kernel) rfl rfl (g_build rfl (bu_178 _ _ rfl)) rfl ?_
  refine An'.oneG 9 (by decide +kernel) rfl rfl ?_
  refine o_buildSliceA (s := 2) (vs := [I64 a, slv 64 y]) un_69 zr_178 sz_178 (by decide) (by decide) rfl rfl rfl (fun b45 => ?_)
  refine An'.on0 .nil (.cons (.there (.there (.here))) .nil) rfl ?_
  refine An'.oneG 10 (by decide +kernel) rfl rfl ?_
  refine o_append (n := r.ws.length) (m := 1) (news := [I64 a, slv 64 y]) un_69 zr_178 sz_178 rfl bt_178 (by decide) rfl rfl (.there (.there (.there (.there (.here))))) rfl (RdA.own .here (by simp)) (by simp; exact ⟨rfl, rfl⟩) nofun (by simp only [maxLen]; omega) (by omega) rfl (fun q1 cap1 hq1 hc1 hq01 => ?_)
  refine An'.on0 .nil (.cons (.there (.there (.there (.here)))) .nil) rfl ?_
  refine An'.q 11 [13] rfl (by decide +kernel) rfl rfl (g_nilCheck rfl) rfl ?_
  refine An'.q 12 [13] rfl (by decide +kernel) rfl rfl (g_fieldAddr fo_71_1 rfl rfl) rfl ?_
  refine An'.oneG 13 (by decide +kernel) rfl rfl ?_
  refine o_store (cs' := [.slice (some ⟨r.sb, 0, none⟩) r.st.length r.sc, slv (r.ws.length + 1) (q1, cap1), I64 k.room, .bool k.down, I64 k.steps, slv k.choice.length r.cq]) sz_69 rfl rfl rfl (.there (.there (.there (.here)))) (Nat.le_of_ble_eq_true rfl) rfl ?_
  refine An'.onx [13] rfl (by decide +kernel) .nil ?_
  refine An'.fin (by decide +kernel) ?_
  refine th_n ?_
  have hlen : (r.ws ++ [(a, ((bs, y) : Pb))]).length = r.ws.length + 1 := by simp
  refine At.up2 (fun w hw => vec_isSome (hw.get (.there (.there (.there (.here))))) (by decide)) (fun hys => ?_)
  refine poolAdd (p := ((bs, y) : Pb)) (.there (.there (.there (.here)))) (.there (.there (.there (.there (.there (.here)))))) ?_
  rw [show rwC r.ws ++ [I64 a, slv 64 y] = rwC (r.ws ++ [(a, ((bs, y) : Pb))]) from rwC_app r.ws (a, ((bs, y) : Pb)), ← hlen]
  refine region ?_
  refine st (g_move rfl) rfl ?_
  refine st (g_nilCheck rfl) rfl ?_
  refine st (g_fieldAddr fo_71_2 rfl rfl) rfl ?_
  refine st (g_load (v := I64 k.room) sc_3 rfl (Cell.own (.there (.here)) rfl)) rfl ?_
  refine st (g_isub (c := ((k.room - 1 : Nat) : Int)) rfl rfl (by omega) (by omega) (by omega)) rfl ?_
  refine st (g_nilCheck rfl) rfl ?_
  refine st (g_fieldAddr fo_71_2 rfl rfl) rfl ?_
  refine sq rfl (o_store (cs' := rkCells (k.put a bs) ⟨r.sb, r.sc, r.sr, (q1, cap1), r.cq, r.st, r.ws ++ [(a, ((bs, y) : Pb))], ((bs, y) : Pb) :: r.ps⟩) sz_3 rfl rfl rfl (.there (.here)) (Nat.le_of_ble_eq_true rfl) (by show _ = [_, slv (r.ws ++ [(a, ((bs, y) : Pb))]).length _, _, _, _, _]; rw [hlen]; rfl) ?_)
  refine done ?_
  refine th_n ?_
  refine seq ?_
  refine region ?_
  refine st (g_move rfl) rfl ?_
  refine sq rfl (o_call Tryd.func105 rfl rfl rfl (.cons .here (.cons (.there (.there (.there (.here)))) (.cons (.there (.here)) (.cons (.there (.there (.here))) (.cons .here .nil))))) (fun w hw hA => f105_spec b (k.put a bs) (Dk.put_ok hk (by omega) h64 h0) ⟨r.sb, r.sc, r.sr, (q1, cap1), r.cq, r.st, r.ws ++ [(a, ((bs, y) : Pb))], ((bs, y) : Pb) :: r.ps⟩ ⟨hro.s, by show k.waits ++ [(a, bs)] = _; rw [hro.w, List.map_append]; rfl, hro.sn, fun q hq => List.mem_cons_of_mem _ (hro.sm q hq), fun q hq => by rcases List.mem_append.1 hq with hq | hq; exact List.mem_cons_of_mem _ (hro.wm q hq); rw [List.mem_singleton.1 hq]; exact List.mem_cons_self .., fun q hq => by rcases List.mem_cons.1 hq with rfl | hq; exact ⟨h64, hy.1, hy.2, hys⟩; exact hro.pl q hq, hro.c0, hro.c1⟩ w hA) rfl (fun r2 hr2 => ?_))
  refine st (g_assign rfl) rfl ?_
  refine done ?_
  refine th_n ?_
  refine seq ?_
  refine seq ?_
  refine region ?_
  refine st (g_move rfl) rfl ?_
  refine done ?_
  refine th_n ?_
  refine condS rfl (fun hst => ?_) (fun hst => ?_)
  · try simp only [decide_eq_true_eq] at hst
    refine seq ?_
    refine region ?_
    refine st (g_assign rfl) rfl ?_
    refine done ?_
    refine th_n ?_
    refine ret ?_
    refine th_r ?_
    exact ret1 rfl rfl rfl (fun w2 hw2 => ⟨r2, by rw [heT hst]; exact hr2, by rw [heT hst], by rw [heT hst]; exact Sat.left (hw2.split (.cons .here (.cons .here (.cons .here (.cons .here (.cons .here .nil))))))⟩)
  · try simp only [decide_eq_false_iff_not] at hst
    refine skip ?_
    refine th_n ?_
    refine seq ?_
    refine seq ?_
    refine region ?_
    refine st (g_move rfl) rfl ?_
    refine done ?_
    refine th_n ?_
    refine condF rfl ?_
    refine skip ?_
    refine th_n ?_
    refine seq ?_
    refine region ?_
    refine st (g_assign rfl) rfl ?_
    refine done ?_
    refine th_n ?_
    refine ret ?_
    exact ret1 rfl rfl rfl (fun w2 hw2 => ⟨r2, by rw [heF hst]; exact hr2, by rw [heF hst], by rw [heF hst]; exact Sat.left (hw2.split (.cons .here (.cons .here (.cons .here (.cons .here (.cons .here .nil))))))⟩)

theorem f79_full (b : Nat) (k : Dk) (hk : k.ok) (r : Rr) (hro : r.ok k) (a : Int) (p : Option Addr) (n c : Nat) (bs : List UInt8) (hl : bs.length = n) (hpn : p = none → c = 0) (hd : k.down = false) (ha0 : 0 ≤ a) (ha : a < k.stays.length) (h64 : bs.length = 64) (h0 : ¬ k.room > 0) (w : World) (hA : Sat w (fps (rkR b k r)) (rkR b k r) w) (hr : RdS w (fps (rkR b k r)) p (bs.map B8)) : Calls Tryd.prog 79 [.pointer (some ⟨b, 0, none⟩), I64 a, .slice p n c].toArray w (fun en w2 => ∃ r2 : Rr, r2.ok (k.write a bs).2 ∧ en = .returned (I64 (k.write a bs).1) ∧ Sat w (fps (rkR b k r)) (rkR b (k.write a bs).2 r2) w2) := by
  have hnn := hro.n
  have hn64 := hk.n64
  obtain ⟨a, rfl⟩ := Int.eq_ofNat_of_zero_le ha0
  obtain rfl : n = 64 := by omega
  have hrm := hk.rm
  have hmm := hro.m
  have heT : k.step.1 = true → k.write a bs = (171, k.step.2) := fun h => by unfold Dk.write; rw [if_neg (by rw [hd]; decide), if_neg (by omega), if_neg h0, if_pos h]
  have heF : k.step.1 = false → k.write a bs = (172, k.step.2) := fun h => by unfold Dk.write; rw [if_neg (by rw [hd]; decide), if_neg (by omega), if_neg h0, if_neg (by rw [h]; decide)]
  refine used hk (used hro (used hl (used hpn (used hd (used ha0 (used ha (used h64 (used h0 (used hA (used hr (?_)))))))))))
  refine enter (n := 60) Tryd.func79 rfl rfl rfl hA ?_
  refine seq ?_
  refine region ?_
  refine st (g_assign rfl) rfl ?_
  refine done ?_
  refine th_n ?_
  refine seq ?_
  refine seq ?_
  refine region ?_
  refine st (g_move rfl) rfl ?_
  refine st (g_nilCheck rfl) rfl ?_
  refine st (g_fieldAddr fo_71_3 rfl rfl) rfl ?_
  refine st (g_load (v := .bool false) sc_4 rfl (Cell.own .here (by rw [← hd]; rfl))) rfl ?_
  refine done ?_
  refine th_n ?_
  refine condF rfl ?_
  refine skip ?_
  refine th_n ?_
  refine seq ?_
  refine seq ?_
  refine region ?_
  refine st (g_move rfl) rfl ?_
  refine st (g_F rfl rfl rfl (by omega)) rfl ?_
  refine st (g_move rfl) rfl ?_
  refine gt rfl ?_
  refine st (g_move rfl) rfl ?_
  refine gt rfl ?_
  refine st (g_move rfl) rfl ?_
  refine gt rfl ?_
  refine st (g_nilCheck rfl) rfl ?_
  refine gt rfl ?_
  refine st (g_fieldAddr fo_71_0 rfl rfl) rfl ?_
  refine gt rfl ?_
  refine st (g_load (v := .slice (some ⟨r.sb, 0, none⟩) r.st.length r.sc) sc_22 rfl (Cell.own .here rfl)) rfl ?_
  refine gt rfl ?_
  refine st (g_len el_22 rfl) rfl ?_
  refine gt rfl ?_
  refine st (g_F rfl rfl rfl (by omega)) rfl ?_
  refine st (g_pickF rfl rfl) rfl ?_
  refine st (g_move rfl) rfl ?_
  refine gt rfl ?_
  refine st (g_move rfl) rfl ?_
  refine gt rfl ?_
  refine st (g_len el_23 rfl) rfl ?_
  refine gt rfl ?_
  refine st (g_F rfl rfl rfl (by omega)) rfl ?_
  refine st (g_pickF rfl rfl) rfl ?_
  refine done ?_
  refine th_n ?_
  refine condF rfl ?_
  refine skip ?_
  refine th_n ?_
  refine seq ?_
  refine region ?_
  refine st (g_move rfl) rfl ?_
  refine st (g_nilCheck rfl) rfl ?_
  refine st (g_fieldAddr fo_71_2 rfl rfl) rfl ?_
  refine st (g_load (v := I64 k.room) sc_3 rfl (Cell.own .here rfl)) rfl ?_
  refine st (g_T rfl rfl rfl (by omega)) rfl ?_
  refine st (g_assign rfl) rfl ?_
  refine done ?_
  refine th_n ?_
  refine seq ?_
  refine seq ?_
  refine region ?_
  refine st (g_move rfl) rfl ?_
  refine st (g_not rfl) rfl ?_
  refine done ?_
  refine th_n ?_
  refine condF rfl ?_
  refine skip ?_
  refine th_n ?_
  refine seq ?_
  refine region ?_
  refine st (g_move rfl) rfl ?_
  refine sq rfl (o_call Tryd.func105 rfl rfl rfl (.cons .here (.cons .here (.cons .here (.cons .here (.cons .here .nil))))) (fun w hw hA => f105_spec b k hk r hro w hA) rfl (fun r2 hr2 => ?_))
  refine st (g_assign rfl) rfl ?_
  refine done ?_
  refine th_n ?_
  refine seq ?_
  refine seq ?_
  refine region ?_
  refine st (g_move rfl) rfl ?_
  refine done ?_
  refine th_n ?_
  refine condS rfl (fun hst => ?_) (fun hst => ?_)
  · try simp only [decide_eq_true_eq] at hst
    refine seq ?_
    refine region ?_
    refine st (g_assign rfl) rfl ?_
    refine done ?_
    refine th_n ?_
    refine ret ?_
    refine th_r ?_
    exact ret1 rfl rfl rfl (fun w2 hw2 => ⟨r2, by rw [heT hst]; exact hr2, by rw [heT hst], by rw [heT hst]; exact Sat.left (hw2.split (.cons .here (.cons .here (.cons .here (.cons .here (.cons .here .nil))))))⟩)
  · try simp only [decide_eq_false_iff_not] at hst
    refine skip ?_
    refine th_n ?_
    refine seq ?_
    refine seq ?_
    refine region ?_
    refine st (g_move rfl) rfl ?_
    refine done ?_
    refine th_n ?_
    refine condT rfl ?_
    refine seq ?_
    refine region ?_
    refine st (g_assign rfl) rfl ?_
    refine done ?_
    refine th_n ?_
    refine ret ?_
    refine th_r ?_
    exact ret1 rfl rfl rfl (fun w2 hw2 => ⟨r2, by rw [heF hst]; exact hr2, by rw [heF hst], by rw [heF hst]; exact Sat.left (hw2.split (.cons .here (.cons .here (.cons .here (.cons .here (.cons .here .nil))))))⟩)

theorem f79_spec (b : Nat) (k : Dk) (hk : k.ok) (r : Rr) (hro : r.ok k) (a : Int) (p : Option Addr) (n c : Nat) (bs : List UInt8) (hl : bs.length = n) (hpn : p = none → c = 0) (w : World) (hA : Sat w (fps (rkR b k r)) (rkR b k r) w) (hr : RdS w (fps (rkR b k r)) p (bs.map B8)) : Calls Tryd.prog 79 [.pointer (some ⟨b, 0, none⟩), I64 a, .slice p n c].toArray w (fun en w2 => ∃ r2 : Rr, r2.ok (k.write a bs).2 ∧ en = .returned (I64 (k.write a bs).1) ∧ Sat w (fps (rkR b k r)) (rkR b (k.write a bs).2 r2) w2) := by
  cases hd : k.down
  · by_cases hb : a < 0 ∨ a ≥ k.stays.length ∨ bs.length ≠ 64
    · exact f79_bad b k hk r hro a p n c bs hl hpn hd hb w hA hr
    · by_cases h0 : k.room > 0
      · exact f79_room b k hk r hro a p n c bs hl hpn hd (by omega) (by omega) (by omega) h0 w hA hr
      · exact f79_full b k hk r hro a p n c bs hl hpn hd (by omega) (by omega) (by omega) h0 w hA hr
  · exact f79_down b k hk r hro a p n c bs hl hpn hd w hA hr
end Go.Proofs.YtokhediaibdkjaaDoor

/-! From N9 -/
/- Ref17's Flush. (printed by gen1.py) -/
namespace Go.Proofs.YtokhediaibdkjaaDoor
open Go.Pm Go.RowKit
set_option maxRecDepth 100000
theorem f80_down (b : Nat) (k : Dk) (_hk : k.ok) (r : Rr) (hro : r.ok k) (hd : k.down = true) (w : World) (hA : Sat w (fps (rkR b k r)) (rkR b k r) w) : Calls Tryd.prog 80 [.pointer (some ⟨b, 0, none⟩)].toArray w (fun en w2 => ∃ r2 : Rr, r2.ok (k.flush).2 ∧ en = .returned (I64 k.flush.1) ∧ Sat w (fps (rkR b k r)) (rkR b (k.flush).2 r2) w2) := by
  have he : k.flush = (171, k) := by unfold Dk.flush; rw [if_pos hd]
  rw [he]
  refine enter (n := 45) Tryd.func80 rfl rfl rfl hA ?_
  refine seq ?_
  refine region ?_
  refine st (g_assign rfl) rfl ?_
  refine done ?_
  refine th_n ?_
  refine seq ?_
  refine seq ?_
  refine region ?_
  refine st (g_move rfl) rfl ?_
  refine st (g_nilCheck rfl) rfl ?_
  refine st (g_fieldAddr fo_71_3 rfl rfl) rfl ?_
  refine st (g_load (v := .bool true) sc_4 rfl (Cell.own .here (by rw [← hd]; rfl))) rfl ?_
  refine done ?_
  refine th_n ?_
  refine condT rfl ?_
  refine seq ?_
  refine region ?_
  refine st (g_assign rfl) rfl ?_
  refine done ?_
  refine th_n ?_
  refine ret ?_
  refine th_r ?_
  exact ret1 rfl rfl rfl (fun w2 hw2 => ⟨r, hro, rfl, Sat.left (hw2.split (.cons .here (.cons .here (.cons .here (.cons .here (.cons .here .nil))))))⟩)

theorem f80_up (b : Nat) (k : Dk) (hk : k.ok) (r : Rr) (hro : r.ok k) (hd : k.down = false) (w : World) (hA : Sat w (fps (rkR b k r)) (rkR b k r) w) : Calls Tryd.prog 80 [.pointer (some ⟨b, 0, none⟩)].toArray w (fun en w2 => ∃ r2 : Rr, r2.ok (k.flush).2 ∧ en = .returned (I64 k.flush.1) ∧ Sat w (fps (rkR b k r)) (rkR b (k.flush).2 r2) w2) := by
  have heT : k.step.1 = true → k.flush = (171, k.step.2) := fun h => by unfold Dk.flush; rw [if_neg (by rw [hd]; decide), if_pos h]
  have heF : k.step.1 = false → k.flush = (0, k.step.2.settle) := fun h => by unfold Dk.flush; rw [if_neg (by rw [hd]; decide), if_neg (by rw [h]; decide)]
  have hK := Dk.step_ok hk
  obtain ⟨K, hKe⟩ : ∃ K, K = k.step.2 := ⟨_, rfl⟩
  rw [← hKe] at hK
  refine enter (n := 45) Tryd.func80 rfl rfl rfl hA ?_
  refine seq ?_
  refine region ?_
  refine st (g_assign rfl) rfl ?_
  refine done ?_
  refine th_n ?_
  refine seq ?_
  refine seq ?_
  refine region ?_
  refine st (g_move rfl) rfl ?_
  refine st (g_nilCheck rfl) rfl ?_
  refine st (g_fieldAddr fo_71_3 rfl rfl) rfl ?_
  refine st (g_load (v := .bool false) sc_4 rfl (Cell.own .here (by rw [← hd]; rfl))) rfl ?_
  refine done ?_
  refine th_n ?_
  refine condF rfl ?_
  refine skip ?_
  refine th_n ?_
  refine seq ?_
  refine region ?_
  refine st (g_move rfl) rfl ?_
  refine sq rfl (o_call Tryd.func105 rfl rfl rfl (.cons .here (.cons .here (.cons .here (.cons .here (.cons .here .nil))))) (fun w hw hA => f105_spec b k hk r hro w hA) rfl (fun r2 hr2 => ?_))
  rw [← hKe]
  rw [← hKe] at hr2
  have hrm := hK.rm
  have hnn := hr2.n
  have hmm := hr2.m
  refine st (g_assign rfl) rfl ?_
  refine done ?_
  refine th_n ?_
  refine seq ?_
  refine seq ?_
  refine region ?_
  refine st (g_move rfl) rfl ?_
  refine done ?_
  refine th_n ?_
  refine condS rfl (fun hst => ?_) (fun hst => ?_)
  · try simp only [decide_eq_true_eq] at hst
    refine seq ?_
    refine region ?_
    refine st (g_assign rfl) rfl ?_
    refine done ?_
    refine th_n ?_
    refine ret ?_
    refine th_r ?_
    exact ret1 rfl rfl rfl (fun w2 hw2 => ⟨r2, by rw [heT hst, ← hKe]; exact hr2, by rw [heT hst], by rw [heT hst, ← hKe]; exact Sat.left (hw2.split (.cons .here (.cons .here (.cons .here (.cons .here (.cons .here .nil))))))⟩)
  · try simp only [decide_eq_false_iff_not] at hst
    refine skip ?_
    refine th_n ?_
    refine seq ?_
    refine seq ?_
    refine region ?_
    refine st (g_assign rfl) rfl ?_
    refine done ?_
    refine th_n ?_
    refine block ?_
    refine loop (α := Nat × List Pb) (fun ⟨i, sx⟩ => i ≤ r2.ws.length ∧ sx.map (·.1) = iter (flStep K.waits) (i) K.stays ∧ (∀ p ∈ sx, p ∈ r2.ps) ∧ sx.length = r2.st.length) (fun ⟨i, sx⟩ => [(0, .pointer (some ⟨b, 0, none⟩)), (4, I64 (i : Nat))]) (fun ⟨i, sx⟩ => [rkB b K r2, blk r2.sb 23 (sx.map pbV ++ r2.sr), rkW r2, rkC K r2, poolR r2.ps]) (fun ⟨i, sx⟩ => r2.ws.length - i) (0, r2.st) ⟨Nat.zero_le _, hr2.s.symm, hr2.sm, rfl⟩ ⟨rfl, rfl, trivial⟩ (.cons .here (.cons .here (.cons .here (.cons .here (.cons .here .nil))))) (fun ⟨i, sx⟩ ⟨hi, hsx, hsm, hsl⟩ => ?_)
    show At _ [(0, .pointer (some ⟨b, 0, none⟩)), (4, I64 (i : Nat))] [rkB b K r2, blk r2.sb 23 (sx.map pbV ++ r2.sr), rkW r2, rkC K r2, poolR r2.ps] _
    refine seq ?_
    refine seq ?_
    refine region ?_
    refine st (g_move rfl) rfl ?_
    refine st (g_move rfl) rfl ?_
    refine st (g_nilCheck rfl) rfl ?_
    refine st (g_fieldAddr fo_71_1 rfl rfl) rfl ?_
    refine st (g_load (v := slv r2.ws.length r2.wq) sc_69 rfl (Cell.own .here rfl)) rfl ?_
    refine st (g_len el_69 rfl) rfl ?_
    refine st (g_bin rfl rfl rfl) rfl ?_
    refine done ?_
    refine th_n ?_
    refine condS rfl (fun h18 => ?_) (fun h18 => ?_)
    · try simp only [decide_eq_true_eq] at h18
      have hi2 : i < r2.ws.length := by omega
      obtain ⟨x, hx⟩ : ∃ x, r2.ws[i]? = some x := ⟨r2.ws[i], by simp [hi2]⟩
      have hkx := hr2.wg hx
      obtain ⟨hx1, hx2⟩ := wt_get hK hkx
      have hx1 : x.1 < K.stays.length := hx1
      have hn64 := hK.n64
      have hstep : iter (flStep K.waits) (i + 1) K.stays = (sx.set x.1 x.2).map (·.1) := by
        show flStep K.waits i (iter (flStep K.waits) (i) K.stays) = _
        have e1 : K.waits.getD i (0, []) = (x.1, x.2.1) := by rw [List.getD_eq_getElem?_getD, hkx]; rfl
        rw [← hsx]
        show List.set _ (K.waits.getD i (0, [])).1 (K.waits.getD i (0, [])).2 = _
        rw [e1, List.map_set]
      refine At.up2 (fun w hw => vec_addr (hw.get (.there (.there (.here)))) (by omega)) (fun ⟨wb, hwb⟩ => ?_)
      refine skip ?_
      refine th_n ?_
      refine seq ?_
      refine block ?_
      refine regionX mixed (by decide +kernel) ?_
      refine Dr.st (g_move rfl) rfl ?_
      refine Dr.st (g_nilCheck rfl) rfl ?_
      refine Dr.st (g_fieldAddr fo_71_0 rfl rfl) rfl ?_
      refine Dr.st (g_load (v := .slice (some ⟨r2.sb, 0, none⟩) r2.st.length r2.sc) sc_22 rfl (Cell.own .here rfl)) rfl ?_
      refine Dr.st (g_move rfl) rfl ?_
      refine Dr.st (g_nilCheck rfl) rfl ?_
      refine Dr.st (g_fieldAddr fo_71_1 rfl rfl) rfl ?_
      refine Dr.st (g_load (v := .slice (some ⟨wb, 0, none⟩) r2.ws.length r2.wq.2) sc_69 rfl (Cell.own .here (by rw [← hwb]; rfl))) rfl ?_
      refine Dr.st (g_move rfl) rfl ?_
      refine Dr.st (g_indexS (m := i * 2) el_69 rfl rfl (by omega) (by omega) (by omega)) rfl ?_
      refine Dr.st (g_fieldAddr fo_178_0 rfl rfl) rfl ?_
      refine Dr.st (g_load (v := I64 x.1) sc_3 rfl (Cell.rdV (RdA.vec (.there (.there (.here)))) hwb (rwC_at hx).1 rfl)) rfl ?_
      refine Dr.st (g_move rfl) rfl ?_
      refine Dr.st (g_nilCheck rfl) rfl ?_
      refine Dr.st (g_fieldAddr fo_71_1 rfl rfl) rfl ?_
      refine Dr.st (g_load (v := .slice (some ⟨wb, 0, none⟩) r2.ws.length r2.wq.2) sc_69 rfl (Cell.own .here (by rw [← hwb]; rfl))) rfl ?_
      refine Dr.st (g_move rfl) rfl ?_
      refine Dr.st (g_indexS (m := i * 2) el_69 rfl rfl (by omega) (by omega) (by omega)) rfl ?_
      refine Dr.st (g_fieldAddr fo_178_1 rfl rfl) rfl ?_
      refine Dr.st (g_load (v := pbV x.2) sc_23 rfl (Cell.rdV (RdA.vec (.there (.there (.here)))) hwb (rwC_at hx).2 rfl)) rfl ?_
      refine Dr.st (g_indexS (m := x.1) el_22 rfl rfl (by omega) (by omega) (by omega)) rfl ?_
      refine Dr.last ?_
      refine o_store (cs' := (sx.set x.1 x.2).map pbV ++ r2.sr) sz_23 rfl rfl rfl (.there (.here)) (by rw [List.length_append, List.length_map]; omega) (st_set (by omega)) ?_
      refine ib_n ?_
      refine th_n ?_
      refine region ?_
      refine st (g_move rfl) rfl ?_
      refine st (g_iadd (c := ((i + 1 : Nat) : Int)) rfl rfl (by omega) (by omega) (by omega)) rfl ?_
      refine st (g_assign rfl) rfl ?_
      refine done ?_
      refine th_n ?_
      exact again (i + 1, sx.set x.1 x.2) ⟨by omega, by rw [hstep], fun q hq => by rcases List.mem_or_eq_of_mem_set hq with hq | rfl; exact hsm q hq; exact hr2.wm _ (List.mem_of_getElem? hx), by rw [List.length_set]; exact hsl⟩ (by show r2.ws.length - (i + 1) < r2.ws.length - i; omega) ⟨rfl, rfl, trivial⟩ (.cons (.there (.here)) (.cons .here (.cons .here (.cons .here (.cons .here .nil)))))
    · try simp only [decide_eq_false_iff_not] at h18
      have hie : i = r2.ws.length := by omega
      subst hie
      refine exitc ?_
      refine th_x ?_
      refine th_x ?_
      refine ib_x ?_
      refine th_n ?_
      refine seq ?_
      refine region ?_
      refine st (g_move rfl) rfl ?_
      refine st (g_nilCheck rfl) rfl ?_
      refine st (g_fieldAddr fo_71_1 rfl rfl) rfl ?_
      refine sq rfl (o_store (cs' := [.slice (some ⟨r2.sb, 0, none⟩) r2.st.length r2.sc, .slice none 0 0, I64 K.room, .bool K.down, I64 K.steps, slv K.choice.length r2.cq]) sz_69 rfl rfl rfl .here (Nat.le_of_ble_eq_true rfl) rfl ?_)
      refine done ?_
      refine th_n ?_
      refine seq ?_
      refine region ?_
      refine st (g_assign rfl) rfl ?_
      refine done ?_
      refine th_n ?_
      refine ret ?_
      refine At.up (fun w hw => new0_vec (T := 178) (s := 2) hw ⟨rfl, .inl ⟨rfl, rfl⟩⟩) ?_
      exact ret1 rfl rfl rfl (fun w2 hw2 => ⟨⟨r2.sb, r2.sc, r2.sr, (none, 0), r2.cq, sx, [], r2.ps⟩, by rw [heF hst, ← hKe]; exact ⟨by show flSt K.waits K.stays = _; rw [flSt, ← hr2.m]; exact hsx.symm, rfl, by show sx.length ≤ r2.sc; have := hr2.sn; omega, hsm, by simp, hr2.pl, hr2.c0, hr2.c1⟩, by rw [heF hst], by
        rw [heF hst, ← hKe]
        have h0 := hw2.split (A := [_, _, _, _, _]) (.cons (.there (.here)) (.cons (.there (.here)) (.cons .here (.cons (.there (.here)) (.cons (.there (.here)) .nil)))))
        have e3 : rkCells K.settle ⟨r2.sb, r2.sc, r2.sr, (none, 0), r2.cq, sx, [], r2.ps⟩ = [.slice (some ⟨r2.sb, 0, none⟩) r2.st.length r2.sc, .slice none 0 0, I64 K.room, .bool K.down, I64 K.steps, slv K.choice.length r2.cq] := by rw [← hsl]; rfl
        rw [← e3] at h0
        exact Sat.left h0⟩)

theorem f80_spec (b : Nat) (k : Dk) (hk : k.ok) (r : Rr) (hro : r.ok k)  (w : World) (hA : Sat w (fps (rkR b k r)) (rkR b k r) w) : Calls Tryd.prog 80 [.pointer (some ⟨b, 0, none⟩)].toArray w (fun en w2 => ∃ r2 : Rr, r2.ok (k.flush).2 ∧ en = .returned (I64 k.flush.1) ∧ Sat w (fps (rkR b k r)) (rkR b (k.flush).2 r2) w2) := by
  cases hd : k.down
  · exact f80_up b k hk r hro hd w hA
  · exact f80_down b k hk r hro hd w hA
end Go.Proofs.YtokhediaibdkjaaDoor

/-! From NA -/
/- Ref17's Read. (printed by gen1.py) -/
namespace Go.Proofs.YtokhediaibdkjaaDoor
open Go.Pm Go.RowKit
set_option maxRecDepth 100000
theorem rd_ge {ws : List (Nat × List UInt8)} {a : Nat} {c : List UInt8} {i : Nat} : ∀ m, i ≤ m → (∀ j, i ≤ j → j < m → (ws.getD j (0, [])).1 ≠ a) → iter (rdStep ws a) m c = iter (rdStep ws a) i c
  | 0, h, _ => by rw [show i = 0 by omega]
  | m + 1, h, hn => by
    rcases Nat.lt_or_ge m i with h1 | h1
    · rw [show i = m + 1 by omega]
    · show rdStep ws a m (iter (rdStep ws a) m c) = _
      unfold rdStep
      rw [if_neg (hn m h1 (by omega))]
      exact rd_ge m h1 (fun j hj hjm => hn j hj (by omega))
theorem rd_at {ws : List (Nat × List UInt8)} {a i : Nat} {c : List UInt8} (h : (ws.getD i (0, [])).1 = a) : iter (rdStep ws a) (i + 1) c = (ws.getD i (0, [])).2 := by
  show rdStep ws a i (iter (rdStep ws a) i c) = _
  unfold rdStep
  rw [if_pos h]


theorem f90_down (b : Nat) (k : Dk) (hk : k.ok) (r : Rr) (hro : r.ok k) (a : Nat) (hd : k.down = true) (w : World) (hA : Sat w (fps (rkR b k r)) (rkR b k r) w) : Calls Tryd.prog 90 [.pointer (some ⟨b, 0, none⟩), I64 (a : Nat)].toArray w (fun en w2 => ∃ y : Option Addr × Nat, ((y.1 = none → y.2 = 0) ∧ (k.rd a).2.length ≤ y.2) ∧ en = .returned (.tuple #[slv (k.rd a).2.length y, I64 (k.rd a).1]) ∧ Sat w (fps (rkR b k r)) (vec (slv (k.rd a).2.length y) 5 1 (k.rd a).2.length ((k.rd a).2.map B8) :: rkR b k r) w2) := by
  have e : k.rd a = (171, []) := by rw [Dk.rd, if_pos hd]
  rw [e]
  refine used hk (used hro (used hd (used hA (?_))))
  refine enter (n := 59) Tryd.func90 rfl rfl rfl hA ?_
  refine seq ?_
  refine region ?_
  refine st (g_assign rfl) rfl ?_
  refine st (g_assign rfl) rfl ?_
  refine done ?_
  refine th_n ?_
  refine seq ?_
  refine seq ?_
  refine region ?_
  refine st (g_move rfl) rfl ?_
  refine st (g_nilCheck rfl) rfl ?_
  refine st (g_fieldAddr fo_71_3 rfl rfl) rfl ?_
  refine st (g_load (v := .bool true) sc_4 rfl (Cell.own .here (by rw [← hd]; rfl))) rfl ?_
  refine done ?_
  refine th_n ?_
  refine condT rfl ?_
  refine seq ?_
  refine region ?_
  refine st (g_assign rfl) rfl ?_
  refine st (g_assign rfl) rfl ?_
  refine done ?_
  refine th_n ?_
  refine ret ?_
  refine th_r ?_
  refine At.up (fun w hw => new0_vec (T := 5) (s := 1) hw ⟨rfl, .inl ⟨rfl, rfl⟩⟩) ?_
  exact ret2 rfl rfl rfl rfl (fun w2 hw2 => ⟨(none, 0), ⟨fun _ => rfl, Nat.le_refl _⟩, rfl, Sat.left (hw2.split (A := [vec (.slice none 0 0) 5 1 0 [], _, _, _, _, _]) (.cons .here (.cons .here (.cons .here (.cons .here (.cons .here (.cons .here .nil)))))))⟩)

theorem f90_bad (b : Nat) (k : Dk) (hk : k.ok) (r : Rr) (hro : r.ok k) (a : Nat) (hd : k.down = false) (h1 : ¬ a < k.stays.length) (w : World) (hA : Sat w (fps (rkR b k r)) (rkR b k r) w) : Calls Tryd.prog 90 [.pointer (some ⟨b, 0, none⟩), I64 (a : Nat)].toArray w (fun en w2 => ∃ y : Option Addr × Nat, ((y.1 = none → y.2 = 0) ∧ (k.rd a).2.length ≤ y.2) ∧ en = .returned (.tuple #[slv (k.rd a).2.length y, I64 (k.rd a).1]) ∧ Sat w (fps (rkR b k r)) (vec (slv (k.rd a).2.length y) 5 1 (k.rd a).2.length ((k.rd a).2.map B8) :: rkR b k r) w2) := by
  have hnn := hro.n
  have hn64 := hk.n64
  have e : k.rd a = (170, []) := by rw [Dk.rd, if_neg (by rw [hd]; decide), if_neg h1]
  rw [e]
  refine used hk (used hro (used hd (used h1 (used hA (?_)))))
  refine enter (n := 59) Tryd.func90 rfl rfl rfl hA ?_
  refine seq ?_
  refine region ?_
  refine st (g_assign rfl) rfl ?_
  refine st (g_assign rfl) rfl ?_
  refine done ?_
  refine th_n ?_
  refine seq ?_
  refine seq ?_
  refine region ?_
  refine st (g_move rfl) rfl ?_
  refine st (g_nilCheck rfl) rfl ?_
  refine st (g_fieldAddr fo_71_3 rfl rfl) rfl ?_
  refine st (g_load (v := .bool false) sc_4 rfl (Cell.own .here (by rw [← hd]; rfl))) rfl ?_
  refine done ?_
  refine th_n ?_
  refine condF rfl ?_
  refine skip ?_
  refine th_n ?_
  refine seq ?_
  refine seq ?_
  refine region ?_
  refine st (g_move rfl) rfl ?_
  refine st (g_F rfl rfl rfl (by omega)) rfl ?_
  refine st (g_move rfl) rfl ?_
  refine gt rfl ?_
  refine st (g_move rfl) rfl ?_
  refine gt rfl ?_
  refine st (g_move rfl) rfl ?_
  refine gt rfl ?_
  refine st (g_nilCheck rfl) rfl ?_
  refine gt rfl ?_
  refine st (g_fieldAddr fo_71_0 rfl rfl) rfl ?_
  refine gt rfl ?_
  refine st (g_load (v := .slice (some ⟨r.sb, 0, none⟩) r.st.length r.sc) sc_22 rfl (Cell.own .here rfl)) rfl ?_
  refine gt rfl ?_
  refine st (g_len el_22 rfl) rfl ?_
  refine gt rfl ?_
  refine st (g_T rfl rfl rfl (by omega)) rfl ?_
  refine st (g_pickF rfl rfl) rfl ?_
  refine done ?_
  refine th_n ?_
  refine condT rfl ?_
  refine seq ?_
  refine region ?_
  refine st (g_assign rfl) rfl ?_
  refine st (g_assign rfl) rfl ?_
  refine done ?_
  refine th_n ?_
  refine ret ?_
  refine th_r ?_
  refine At.up (fun w hw => new0_vec (T := 5) (s := 1) hw ⟨rfl, .inl ⟨rfl, rfl⟩⟩) ?_
  exact ret2 rfl rfl rfl rfl (fun w2 hw2 => ⟨(none, 0), ⟨fun _ => rfl, Nat.le_refl _⟩, rfl, Sat.left (hw2.split (A := [vec (.slice none 0 0) 5 1 0 [], _, _, _, _, _]) (.cons .here (.cons .here (.cons .here (.cons .here (.cons .here (.cons .here .nil)))))))⟩)

theorem f90_good (b : Nat) (k : Dk) (hk : k.ok) (r : Rr) (hro : r.ok k) (a : Nat) (hd : k.down = false) (h1 : a < k.stays.length) (w : World) (hA : Sat w (fps (rkR b k r)) (rkR b k r) w) : Calls Tryd.prog 90 [.pointer (some ⟨b, 0, none⟩), I64 (a : Nat)].toArray w (fun en w2 => ∃ y : Option Addr × Nat, ((y.1 = none → y.2 = 0) ∧ (k.rd a).2.length ≤ y.2) ∧ en = .returned (.tuple #[slv (k.rd a).2.length y, I64 (k.rd a).1]) ∧ Sat w (fps (rkR b k r)) (vec (slv (k.rd a).2.length y) 5 1 (k.rd a).2.length ((k.rd a).2.map B8) :: rkR b k r) w2) := by
  have hnn := hro.n
  have hmm := hro.m
  have hrm := hk.rm
  have hn64 := hk.n64
  have hll := Dk.look_length hk h1
  have e : k.rd a = (0, k.look a) := by rw [Dk.rd, if_neg (by rw [hd]; decide), if_pos h1]
  rw [e]
  refine used hk (used hro (used hd (used h1 (used hA (?_)))))
  refine enter (n := 59) Tryd.func90 rfl rfl rfl hA ?_
  refine seq ?_
  refine region ?_
  refine st (g_assign rfl) rfl ?_
  refine st (g_assign rfl) rfl ?_
  refine done ?_
  refine th_n ?_
  refine seq ?_
  refine seq ?_
  refine region ?_
  refine st (g_move rfl) rfl ?_
  refine st (g_nilCheck rfl) rfl ?_
  refine st (g_fieldAddr fo_71_3 rfl rfl) rfl ?_
  refine st (g_load (v := .bool false) sc_4 rfl (Cell.own .here (by rw [← hd]; rfl))) rfl ?_
  refine done ?_
  refine th_n ?_
  refine condF rfl ?_
  refine skip ?_
  refine th_n ?_
  refine seq ?_
  refine seq ?_
  refine region ?_
  refine st (g_move rfl) rfl ?_
  refine st (g_F rfl rfl rfl (by omega)) rfl ?_
  refine st (g_move rfl) rfl ?_
  refine gt rfl ?_
  refine st (g_move rfl) rfl ?_
  refine gt rfl ?_
  refine st (g_move rfl) rfl ?_
  refine gt rfl ?_
  refine st (g_nilCheck rfl) rfl ?_
  refine gt rfl ?_
  refine st (g_fieldAddr fo_71_0 rfl rfl) rfl ?_
  refine gt rfl ?_
  refine st (g_load (v := .slice (some ⟨r.sb, 0, none⟩) r.st.length r.sc) sc_22 rfl (Cell.own .here rfl)) rfl ?_
  refine gt rfl ?_
  refine st (g_len el_22 rfl) rfl ?_
  refine gt rfl ?_
  refine st (g_F rfl rfl rfl (by omega)) rfl ?_
  refine st (g_pickF rfl rfl) rfl ?_
  refine done ?_
  refine th_n ?_
  refine condF rfl ?_
  refine skip ?_
  refine th_n ?_
  refine seq ?_
  refine seq ?_
  refine region ?_
  refine st (g_move rfl) rfl ?_
  refine st (g_nilCheck rfl) rfl ?_
  refine st (g_fieldAddr fo_71_1 rfl rfl) rfl ?_
  refine st (g_load (v := slv r.ws.length r.wq) sc_69 rfl (Cell.own .here rfl)) rfl ?_
  refine st (g_len el_69 rfl) rfl ?_
  refine st (g_isub (c := ((r.ws.length : Nat) : Int) - 1) rfl rfl (by omega) (by omega) (by omega)) rfl ?_
  refine st (g_assign rfl) rfl ?_
  refine done ?_
  refine th_n ?_
  refine block ?_
  refine loop (α := Nat) (fun i => i ≤ r.ws.length ∧ ∀ j, i ≤ j → j < r.ws.length → (k.waits.getD j (0, [])).1 ≠ a) (fun i => [(0, .pointer (some ⟨b, 0, none⟩)), (1, I64 (a : Nat)), (6, I64 ((i : Int) - 1))]) (fun i => [rkB b k r, rkS r, rkW r, rkC k r, poolR r.ps]) (fun i => i) r.ws.length ⟨Nat.le_refl _, fun j h1 h2 => absurd h2 (by omega)⟩ ⟨rfl, rfl, rfl, trivial⟩ (.cons .here (.cons .here (.cons .here (.cons .here (.cons .here .nil))))) (fun i ⟨hi, hno⟩ => ?_)
  refine seq ?_
  refine seq ?_
  refine region ?_
  refine st (g_move rfl) rfl ?_
  refine st (g_bin rfl rfl rfl) rfl ?_
  refine done ?_
  refine th_n ?_
  refine condS rfl (fun h29 => ?_) (fun h29 => ?_)
  · try simp only [decide_eq_true_eq] at h29
    obtain ⟨j, rfl⟩ : ∃ j, i = j + 1 := ⟨i - 1, by omega⟩
    obtain ⟨x, hx⟩ : ∃ x, r.ws[j]? = some x := ⟨_, List.getElem?_eq_getElem (by omega)⟩
    have hkx := hro.wg hx
    have e1 : k.waits.getD j (0, []) = (x.1, x.2.1) := by rw [List.getD_eq_getElem?_getD, hkx]; rfl
    have hxm := hro.wm _ (List.mem_of_getElem? hx)
    obtain ⟨hx64, hxn, hxc, _⟩ := hro.pl _ hxm
    refine At.up2 (fun w hw => vec_addr (hw.get (.there (.there (.here)))) (by omega)) (fun ⟨wb, hwb⟩ => ?_)
    refine skip ?_
    refine th_n ?_
    refine seq ?_
    refine block ?_
    refine seq ?_
    refine region ?_
    refine st (g_move rfl) rfl ?_
    refine st (g_nilCheck rfl) rfl ?_
    refine st (g_fieldAddr fo_71_1 rfl rfl) rfl ?_
    refine st (g_load (v := .slice (some ⟨wb, 0, none⟩) r.ws.length r.wq.2) sc_69 rfl (Cell.own .here (by rw [← hwb]; rfl))) rfl ?_
    refine st (g_move rfl) rfl ?_
    refine st (g_indexS (m := j * 2) el_69 rfl rfl (by omega) (by omega) (by omega)) rfl ?_
    refine st (g_fieldAddr fo_178_0 rfl rfl) rfl ?_
    refine st (g_load (v := I64 x.1) sc_3 rfl (Cell.rdV (RdA.vec (.there (.there (.here)))) hwb (rwC_at hx).1 rfl)) rfl ?_
    refine st (g_move rfl) rfl ?_
    refine st (g_bin rfl rfl rfl) rfl ?_
    refine done ?_
    refine th_n ?_
    refine condS rfl (fun heq => ?_) (fun heq => ?_)
    · try simp only [decide_eq_true_eq] at heq
      have hxa : x.1 = a := by omega
      have hlook : k.look a = x.2.1 := by
        unfold Dk.look
        rw [rd_ge (i := j + 1) k.waits.length (by omega) (fun j2 h1 h2 => hno j2 h1 (by omega)), rd_at (by rw [e1]; exact hxa), e1]
      refine seq ?_
      refine region ?_
      refine st (g_move rfl) rfl ?_
      refine st (g_nilCheck rfl) rfl ?_
      refine st (g_fieldAddr fo_71_1 rfl rfl) rfl ?_
      refine st (g_load (v := .slice (some ⟨wb, 0, none⟩) r.ws.length r.wq.2) sc_69 rfl (Cell.own .here (by rw [← hwb]; rfl))) rfl ?_
      refine st (g_move rfl) rfl ?_
      refine st (g_indexS (m := j * 2) el_69 rfl rfl (by omega) (by omega) (by omega)) rfl ?_
      refine st (g_fieldAddr fo_178_1 rfl rfl) rfl ?_
      refine st (g_load (v := pbV x.2) sc_23 rfl (Cell.rdV (RdA.vec (.there (.there (.here)))) hwb (rwC_at hx).2 rfl)) rfl ?_
      refine sq rfl (o_call Tryd.func44 rfl rfl rfl .nil (fun w hw hA => f44_spec x.2.2.1 64 x.2.2.2 x.2.1 hx64 hxn (by decide) w (RdC.ofVec (hw.get (.there (.there (.there (.there (.here))))) _ hxm))) rfl (fun y hy => ?_))
      refine st (g_assign rfl) rfl ?_
      refine st (g_assign rfl) rfl ?_
      refine done ?_
      refine th_n ?_
      refine ret ?_
      refine ib_r ?_
      refine th_r ?_
      refine th_r ?_
      refine ib_r ?_
      refine th_r ?_
      exact ret2 rfl rfl rfl rfl (fun w2 hw2 => ⟨y, ⟨hy.1, by show (k.look a).length ≤ y.2; rw [hll]; exact hy.2⟩, by rw [hll], by
        show Sat _ _ (vec (slv (k.look a).length y) 5 1 (k.look a).length ((k.look a).map B8) :: _) _
        rw [hll, hlook]
        exact Sat.left (hw2.split (A := [_, _, _, _, _, _]) (.cons .here (.cons .here (.cons .here (.cons .here (.cons .here (.cons .here .nil)))))))⟩)
    · try simp only [decide_eq_false_iff_not] at heq
      have hno2 : ∀ j2, j ≤ j2 → j2 < r.ws.length → (k.waits.getD j2 (0, [])).1 ≠ a := fun j2 h1 h2 => by
        rcases Nat.lt_or_ge j j2 with h3 | h3
        · exact hno j2 h3 h2
        · rw [show j2 = j by omega, e1]; show x.1 ≠ a; omega
      refine skip ?_
      refine ib_n ?_
      refine th_n ?_
      refine region ?_
      refine st (g_move rfl) rfl ?_
      refine st (g_isub rfl rfl rfl (by omega) (by omega)) rfl ?_
      refine st (g_assign rfl) rfl ?_
      refine done ?_
      refine th_n ?_
      exact again j ⟨by omega, hno2⟩ (by omega) ⟨rfl, rfl, congrArg (fun t => some (I64 t)) (by omega), trivial⟩ (.cons .here (.cons .here (.cons .here (.cons .here (.cons .here .nil)))))
  · try simp only [decide_eq_false_iff_not] at h29
    have hi0 : i = 0 := by omega
    subst hi0
    obtain ⟨od, hod⟩ : ∃ od, r.st[a]? = some od := ⟨_, List.getElem?_eq_getElem (by omega)⟩
    have hodm := hro.sm _ (List.mem_of_getElem? hod)
    obtain ⟨ho64, hon, hoc, _⟩ := hro.pl _ hodm
    have hlook : k.look a = od.1 := by
      unfold Dk.look
      rw [rd_ge (i := 0) k.waits.length (Nat.zero_le _) (fun j h1 h2 => hno j h1 (by omega))]
      show k.stays.getD a [] = _
      rw [hro.s, List.getD_eq_getElem?_getD, List.getElem?_map, hod]; rfl
    refine exitc ?_
    refine th_x ?_
    refine th_x ?_
    refine ib_x ?_
    refine th_n ?_
    refine seq ?_
    refine region ?_
    refine st (g_move rfl) rfl ?_
    refine st (g_nilCheck rfl) rfl ?_
    refine st (g_fieldAddr fo_71_0 rfl rfl) rfl ?_
    refine st (g_load (v := .slice (some ⟨r.sb, 0, none⟩) r.st.length r.sc) sc_22 rfl (Cell.own .here rfl)) rfl ?_
    refine st (g_move rfl) rfl ?_
    refine st (g_indexS (m := a) el_22 rfl rfl (by omega) (by omega) (by omega)) rfl ?_
    refine st (g_load (v := pbV od) sc_23 rfl (Cell.own (.there (.here)) (st_get hod))) rfl ?_
    refine sq rfl (o_call Tryd.func44 rfl rfl rfl .nil (fun w hw hA => f44_spec od.2.1 64 od.2.2 od.1 ho64 hon (by decide) w (RdC.ofVec (hw.get (.there (.there (.there (.there (.here))))) _ hodm))) rfl (fun y hy => ?_))
    refine st (g_assign rfl) rfl ?_
    refine st (g_assign rfl) rfl ?_
    refine done ?_
    refine th_n ?_
    refine ret ?_
    exact ret2 rfl rfl rfl rfl (fun w2 hw2 => ⟨y, ⟨hy.1, by show (k.look a).length ≤ y.2; rw [hll]; exact hy.2⟩, by rw [hll], by
      show Sat _ _ (vec (slv (k.look a).length y) 5 1 (k.look a).length ((k.look a).map B8) :: _) _
      rw [hll, hlook]
      exact Sat.left (hw2.split (A := [_, _, _, _, _, _]) (.cons .here (.cons .here (.cons .here (.cons .here (.cons .here (.cons .here .nil)))))))⟩)

theorem f90_rd (b : Nat) (k : Dk) (hk : k.ok) (r : Rr) (hro : r.ok k) (a : Nat)  (w : World) (hA : Sat w (fps (rkR b k r)) (rkR b k r) w) : Calls Tryd.prog 90 [.pointer (some ⟨b, 0, none⟩), I64 (a : Nat)].toArray w (fun en w2 => ∃ y : Option Addr × Nat, ((y.1 = none → y.2 = 0) ∧ (k.rd a).2.length ≤ y.2) ∧ en = .returned (.tuple #[slv (k.rd a).2.length y, I64 (k.rd a).1]) ∧ Sat w (fps (rkR b k r)) (vec (slv (k.rd a).2.length y) 5 1 (k.rd a).2.length ((k.rd a).2.map B8) :: rkR b k r) w2) := by
  by_cases hd : k.down = true
  · exact f90_down b k hk r hro a hd w hA
  · have hd : k.down = false := by simpa using hd
    by_cases h1 : a < k.stays.length
    · exact f90_good b k hk r hro a hd h1 w hA
    · exact f90_bad b k hk r hro a hd h1 w hA
end Go.Proofs.YtokhediaibdkjaaDoor

/-! From NB -/
/- Ref18's Load. (printed by gen1.py) -/
namespace Go.Proofs.YtokhediaibdkjaaDoor
open Go.Pm Go.RowKit
set_option maxRecDepth 100000
/-- What Load finds, by the two sectors. -/
theorem load_e0 {k : Dk} (h : (k.rd 0).1 ≠ 0) : k.load = Ld.err (k.rd 0).1 := by
  have h1 : k.ld = { Ld.z with w := (k.rd 0).1 } := by
    show k.lds (if k.go 0 = true then 2 else 1) = _
    rw [if_neg (by simpa [Dk.go] using h)]
    show k.ldStep 0 Ld.z = _
    unfold Dk.ldStep
    rw [if_neg h]
  unfold Dk.load
  rw [if_neg (by rw [h1]; exact h), h1]; rfl
theorem ld_two {k : Dk} (h : (k.rd 0).1 = 0) : k.ld = k.ldStep 1 (k.ldStep 0 Ld.z) := by
  show k.lds (if k.go 0 = true then 2 else 1) = _
  rw [if_pos (by simpa [Dk.go] using h)]
  rfl
theorem load_e1 {k : Dk} (h0 : (k.rd 0).1 = 0) (h : (k.rd 1).1 ≠ 0) : k.load = Ld.err (k.rd 1).1 := by
  have hw : k.ld.w = (k.rd 1).1 := by rw [ld_two h0, ldStep_w]
  unfold Dk.load
  rw [if_neg (by rw [hw]; exact h), hw]; rfl
theorem ldTwo {k : Dk} (h0 : (k.rd 0).1 = 0) (h : (k.rd 1).1 = 0) : k.load = k.ldStep 1 (k.ldStep 0 Ld.z) := by
  have hw : k.ld.w = 0 := by rw [ld_two h0, ldStep_w, h]
  unfold Dk.load
  rw [if_pos hw, ld_two h0]
theorem step_z {k : Dk} (h0 : (k.rd 0).1 = 0) (hx : (decR (k.rd 0).2).2.2 = 0) : k.ldStep 0 Ld.z = ⟨(decR (k.rd 0).2).1, (decR (k.rd 0).2).2.1, 1, 0, 0⟩ :=
  ldStep_new h0 hx (fun hh => by
    obtain ⟨h1, _⟩ := decR_good hx
    have h2 := BitVec.le_def.1 hh
    exact h1 (BitVec.eq_of_toNat_eq (by simpa [Ld.z] using h2)))
theorem load_x {k : Dk} (h0 : (k.rd 0).1 = 0) (h : (k.rd 1).1 = 0) (hx : (decR (k.rd 0).2).2.2 = 0) (hy : ¬ (decR (k.rd 1).2).2.2 = 0 ∨ (decR (k.rd 1).2).1 ≤ (decR (k.rd 0).2).1) :
    k.load.n = (decR (k.rd 0).2).1 ∧ k.load.d = (decR (k.rd 0).2).2.1 ∧ k.load.nx = 1 ∧ k.load.w = 0 := by
  rw [ldTwo h0 h, step_z h0 hx]
  by_cases hz : (decR (k.rd 1).2).2.2 = 0
  · rw [ldStep_low h hz (by rcases hy with hy | hy; exact absurd hz hy; exact hy)]
    exact ⟨rfl, rfl, rfl, rfl⟩
  · rw [ldStep_bad h hz]
    exact ⟨rfl, rfl, rfl, rfl⟩
theorem load_y {k : Dk} (h0 : (k.rd 0).1 = 0) (h : (k.rd 1).1 = 0) (hy : (decR (k.rd 1).2).2.2 = 0) (hx : ¬ (decR (k.rd 0).2).2.2 = 0 ∨ ¬ (decR (k.rd 1).2).1 ≤ (decR (k.rd 0).2).1) :
    k.load.n = (decR (k.rd 1).2).1 ∧ k.load.d = (decR (k.rd 1).2).2.1 ∧ k.load.nx = 0 ∧ k.load.w = 0 := by
  have hm : ¬ (decR (k.rd 1).2).1 ≤ (k.ldStep 0 Ld.z).n := by
    by_cases hz : (decR (k.rd 0).2).2.2 = 0
    · rw [step_z h0 hz]
      rcases hx with hx | hx
      · exact absurd hz hx
      · exact hx
    · rw [ldStep_bad h0 hz]
      intro hh
      obtain ⟨h1, _⟩ := decR_good hy
      have h2 := BitVec.le_def.1 hh
      exact h1 (BitVec.eq_of_toNat_eq (by simpa [Ld.z] using h2))
  rw [ldTwo h0 h, ldStep_new h hy hm]
  exact ⟨rfl, rfl, rfl, rfl⟩
theorem load_n {k : Dk} (h0 : (k.rd 0).1 = 0) (h : (k.rd 1).1 = 0) (hx : ¬ (decR (k.rd 0).2).2.2 = 0) (hy : ¬ (decR (k.rd 1).2).2.2 = 0) :
    k.load.n = 0#64 ∧ k.load.d = [] ∧ k.load.nx = 0 ∧ k.load.w = 0 := by
  rw [ldTwo h0 h, ldStep_bad h0 hx, ldStep_bad h hy]
  exact ⟨rfl, rfl, rfl, rfl⟩


theorem f58_e0 (b : Nat) (k : Dk) (hk : k.ok) (r : Rr) (hro : r.ok k) (h0 : (k.rd 0).1 ≠ 0) (w : World) (hA : Sat w (fps (rkR b k r)) (rkR b k r) w) : Calls Tryd.prog 58 [.pointer (some ⟨b, 0, none⟩)].toArray w (fun en w2 => ∃ y : Option Addr × Nat, ldOk k.load y ∧ en = .returned (.tuple #[.agg (ldv k.load y).toArray, I64 k.load.nx, I64 k.load.w]) ∧ Sat w (fps (rkR b k r)) (ldR k.load y :: rkR b k r) w2) := by
  have hL := load_e0 h0
  refine enter (n := 59) Tryd.func58 rfl rfl rfl hA ?_
  refine seq ?_
  refine region ?_
  refine sq rfl (o_alloc (zs := [U64 0#64, .slice none 0 0]) zr_73 rfl (fun b2 => ?_))
  refine st (g_assign rfl) rfl ?_
  refine st (g_assign rfl) rfl ?_
  refine done ?_
  refine th_n ?_
  refine seq ?_
  refine region ?_
  refine st (g_move rfl) rfl ?_
  refine sq rfl (o_call Tryd.func90 rfl rfl rfl (.cons (.there (.here)) (.cons (.there (.here)) (.cons (.there (.here)) (.cons (.there (.here)) (.cons (.there (.here)) .nil))))) (fun w hw hA => f90_rd b k hk r hro 0 w hA) rfl (fun y0 hy0 => ?_))
  refine st (g_move rfl) rfl ?_
  refine st (g_extract rfl rfl) rfl ?_
  refine st (g_extract rfl rfl) rfl ?_
  refine st (g_assign rfl) rfl ?_
  refine st (g_assign rfl) rfl ?_
  refine done ?_
  refine th_n ?_
  refine seq ?_
  refine seq ?_
  refine region ?_
  refine st (g_move rfl) rfl ?_
  refine st (g_T rfl rfl rfl (h0)) rfl ?_
  refine done ?_
  refine th_n ?_
  refine condT rfl ?_
  refine seq ?_
  refine region ?_
  refine st (g_build rfl bu_73z) rfl ?_
  refine st (g_move rfl) rfl ?_
  refine sq rfl (o_storeA (cs' := [U64 0#64, .slice none 0 0]) sz_73 rfl rfl rfl (by simp [Value.oneCell']) (.there (.there (.there (.there (.there (.there (.here))))))) (Nat.le_of_ble_eq_true rfl) rfl ?_)
  refine st (g_assign rfl) rfl ?_
  refine st (g_assign rfl) rfl ?_
  refine done ?_
  refine th_n ?_
  refine ret ?_
  refine th_r ?_
  exact retG rfl (fun a w2 ha hw2 => ⟨resc3 ha rfl rfl rfl rfl ag_73 rfl (hw2.get .here), by rw [hL]; exact ⟨(none, 0), ⟨fun _ => rfl, Nat.le_refl _⟩, rfl, new0_vec (Sat.left (hw2.split (.cons (.there (.there (.here))) (.cons (.there (.there (.here))) (.cons (.there (.there (.here))) (.cons (.there (.there (.here))) (.cons (.there (.there (.here))) .nil))))))) ⟨rfl, .inl ⟨rfl, rfl⟩⟩⟩⟩)

theorem f58_e1 (b : Nat) (k : Dk) (hk : k.ok) (r : Rr) (hro : r.ok k) (h0 : (k.rd 0).1 = 0) (h1 : (k.rd 1).1 ≠ 0) (w : World) (hA : Sat w (fps (rkR b k r)) (rkR b k r) w) : Calls Tryd.prog 58 [.pointer (some ⟨b, 0, none⟩)].toArray w (fun en w2 => ∃ y : Option Addr × Nat, ldOk k.load y ∧ en = .returned (.tuple #[.agg (ldv k.load y).toArray, I64 k.load.nx, I64 k.load.w]) ∧ Sat w (fps (rkR b k r)) (ldR k.load y :: rkR b k r) w2) := by
  have hL := load_e1 h0 h1
  refine enter (n := 59) Tryd.func58 rfl rfl rfl hA ?_
  refine seq ?_
  refine region ?_
  refine sq rfl (o_alloc (zs := [U64 0#64, .slice none 0 0]) zr_73 rfl (fun b2 => ?_))
  refine st (g_assign rfl) rfl ?_
  refine st (g_assign rfl) rfl ?_
  refine done ?_
  refine th_n ?_
  refine seq ?_
  refine region ?_
  refine st (g_move rfl) rfl ?_
  refine sq rfl (o_call Tryd.func90 rfl rfl rfl (.cons (.there (.here)) (.cons (.there (.here)) (.cons (.there (.here)) (.cons (.there (.here)) (.cons (.there (.here)) .nil))))) (fun w hw hA => f90_rd b k hk r hro 0 w hA) rfl (fun y0 hy0 => ?_))
  refine st (g_move rfl) rfl ?_
  refine st (g_extract rfl rfl) rfl ?_
  refine st (g_extract rfl rfl) rfl ?_
  refine st (g_assign rfl) rfl ?_
  refine st (g_assign rfl) rfl ?_
  refine done ?_
  refine th_n ?_
  refine seq ?_
  refine seq ?_
  refine region ?_
  refine st (g_move rfl) rfl ?_
  refine st (g_F rfl rfl rfl (fun h => h h0)) rfl ?_
  refine done ?_
  refine th_n ?_
  refine condF rfl ?_
  refine skip ?_
  refine th_n ?_
  refine seq ?_
  refine region ?_
  refine st (g_move rfl) rfl ?_
  refine sq rfl (o_call Tryd.func90 rfl rfl rfl (.cons (.there (.here)) (.cons (.there (.here)) (.cons (.there (.here)) (.cons (.there (.here)) (.cons (.there (.here)) .nil))))) (fun w hw hA => f90_rd b k hk r hro 1 w hA) rfl (fun y1 hy1 => ?_))
  refine st (g_move rfl) rfl ?_
  refine st (g_extract rfl rfl) rfl ?_
  refine st (g_extract rfl rfl) rfl ?_
  refine st (g_assign rfl) rfl ?_
  refine st (g_assign rfl) rfl ?_
  refine done ?_
  refine th_n ?_
  refine seq ?_
  refine seq ?_
  refine region ?_
  refine st (g_move rfl) rfl ?_
  refine st (g_T rfl rfl rfl (h1)) rfl ?_
  refine done ?_
  refine th_n ?_
  refine condT rfl ?_
  refine seq ?_
  refine region ?_
  refine st (g_build rfl bu_73z) rfl ?_
  refine st (g_move rfl) rfl ?_
  refine sq rfl (o_storeA (cs' := [U64 0#64, .slice none 0 0]) sz_73 rfl rfl rfl (by simp [Value.oneCell']) (.there (.there (.there (.there (.there (.there (.there (.here)))))))) (Nat.le_of_ble_eq_true rfl) rfl ?_)
  refine st (g_assign rfl) rfl ?_
  refine st (g_assign rfl) rfl ?_
  refine done ?_
  refine th_n ?_
  refine ret ?_
  refine th_r ?_
  exact retG rfl (fun a w2 ha hw2 => ⟨resc3 ha rfl rfl rfl rfl ag_73 rfl (hw2.get .here), by rw [hL]; exact ⟨(none, 0), ⟨fun _ => rfl, Nat.le_refl _⟩, rfl, new0_vec (Sat.left (hw2.split (.cons (.there (.there (.here))) (.cons (.there (.there (.here))) (.cons (.there (.there (.here))) (.cons (.there (.there (.here))) (.cons (.there (.there (.here))) .nil))))))) ⟨rfl, .inl ⟨rfl, rfl⟩⟩⟩⟩)

theorem f58_x1 (b : Nat) (k : Dk) (hk : k.ok) (r : Rr) (hro : r.ok k) (h0 : (k.rd 0).1 = 0) (h1 : (k.rd 1).1 = 0) (hx : (decR (k.rd 0).2).2.2 = 0) (hy : ¬ (decR (k.rd 1).2).2.2 = 0) (w : World) (hA : Sat w (fps (rkR b k r)) (rkR b k r) w) : Calls Tryd.prog 58 [.pointer (some ⟨b, 0, none⟩)].toArray w (fun en w2 => ∃ y : Option Addr × Nat, ldOk k.load y ∧ en = .returned (.tuple #[.agg (ldv k.load y).toArray, I64 k.load.nx, I64 k.load.w]) ∧ Sat w (fps (rkR b k r)) (ldR k.load y :: rkR b k r) w2) := by
  have hl0 := rd_len k hk 0
  have hl1 := rd_len k hk 1
  obtain ⟨e1, e2, e3, e4⟩ := load_x h0 h1 hx (.inl hy)
  refine enter (n := 59) Tryd.func58 rfl rfl rfl hA ?_
  refine seq ?_
  refine region ?_
  refine sq rfl (o_alloc (zs := [U64 0#64, .slice none 0 0]) zr_73 rfl (fun b2 => ?_))
  refine st (g_assign rfl) rfl ?_
  refine st (g_assign rfl) rfl ?_
  refine done ?_
  refine th_n ?_
  refine seq ?_
  refine region ?_
  refine st (g_move rfl) rfl ?_
  refine sq rfl (o_call Tryd.func90 rfl rfl rfl (.cons (.there (.here)) (.cons (.there (.here)) (.cons (.there (.here)) (.cons (.there (.here)) (.cons (.there (.here)) .nil))))) (fun w hw hA => f90_rd b k hk r hro 0 w hA) rfl (fun y0 hy0 => ?_))
  refine st (g_move rfl) rfl ?_
  refine st (g_extract rfl rfl) rfl ?_
  refine st (g_extract rfl rfl) rfl ?_
  refine st (g_assign rfl) rfl ?_
  refine st (g_assign rfl) rfl ?_
  refine done ?_
  refine th_n ?_
  refine seq ?_
  refine seq ?_
  refine region ?_
  refine st (g_move rfl) rfl ?_
  refine st (g_F rfl rfl rfl (fun h => h h0)) rfl ?_
  refine done ?_
  refine th_n ?_
  refine condF rfl ?_
  refine skip ?_
  refine th_n ?_
  refine seq ?_
  refine region ?_
  refine st (g_move rfl) rfl ?_
  refine sq rfl (o_call Tryd.func90 rfl rfl rfl (.cons (.there (.here)) (.cons (.there (.here)) (.cons (.there (.here)) (.cons (.there (.here)) (.cons (.there (.here)) .nil))))) (fun w hw hA => f90_rd b k hk r hro 1 w hA) rfl (fun y1 hy1 => ?_))
  refine st (g_move rfl) rfl ?_
  refine st (g_extract rfl rfl) rfl ?_
  refine st (g_extract rfl rfl) rfl ?_
  refine st (g_assign rfl) rfl ?_
  refine st (g_assign rfl) rfl ?_
  refine done ?_
  refine th_n ?_
  refine seq ?_
  refine seq ?_
  refine region ?_
  refine st (g_move rfl) rfl ?_
  refine st (g_F rfl rfl rfl (fun h => h h1)) rfl ?_
  refine done ?_
  refine th_n ?_
  refine condF rfl ?_
  refine skip ?_
  refine th_n ?_
  refine seq ?_
  refine region ?_
  refine st (g_move rfl) rfl ?_
  refine sq rfl (o_call Tryd.func48 rfl rfl rfl .nil (fun w hw hA => f48_all y0.1 _ y0.2 (k.rd 0).2 rfl hy0.1 hy0.2 (by omega) w (RdC.ofVec (hw.get (.there (.there (.there (.there (.there (.there (.here)))))))))) rfl (fun z0 hz0 => ?_))
  refine st (g_move rfl) rfl ?_
  refine st (g_extract rfl rfl) rfl ?_
  refine st (g_extract rfl rfl) rfl ?_
  refine sq rfl (o_alloc (zs := [U64 0#64, .slice none 0 0]) zr_73 rfl (fun b9 => ?_))
  refine sq rfl (o_storeA (cs' := [U64 (decR (k.rd 0).2).1, slv (decR (k.rd 0).2).2.1.length z0]) sz_73 rfl rfl rfl (by simp; exact ⟨rfl, rfl⟩) .here (Nat.le_of_ble_eq_true rfl) rfl ?_)
  refine st (g_assign rfl) rfl ?_
  refine done ?_
  refine th_n ?_
  refine seq ?_
  refine region ?_
  refine st (g_move rfl) rfl ?_
  refine sq rfl (o_call Tryd.func48 rfl rfl rfl .nil (fun w hw hA => f48_all y1.1 _ y1.2 (k.rd 1).2 rfl hy1.1 hy1.2 (by omega) w (RdC.ofVec (hw.get (.there (.there (.here)))))) rfl (fun z1 hz1 => ?_))
  refine st (g_move rfl) rfl ?_
  refine st (g_extract rfl rfl) rfl ?_
  refine st (g_extract rfl rfl) rfl ?_
  refine sq rfl (o_alloc (zs := [U64 0#64, .slice none 0 0]) zr_73 rfl (fun b11 => ?_))
  refine sq rfl (o_storeA (cs' := [U64 (decR (k.rd 1).2).1, slv (decR (k.rd 1).2).2.1.length z1]) sz_73 rfl rfl rfl (by simp; exact ⟨rfl, rfl⟩) .here (Nat.le_of_ble_eq_true rfl) rfl ?_)
  refine st (g_assign rfl) rfl ?_
  refine done ?_
  refine th_n ?_
  refine seq ?_
  refine seq ?_
  refine region ?_
  refine st (g_move rfl) rfl ?_
  refine st (g_T rfl rfl rfl (hx)) rfl ?_
  refine st (g_move rfl) rfl ?_
  refine gt rfl ?_
  refine st (g_move rfl) rfl ?_
  refine gt rfl ?_
  refine st (g_T rfl rfl rfl (hy)) rfl ?_
  refine gt rfl ?_
  refine st (g_move rfl) rfl ?_
  refine gf rfl rfl ?_
  refine gf rfl rfl ?_
  refine gf rfl rfl ?_
  refine gf rfl rfl ?_
  refine gf rfl rfl ?_
  refine gt rfl ?_
  refine st (g_pickT rfl rfl) rfl ?_
  refine st (g_pickT rfl rfl) rfl ?_
  refine done ?_
  refine th_n ?_
  refine condT rfl ?_
  refine seq ?_
  refine region ?_
  refine st (g_loadA (vs := [U64 (decR (k.rd 0).2).1, slv (decR (k.rd 0).2).2.1.length z0]) ag_73 rfl rfl (Cells.part (.there (.there (.here))) rfl)) rfl ?_
  refine sq rfl (o_storeA (cs' := [U64 (decR (k.rd 0).2).1, slv (decR (k.rd 0).2).2.1.length z0]) sz_73 rfl rfl rfl (by simp [Value.oneCell']) (.there (.there (.there (.there (.there (.there (.there (.there (.there (.there (.there (.here)))))))))))) (Nat.le_of_ble_eq_true rfl) rfl ?_)
  refine st (g_assign rfl) rfl ?_
  refine st (g_assign rfl) rfl ?_
  refine done ?_
  refine th_n ?_
  refine ret ?_
  refine th_r ?_
  exact retG rfl (fun a w2 ha hw2 => ⟨resc3 ha rfl rfl rfl rfl ag_73 rfl (hw2.get .here), z0, by unfold ldOk; rw [e2]; exact hz0, by unfold ldv; rw [e1, e2, e3, e4], by unfold ldR; rw [e2]; exact Sat.left (hw2.split (A := [_, _, _, _, _, _]) (.cons (.there (.there (.there (.there (.here))))) (.cons (.there (.there (.there (.there (.there (.here)))))) (.cons (.there (.there (.there (.there (.there (.here)))))) (.cons (.there (.there (.there (.there (.there (.here)))))) (.cons (.there (.there (.there (.there (.there (.here)))))) (.cons (.there (.there (.there (.there (.there (.here)))))) .nil)))))))⟩)

theorem f58_x2 (b : Nat) (k : Dk) (hk : k.ok) (r : Rr) (hro : r.ok k) (h0 : (k.rd 0).1 = 0) (h1 : (k.rd 1).1 = 0) (hx : (decR (k.rd 0).2).2.2 = 0) (hy : (decR (k.rd 1).2).2.2 = 0) (hle : (decR (k.rd 1).2).1 ≤ (decR (k.rd 0).2).1) (w : World) (hA : Sat w (fps (rkR b k r)) (rkR b k r) w) : Calls Tryd.prog 58 [.pointer (some ⟨b, 0, none⟩)].toArray w (fun en w2 => ∃ y : Option Addr × Nat, ldOk k.load y ∧ en = .returned (.tuple #[.agg (ldv k.load y).toArray, I64 k.load.nx, I64 k.load.w]) ∧ Sat w (fps (rkR b k r)) (ldR k.load y :: rkR b k r) w2) := by
  have hl0 := rd_len k hk 0
  have hl1 := rd_len k hk 1
  obtain ⟨e1, e2, e3, e4⟩ := load_x h0 h1 hx (.inr hle)
  refine enter (n := 59) Tryd.func58 rfl rfl rfl hA ?_
  refine seq ?_
  refine region ?_
  refine sq rfl (o_alloc (zs := [U64 0#64, .slice none 0 0]) zr_73 rfl (fun b2 => ?_))
  refine st (g_assign rfl) rfl ?_
  refine st (g_assign rfl) rfl ?_
  refine done ?_
  refine th_n ?_
  refine seq ?_
  refine region ?_
  refine st (g_move rfl) rfl ?_
  refine sq rfl (o_call Tryd.func90 rfl rfl rfl (.cons (.there (.here)) (.cons (.there (.here)) (.cons (.there (.here)) (.cons (.there (.here)) (.cons (.there (.here)) .nil))))) (fun w hw hA => f90_rd b k hk r hro 0 w hA) rfl (fun y0 hy0 => ?_))
  refine st (g_move rfl) rfl ?_
  refine st (g_extract rfl rfl) rfl ?_
  refine st (g_extract rfl rfl) rfl ?_
  refine st (g_assign rfl) rfl ?_
  refine st (g_assign rfl) rfl ?_
  refine done ?_
  refine th_n ?_
  refine seq ?_
  refine seq ?_
  refine region ?_
  refine st (g_move rfl) rfl ?_
  refine st (g_F rfl rfl rfl (fun h => h h0)) rfl ?_
  refine done ?_
  refine th_n ?_
  refine condF rfl ?_
  refine skip ?_
  refine th_n ?_
  refine seq ?_
  refine region ?_
  refine st (g_move rfl) rfl ?_
  refine sq rfl (o_call Tryd.func90 rfl rfl rfl (.cons (.there (.here)) (.cons (.there (.here)) (.cons (.there (.here)) (.cons (.there (.here)) (.cons (.there (.here)) .nil))))) (fun w hw hA => f90_rd b k hk r hro 1 w hA) rfl (fun y1 hy1 => ?_))
  refine st (g_move rfl) rfl ?_
  refine st (g_extract rfl rfl) rfl ?_
  refine st (g_extract rfl rfl) rfl ?_
  refine st (g_assign rfl) rfl ?_
  refine st (g_assign rfl) rfl ?_
  refine done ?_
  refine th_n ?_
  refine seq ?_
  refine seq ?_
  refine region ?_
  refine st (g_move rfl) rfl ?_
  refine st (g_F rfl rfl rfl (fun h => h h1)) rfl ?_
  refine done ?_
  refine th_n ?_
  refine condF rfl ?_
  refine skip ?_
  refine th_n ?_
  refine seq ?_
  refine region ?_
  refine st (g_move rfl) rfl ?_
  refine sq rfl (o_call Tryd.func48 rfl rfl rfl .nil (fun w hw hA => f48_all y0.1 _ y0.2 (k.rd 0).2 rfl hy0.1 hy0.2 (by omega) w (RdC.ofVec (hw.get (.there (.there (.there (.there (.there (.there (.here)))))))))) rfl (fun z0 hz0 => ?_))
  refine st (g_move rfl) rfl ?_
  refine st (g_extract rfl rfl) rfl ?_
  refine st (g_extract rfl rfl) rfl ?_
  refine sq rfl (o_alloc (zs := [U64 0#64, .slice none 0 0]) zr_73 rfl (fun b9 => ?_))
  refine sq rfl (o_storeA (cs' := [U64 (decR (k.rd 0).2).1, slv (decR (k.rd 0).2).2.1.length z0]) sz_73 rfl rfl rfl (by simp; exact ⟨rfl, rfl⟩) .here (Nat.le_of_ble_eq_true rfl) rfl ?_)
  refine st (g_assign rfl) rfl ?_
  refine done ?_
  refine th_n ?_
  refine seq ?_
  refine region ?_
  refine st (g_move rfl) rfl ?_
  refine sq rfl (o_call Tryd.func48 rfl rfl rfl .nil (fun w hw hA => f48_all y1.1 _ y1.2 (k.rd 1).2 rfl hy1.1 hy1.2 (by omega) w (RdC.ofVec (hw.get (.there (.there (.here)))))) rfl (fun z1 hz1 => ?_))
  refine st (g_move rfl) rfl ?_
  refine st (g_extract rfl rfl) rfl ?_
  refine st (g_extract rfl rfl) rfl ?_
  refine sq rfl (o_alloc (zs := [U64 0#64, .slice none 0 0]) zr_73 rfl (fun b11 => ?_))
  refine sq rfl (o_storeA (cs' := [U64 (decR (k.rd 1).2).1, slv (decR (k.rd 1).2).2.1.length z1]) sz_73 rfl rfl rfl (by simp; exact ⟨rfl, rfl⟩) .here (Nat.le_of_ble_eq_true rfl) rfl ?_)
  refine st (g_assign rfl) rfl ?_
  refine done ?_
  refine th_n ?_
  refine seq ?_
  refine seq ?_
  refine region ?_
  refine st (g_move rfl) rfl ?_
  refine st (g_T rfl rfl rfl (hx)) rfl ?_
  refine st (g_move rfl) rfl ?_
  refine gt rfl ?_
  refine st (g_move rfl) rfl ?_
  refine gt rfl ?_
  refine st (g_F rfl rfl rfl (fun h => h hy)) rfl ?_
  refine gt rfl ?_
  refine st (g_move rfl) rfl ?_
  refine gt rfl ?_
  refine st (g_fieldAddr fo_73_0 rfl rfl) rfl ?_
  refine gt rfl ?_
  refine st (g_load (v := U64 (decR (k.rd 0).2).1) sc_34 rfl (Cell.own (.there (.there (.here))) rfl)) rfl ?_
  refine gt rfl ?_
  refine st (g_fieldAddr fo_73_0 rfl rfl) rfl ?_
  refine gt rfl ?_
  refine st (g_load (v := U64 (decR (k.rd 1).2).1) sc_34 rfl (Cell.own .here rfl)) rfl ?_
  refine gt rfl ?_
  refine st (g_T rfl rfl rfl (by have := BitVec.le_def.1 hle; omega)) rfl ?_
  refine gt rfl ?_
  refine st (g_pickF rfl rfl) rfl ?_
  refine st (g_pickT rfl rfl) rfl ?_
  refine done ?_
  refine th_n ?_
  refine condT rfl ?_
  refine seq ?_
  refine region ?_
  refine st (g_loadA (vs := [U64 (decR (k.rd 0).2).1, slv (decR (k.rd 0).2).2.1.length z0]) ag_73 rfl rfl (Cells.part (.there (.there (.here))) rfl)) rfl ?_
  refine sq rfl (o_storeA (cs' := [U64 (decR (k.rd 0).2).1, slv (decR (k.rd 0).2).2.1.length z0]) sz_73 rfl rfl rfl (by simp [Value.oneCell']) (.there (.there (.there (.there (.there (.there (.there (.there (.there (.there (.there (.here)))))))))))) (Nat.le_of_ble_eq_true rfl) rfl ?_)
  refine st (g_assign rfl) rfl ?_
  refine st (g_assign rfl) rfl ?_
  refine done ?_
  refine th_n ?_
  refine ret ?_
  refine th_r ?_
  exact retG rfl (fun a w2 ha hw2 => ⟨resc3 ha rfl rfl rfl rfl ag_73 rfl (hw2.get .here), z0, by unfold ldOk; rw [e2]; exact hz0, by unfold ldv; rw [e1, e2, e3, e4], by unfold ldR; rw [e2]; exact Sat.left (hw2.split (A := [_, _, _, _, _, _]) (.cons (.there (.there (.there (.there (.here))))) (.cons (.there (.there (.there (.there (.there (.here)))))) (.cons (.there (.there (.there (.there (.there (.here)))))) (.cons (.there (.there (.there (.there (.there (.here)))))) (.cons (.there (.there (.there (.there (.there (.here)))))) (.cons (.there (.there (.there (.there (.there (.here)))))) .nil)))))))⟩)

theorem f58_y1 (b : Nat) (k : Dk) (hk : k.ok) (r : Rr) (hro : r.ok k) (h0 : (k.rd 0).1 = 0) (h1 : (k.rd 1).1 = 0) (hx : (decR (k.rd 0).2).2.2 = 0) (hy : (decR (k.rd 1).2).2.2 = 0) (hle : ¬ (decR (k.rd 1).2).1 ≤ (decR (k.rd 0).2).1) (w : World) (hA : Sat w (fps (rkR b k r)) (rkR b k r) w) : Calls Tryd.prog 58 [.pointer (some ⟨b, 0, none⟩)].toArray w (fun en w2 => ∃ y : Option Addr × Nat, ldOk k.load y ∧ en = .returned (.tuple #[.agg (ldv k.load y).toArray, I64 k.load.nx, I64 k.load.w]) ∧ Sat w (fps (rkR b k r)) (ldR k.load y :: rkR b k r) w2) := by
  have hl0 := rd_len k hk 0
  have hl1 := rd_len k hk 1
  obtain ⟨e1, e2, e3, e4⟩ := load_y h0 h1 hy (.inr hle)
  refine enter (n := 59) Tryd.func58 rfl rfl rfl hA ?_
  refine seq ?_
  refine region ?_
  refine sq rfl (o_alloc (zs := [U64 0#64, .slice none 0 0]) zr_73 rfl (fun b2 => ?_))
  refine st (g_assign rfl) rfl ?_
  refine st (g_assign rfl) rfl ?_
  refine done ?_
  refine th_n ?_
  refine seq ?_
  refine region ?_
  refine st (g_move rfl) rfl ?_
  refine sq rfl (o_call Tryd.func90 rfl rfl rfl (.cons (.there (.here)) (.cons (.there (.here)) (.cons (.there (.here)) (.cons (.there (.here)) (.cons (.there (.here)) .nil))))) (fun w hw hA => f90_rd b k hk r hro 0 w hA) rfl (fun y0 hy0 => ?_))
  refine st (g_move rfl) rfl ?_
  refine st (g_extract rfl rfl) rfl ?_
  refine st (g_extract rfl rfl) rfl ?_
  refine st (g_assign rfl) rfl ?_
  refine st (g_assign rfl) rfl ?_
  refine done ?_
  refine th_n ?_
  refine seq ?_
  refine seq ?_
  refine region ?_
  refine st (g_move rfl) rfl ?_
  refine st (g_F rfl rfl rfl (fun h => h h0)) rfl ?_
  refine done ?_
  refine th_n ?_
  refine condF rfl ?_
  refine skip ?_
  refine th_n ?_
  refine seq ?_
  refine region ?_
  refine st (g_move rfl) rfl ?_
  refine sq rfl (o_call Tryd.func90 rfl rfl rfl (.cons (.there (.here)) (.cons (.there (.here)) (.cons (.there (.here)) (.cons (.there (.here)) (.cons (.there (.here)) .nil))))) (fun w hw hA => f90_rd b k hk r hro 1 w hA) rfl (fun y1 hy1 => ?_))
  refine st (g_move rfl) rfl ?_
  refine st (g_extract rfl rfl) rfl ?_
  refine st (g_extract rfl rfl) rfl ?_
  refine st (g_assign rfl) rfl ?_
  refine st (g_assign rfl) rfl ?_
  refine done ?_
  refine th_n ?_
  refine seq ?_
  refine seq ?_
  refine region ?_
  refine st (g_move rfl) rfl ?_
  refine st (g_F rfl rfl rfl (fun h => h h1)) rfl ?_
  refine done ?_
  refine th_n ?_
  refine condF rfl ?_
  refine skip ?_
  refine th_n ?_
  refine seq ?_
  refine region ?_
  refine st (g_move rfl) rfl ?_
  refine sq rfl (o_call Tryd.func48 rfl rfl rfl .nil (fun w hw hA => f48_all y0.1 _ y0.2 (k.rd 0).2 rfl hy0.1 hy0.2 (by omega) w (RdC.ofVec (hw.get (.there (.there (.there (.there (.there (.there (.here)))))))))) rfl (fun z0 hz0 => ?_))
  refine st (g_move rfl) rfl ?_
  refine st (g_extract rfl rfl) rfl ?_
  refine st (g_extract rfl rfl) rfl ?_
  refine sq rfl (o_alloc (zs := [U64 0#64, .slice none 0 0]) zr_73 rfl (fun b9 => ?_))
  refine sq rfl (o_storeA (cs' := [U64 (decR (k.rd 0).2).1, slv (decR (k.rd 0).2).2.1.length z0]) sz_73 rfl rfl rfl (by simp; exact ⟨rfl, rfl⟩) .here (Nat.le_of_ble_eq_true rfl) rfl ?_)
  refine st (g_assign rfl) rfl ?_
  refine done ?_
  refine th_n ?_
  refine seq ?_
  refine region ?_
  refine st (g_move rfl) rfl ?_
  refine sq rfl (o_call Tryd.func48 rfl rfl rfl .nil (fun w hw hA => f48_all y1.1 _ y1.2 (k.rd 1).2 rfl hy1.1 hy1.2 (by omega) w (RdC.ofVec (hw.get (.there (.there (.here)))))) rfl (fun z1 hz1 => ?_))
  refine st (g_move rfl) rfl ?_
  refine st (g_extract rfl rfl) rfl ?_
  refine st (g_extract rfl rfl) rfl ?_
  refine sq rfl (o_alloc (zs := [U64 0#64, .slice none 0 0]) zr_73 rfl (fun b11 => ?_))
  refine sq rfl (o_storeA (cs' := [U64 (decR (k.rd 1).2).1, slv (decR (k.rd 1).2).2.1.length z1]) sz_73 rfl rfl rfl (by simp; exact ⟨rfl, rfl⟩) .here (Nat.le_of_ble_eq_true rfl) rfl ?_)
  refine st (g_assign rfl) rfl ?_
  refine done ?_
  refine th_n ?_
  refine seq ?_
  refine seq ?_
  refine region ?_
  refine st (g_move rfl) rfl ?_
  refine st (g_T rfl rfl rfl (hx)) rfl ?_
  refine st (g_move rfl) rfl ?_
  refine gt rfl ?_
  refine st (g_move rfl) rfl ?_
  refine gt rfl ?_
  refine st (g_F rfl rfl rfl (fun h => h hy)) rfl ?_
  refine gt rfl ?_
  refine st (g_move rfl) rfl ?_
  refine gt rfl ?_
  refine st (g_fieldAddr fo_73_0 rfl rfl) rfl ?_
  refine gt rfl ?_
  refine st (g_load (v := U64 (decR (k.rd 0).2).1) sc_34 rfl (Cell.own (.there (.there (.here))) rfl)) rfl ?_
  refine gt rfl ?_
  refine st (g_fieldAddr fo_73_0 rfl rfl) rfl ?_
  refine gt rfl ?_
  refine st (g_load (v := U64 (decR (k.rd 1).2).1) sc_34 rfl (Cell.own .here rfl)) rfl ?_
  refine gt rfl ?_
  refine st (g_F rfl rfl rfl (fun hh => hle (BitVec.le_def.2 (by omega)))) rfl ?_
  refine gt rfl ?_
  refine st (g_pickF rfl rfl) rfl ?_
  refine st (g_pickT rfl rfl) rfl ?_
  refine done ?_
  refine th_n ?_
  refine condF rfl ?_
  refine skip ?_
  refine th_n ?_
  refine seq ?_
  refine seq ?_
  refine region ?_
  refine st (g_move rfl) rfl ?_
  refine st (g_T rfl rfl rfl (hy)) rfl ?_
  refine done ?_
  refine th_n ?_
  refine condT rfl ?_
  refine seq ?_
  refine region ?_
  refine st (g_loadA (vs := [U64 (decR (k.rd 1).2).1, slv (decR (k.rd 1).2).2.1.length z1]) ag_73 rfl rfl (Cells.part .here rfl)) rfl ?_
  refine sq rfl (o_storeA (cs' := [U64 (decR (k.rd 1).2).1, slv (decR (k.rd 1).2).2.1.length z1]) sz_73 rfl rfl rfl (by simp [Value.oneCell']) (.there (.there (.there (.there (.there (.there (.there (.there (.there (.there (.there (.here)))))))))))) (Nat.le_of_ble_eq_true rfl) rfl ?_)
  refine st (g_assign rfl) rfl ?_
  refine st (g_assign rfl) rfl ?_
  refine done ?_
  refine th_n ?_
  refine ret ?_
  refine th_r ?_
  exact retG rfl (fun a w2 ha hw2 => ⟨resc3 ha rfl rfl rfl rfl ag_73 rfl (hw2.get .here), z1, by unfold ldOk; rw [e2]; exact hz1, by unfold ldv; rw [e1, e2, e3, e4], by unfold ldR; rw [e2]; exact Sat.left (hw2.split (A := [_, _, _, _, _, _]) (.cons (.there (.there (.here))) (.cons (.there (.there (.there (.there (.there (.here)))))) (.cons (.there (.there (.there (.there (.there (.here)))))) (.cons (.there (.there (.there (.there (.there (.here)))))) (.cons (.there (.there (.there (.there (.there (.here)))))) (.cons (.there (.there (.there (.there (.there (.here)))))) .nil)))))))⟩)

theorem f58_y2 (b : Nat) (k : Dk) (hk : k.ok) (r : Rr) (hro : r.ok k) (h0 : (k.rd 0).1 = 0) (h1 : (k.rd 1).1 = 0) (hx : ¬ (decR (k.rd 0).2).2.2 = 0) (hy : (decR (k.rd 1).2).2.2 = 0) (w : World) (hA : Sat w (fps (rkR b k r)) (rkR b k r) w) : Calls Tryd.prog 58 [.pointer (some ⟨b, 0, none⟩)].toArray w (fun en w2 => ∃ y : Option Addr × Nat, ldOk k.load y ∧ en = .returned (.tuple #[.agg (ldv k.load y).toArray, I64 k.load.nx, I64 k.load.w]) ∧ Sat w (fps (rkR b k r)) (ldR k.load y :: rkR b k r) w2) := by
  have hl0 := rd_len k hk 0
  have hl1 := rd_len k hk 1
  obtain ⟨e1, e2, e3, e4⟩ := load_y h0 h1 hy (.inl hx)
  refine enter (n := 59) Tryd.func58 rfl rfl rfl hA ?_
  refine seq ?_
  refine region ?_
  refine sq rfl (o_alloc (zs := [U64 0#64, .slice none 0 0]) zr_73 rfl (fun b2 => ?_))
  refine st (g_assign rfl) rfl ?_
  refine st (g_assign rfl) rfl ?_
  refine done ?_
  refine th_n ?_
  refine seq ?_
  refine region ?_
  refine st (g_move rfl) rfl ?_
  refine sq rfl (o_call Tryd.func90 rfl rfl rfl (.cons (.there (.here)) (.cons (.there (.here)) (.cons (.there (.here)) (.cons (.there (.here)) (.cons (.there (.here)) .nil))))) (fun w hw hA => f90_rd b k hk r hro 0 w hA) rfl (fun y0 hy0 => ?_))
  refine st (g_move rfl) rfl ?_
  refine st (g_extract rfl rfl) rfl ?_
  refine st (g_extract rfl rfl) rfl ?_
  refine st (g_assign rfl) rfl ?_
  refine st (g_assign rfl) rfl ?_
  refine done ?_
  refine th_n ?_
  refine seq ?_
  refine seq ?_
  refine region ?_
  refine st (g_move rfl) rfl ?_
  refine st (g_F rfl rfl rfl (fun h => h h0)) rfl ?_
  refine done ?_
  refine th_n ?_
  refine condF rfl ?_
  refine skip ?_
  refine th_n ?_
  refine seq ?_
  refine region ?_
  refine st (g_move rfl) rfl ?_
  refine sq rfl (o_call Tryd.func90 rfl rfl rfl (.cons (.there (.here)) (.cons (.there (.here)) (.cons (.there (.here)) (.cons (.there (.here)) (.cons (.there (.here)) .nil))))) (fun w hw hA => f90_rd b k hk r hro 1 w hA) rfl (fun y1 hy1 => ?_))
  refine st (g_move rfl) rfl ?_
  refine st (g_extract rfl rfl) rfl ?_
  refine st (g_extract rfl rfl) rfl ?_
  refine st (g_assign rfl) rfl ?_
  refine st (g_assign rfl) rfl ?_
  refine done ?_
  refine th_n ?_
  refine seq ?_
  refine seq ?_
  refine region ?_
  refine st (g_move rfl) rfl ?_
  refine st (g_F rfl rfl rfl (fun h => h h1)) rfl ?_
  refine done ?_
  refine th_n ?_
  refine condF rfl ?_
  refine skip ?_
  refine th_n ?_
  refine seq ?_
  refine region ?_
  refine st (g_move rfl) rfl ?_
  refine sq rfl (o_call Tryd.func48 rfl rfl rfl .nil (fun w hw hA => f48_all y0.1 _ y0.2 (k.rd 0).2 rfl hy0.1 hy0.2 (by omega) w (RdC.ofVec (hw.get (.there (.there (.there (.there (.there (.there (.here)))))))))) rfl (fun z0 hz0 => ?_))
  refine st (g_move rfl) rfl ?_
  refine st (g_extract rfl rfl) rfl ?_
  refine st (g_extract rfl rfl) rfl ?_
  refine sq rfl (o_alloc (zs := [U64 0#64, .slice none 0 0]) zr_73 rfl (fun b9 => ?_))
  refine sq rfl (o_storeA (cs' := [U64 (decR (k.rd 0).2).1, slv (decR (k.rd 0).2).2.1.length z0]) sz_73 rfl rfl rfl (by simp; exact ⟨rfl, rfl⟩) .here (Nat.le_of_ble_eq_true rfl) rfl ?_)
  refine st (g_assign rfl) rfl ?_
  refine done ?_
  refine th_n ?_
  refine seq ?_
  refine region ?_
  refine st (g_move rfl) rfl ?_
  refine sq rfl (o_call Tryd.func48 rfl rfl rfl .nil (fun w hw hA => f48_all y1.1 _ y1.2 (k.rd 1).2 rfl hy1.1 hy1.2 (by omega) w (RdC.ofVec (hw.get (.there (.there (.here)))))) rfl (fun z1 hz1 => ?_))
  refine st (g_move rfl) rfl ?_
  refine st (g_extract rfl rfl) rfl ?_
  refine st (g_extract rfl rfl) rfl ?_
  refine sq rfl (o_alloc (zs := [U64 0#64, .slice none 0 0]) zr_73 rfl (fun b11 => ?_))
  refine sq rfl (o_storeA (cs' := [U64 (decR (k.rd 1).2).1, slv (decR (k.rd 1).2).2.1.length z1]) sz_73 rfl rfl rfl (by simp; exact ⟨rfl, rfl⟩) .here (Nat.le_of_ble_eq_true rfl) rfl ?_)
  refine st (g_assign rfl) rfl ?_
  refine done ?_
  refine th_n ?_
  refine seq ?_
  refine seq ?_
  refine region ?_
  refine st (g_move rfl) rfl ?_
  refine st (g_F rfl rfl rfl (hx)) rfl ?_
  refine st (g_move rfl) rfl ?_
  refine gf rfl rfl ?_
  refine gf rfl rfl ?_
  refine gf rfl rfl ?_
  refine gfu rfl rfl ?_
  refine gfu rfl rfl ?_
  refine gfu rfl rfl ?_
  refine gfu rfl rfl ?_
  refine gfu rfl rfl ?_
  refine gf rfl rfl ?_
  refine st (g_pickF rfl rfl) rfl ?_
  refine done ?_
  refine th_n ?_
  refine condF rfl ?_
  refine skip ?_
  refine th_n ?_
  refine seq ?_
  refine seq ?_
  refine region ?_
  refine st (g_move rfl) rfl ?_
  refine st (g_T rfl rfl rfl (hy)) rfl ?_
  refine done ?_
  refine th_n ?_
  refine condT rfl ?_
  refine seq ?_
  refine region ?_
  refine st (g_loadA (vs := [U64 (decR (k.rd 1).2).1, slv (decR (k.rd 1).2).2.1.length z1]) ag_73 rfl rfl (Cells.part .here rfl)) rfl ?_
  refine sq rfl (o_storeA (cs' := [U64 (decR (k.rd 1).2).1, slv (decR (k.rd 1).2).2.1.length z1]) sz_73 rfl rfl rfl (by simp [Value.oneCell']) (.there (.there (.there (.there (.there (.there (.there (.there (.there (.there (.there (.here)))))))))))) (Nat.le_of_ble_eq_true rfl) rfl ?_)
  refine st (g_assign rfl) rfl ?_
  refine st (g_assign rfl) rfl ?_
  refine done ?_
  refine th_n ?_
  refine ret ?_
  refine th_r ?_
  exact retG rfl (fun a w2 ha hw2 => ⟨resc3 ha rfl rfl rfl rfl ag_73 rfl (hw2.get .here), z1, by unfold ldOk; rw [e2]; exact hz1, by unfold ldv; rw [e1, e2, e3, e4], by unfold ldR; rw [e2]; exact Sat.left (hw2.split (A := [_, _, _, _, _, _]) (.cons (.there (.there (.here))) (.cons (.there (.there (.there (.there (.there (.here)))))) (.cons (.there (.there (.there (.there (.there (.here)))))) (.cons (.there (.there (.there (.there (.there (.here)))))) (.cons (.there (.there (.there (.there (.there (.here)))))) (.cons (.there (.there (.there (.there (.there (.here)))))) .nil)))))))⟩)

theorem f58_n (b : Nat) (k : Dk) (hk : k.ok) (r : Rr) (hro : r.ok k) (h0 : (k.rd 0).1 = 0) (h1 : (k.rd 1).1 = 0) (hx : ¬ (decR (k.rd 0).2).2.2 = 0) (hy : ¬ (decR (k.rd 1).2).2.2 = 0) (w : World) (hA : Sat w (fps (rkR b k r)) (rkR b k r) w) : Calls Tryd.prog 58 [.pointer (some ⟨b, 0, none⟩)].toArray w (fun en w2 => ∃ y : Option Addr × Nat, ldOk k.load y ∧ en = .returned (.tuple #[.agg (ldv k.load y).toArray, I64 k.load.nx, I64 k.load.w]) ∧ Sat w (fps (rkR b k r)) (ldR k.load y :: rkR b k r) w2) := by
  have hl0 := rd_len k hk 0
  have hl1 := rd_len k hk 1
  obtain ⟨e1, e2, e3, e4⟩ := load_n h0 h1 hx hy
  refine enter (n := 59) Tryd.func58 rfl rfl rfl hA ?_
  refine seq ?_
  refine region ?_
  refine sq rfl (o_alloc (zs := [U64 0#64, .slice none 0 0]) zr_73 rfl (fun b2 => ?_))
  refine st (g_assign rfl) rfl ?_
  refine st (g_assign rfl) rfl ?_
  refine done ?_
  refine th_n ?_
  refine seq ?_
  refine region ?_
  refine st (g_move rfl) rfl ?_
  refine sq rfl (o_call Tryd.func90 rfl rfl rfl (.cons (.there (.here)) (.cons (.there (.here)) (.cons (.there (.here)) (.cons (.there (.here)) (.cons (.there (.here)) .nil))))) (fun w hw hA => f90_rd b k hk r hro 0 w hA) rfl (fun y0 hy0 => ?_))
  refine st (g_move rfl) rfl ?_
  refine st (g_extract rfl rfl) rfl ?_
  refine st (g_extract rfl rfl) rfl ?_
  refine st (g_assign rfl) rfl ?_
  refine st (g_assign rfl) rfl ?_
  refine done ?_
  refine th_n ?_
  refine seq ?_
  refine seq ?_
  refine region ?_
  refine st (g_move rfl) rfl ?_
  refine st (g_F rfl rfl rfl (fun h => h h0)) rfl ?_
  refine done ?_
  refine th_n ?_
  refine condF rfl ?_
  refine skip ?_
  refine th_n ?_
  refine seq ?_
  refine region ?_
  refine st (g_move rfl) rfl ?_
  refine sq rfl (o_call Tryd.func90 rfl rfl rfl (.cons (.there (.here)) (.cons (.there (.here)) (.cons (.there (.here)) (.cons (.there (.here)) (.cons (.there (.here)) .nil))))) (fun w hw hA => f90_rd b k hk r hro 1 w hA) rfl (fun y1 hy1 => ?_))
  refine st (g_move rfl) rfl ?_
  refine st (g_extract rfl rfl) rfl ?_
  refine st (g_extract rfl rfl) rfl ?_
  refine st (g_assign rfl) rfl ?_
  refine st (g_assign rfl) rfl ?_
  refine done ?_
  refine th_n ?_
  refine seq ?_
  refine seq ?_
  refine region ?_
  refine st (g_move rfl) rfl ?_
  refine st (g_F rfl rfl rfl (fun h => h h1)) rfl ?_
  refine done ?_
  refine th_n ?_
  refine condF rfl ?_
  refine skip ?_
  refine th_n ?_
  refine seq ?_
  refine region ?_
  refine st (g_move rfl) rfl ?_
  refine sq rfl (o_call Tryd.func48 rfl rfl rfl .nil (fun w hw hA => f48_all y0.1 _ y0.2 (k.rd 0).2 rfl hy0.1 hy0.2 (by omega) w (RdC.ofVec (hw.get (.there (.there (.there (.there (.there (.there (.here)))))))))) rfl (fun z0 hz0 => ?_))
  refine st (g_move rfl) rfl ?_
  refine st (g_extract rfl rfl) rfl ?_
  refine st (g_extract rfl rfl) rfl ?_
  refine sq rfl (o_alloc (zs := [U64 0#64, .slice none 0 0]) zr_73 rfl (fun b9 => ?_))
  refine sq rfl (o_storeA (cs' := [U64 (decR (k.rd 0).2).1, slv (decR (k.rd 0).2).2.1.length z0]) sz_73 rfl rfl rfl (by simp; exact ⟨rfl, rfl⟩) .here (Nat.le_of_ble_eq_true rfl) rfl ?_)
  refine st (g_assign rfl) rfl ?_
  refine done ?_
  refine th_n ?_
  refine seq ?_
  refine region ?_
  refine st (g_move rfl) rfl ?_
  refine sq rfl (o_call Tryd.func48 rfl rfl rfl .nil (fun w hw hA => f48_all y1.1 _ y1.2 (k.rd 1).2 rfl hy1.1 hy1.2 (by omega) w (RdC.ofVec (hw.get (.there (.there (.here)))))) rfl (fun z1 hz1 => ?_))
  refine st (g_move rfl) rfl ?_
  refine st (g_extract rfl rfl) rfl ?_
  refine st (g_extract rfl rfl) rfl ?_
  refine sq rfl (o_alloc (zs := [U64 0#64, .slice none 0 0]) zr_73 rfl (fun b11 => ?_))
  refine sq rfl (o_storeA (cs' := [U64 (decR (k.rd 1).2).1, slv (decR (k.rd 1).2).2.1.length z1]) sz_73 rfl rfl rfl (by simp; exact ⟨rfl, rfl⟩) .here (Nat.le_of_ble_eq_true rfl) rfl ?_)
  refine st (g_assign rfl) rfl ?_
  refine done ?_
  refine th_n ?_
  refine seq ?_
  refine seq ?_
  refine region ?_
  refine st (g_move rfl) rfl ?_
  refine st (g_F rfl rfl rfl (hx)) rfl ?_
  refine st (g_move rfl) rfl ?_
  refine gf rfl rfl ?_
  refine gf rfl rfl ?_
  refine gf rfl rfl ?_
  refine gfu rfl rfl ?_
  refine gfu rfl rfl ?_
  refine gfu rfl rfl ?_
  refine gfu rfl rfl ?_
  refine gfu rfl rfl ?_
  refine gf rfl rfl ?_
  refine st (g_pickF rfl rfl) rfl ?_
  refine done ?_
  refine th_n ?_
  refine condF rfl ?_
  refine skip ?_
  refine th_n ?_
  refine seq ?_
  refine seq ?_
  refine region ?_
  refine st (g_move rfl) rfl ?_
  refine st (g_F rfl rfl rfl (hy)) rfl ?_
  refine done ?_
  refine th_n ?_
  refine condF rfl ?_
  refine skip ?_
  refine th_n ?_
  refine seq ?_
  refine region ?_
  refine st (g_build rfl bu_73z) rfl ?_
  refine sq rfl (o_storeA (cs' := [U64 0#64, .slice none 0 0]) sz_73 rfl rfl rfl (by simp [Value.oneCell']) (.there (.there (.there (.there (.there (.there (.there (.there (.there (.there (.there (.here)))))))))))) (Nat.le_of_ble_eq_true rfl) rfl ?_)
  refine st (g_assign rfl) rfl ?_
  refine st (g_assign rfl) rfl ?_
  refine done ?_
  refine th_n ?_
  refine ret ?_
  exact retG rfl (fun a w2 ha hw2 => ⟨resc3 ha rfl rfl rfl rfl ag_73 rfl (hw2.get .here), (none, 0), by unfold ldOk; rw [e2]; exact ⟨fun _ => rfl, Nat.le_refl _⟩, by unfold ldv; rw [e1, e2, e3, e4]; rfl, by unfold ldR; rw [e2]; exact new0_vec (Sat.left (hw2.split (.cons (.there (.there (.there (.there (.there (.there (.here))))))) (.cons (.there (.there (.there (.there (.there (.there (.here))))))) (.cons (.there (.there (.there (.there (.there (.there (.here))))))) (.cons (.there (.there (.there (.there (.there (.there (.here))))))) (.cons (.there (.there (.there (.there (.there (.there (.here))))))) .nil))))))) ⟨rfl, .inl ⟨rfl, rfl⟩⟩⟩)

theorem f58_spec (b : Nat) (k : Dk) (hk : k.ok) (r : Rr) (hro : r.ok k) (w : World) (hA : Sat w (fps (rkR b k r)) (rkR b k r) w) : Calls Tryd.prog 58 [.pointer (some ⟨b, 0, none⟩)].toArray w (fun en w2 => ∃ y : Option Addr × Nat, ldOk k.load y ∧ en = .returned (.tuple #[.agg (ldv k.load y).toArray, I64 k.load.nx, I64 k.load.w]) ∧ Sat w (fps (rkR b k r)) (ldR k.load y :: rkR b k r) w2) := by
  by_cases h0 : (k.rd 0).1 = 0
  · by_cases h1 : (k.rd 1).1 = 0
    · by_cases hx : (decR (k.rd 0).2).2.2 = 0
      · by_cases hy : (decR (k.rd 1).2).2.2 = 0
        · by_cases hle : (decR (k.rd 1).2).1 ≤ (decR (k.rd 0).2).1
          · exact f58_x2 b k hk r hro h0 h1 hx hy hle w hA
          · exact f58_y1 b k hk r hro h0 h1 hx hy hle w hA
        · exact f58_x1 b k hk r hro h0 h1 hx hy w hA
      · by_cases hy : (decR (k.rd 1).2).2.2 = 0
        · exact f58_y2 b k hk r hro h0 h1 hx hy w hA
        · exact f58_n b k hk r hro h0 h1 hx hy w hA
    · exact f58_e1 b k hk r hro h0 h1 w hA
  · exact f58_e0 b k hk r hro h0 w hA
end Go.Proofs.YtokhediaibdkjaaDoor

/-! From NC -/
/- Ref18's Save. (printed by gen1.py) -/
namespace Go.Proofs.YtokhediaibdkjaaDoor
open Go.Pm Go.RowKit
set_option maxRecDepth 100000
theorem f38_a (b : Nat) (k : Dk) (hk : k.ok) (r : Rr) (hro : r.ok k) (p : Option Addr) (n c : Nat) (l : List UInt8) (hl : l.length = n) (hpn : p = none → c = 0) (hnc : n ≤ c) (w : World) (hA : Sat w (fps (rkR b k r)) (rkR b k r) w) (hr : RdS w (fps (rkR b k r)) p (l.map B8)) (hw0 : k.load.w ≠ 0) : Calls Tryd.prog 38 [.pointer (some ⟨b, 0, none⟩), .slice p n c].toArray w (fun en w2 => ∃ x : (Option Addr × Nat) × Rr, (ldOk (Ld.err k.load.w) x.1 ∧ x.2.ok k) ∧ en = .returned (.tuple #[.agg (ldv (Ld.err k.load.w) x.1).toArray, I64 (Ld.err k.load.w).w]) ∧ Sat w (fps (rkR b k r)) (ldR (Ld.err k.load.w) x.1 :: rkR b k x.2) w2) := by
  refine used hk (used hro (used hl (used hpn (used hnc (used hA (used hr (used hw0 (?_))))))))
  refine enter (n := 60) Tryd.func38 rfl rfl rfl hA ?_
  refine seq ?_
  refine region ?_
  refine sq rfl (o_alloc (zs := [U64 0#64, .slice none 0 0]) zr_73 rfl (fun b4 => ?_))
  refine st (g_assign rfl) rfl ?_
  refine done ?_
  refine th_n ?_
  refine seq ?_
  refine region ?_
  refine st (g_move rfl) rfl ?_
  refine sq rfl (o_call Tryd.func58 rfl rfl rfl (.cons (.there (.here)) (.cons (.there (.here)) (.cons (.there (.here)) (.cons (.there (.here)) (.cons (.there (.here)) .nil))))) (fun w hw hA => f58_spec b k hk r hro w hA) rfl (fun y hy => ?_))
  refine st (g_move rfl) rfl ?_
  refine st (g_extract rfl rfl) rfl ?_
  refine st (g_extract rfl rfl) rfl ?_
  refine st (g_extract rfl rfl) rfl ?_
  refine sq rfl (o_alloc (zs := [U64 0#64, .slice none 0 0]) zr_73 rfl (fun b6 => ?_))
  refine sq rfl (o_storeA (cs' := ldv k.load y) sz_73 rfl rfl rfl (by simp [ldv]; exact ⟨rfl, rfl⟩) .here (Nat.le_of_ble_eq_true rfl) rfl ?_)
  refine st (g_assign rfl) rfl ?_
  refine st (g_assign rfl) rfl ?_
  refine done ?_
  refine th_n ?_
  refine seq ?_
  refine seq ?_
  refine region ?_
  refine st (g_move rfl) rfl ?_
  refine st (g_T rfl rfl rfl (hw0)) rfl ?_
  refine done ?_
  refine th_n ?_
  refine condT rfl ?_
  refine seq ?_
  refine region ?_
  refine st (g_build rfl bu_73z) rfl ?_
  refine st (g_move rfl) rfl ?_
  refine sq rfl (o_storeA (cs' := [U64 0#64, .slice none 0 0]) sz_73 rfl rfl rfl (by simp [Value.oneCell']) (.there (.there (.there (.there (.there (.there (.there (.here)))))))) (Nat.le_of_ble_eq_true rfl) rfl ?_)
  refine st (g_assign rfl) rfl ?_
  refine done ?_
  refine th_n ?_
  refine ret ?_
  refine th_r ?_
  exact retG rfl (fun a w2 ha hw2 => ⟨resc2 ha rfl rfl rfl ag_73 rfl (hw2.get .here), ((none, 0), r), ⟨⟨fun _ => rfl, Nat.le_refl _⟩, hro⟩, rfl, new0_vec (Sat.left (hw2.split (.cons (.there (.there (.there (.here)))) (.cons (.there (.there (.there (.here)))) (.cons (.there (.there (.there (.here)))) (.cons (.there (.there (.there (.here)))) (.cons (.there (.there (.there (.here)))) .nil))))))) ⟨rfl, .inl ⟨rfl, rfl⟩⟩⟩)

theorem f38_b (b : Nat) (k : Dk) (hk : k.ok) (r : Rr) (hro : r.ok k) (p : Option Addr) (n c : Nat) (l : List UInt8) (hl : l.length = n) (hpn : p = none → c = 0) (hnc : n ≤ c) (w : World) (hA : Sat w (fps (rkR b k r)) (rkR b k r) w) (hr : RdS w (fps (rkR b k r)) p (l.map B8)) (hw0 : k.load.w = 0) (h24 : n ≠ 24) : Calls Tryd.prog 38 [.pointer (some ⟨b, 0, none⟩), .slice p n c].toArray w (fun en w2 => ∃ x : (Option Addr × Nat) × Rr, (ldOk (Ld.err 180) x.1 ∧ x.2.ok k) ∧ en = .returned (.tuple #[.agg (ldv (Ld.err 180) x.1).toArray, I64 (Ld.err 180).w]) ∧ Sat w (fps (rkR b k r)) (ldR (Ld.err 180) x.1 :: rkR b k x.2) w2) := by
  refine used hk (used hro (used hl (used hpn (used hnc (used hA (used hr (used hw0 (used h24 (?_)))))))))
  refine enter (n := 60) Tryd.func38 rfl rfl rfl hA ?_
  refine seq ?_
  refine region ?_
  refine sq rfl (o_alloc (zs := [U64 0#64, .slice none 0 0]) zr_73 rfl (fun b4 => ?_))
  refine st (g_assign rfl) rfl ?_
  refine done ?_
  refine th_n ?_
  refine seq ?_
  refine region ?_
  refine st (g_move rfl) rfl ?_
  refine sq rfl (o_call Tryd.func58 rfl rfl rfl (.cons (.there (.here)) (.cons (.there (.here)) (.cons (.there (.here)) (.cons (.there (.here)) (.cons (.there (.here)) .nil))))) (fun w hw hA => f58_spec b k hk r hro w hA) rfl (fun y hy => ?_))
  refine st (g_move rfl) rfl ?_
  refine st (g_extract rfl rfl) rfl ?_
  refine st (g_extract rfl rfl) rfl ?_
  refine st (g_extract rfl rfl) rfl ?_
  refine sq rfl (o_alloc (zs := [U64 0#64, .slice none 0 0]) zr_73 rfl (fun b6 => ?_))
  refine sq rfl (o_storeA (cs' := ldv k.load y) sz_73 rfl rfl rfl (by simp [ldv]; exact ⟨rfl, rfl⟩) .here (Nat.le_of_ble_eq_true rfl) rfl ?_)
  refine st (g_assign rfl) rfl ?_
  refine st (g_assign rfl) rfl ?_
  refine done ?_
  refine th_n ?_
  refine seq ?_
  refine seq ?_
  refine region ?_
  refine st (g_move rfl) rfl ?_
  refine st (g_F rfl rfl rfl (fun h => h hw0)) rfl ?_
  refine done ?_
  refine th_n ?_
  refine condF rfl ?_
  refine skip ?_
  refine th_n ?_
  refine seq ?_
  refine seq ?_
  refine region ?_
  refine st (g_move rfl) rfl ?_
  refine st (g_len el_23 rfl) rfl ?_
  refine st (g_T rfl rfl rfl (by omega)) rfl ?_
  refine st (g_move rfl) rfl ?_
  refine gf rfl rfl ?_
  refine gf rfl rfl ?_
  refine gf rfl rfl ?_
  refine st (g_pickT rfl rfl) rfl ?_
  refine done ?_
  refine th_n ?_
  refine condT rfl ?_
  refine seq ?_
  refine region ?_
  refine st (g_build rfl bu_73z) rfl ?_
  refine sq rfl (o_storeA (cs' := [U64 0#64, .slice none 0 0]) sz_73 rfl rfl rfl (by simp [Value.oneCell']) (.there (.there (.there (.there (.there (.there (.there (.here)))))))) (Nat.le_of_ble_eq_true rfl) rfl ?_)
  refine st (g_assign rfl) rfl ?_
  refine done ?_
  refine th_n ?_
  refine ret ?_
  refine th_r ?_
  exact retG rfl (fun a w2 ha hw2 => ⟨resc2 ha rfl rfl rfl ag_73 rfl (hw2.get .here), ((none, 0), r), ⟨⟨fun _ => rfl, Nat.le_refl _⟩, hro⟩, rfl, new0_vec (Sat.left (hw2.split (.cons (.there (.there (.there (.here)))) (.cons (.there (.there (.there (.here)))) (.cons (.there (.there (.there (.here)))) (.cons (.there (.there (.there (.here)))) (.cons (.there (.there (.there (.here)))) .nil))))))) ⟨rfl, .inl ⟨rfl, rfl⟩⟩⟩)

theorem f38_c (b : Nat) (k : Dk) (hk : k.ok) (r : Rr) (hro : r.ok k) (p : Option Addr) (n c : Nat) (l : List UInt8) (hl : l.length = n) (hpn : p = none → c = 0) (hnc : n ≤ c) (w : World) (hA : Sat w (fps (rkR b k r)) (rkR b k r) w) (hr : RdS w (fps (rkR b k r)) p (l.map B8)) (hw0 : k.load.w = 0) (h24 : n = 24) (hmx : k.load.n = 18446744073709551615#64) : Calls Tryd.prog 38 [.pointer (some ⟨b, 0, none⟩), .slice p n c].toArray w (fun en w2 => ∃ x : (Option Addr × Nat) × Rr, (ldOk (Ld.err 180) x.1 ∧ x.2.ok k) ∧ en = .returned (.tuple #[.agg (ldv (Ld.err 180) x.1).toArray, I64 (Ld.err 180).w]) ∧ Sat w (fps (rkR b k r)) (ldR (Ld.err 180) x.1 :: rkR b k x.2) w2) := by
  refine used hk (used hro (used hl (used hpn (used hnc (used hA (used hr (used hw0 (used h24 (used hmx (?_))))))))))
  refine enter (n := 60) Tryd.func38 rfl rfl rfl hA ?_
  refine seq ?_
  refine region ?_
  refine sq rfl (o_alloc (zs := [U64 0#64, .slice none 0 0]) zr_73 rfl (fun b4 => ?_))
  refine st (g_assign rfl) rfl ?_
  refine done ?_
  refine th_n ?_
  refine seq ?_
  refine region ?_
  refine st (g_move rfl) rfl ?_
  refine sq rfl (o_call Tryd.func58 rfl rfl rfl (.cons (.there (.here)) (.cons (.there (.here)) (.cons (.there (.here)) (.cons (.there (.here)) (.cons (.there (.here)) .nil))))) (fun w hw hA => f58_spec b k hk r hro w hA) rfl (fun y hy => ?_))
  refine st (g_move rfl) rfl ?_
  refine st (g_extract rfl rfl) rfl ?_
  refine st (g_extract rfl rfl) rfl ?_
  refine st (g_extract rfl rfl) rfl ?_
  refine sq rfl (o_alloc (zs := [U64 0#64, .slice none 0 0]) zr_73 rfl (fun b6 => ?_))
  refine sq rfl (o_storeA (cs' := ldv k.load y) sz_73 rfl rfl rfl (by simp [ldv]; exact ⟨rfl, rfl⟩) .here (Nat.le_of_ble_eq_true rfl) rfl ?_)
  refine st (g_assign rfl) rfl ?_
  refine st (g_assign rfl) rfl ?_
  refine done ?_
  refine th_n ?_
  refine seq ?_
  refine seq ?_
  refine region ?_
  refine st (g_move rfl) rfl ?_
  refine st (g_F rfl rfl rfl (fun h => h hw0)) rfl ?_
  refine done ?_
  refine th_n ?_
  refine condF rfl ?_
  refine skip ?_
  refine th_n ?_
  refine seq ?_
  refine seq ?_
  refine region ?_
  refine st (g_move rfl) rfl ?_
  refine st (g_len el_23 rfl) rfl ?_
  refine st (g_F rfl rfl rfl (by omega)) rfl ?_
  refine st (g_move rfl) rfl ?_
  refine gt rfl ?_
  refine st (g_fieldAddr fo_73_0 rfl rfl) rfl ?_
  refine gt rfl ?_
  refine st (g_load (v := U64 k.load.n) sc_34 rfl (Cell.own .here rfl)) rfl ?_
  refine gt rfl ?_
  refine st (g_T rfl rfl rfl (by rw [hmx]; rfl)) rfl ?_
  refine st (g_pickF rfl rfl) rfl ?_
  refine done ?_
  refine th_n ?_
  refine condT rfl ?_
  refine seq ?_
  refine region ?_
  refine st (g_build rfl bu_73z) rfl ?_
  refine sq rfl (o_storeA (cs' := [U64 0#64, .slice none 0 0]) sz_73 rfl rfl rfl (by simp [Value.oneCell']) (.there (.there (.there (.there (.there (.there (.there (.here)))))))) (Nat.le_of_ble_eq_true rfl) rfl ?_)
  refine st (g_assign rfl) rfl ?_
  refine done ?_
  refine th_n ?_
  refine ret ?_
  refine th_r ?_
  exact retG rfl (fun a w2 ha hw2 => ⟨resc2 ha rfl rfl rfl ag_73 rfl (hw2.get .here), ((none, 0), r), ⟨⟨fun _ => rfl, Nat.le_refl _⟩, hro⟩, rfl, new0_vec (Sat.left (hw2.split (.cons (.there (.there (.there (.here)))) (.cons (.there (.there (.there (.here)))) (.cons (.there (.there (.there (.here)))) (.cons (.there (.there (.there (.here)))) (.cons (.there (.there (.there (.here)))) .nil))))))) ⟨rfl, .inl ⟨rfl, rfl⟩⟩⟩)

theorem f38_d (b : Nat) (k : Dk) (hk : k.ok) (r : Rr) (hro : r.ok k) (p : Option Addr) (n c : Nat) (l : List UInt8) (hl : l.length = n) (hpn : p = none → c = 0) (hnc : n ≤ c) (w : World) (hA : Sat w (fps (rkR b k r)) (rkR b k r) w) (hr : RdS w (fps (rkR b k r)) p (l.map B8)) (hw0 : k.load.w = 0) (h24 : n = 24) (hmx : ¬ k.load.n = 18446744073709551615#64) (h1 : (k.write k.load.nx (encW (k.load.n + 1#64) l)).1 ≠ 0) : Calls Tryd.prog 38 [.pointer (some ⟨b, 0, none⟩), .slice p n c].toArray w (fun en w2 => ∃ x : (Option Addr × Nat) × Rr, (ldOk (Ld.err (k.write k.load.nx (encW (k.load.n + 1#64) l)).1) x.1 ∧ x.2.ok (k.write k.load.nx (encW (k.load.n + 1#64) l)).2) ∧ en = .returned (.tuple #[.agg (ldv (Ld.err (k.write k.load.nx (encW (k.load.n + 1#64) l)).1) x.1).toArray, I64 (Ld.err (k.write k.load.nx (encW (k.load.n + 1#64) l)).1).w]) ∧ Sat w (fps (rkR b k r)) (ldR (Ld.err (k.write k.load.nx (encW (k.load.n + 1#64) l)).1) x.1 :: rkR b (k.write k.load.nx (encW (k.load.n + 1#64) l)).2 x.2) w2) := by
  subst h24
  refine enter (n := 60) Tryd.func38 rfl rfl rfl hA ?_
  refine seq ?_
  refine region ?_
  refine sq rfl (o_alloc (zs := [U64 0#64, .slice none 0 0]) zr_73 rfl (fun b4 => ?_))
  refine st (g_assign rfl) rfl ?_
  refine done ?_
  refine th_n ?_
  refine seq ?_
  refine region ?_
  refine st (g_move rfl) rfl ?_
  refine sq rfl (o_call Tryd.func58 rfl rfl rfl (.cons (.there (.here)) (.cons (.there (.here)) (.cons (.there (.here)) (.cons (.there (.here)) (.cons (.there (.here)) .nil))))) (fun w hw hA => f58_spec b k hk r hro w hA) rfl (fun y hy => ?_))
  refine st (g_move rfl) rfl ?_
  refine st (g_extract rfl rfl) rfl ?_
  refine st (g_extract rfl rfl) rfl ?_
  refine st (g_extract rfl rfl) rfl ?_
  refine sq rfl (o_alloc (zs := [U64 0#64, .slice none 0 0]) zr_73 rfl (fun b6 => ?_))
  refine sq rfl (o_storeA (cs' := ldv k.load y) sz_73 rfl rfl rfl (by simp [ldv]; exact ⟨rfl, rfl⟩) .here (Nat.le_of_ble_eq_true rfl) rfl ?_)
  refine st (g_assign rfl) rfl ?_
  refine st (g_assign rfl) rfl ?_
  refine done ?_
  refine th_n ?_
  refine seq ?_
  refine seq ?_
  refine region ?_
  refine st (g_move rfl) rfl ?_
  refine st (g_F rfl rfl rfl (fun h => h hw0)) rfl ?_
  refine done ?_
  refine th_n ?_
  refine condF rfl ?_
  refine skip ?_
  refine th_n ?_
  refine seq ?_
  refine seq ?_
  refine region ?_
  refine st (g_move rfl) rfl ?_
  refine st (g_len el_23 rfl) rfl ?_
  refine st (g_F rfl rfl rfl (by omega)) rfl ?_
  refine st (g_move rfl) rfl ?_
  refine gt rfl ?_
  refine st (g_fieldAddr fo_73_0 rfl rfl) rfl ?_
  refine gt rfl ?_
  refine st (g_load (v := U64 k.load.n) sc_34 rfl (Cell.own .here rfl)) rfl ?_
  refine gt rfl ?_
  refine st (g_F rfl rfl rfl (u64_nm hmx)) rfl ?_
  refine st (g_pickF rfl rfl) rfl ?_
  refine done ?_
  refine th_n ?_
  refine condF rfl ?_
  refine skip ?_
  refine th_n ?_
  refine seq ?_
  refine region ?_
  refine st (g_fieldAddr fo_73_0 rfl rfl) rfl ?_
  refine st (g_load (v := U64 k.load.n) sc_34 rfl (Cell.own .here rfl)) rfl ?_
  refine st (g_add64 (b := 1#64) rfl rfl) rfl ?_
  refine st (g_build rfl (bu_73n _)) rfl ?_
  refine sq rfl (o_alloc (zs := [U64 0#64, .slice none 0 0]) zr_73 rfl (fun b9 => ?_))
  refine sq rfl (o_storeA (cs' := [U64 (k.load.n + 1#64), .slice none 0 0]) sz_73 rfl rfl rfl (by simp [Value.oneCell']) .here (Nat.le_of_ble_eq_true rfl) rfl ?_)
  refine done ?_
  refine th_n ?_
  refine seq ?_
  refine At.up (fun w hw => new0_vec (T := 5) (s := 1) hw ⟨rfl, .inl ⟨rfl, rfl⟩⟩) ?_
  refine region ?_
  refine st (g_fieldAddr fo_73_1 rfl rfl) rfl ?_
  refine st (g_load (v := .slice none 0 0) sc_23 rfl (Cell.own (.there (.here)) rfl)) rfl ?_
  refine st (g_move rfl) rfl ?_
  refine sq rfl (o_append (n := 0) (m := 24) (news := l.map B8) un_23 zr_5 sz_5 rfl bt_5 (by decide) rfl rfl .here (by rw [List.length_map, hl]) (RdA.of hr) oneB8 hpn (by decide) (by decide) rfl (fun q1 cap1 hq1 hc1 hq01 => ?_))
  rw [List.nil_append, Nat.zero_add]
  refine st (g_fieldAddr fo_73_1 rfl rfl) rfl ?_
  refine sq rfl (o_store (cs' := [U64 (k.load.n + 1#64), .slice q1 24 cap1]) sz_23 rfl rfl rfl (.there (.here)) (Nat.le_of_ble_eq_true rfl) rfl ?_)
  refine done ?_
  refine th_n ?_
  refine seq ?_
  refine region ?_
  refine st (g_loadA (vs := [U64 (k.load.n + 1#64), .slice q1 24 cap1]) ag_73 rfl rfl (Cells.part .here rfl)) rfl ?_
  refine sq rfl (o_call Tryd.func46 rfl rfl rfl .nil (fun w hw hA => f46_good (k.load.n + 1#64) q1 24 cap1 l hl hq01 (by omega) (max_succ hmx) rfl w (RdC.ofVec (hw.get (.there (.here))))) rfl (fun u hu => ?_))
  refine st (g_move rfl) rfl ?_
  refine st (g_extract rfl rfl) rfl ?_
  refine st (g_extract rfl rfl) rfl ?_
  refine st (g_assign rfl) rfl ?_
  refine st (g_assign rfl) rfl ?_
  refine done ?_
  refine th_n ?_
  refine seq ?_
  refine region ?_
  refine st (g_move rfl) rfl ?_
  refine st (g_move rfl) rfl ?_
  refine st (g_move rfl) rfl ?_
  refine sq rfl (o_call Tryd.func79 rfl rfl rfl (.cons (.there (.there (.there (.there (.there (.here)))))) (.cons (.there (.there (.there (.there (.there (.here)))))) (.cons (.there (.there (.there (.there (.there (.here)))))) (.cons (.there (.there (.there (.there (.there (.here)))))) (.cons (.there (.there (.there (.there (.there (.here)))))) .nil))))) (fun w hw hA => f79_spec b k hk r hro k.load.nx u.1 64 u.2 (encW (k.load.n + 1#64) l) (encW_length _ hl) hu.1 w hA (RdS.ofVec hw (.cons (.there (.there (.there (.there (.there (.here)))))) (.cons (.there (.there (.there (.there (.there (.here)))))) (.cons (.there (.there (.there (.there (.there (.here)))))) (.cons (.there (.there (.there (.there (.there (.here)))))) (.cons (.there (.there (.there (.there (.there (.here)))))) .nil))))) .here)) rfl (fun r2 hr2 => ?_))
  refine st (g_assign rfl) rfl ?_
  refine done ?_
  refine th_n ?_
  refine seq ?_
  refine seq ?_
  refine region ?_
  refine st (g_move rfl) rfl ?_
  refine st (g_T rfl rfl rfl (h1)) rfl ?_
  refine done ?_
  refine th_n ?_
  refine condT rfl ?_
  refine seq ?_
  refine region ?_
  refine st (g_build rfl bu_73z) rfl ?_
  refine st (g_move rfl) rfl ?_
  refine sq rfl (o_storeA (cs' := [U64 0#64, .slice none 0 0]) sz_73 rfl rfl rfl (by simp [Value.oneCell']) (.there (.there (.there (.there (.there (.there (.there (.there (.there (.there (.here))))))))))) (Nat.le_of_ble_eq_true rfl) rfl ?_)
  refine st (g_assign rfl) rfl ?_
  refine done ?_
  refine th_n ?_
  refine ret ?_
  refine th_r ?_
  exact retG rfl (fun a w2 ha hw2 => ⟨resc2 ha rfl rfl rfl ag_73 rfl (hw2.get .here), ((none, 0), r2), ⟨⟨fun _ => rfl, Nat.le_refl _⟩, hr2⟩, rfl, new0_vec (Sat.left (hw2.split (.cons (.there (.here)) (.cons (.there (.here)) (.cons (.there (.here)) (.cons (.there (.here)) (.cons (.there (.here)) .nil))))))) ⟨rfl, .inl ⟨rfl, rfl⟩⟩⟩)

theorem f38_e (b : Nat) (k : Dk) (hk : k.ok) (r : Rr) (hro : r.ok k) (p : Option Addr) (n c : Nat) (l : List UInt8) (hl : l.length = n) (hpn : p = none → c = 0) (hnc : n ≤ c) (w : World) (hA : Sat w (fps (rkR b k r)) (rkR b k r) w) (hr : RdS w (fps (rkR b k r)) p (l.map B8)) (hw0 : k.load.w = 0) (h24 : n = 24) (hmx : ¬ k.load.n = 18446744073709551615#64) (h1 : (k.write k.load.nx (encW (k.load.n + 1#64) l)).1 = 0) (h2 : (k.write k.load.nx (encW (k.load.n + 1#64) l)).2.flush.1 ≠ 0) : Calls Tryd.prog 38 [.pointer (some ⟨b, 0, none⟩), .slice p n c].toArray w (fun en w2 => ∃ x : (Option Addr × Nat) × Rr, (ldOk (Ld.err (k.write k.load.nx (encW (k.load.n + 1#64) l)).2.flush.1) x.1 ∧ x.2.ok (k.write k.load.nx (encW (k.load.n + 1#64) l)).2.flush.2) ∧ en = .returned (.tuple #[.agg (ldv (Ld.err (k.write k.load.nx (encW (k.load.n + 1#64) l)).2.flush.1) x.1).toArray, I64 (Ld.err (k.write k.load.nx (encW (k.load.n + 1#64) l)).2.flush.1).w]) ∧ Sat w (fps (rkR b k r)) (ldR (Ld.err (k.write k.load.nx (encW (k.load.n + 1#64) l)).2.flush.1) x.1 :: rkR b (k.write k.load.nx (encW (k.load.n + 1#64) l)).2.flush.2 x.2) w2) := by
  subst h24
  refine enter (n := 60) Tryd.func38 rfl rfl rfl hA ?_
  refine seq ?_
  refine region ?_
  refine sq rfl (o_alloc (zs := [U64 0#64, .slice none 0 0]) zr_73 rfl (fun b4 => ?_))
  refine st (g_assign rfl) rfl ?_
  refine done ?_
  refine th_n ?_
  refine seq ?_
  refine region ?_
  refine st (g_move rfl) rfl ?_
  refine sq rfl (o_call Tryd.func58 rfl rfl rfl (.cons (.there (.here)) (.cons (.there (.here)) (.cons (.there (.here)) (.cons (.there (.here)) (.cons (.there (.here)) .nil))))) (fun w hw hA => f58_spec b k hk r hro w hA) rfl (fun y hy => ?_))
  refine st (g_move rfl) rfl ?_
  refine st (g_extract rfl rfl) rfl ?_
  refine st (g_extract rfl rfl) rfl ?_
  refine st (g_extract rfl rfl) rfl ?_
  refine sq rfl (o_alloc (zs := [U64 0#64, .slice none 0 0]) zr_73 rfl (fun b6 => ?_))
  refine sq rfl (o_storeA (cs' := ldv k.load y) sz_73 rfl rfl rfl (by simp [ldv]; exact ⟨rfl, rfl⟩) .here (Nat.le_of_ble_eq_true rfl) rfl ?_)
  refine st (g_assign rfl) rfl ?_
  refine st (g_assign rfl) rfl ?_
  refine done ?_
  refine th_n ?_
  refine seq ?_
  refine seq ?_
  refine region ?_
  refine st (g_move rfl) rfl ?_
  refine st (g_F rfl rfl rfl (fun h => h hw0)) rfl ?_
  refine done ?_
  refine th_n ?_
  refine condF rfl ?_
  refine skip ?_
  refine th_n ?_
  refine seq ?_
  refine seq ?_
  refine region ?_
  refine st (g_move rfl) rfl ?_
  refine st (g_len el_23 rfl) rfl ?_
  refine st (g_F rfl rfl rfl (by omega)) rfl ?_
  refine st (g_move rfl) rfl ?_
  refine gt rfl ?_
  refine st (g_fieldAddr fo_73_0 rfl rfl) rfl ?_
  refine gt rfl ?_
  refine st (g_load (v := U64 k.load.n) sc_34 rfl (Cell.own .here rfl)) rfl ?_
  refine gt rfl ?_
  refine st (g_F rfl rfl rfl (u64_nm hmx)) rfl ?_
  refine st (g_pickF rfl rfl) rfl ?_
  refine done ?_
  refine th_n ?_
  refine condF rfl ?_
  refine skip ?_
  refine th_n ?_
  refine seq ?_
  refine region ?_
  refine st (g_fieldAddr fo_73_0 rfl rfl) rfl ?_
  refine st (g_load (v := U64 k.load.n) sc_34 rfl (Cell.own .here rfl)) rfl ?_
  refine st (g_add64 (b := 1#64) rfl rfl) rfl ?_
  refine st (g_build rfl (bu_73n _)) rfl ?_
  refine sq rfl (o_alloc (zs := [U64 0#64, .slice none 0 0]) zr_73 rfl (fun b9 => ?_))
  refine sq rfl (o_storeA (cs' := [U64 (k.load.n + 1#64), .slice none 0 0]) sz_73 rfl rfl rfl (by simp [Value.oneCell']) .here (Nat.le_of_ble_eq_true rfl) rfl ?_)
  refine done ?_
  refine th_n ?_
  refine seq ?_
  refine At.up (fun w hw => new0_vec (T := 5) (s := 1) hw ⟨rfl, .inl ⟨rfl, rfl⟩⟩) ?_
  refine region ?_
  refine st (g_fieldAddr fo_73_1 rfl rfl) rfl ?_
  refine st (g_load (v := .slice none 0 0) sc_23 rfl (Cell.own (.there (.here)) rfl)) rfl ?_
  refine st (g_move rfl) rfl ?_
  refine sq rfl (o_append (n := 0) (m := 24) (news := l.map B8) un_23 zr_5 sz_5 rfl bt_5 (by decide) rfl rfl .here (by rw [List.length_map, hl]) (RdA.of hr) oneB8 hpn (by decide) (by decide) rfl (fun q1 cap1 hq1 hc1 hq01 => ?_))
  rw [List.nil_append, Nat.zero_add]
  refine st (g_fieldAddr fo_73_1 rfl rfl) rfl ?_
  refine sq rfl (o_store (cs' := [U64 (k.load.n + 1#64), .slice q1 24 cap1]) sz_23 rfl rfl rfl (.there (.here)) (Nat.le_of_ble_eq_true rfl) rfl ?_)
  refine done ?_
  refine th_n ?_
  refine seq ?_
  refine region ?_
  refine st (g_loadA (vs := [U64 (k.load.n + 1#64), .slice q1 24 cap1]) ag_73 rfl rfl (Cells.part .here rfl)) rfl ?_
  refine sq rfl (o_call Tryd.func46 rfl rfl rfl .nil (fun w hw hA => f46_good (k.load.n + 1#64) q1 24 cap1 l hl hq01 (by omega) (max_succ hmx) rfl w (RdC.ofVec (hw.get (.there (.here))))) rfl (fun u hu => ?_))
  refine st (g_move rfl) rfl ?_
  refine st (g_extract rfl rfl) rfl ?_
  refine st (g_extract rfl rfl) rfl ?_
  refine st (g_assign rfl) rfl ?_
  refine st (g_assign rfl) rfl ?_
  refine done ?_
  refine th_n ?_
  refine seq ?_
  refine region ?_
  refine st (g_move rfl) rfl ?_
  refine st (g_move rfl) rfl ?_
  refine st (g_move rfl) rfl ?_
  refine sq rfl (o_call Tryd.func79 rfl rfl rfl (.cons (.there (.there (.there (.there (.there (.here)))))) (.cons (.there (.there (.there (.there (.there (.here)))))) (.cons (.there (.there (.there (.there (.there (.here)))))) (.cons (.there (.there (.there (.there (.there (.here)))))) (.cons (.there (.there (.there (.there (.there (.here)))))) .nil))))) (fun w hw hA => f79_spec b k hk r hro k.load.nx u.1 64 u.2 (encW (k.load.n + 1#64) l) (encW_length _ hl) hu.1 w hA (RdS.ofVec hw (.cons (.there (.there (.there (.there (.there (.here)))))) (.cons (.there (.there (.there (.there (.there (.here)))))) (.cons (.there (.there (.there (.there (.there (.here)))))) (.cons (.there (.there (.there (.there (.there (.here)))))) (.cons (.there (.there (.there (.there (.there (.here)))))) .nil))))) .here)) rfl (fun r2 hr2 => ?_))
  refine st (g_assign rfl) rfl ?_
  refine done ?_
  refine th_n ?_
  refine seq ?_
  refine seq ?_
  refine region ?_
  refine st (g_move rfl) rfl ?_
  refine st (g_F rfl rfl rfl (fun h => h h1)) rfl ?_
  refine done ?_
  refine th_n ?_
  refine condF rfl ?_
  refine skip ?_
  refine th_n ?_
  refine seq ?_
  refine region ?_
  refine st (g_move rfl) rfl ?_
  refine sq rfl (o_call Tryd.func80 rfl rfl rfl (.cons .here (.cons .here (.cons .here (.cons .here (.cons .here .nil))))) (fun w hw hA => f80_spec b (k.write k.load.nx (encW (k.load.n + 1#64) l)).2 (k.write_ok hk k.load.nx (encW (k.load.n + 1#64) l)) r2 hr2 w hA) rfl (fun r3 hr3 => ?_))
  refine st (g_assign rfl) rfl ?_
  refine done ?_
  refine th_n ?_
  refine seq ?_
  refine seq ?_
  refine region ?_
  refine st (g_move rfl) rfl ?_
  refine st (g_T rfl rfl rfl (h2)) rfl ?_
  refine done ?_
  refine th_n ?_
  refine condT rfl ?_
  refine seq ?_
  refine region ?_
  refine st (g_build rfl bu_73z) rfl ?_
  refine st (g_move rfl) rfl ?_
  refine sq rfl (o_storeA (cs' := [U64 0#64, .slice none 0 0]) sz_73 rfl rfl rfl (by simp [Value.oneCell']) (.there (.there (.there (.there (.there (.there (.there (.there (.there (.there (.here))))))))))) (Nat.le_of_ble_eq_true rfl) rfl ?_)
  refine st (g_assign rfl) rfl ?_
  refine done ?_
  refine th_n ?_
  refine ret ?_
  refine th_r ?_
  exact retG rfl (fun a w2 ha hw2 => ⟨resc2 ha rfl rfl rfl ag_73 rfl (hw2.get .here), ((none, 0), r3), ⟨⟨fun _ => rfl, Nat.le_refl _⟩, hr3⟩, rfl, new0_vec (Sat.left (hw2.split (.cons (.there (.here)) (.cons (.there (.here)) (.cons (.there (.here)) (.cons (.there (.here)) (.cons (.there (.here)) .nil))))))) ⟨rfl, .inl ⟨rfl, rfl⟩⟩⟩)

theorem f38_f (b : Nat) (k : Dk) (hk : k.ok) (r : Rr) (hro : r.ok k) (p : Option Addr) (n c : Nat) (l : List UInt8) (hl : l.length = n) (hpn : p = none → c = 0) (hnc : n ≤ c) (w : World) (hA : Sat w (fps (rkR b k r)) (rkR b k r) w) (hr : RdS w (fps (rkR b k r)) p (l.map B8)) (hw0 : k.load.w = 0) (h24 : n = 24) (hmx : ¬ k.load.n = 18446744073709551615#64) (h1 : (k.write k.load.nx (encW (k.load.n + 1#64) l)).1 = 0) (h2 : (k.write k.load.nx (encW (k.load.n + 1#64) l)).2.flush.1 = 0) : Calls Tryd.prog 38 [.pointer (some ⟨b, 0, none⟩), .slice p n c].toArray w (fun en w2 => ∃ x : (Option Addr × Nat) × Rr, (ldOk (Ld.mk (k.load.n + 1#64) l 0 0 0) x.1 ∧ x.2.ok (k.write k.load.nx (encW (k.load.n + 1#64) l)).2.flush.2) ∧ en = .returned (.tuple #[.agg (ldv (Ld.mk (k.load.n + 1#64) l 0 0 0) x.1).toArray, I64 (Ld.mk (k.load.n + 1#64) l 0 0 0).w]) ∧ Sat w (fps (rkR b k r)) (ldR (Ld.mk (k.load.n + 1#64) l 0 0 0) x.1 :: rkR b (k.write k.load.nx (encW (k.load.n + 1#64) l)).2.flush.2 x.2) w2) := by
  subst h24
  refine enter (n := 60) Tryd.func38 rfl rfl rfl hA ?_
  refine seq ?_
  refine region ?_
  refine sq rfl (o_alloc (zs := [U64 0#64, .slice none 0 0]) zr_73 rfl (fun b4 => ?_))
  refine st (g_assign rfl) rfl ?_
  refine done ?_
  refine th_n ?_
  refine seq ?_
  refine region ?_
  refine st (g_move rfl) rfl ?_
  refine sq rfl (o_call Tryd.func58 rfl rfl rfl (.cons (.there (.here)) (.cons (.there (.here)) (.cons (.there (.here)) (.cons (.there (.here)) (.cons (.there (.here)) .nil))))) (fun w hw hA => f58_spec b k hk r hro w hA) rfl (fun y hy => ?_))
  refine st (g_move rfl) rfl ?_
  refine st (g_extract rfl rfl) rfl ?_
  refine st (g_extract rfl rfl) rfl ?_
  refine st (g_extract rfl rfl) rfl ?_
  refine sq rfl (o_alloc (zs := [U64 0#64, .slice none 0 0]) zr_73 rfl (fun b6 => ?_))
  refine sq rfl (o_storeA (cs' := ldv k.load y) sz_73 rfl rfl rfl (by simp [ldv]; exact ⟨rfl, rfl⟩) .here (Nat.le_of_ble_eq_true rfl) rfl ?_)
  refine st (g_assign rfl) rfl ?_
  refine st (g_assign rfl) rfl ?_
  refine done ?_
  refine th_n ?_
  refine seq ?_
  refine seq ?_
  refine region ?_
  refine st (g_move rfl) rfl ?_
  refine st (g_F rfl rfl rfl (fun h => h hw0)) rfl ?_
  refine done ?_
  refine th_n ?_
  refine condF rfl ?_
  refine skip ?_
  refine th_n ?_
  refine seq ?_
  refine seq ?_
  refine region ?_
  refine st (g_move rfl) rfl ?_
  refine st (g_len el_23 rfl) rfl ?_
  refine st (g_F rfl rfl rfl (by omega)) rfl ?_
  refine st (g_move rfl) rfl ?_
  refine gt rfl ?_
  refine st (g_fieldAddr fo_73_0 rfl rfl) rfl ?_
  refine gt rfl ?_
  refine st (g_load (v := U64 k.load.n) sc_34 rfl (Cell.own .here rfl)) rfl ?_
  refine gt rfl ?_
  refine st (g_F rfl rfl rfl (u64_nm hmx)) rfl ?_
  refine st (g_pickF rfl rfl) rfl ?_
  refine done ?_
  refine th_n ?_
  refine condF rfl ?_
  refine skip ?_
  refine th_n ?_
  refine seq ?_
  refine region ?_
  refine st (g_fieldAddr fo_73_0 rfl rfl) rfl ?_
  refine st (g_load (v := U64 k.load.n) sc_34 rfl (Cell.own .here rfl)) rfl ?_
  refine st (g_add64 (b := 1#64) rfl rfl) rfl ?_
  refine st (g_build rfl (bu_73n _)) rfl ?_
  refine sq rfl (o_alloc (zs := [U64 0#64, .slice none 0 0]) zr_73 rfl (fun b9 => ?_))
  refine sq rfl (o_storeA (cs' := [U64 (k.load.n + 1#64), .slice none 0 0]) sz_73 rfl rfl rfl (by simp [Value.oneCell']) .here (Nat.le_of_ble_eq_true rfl) rfl ?_)
  refine done ?_
  refine th_n ?_
  refine seq ?_
  refine At.up (fun w hw => new0_vec (T := 5) (s := 1) hw ⟨rfl, .inl ⟨rfl, rfl⟩⟩) ?_
  refine region ?_
  refine st (g_fieldAddr fo_73_1 rfl rfl) rfl ?_
  refine st (g_load (v := .slice none 0 0) sc_23 rfl (Cell.own (.there (.here)) rfl)) rfl ?_
  refine st (g_move rfl) rfl ?_
  refine sq rfl (o_append (n := 0) (m := 24) (news := l.map B8) un_23 zr_5 sz_5 rfl bt_5 (by decide) rfl rfl .here (by rw [List.length_map, hl]) (RdA.of hr) oneB8 hpn (by decide) (by decide) rfl (fun q1 cap1 hq1 hc1 hq01 => ?_))
  rw [List.nil_append, Nat.zero_add]
  refine st (g_fieldAddr fo_73_1 rfl rfl) rfl ?_
  refine sq rfl (o_store (cs' := [U64 (k.load.n + 1#64), .slice q1 24 cap1]) sz_23 rfl rfl rfl (.there (.here)) (Nat.le_of_ble_eq_true rfl) rfl ?_)
  refine done ?_
  refine th_n ?_
  refine seq ?_
  refine region ?_
  refine st (g_loadA (vs := [U64 (k.load.n + 1#64), .slice q1 24 cap1]) ag_73 rfl rfl (Cells.part .here rfl)) rfl ?_
  refine sq rfl (o_call Tryd.func46 rfl rfl rfl .nil (fun w hw hA => f46_good (k.load.n + 1#64) q1 24 cap1 l hl hq01 (by omega) (max_succ hmx) rfl w (RdC.ofVec (hw.get (.there (.here))))) rfl (fun u hu => ?_))
  refine st (g_move rfl) rfl ?_
  refine st (g_extract rfl rfl) rfl ?_
  refine st (g_extract rfl rfl) rfl ?_
  refine st (g_assign rfl) rfl ?_
  refine st (g_assign rfl) rfl ?_
  refine done ?_
  refine th_n ?_
  refine seq ?_
  refine region ?_
  refine st (g_move rfl) rfl ?_
  refine st (g_move rfl) rfl ?_
  refine st (g_move rfl) rfl ?_
  refine sq rfl (o_call Tryd.func79 rfl rfl rfl (.cons (.there (.there (.there (.there (.there (.here)))))) (.cons (.there (.there (.there (.there (.there (.here)))))) (.cons (.there (.there (.there (.there (.there (.here)))))) (.cons (.there (.there (.there (.there (.there (.here)))))) (.cons (.there (.there (.there (.there (.there (.here)))))) .nil))))) (fun w hw hA => f79_spec b k hk r hro k.load.nx u.1 64 u.2 (encW (k.load.n + 1#64) l) (encW_length _ hl) hu.1 w hA (RdS.ofVec hw (.cons (.there (.there (.there (.there (.there (.here)))))) (.cons (.there (.there (.there (.there (.there (.here)))))) (.cons (.there (.there (.there (.there (.there (.here)))))) (.cons (.there (.there (.there (.there (.there (.here)))))) (.cons (.there (.there (.there (.there (.there (.here)))))) .nil))))) .here)) rfl (fun r2 hr2 => ?_))
  refine st (g_assign rfl) rfl ?_
  refine done ?_
  refine th_n ?_
  refine seq ?_
  refine seq ?_
  refine region ?_
  refine st (g_move rfl) rfl ?_
  refine st (g_F rfl rfl rfl (fun h => h h1)) rfl ?_
  refine done ?_
  refine th_n ?_
  refine condF rfl ?_
  refine skip ?_
  refine th_n ?_
  refine seq ?_
  refine region ?_
  refine st (g_move rfl) rfl ?_
  refine sq rfl (o_call Tryd.func80 rfl rfl rfl (.cons .here (.cons .here (.cons .here (.cons .here (.cons .here .nil))))) (fun w hw hA => f80_spec b (k.write k.load.nx (encW (k.load.n + 1#64) l)).2 (k.write_ok hk k.load.nx (encW (k.load.n + 1#64) l)) r2 hr2 w hA) rfl (fun r3 hr3 => ?_))
  refine st (g_assign rfl) rfl ?_
  refine done ?_
  refine th_n ?_
  refine seq ?_
  refine seq ?_
  refine region ?_
  refine st (g_move rfl) rfl ?_
  refine st (g_F rfl rfl rfl (fun h => h h2)) rfl ?_
  refine done ?_
  refine th_n ?_
  refine condF rfl ?_
  refine skip ?_
  refine th_n ?_
  refine seq ?_
  refine region ?_
  refine st (g_loadA (vs := [U64 (k.load.n + 1#64), .slice q1 24 cap1]) ag_73 rfl rfl (Cells.part (.there (.there (.there (.there (.there (.there (.here))))))) rfl)) rfl ?_
  refine sq rfl (o_storeA (cs' := [U64 (k.load.n + 1#64), .slice q1 24 cap1]) sz_73 rfl rfl rfl (by simp [Value.oneCell']) (.there (.there (.there (.there (.there (.there (.there (.there (.there (.there (.here))))))))))) (Nat.le_of_ble_eq_true rfl) rfl ?_)
  refine st (g_assign rfl) rfl ?_
  refine done ?_
  refine th_n ?_
  refine ret ?_
  exact retG rfl (fun a w2 ha hw2 => ⟨resc2 ha rfl rfl rfl ag_73 rfl (hw2.get .here), ((q1, cap1), r3), ⟨⟨hq01, by show l.length ≤ cap1; omega⟩, hr3⟩, (by simp only [ldv, hl]), by simp only [ldR, hl]; exact Sat.left (hw2.split (A := [_, _, _, _, _, _]) (.cons (.there (.there (.there (.there (.there (.there (.there (.there (.here))))))))) (.cons (.there (.here)) (.cons (.there (.here)) (.cons (.there (.here)) (.cons (.there (.here)) (.cons (.there (.here)) .nil)))))))⟩)

theorem f38_spec (b : Nat) (k : Dk) (hk : k.ok) (r : Rr) (hro : r.ok k) (p : Option Addr) (n c : Nat) (l : List UInt8) (hl : l.length = n) (hpn : p = none → c = 0) (hnc : n ≤ c) (w : World) (hA : Sat w (fps (rkR b k r)) (rkR b k r) w) (hr : RdS w (fps (rkR b k r)) p (l.map B8)) : Calls Tryd.prog 38 [.pointer (some ⟨b, 0, none⟩), .slice p n c].toArray w (fun en w2 => ∃ x : (Option Addr × Nat) × Rr, (ldOk (k.save l).1 x.1 ∧ x.2.ok (k.save l).2) ∧ en = .returned (.tuple #[.agg (ldv (k.save l).1 x.1).toArray, I64 (k.save l).1.w]) ∧ Sat w (fps (rkR b k r)) (ldR (k.save l).1 x.1 :: rkR b (k.save l).2 x.2) w2) := by
  by_cases hw0 : k.load.w = 0
  · by_cases h24 : n = 24
    · by_cases hmx : k.load.n = 18446744073709551615#64
      · have e : k.save l = (Ld.err 180, k) := by unfold Dk.save; rw [if_neg (by simpa using hw0), if_pos (.inr hmx)]
        rw [e]; exact f38_c b k hk r hro p n c l hl hpn hnc w hA hr hw0 h24 hmx
      · have hln : ¬ (l.length ≠ 24 ∨ k.load.n = 18446744073709551615#64) := by rintro (h | h); omega; exact hmx h
        by_cases h1 : (k.write k.load.nx (encW (k.load.n + 1#64) l)).1 = 0
        · by_cases h2 : (k.write k.load.nx (encW (k.load.n + 1#64) l)).2.flush.1 = 0
          · have e : k.save l = (Ld.mk (k.load.n + 1#64) l 0 0 0, (k.write k.load.nx (encW (k.load.n + 1#64) l)).2.flush.2) := by unfold Dk.save; rw [if_neg (by simpa using hw0), if_neg hln]; simp only [h1, h2, ne_eq, not_true_eq_false, if_false]
            rw [e]; exact f38_f b k hk r hro p n c l hl hpn hnc w hA hr hw0 h24 hmx h1 h2
          · have e : k.save l = (Ld.err (k.write k.load.nx (encW (k.load.n + 1#64) l)).2.flush.1, (k.write k.load.nx (encW (k.load.n + 1#64) l)).2.flush.2) := by unfold Dk.save; rw [if_neg (by simpa using hw0), if_neg hln]; simp only [h1, h2, ne_eq, not_true_eq_false, if_false, not_false_eq_true, if_true]
            rw [e]; exact f38_e b k hk r hro p n c l hl hpn hnc w hA hr hw0 h24 hmx h1 h2
        · have e : k.save l = (Ld.err (k.write k.load.nx (encW (k.load.n + 1#64) l)).1, (k.write k.load.nx (encW (k.load.n + 1#64) l)).2) := by unfold Dk.save; rw [if_neg (by simpa using hw0), if_neg hln]; simp only [h1, ne_eq, not_false_eq_true, if_true]
          rw [e]; exact f38_d b k hk r hro p n c l hl hpn hnc w hA hr hw0 h24 hmx h1
    · have e : k.save l = (Ld.err 180, k) := by unfold Dk.save; rw [if_neg (by simpa using hw0), if_pos (.inl (by omega))]
      rw [e]; exact f38_b b k hk r hro p n c l hl hpn hnc w hA hr hw0 h24
  · have e : k.save l = (Ld.err k.load.w, k) := by unfold Dk.save; rw [if_pos hw0]
    rw [e]; exact f38_a b k hk r hro p n c l hl hpn hnc w hA hr hw0
end Go.Proofs.YtokhediaibdkjaaDoor
