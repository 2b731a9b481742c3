/- The engine, part 4: slices, strings, appends, copies. -/
import Derived.Test.YtokhediaibdkjaaDoorE3
import Derived.LaidEqlPtr
import Derived.WalkSpells
namespace Go.Pm
open Go.RowKit

/-- A byte as a value. -/
abbrev B8 (x : UInt8) : Value := .int .u8 (x.toNat : Int)

/-- From an address on (or from nowhere, if there are none) lie these cells. -/
def RdC (w : World) (p : Option Addr) (vs : List Value) : Prop := ∀ j u, vs[j]? = some u → ∃ b o, p = some ⟨b, o, none⟩ ∧ w.cell? ⟨b, o + j, none⟩ = some u
def RdA (cx : Cx) (Rs : List Res) (p : Option Addr) (vs : List Value) : Prop := ∀ w, Sat cx.w0 cx.S0 Rs w → RdC w p vs

theorem RdC.nil {w : World} {p : Option Addr} : RdC w p [] := fun j u h => by simp at h

theorem RdA.old {cx : Cx} {Rs : List Res} {p : Option Addr} {vs : List Value} (h : RdC cx.w0 p vs) (hS : ∀ a, p = some a → a.block ∉ cx.S0) : RdA cx Rs p vs := by
  intro w hw j u hj
  obtain ⟨b, o, rfl, hc⟩ := h j u hj
  exact ⟨b, o, rfl, hw.oldCell hc (hS ⟨b, o, none⟩ rfl)⟩

theorem RdA.own {cx : Cx} {Rs B : List Res} {b o : Nat} {T : TypeId} {cs vs : List Value} (hk : Pick (blk b T cs) Rs B) (hv : ∀ j v, vs[j]? = some v → cs[o + j]? = some v) : RdA cx Rs (some ⟨b, o, none⟩) vs :=
  fun w hw j u hj => ⟨b, o, rfl, Cells.own (cx := cx) hk hv w hw j u hj⟩

/-- Behind the first k of n places (of size s). -/
def adv (p : Option Addr) (c k s : Nat) : Option Addr := if c = k then p else p.map (·.add (k * s))
@[simp] theorem adv_zero (p : Option Addr) (c s : Nat) : adv p c 0 s = p := by
  unfold adv
  split
  · rfl
  · cases p <;> simp [Addr.add]

theorem RdC.adv {w : World} {p : Option Addr} {vs : List Value} (h : RdC w p vs) {c k s : Nat} (hc : c = k → vs.length ≤ k * s) : RdC w (adv p c k s) (vs.drop (k * s)) := by
  intro j u hj
  rw [List.getElem?_drop] at hj
  obtain ⟨b, o, rfl, hcell⟩ := h _ u hj
  have hne : c ≠ k := fun he => by
    have := hc he
    have hlt : k * s + j < vs.length := by
      rcases Nat.lt_or_ge (k * s + j) vs.length with h' | h'
      · exact h'
      · simp [List.getElem?_eq_none h'] at hj
    omega
  refine ⟨b, o + k * s, by simp [Pm.adv, hne, add_at], ?_⟩
  rw [Nat.add_assoc]; exact hcell

theorem RdC.take {w : World} {p : Option Addr} {vs : List Value} (h : RdC w p vs) (n : Nat) : RdC w p (vs.take n) := by
  intro j u hj
  rw [List.getElem?_take] at hj
  split at hj
  · exact h j u hj
  · cases hj

/-- An owned block whose last place but one may not be written (a row that a constant laid). -/
def blkF (b : Nat) (T : TypeId) (cs : List Value) (fr : Nat × Nat) : Res := objR b (.cells cs.toArray T fr)
theorem RdA.ownF {cx : Cx} {Rs B : List Res} {b o : Nat} {T : TypeId} {cs vs : List Value} {fr : Nat × Nat} (hk : Pick (blkF b T cs fr) Rs B) (hv : ∀ j v, vs[j]? = some v → cs[o + j]? = some v) : RdA cx Rs (some ⟨b, o, none⟩) vs := by
  intro w hw j u hj
  have h : w.heap[b]? = some (.cells cs.toArray T fr) := hw.get hk
  exact ⟨b, o, rfl, by simp [World.cell?, h, hv j u hj]⟩

/-! ### A slice that grows: nil, or at the head of an owned block -/
def vecFp : Value → List Nat
  | .slice (some a) _ _ => [a.block]
  | _ => []
def vec (v : Value) (T : TypeId) (s n : Nat) (xs : List Value) : Res :=
  ⟨vecFp v, fun w => w.ownsRow 0 T s v n xs, fun {w w'} h hp => by
    refine ⟨hp.1, ?_⟩
    rcases hp.2 with hn | ⟨g, cap, cur, rfl, hb, hg, rest⟩
    · exact .inl hn
    · exact .inr ⟨g, cap, cur, rfl, hb, by rw [h g (by simp [vecFp])]; exact hg, rest⟩⟩

theorem RdA.vec {cx : Cx} {Rs B : List Res} {p : Option Addr} {n cap T s : Nat} {xs : List Value} (hk : Pick (vec (.slice p n cap) T s n xs) Rs B) : RdA cx Rs p xs := by
  intro w hw j u hj
  have h : w.ownsRow 0 T s (.slice p n cap) n xs := hw.get hk
  rcases h.2 with ⟨he, hn⟩ | ⟨g, cap', cur, he, _, hg, hnc, _, hsz, htk⟩
  · have := h.1
    subst hn
    simp at this
    subst this
    simp at hj
  · simp only [Value.slice.injEq, true_and] at he
    obtain ⟨rfl, rfl⟩ := he
    refine ⟨g, 0, rfl, ?_⟩
    rw [← htk, List.getElem?_take] at hj
    split at hj
    · simp [World.cell?, hg]; simpa using hj
    · cases hj

section gives
variable {P : Program} {cx : Cx} {e : Env} {Rs : List Res} {d : Option Tmp} {t : TypeId} {ps : String} {af : Array Edge} {gd : Option (Nat × Bool)}

/-- x[i], x a slice whose address need not be known. -/
def adr (p : Option Addr) (k : Nat) : Addr := (p.getD default).add k
theorem adr_some (b o k : Nat) : adr (some ⟨b, o, none⟩) k = ⟨b, o + k, none⟩ := add_at b o k
theorem g_indexP {T : TypeId} {x ix : Operand} {p : Option Addr} {len cap s m : Nat} {k : IntKind} {i : Int} (hT : elemSz P T = some s) (hx : ev e x = some (.slice p len cap)) (hi : ev e ix = some (.int k i)) (hp : p.isSome = true)
    (h0 : 0 ≤ i) (h1 : i < len) (hm : i.toNat * s = m) : Gives P cx e Rs ⟨d, .indexAddr T x ix, t, ps, af, gd⟩ (.pointer (some (adr p m))) :=
  ⟨nofun, fun ρ w hρ _ => by
    have e1 := hρ x _ (by simp [Op.operands]) hx
    have e2 := hρ ix _ (by simp [Op.operands]) hi
    obtain ⟨el, inf, hu, hinf, rfl⟩ := elemSz_spec hT
    subst hm
    obtain ⟨a, rfl⟩ := Option.isSome_iff_exists.1 hp
    simp [execOp, e1, e2, Instr.indexAt, asIntOf, run_underlying hu, h0, h1, sizeOf, typeInfo, hinf, adr]⟩

theorem RdC.some {w : World} {p : Option Addr} {vs : List Value} (h : RdC w p vs) (hn : vs ≠ []) : p.isSome = true := by
  cases vs with
  | nil => exact absurd rfl hn
  | cons v vs => obtain ⟨b, o, rfl, _⟩ := h 0 v (by simp); rfl
theorem Cell.rd {vs : List Value} {p : Option Addr} {j : Nat} {u : Value} (h : RdA cx Rs p vs) (hj : vs[j]? = .some u) : Cell cx Rs (adr p j) u := by
  intro w hw
  obtain ⟨b, o, rfl, hc⟩ := h w hw j u hj
  rw [adr_some]; exact hc

/-- A bound of a slice expression. -/
def bnd (e : Env) (o : Option Operand) (dflt : Nat) : Option Int :=
  match o with
  | none => some dflt
  | some x => match ev e x with
    | some (.int _ i) => some i
    | _ => none

theorem bnd_spec {o : Option Operand} {dflt : Nat} {i : Int} (h : bnd e o dflt = some i) : (o = none ∧ i = dflt) ∨ ∃ x k, o = some x ∧ ev e x = some (.int k i) := by
  unfold bnd at h
  split at h
  · left; simp at h; exact ⟨rfl, h.symm⟩
  · rename_i x
    split at h
    · rename_i k j hj; simp at h; subst h; exact .inr ⟨x, k, rfl, hj⟩
    · cases h

theorem run_sliceBound (w : World) (k : IntKind) (i : Int) (y : Nat) (c : BoundsCode) (h0 : 0 ≤ i) (h1 : i ≤ y) : (Instr.sliceBound (.int k i) y c).run P w = .ok i.toNat w := by
  simp [Instr.sliceBound, asIntOf, h0, h1]

theorem run_sliceBounds (w : World) (isS : Bool) (len cap : Nat) (lo hi mx : Option Value) (l h m : Int)
    (hl : (lo = none ∧ l = 0) ∨ ∃ k, lo = some (.int k l)) (hh : (hi = none ∧ h = len ∧ mx = none) ∨ ∃ k, hi = some (.int k h)) (hm : (mx = none ∧ m = cap) ∨ ∃ k, mx = some (.int k m))
    (h0 : 0 ≤ l) (h1 : l ≤ h) (h2 : h ≤ m) (h3 : m ≤ cap) : (Instr.sliceBounds isS len cap lo hi mx).run P w = .ok (l.toNat, h.toNat, m.toNat) w := by
  have hc : (h.toNat : Int) = h := by omega
  have hcm : (m.toNat : Int) = m := by omega
  rcases hm with ⟨rfl, rfl⟩ | ⟨k3, rfl⟩
  · rcases hh with ⟨rfl, rfl, _⟩ | ⟨k2, rfl⟩
    · rcases hl with ⟨rfl, rfl⟩ | ⟨k1, rfl⟩
      · simp [Instr.sliceBounds]
      · simp only [Instr.sliceBounds]
        have := run_sliceBound (P := P) w k1 l len (if (none : Option Value).isSome then .slice3C else .sliceB) h0 h1
        simp at this
        simp [this]
    · have hb := fun c => run_sliceBound (P := P) w k2 h cap c (by omega) (by omega)
      rcases hl with ⟨rfl, rfl⟩ | ⟨k1, rfl⟩
      · simp [Instr.sliceBounds, hb]
      · have := fun c => run_sliceBound (P := P) w k1 l h.toNat c h0 (by omega)
        simp [Instr.sliceBounds, hb, this]
  · rcases hh with ⟨_, _, hx⟩ | ⟨k2, rfl⟩
    · cases hx
    · have ha := fun c => run_sliceBound (P := P) w k3 m cap c (by omega) (by omega)
      have hb := fun c => run_sliceBound (P := P) w k2 h m.toNat c (by omega) (by omega)
      rcases hl with ⟨rfl, rfl⟩ | ⟨k1, rfl⟩
      · simp [Instr.sliceBounds, ha, hb]
      · have := fun c => run_sliceBound (P := P) w k1 l h.toNat c h0 (by omega)
        simp [Instr.sliceBounds, ha, hb, this]

/-- The bounds as the operation hands them over. -/
theorem bnd_map {ρ : Operand → Value} {lo : Option Operand} {dflt : Nat} {l : Int} (hl : bnd e lo dflt = some l) (hρ : ∀ x u, lo = some x → ev e x = some u → ρ x = u) :
    (lo.map ρ = none ∧ l = dflt ∧ lo = none) ∨ ∃ k, lo.map ρ = some (.int k l) := by
  rcases bnd_spec hl with ⟨rfl, rfl⟩ | ⟨x, k, rfl, hx⟩
  · exact .inl ⟨rfl, rfl, rfl⟩
  · exact .inr ⟨k, by simp [hρ x _ rfl hx]⟩

/-- x[lo:hi:max], x a slice. -/
theorem g_slice {T : TypeId} {x : Operand} {lo hi mx : Option Operand} {p p' : Option Addr} {len cap s n' c' : Nat} {l h m : Int} (hT : elemSz P T = some s) (hx : ev e x = some (.slice p len cap))
    (hl : bnd e lo 0 = some l) (hh : bnd e hi len = some h) (hm : bnd e mx cap = some m) (hmh : mx.isSome = true → hi.isSome = true)
    (h0 : 0 ≤ l) (h1 : l ≤ h) (h2 : h ≤ m) (h3 : m ≤ cap) (hp : adv p m.toNat l.toNat s = p') (hn : h.toNat - l.toNat = n') (hc : m.toNat - l.toNat = c') :
    Gives P cx e Rs ⟨d, .slice T x lo hi mx, t, ps, af, gd⟩ (.slice p' n' c') :=
  ⟨nofun, fun ρ w hρ _ => by
    have e1 := hρ x _ (by simp [Op.operands]) hx
    obtain ⟨el, inf, hu, hinf, rfl⟩ := elemSz_spec hT
    subst hp; subst hn; subst hc
    have b1 := bnd_map hl (ρ := ρ) (fun y u hy => hρ y u (by simp [Op.operands, hy]))
    have b2 := bnd_map hh (ρ := ρ) (fun y u hy => hρ y u (by simp [Op.operands, hy]))
    have b3 := bnd_map hm (ρ := ρ) (fun y u hy => hρ y u (by simp [Op.operands, hy]))
    have hb := run_sliceBounds (P := P) w true len cap (lo.map ρ) (hi.map ρ) (mx.map ρ) l h m (by rcases b1 with ⟨b, c, _⟩ | b; exact .inl ⟨b, c⟩; exact .inr b)
      (by rcases b2 with ⟨b, c, d'⟩ | b
          · refine .inl ⟨b, c, ?_⟩
            cases mx with
            | none => rfl
            | some y => have := hmh rfl; simp [d'] at this
          · exact .inr b) (by rcases b3 with ⟨b, c, _⟩ | b; exact .inl ⟨b, c⟩; exact .inr b) h0 h1 h2 h3
    simp [execOp, e1, Instr.sliceAt, Instr.slice, run_underlying hu, hb, sizeOf, typeInfo, hinf, adv]⟩

/-- x[lo:hi], x an array's address. -/
theorem g_sliceA {T : TypeId} {x : Operand} {lo hi : Option Operand} {b o len s n' c' : Nat} {p' : Option Addr} {l h : Int} (hT : arrOf P T = some (len, s)) (hx : ev e x = some (.pointer (some ⟨b, o, none⟩)))
    (hl : bnd e lo 0 = some l) (hh : bnd e hi len = some h) (h0 : 0 ≤ l) (h1 : l ≤ h) (h2 : h ≤ len) (hp : adv (some ⟨b, o, none⟩) len l.toNat s = p') (hn : h.toNat - l.toNat = n') (hc : len - l.toNat = c') :
    Gives P cx e Rs ⟨d, .slice T x lo hi none, t, ps, af, gd⟩ (.slice p' n' c') :=
  ⟨nofun, fun ρ w hρ _ => by
    have e1 := hρ x _ (by simp [Op.operands]) hx
    obtain ⟨el, inf, hu, hinf, rfl⟩ := arrOf_spec hT
    subst hp; subst hn; subst hc
    have b1 := bnd_map hl (ρ := ρ) (fun y u hy => hρ y u (by simp [Op.operands, hy]))
    have b2 := bnd_map hh (ρ := ρ) (fun y u hy => hρ y u (by simp [Op.operands, hy]))
    have hb := run_sliceBounds (P := P) w false len len (lo.map ρ) (hi.map ρ) none l h len (by rcases b1 with ⟨b, c, _⟩ | b; exact .inl ⟨b, c⟩; exact .inr b)
      (by rcases b2 with ⟨b, c, d'⟩ | b; exact .inl ⟨b, c, rfl⟩; exact .inr b) (.inl ⟨rfl, rfl⟩) h0 h1 h2 (Int.le_refl _)
    by_cases hz : len = l.toNat
    · simp [execOp, e1, Instr.sliceAt, run_underlying hu, Instr.sureAddr, hb, sizeOf, typeInfo, hinf, adv, ← hz]
    · simp [execOp, e1, Instr.sliceAt, run_underlying hu, Instr.sureAddr, hb, sizeOf, typeInfo, hinf, adv, hz]⟩

/-- string(b). -/
theorem foldl_push (l : List UInt8) : ∀ (s : List UInt8), (l.map (fun x => (x.toNat : Int))).foldl (fun r n => r.push (UInt8.ofNat n.toNat)) (ByteArray.mk s.toArray) = ByteArray.mk (s ++ l).toArray := by
  induction l with
  | nil => intro s; simp
  | cons x l ih =>
    intro s
    simp only [List.map_cons, List.foldl_cons]
    have : (ByteArray.mk s.toArray).push (UInt8.ofNat (x.toNat : Int).toNat) = ByteArray.mk (s ++ [x]).toArray := by
      simp [ByteArray.push]
    rw [this, ih]
    simp

def bytesT (P : Program) (t : TypeId) : Bool := match P.underlying t with
  | some (.slice e) => match P.underlying e with
    | some (.int .u8) => true
    | _ => false
  | _ => false
theorem bytesT_spec {t : TypeId} (h : bytesT P t = true) : ∃ el, P.underlying t = some (.slice el) ∧ P.underlying el = some (.int .u8) := by
  unfold bytesT at h
  split at h
  · rename_i el hu
    split at h
    · rename_i h2; exact ⟨el, hu, h2⟩
    · cases h
  · cases h

theorem g_str {S T : TypeId} {x : Operand} {p : Option Addr} {n c : Nat} {l : List UInt8} (hS : bytesT P S = true) (hT : strT P T = true) (hx : ev e x = some (.slice p n c)) (hl : l.length = n) (hr : RdA cx Rs p (l.map B8)) :
    Gives P cx e Rs ⟨d, .convert S T x, t, ps, af, gd⟩ (.string ⟨l.toArray⟩) :=
  ⟨nofun, fun ρ w hρ hw => by
    have e1 := hρ x _ (by simp [Op.operands]) hx
    obtain ⟨el, hu, hel⟩ := bytesT_spec hS
    have hc := run_convert_bytes_string (P := P) w S T el p n c hu hel (strT_spec hT)
    simp only [execOp, e1, Sem.run_bind, hc]
    cases l with
    | nil =>
      subst hl
      cases p with
      | none => simp [Conv.bytesToString]; rfl
      | some a => simp [Conv.bytesToString, loadCells, loadCellsFrom]; rfl
    | cons y l =>
      obtain ⟨b, o, rfl, _⟩ := hr w hw 0 (B8 y) (by simp)
      have hld : (loadCells ⟨b, o, none⟩ n).run P w = .ok (((y :: l).map (fun x => (x.toNat : Int))).map (Value.int .u8)).toArray w := by
        have := run_loadCells_list (P := P) w ⟨b, o, none⟩ ((y :: l).map B8) (fun j v hv => by
          obtain ⟨b', o', he, h2⟩ := hr w hw j v hv
          simp only [Option.some.injEq, Addr.mk.injEq, and_true] at he
          obtain ⟨rfl, rfl⟩ := he
          rw [add_at]; exact h2)
        rw [List.length_map, hl] at this
        rw [this]; simp [B8]
      rw [run_bytesToString w _ n c _ hld]
      have := foldl_push (y :: l) []
      simp only [List.nil_append] at this
      rw [show (ByteArray.empty : ByteArray) = ByteArray.mk ([] : List UInt8).toArray from rfl, this]
      simp⟩

end gives
end Go.Pm
