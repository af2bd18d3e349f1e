/- Part 6 of the engine that steps through the program, of the plain words and of what the program's functions come to; no condition. -/
import Derived.Below
import Derived.Carry
import Derived.ChangeOld
import Derived.Deep.Slices
import Derived.Deep.Strs
import Derived.OpenShut
import Derived.ProofKit
import Derived.ShutString
import Derived.SizedLaws
import Derived.Test.YtfpmgnkbklnkaaaProg
import Derived.Test.YtfpmgnkbklnkaaaK5
section
set_option linter.unusedSimpArgs false
set_option linter.unusedVariables false
set_option maxRecDepth 100000
namespace Go.Proofs.Ytfpmgnkbklnkaaa.Eng
open Go Go.Proofs Go.ChangeShapes Go.WideShapes Go.ChangeAt Go.RowKit Go.Deep
def memOf (W : World) : Mem := fun a => match W.cell? a with
  | some v => bif v.oneCell' then some v else none
  | none => none
theorem memOf_good (W : World) : Good (memOf W) W := by
  intro a v h
  unfold memOf at h
  split at h
  · rename_i u hu
    cases h1 : u.oneCell' with
    | true => rw [h1] at h; obtain rfl := Option.some.inj h; exact ⟨hu, h1⟩
    | false => rw [h1] at h; cases h
  · cases h
theorem memOf_cell {W : World} {a : Addr} {v : Value} (h : W.cell? a = some v) (h1 : v.oneCell' = true) : memOf W a = some v := by simp [memOf, h, h1]
theorem plain_add {W : World} {a : Addr} (h : (W.cell? (a.add 0)).isSome = true) : a = ⟨a.block, a.off, none⟩ := by
  obtain ⟨b, o, s⟩ := a
  cases s with
  | none => rfl
  | some s =>
    exfalso
    simp only [Addr.add, if_true, World.cell?] at h
    split at h <;> simp at h
theorem add_none (b o i : Nat) : (⟨b, o, none⟩ : Addr).add i = ⟨b, o + i, none⟩ := by simp only [Addr.add]; split <;> simp_all
theorem choose_idx {α : Type} {p : Nat → α → Prop} : ∀ (len : Nat), (∀ i, i < len → ∃ y, p i y) → ∃ L : List α, L.length = len ∧ ∀ i (hi : i < L.length), p i L[i]
  | 0, _ => ⟨[], rfl, fun i hi => by simp at hi⟩
  | k + 1, key => by
    obtain ⟨L, h1, h2⟩ := choose_idx k (fun i hi => key i (by omega))
    obtain ⟨y, hy⟩ := key k (by omega)
    refine ⟨L ++ [y], by simp [h1], fun i hi => ?_⟩
    by_cases hik : i < L.length
    · rw [List.getElem_append_left hik]; exact h2 i hik
    · simp at hi
      obtain rfl : i = L.length := by omega
      simp only [List.getElem_append_right (Nat.le_refl _), Nat.sub_self, List.getElem_cons_zero]
      rw [h1]; exact hy
section
variable {H : Type} {enc : TypeId × Value → H} {W : World} {base : Nat} {sp : Nat → Bool} {held : Bool} {fuel : Nat} {cs : List Value} {x : DataW H × List MemPlace}
theorem c3 : Try.prog.cellsOf 3 = 1 := by kernel_rfl
theorem c9 : Try.prog.cellsOf 9 = 1 := by kernel_rfl
theorem c53 : Try.prog.cellsOf 53 = 3 := by kernel_rfl
theorem wf64 {n : Int} (h : (Lit.int .i64 n).wf = true) : R64 n := by
  simp [Lit.wf, IntKind.min, IntKind.max, IntKind.signed, IntKind.bits] at h; omega
def vRec (r : Rec) : List Value := [.int .i64 r.Key, .int .i64 r.Time, .string r.Text]
def RecR (r : Rec) : Prop := R64 r.Key ∧ R64 r.Time ∧ r.Text.size ≤ maxLen
set_option maxRecDepth 100000 in
theorem open_recC (h : DataW.trod enc Try.prog W base sp held fuel 53 cs = some x) : ∃ r : Rec, cs = vRec r ∧ RecR r := by
  obtain ⟨y0, y1, y2, n, rfl, hl, h0, h1, h2⟩ := trod_struct3 Try.underlying53 h
  rw [c53] at hl
  match cs, hl with
  | [a, b, c], _ =>
    simp only [c3, c9, List.drop, List.take] at h0 h1 h2
    obtain ⟨n0, e0, _, w0⟩ := DataW.trod_int Try.underlying3 h0
    obtain ⟨n1, e1, _, w1⟩ := DataW.trod_int Try.underlying3 h1
    obtain ⟨s, e2, _, w2⟩ := DataW.trod_string Try.underlying9 h2
    simp only [List.cons.injEq, and_true] at e0 e1 e2
    subst e0 e1 e2
    exact ⟨⟨n0, n1, s⟩, rfl, wf64 w0, wf64 w1, w2⟩
theorem vRec_len (r : Rec) : (vRec r).length = 3 := rfl
theorem vRec_rep (r : Rec) : ∀ j, j < 3 → ∃ v, (vRec r)[j]? = some v ∧ v.oneCell' = true ∧ ∀ m, (nth (eRec r) j).rep m v := by
  intro j hj
  rcases (show j = 0 ∨ j = 1 ∨ j = 2 by omega) with rfl | rfl | rfl <;> exact ⟨_, rfl, rfl, fun m => rfl⟩
/-- A slice of structs, of plain cells. -/
theorem open_rows {α : Type} {sz t e : Nat} {ee : α → List D} {df : α} {vv : α → List Value} {good : α → Prop} (ht : Try.prog.underlying t = some (.slice e)) (hc : Try.prog.cellsOf e = sz) (hs : 0 < sz)
    (hel : ∀ {fuel : Nat} {cs : List Value} {x : DataW H × List MemPlace}, DataW.trod enc Try.prog W base sp held fuel e cs = some x → ∃ a : α, cs = vv a ∧ good a) (hlen : ∀ a, (vv a).length = sz)
    (hv : ∀ a, ∀ j, j < sz → ∃ v, (vv a)[j]? = some v ∧ v.oneCell' = true ∧ ∀ m, (nth (ee a) j).rep m v) {v : Value} (h : DataW.trod enc Try.prog W base sp held fuel t [v] = some x) :
    ∃ L : List α, (row sz ee df L).rep (memOf W) v ∧ ∀ a ∈ L, good a := by
  rcases open_slice ht h with ⟨hcs, _⟩ | ⟨a, len, cap, m, n, Dd, Pl, hcs, hb, hl, hm, hmm, _, hx⟩
  · simp only [List.cons.injEq, and_true] at hcs
    subst hcs
    exact ⟨[], ⟨none, 0, rfl, Nat.le_refl _, .inl rfl⟩, by simp⟩
  · simp only [List.cons.injEq, and_true] at hcs
    subst hcs
    have hlm : len ≤ m := by rw [hmm]; split <;> omega
    have key : ∀ i, i < len → ∃ y : α, good y ∧ W.cells? base (a.add (i * sz)) sz = some (vv y) := by
      intro i hi
      obtain ⟨cs', h1, h2⟩ := hx i (by omega)
      rw [hc] at h1
      obtain ⟨y, rfl, hg⟩ := hel h2
      exact ⟨y, hg, h1⟩
    have hch := choose_idx (p := fun i (y : α) => good y ∧ W.cells? base (a.add (i * sz)) sz = some (vv y)) len key
    obtain ⟨L, hL, hLx⟩ := hch
    refine ⟨L, ?_, fun y hy => ?_⟩
    · refine ⟨some a, cap, by rw [hL], by rw [hL]; exact hl, ?_⟩
      rcases Nat.eq_zero_or_pos len with h0 | h0
      · left; omega
      · right
        have hz := (World.cells?_some (hLx 0 (by omega)).2).2.2 0 hs
        have ha : a = ⟨a.block, a.off, none⟩ := by
          have : a.add (0 * sz) = a := by simp [Addr.add]
          rw [this] at hz
          refine plain_add (W := W) ?_
          rw [hz]
          obtain ⟨u, hu, _⟩ := hv L[0] 0 hs
          rw [hu]; rfl
        refine ⟨a.block, a.off, by rw [← ha], fun i hi j hj => ?_⟩
        have hcell := (World.cells?_some (hLx i hi).2).2.2 j hj
        obtain ⟨u, hu, h1, h2⟩ := hv L[i] j hj
        rw [hu, ha, add_none, add_none, Nat.add_assoc] at hcell
        refine ⟨u, memOf_cell hcell h1, ?_⟩
        have : L.getD i df = L[i] := by simp [List.getD, hi]
        show D.rep (memOf W) (nth (ee (L.getD i df)) j) u
        rw [this]
        exact h2 _
    · obtain ⟨i, hi, rfl⟩ := List.mem_iff_getElem.1 hy
      exact (hLx i hi).1
/-- A struct, of plain cells. -/
theorem open_agg {α : Type} {sz t : Nat} {fs : Array Field} {ee : α → List D} {vv : α → List Value} {good : α → Prop} (ht : Try.prog.underlying t = some (.struct fs))
    (hel : ∀ {fuel : Nat} {cs : List Value} {x : DataW H × List MemPlace}, DataW.trod enc Try.prog W base sp held fuel t cs = some x → ∃ a : α, cs = vv a ∧ good a) (hlen : ∀ a, (vv a).length = sz) (hel2 : ∀ a, (ee a).length = sz)
    (hv : ∀ a, ∀ j, j < sz → ∃ v, (vv a)[j]? = some v ∧ v.oneCell' = true ∧ ∀ m, (nth (ee a) j).rep m v) {b0 : Nat} {v : Value} {d : DataW H} {ps : List MemPlace} (hval : Value.okWide Try.prog W .any b0 t v)
    (h : DataW.Trod enc Try.prog W base sp held t v d ps) : ∃ a : α, U.rep (memOf W) β0 (.agg ((ee a).map .d)) v ∧ good a := by
  obtain ⟨cs, rfl, _⟩ := okWide_struct ht hval
  obtain ⟨fuel, hf⟩ := h
  obtain ⟨a, ha, hg⟩ := hel hf
  refine ⟨a, ⟨vv a, ?_, ?_⟩, hg⟩
  · have : cs.toList = vv a := by simpa [Value.cells] using ha
    rw [← this]
  · have key : ∀ (l : List D) (k : List Value), l.length = k.length → (∀ j, j < l.length → ∃ v, k[j]? = some v ∧ (nth l j).rep (memOf W) v) → All2 (C.rep (memOf W) β0) (l.map .d) k := by
      intro l
      induction l with
      | nil => intro k hk _; cases k with | nil => exact .nil | cons => simp at hk
      | cons y l ih =>
        intro k hk hj
        cases k with
        | nil => simp at hk
        | cons u k =>
          obtain ⟨v0, e0, r0⟩ := hj 0 (by simp)
          simp at e0; subst e0
          refine .cons r0 (ih k (by simpa using hk) fun j hjl => ?_)
          obtain ⟨v1, e1, r1⟩ := hj (j + 1) (by simpa using hjl)
          exact ⟨v1, by simpa using e1, r1⟩
    refine key _ _ (by rw [hel2, hlen]) fun j hj => ?_
    rw [hel2] at hj
    obtain ⟨u, hu, _, hr⟩ := hv a j hj
    exact ⟨u, hu, hr _⟩
def vGrid (g : Grid) : List Value := [.int .i64 g.Size, .int .i64 g.Hop, .int .i64 g.Late]
def GridR (g : Grid) : Prop := R64 g.Size ∧ R64 g.Hop ∧ R64 g.Late
theorem c23 : Try.prog.cellsOf 23 = 3 := by kernel_rfl
set_option maxRecDepth 100000 in
theorem open_gridC (h : DataW.trod enc Try.prog W base sp held fuel 23 cs = some x) : ∃ g : Grid, cs = vGrid g ∧ GridR g := by
  obtain ⟨y0, y1, y2, n, rfl, hl, h0, h1, h2⟩ := trod_struct3 Try.underlying23 h
  rw [c23] at hl
  match cs, hl with
  | [a, b, c], _ =>
    simp only [c3, List.drop, List.take] at h0 h1 h2
    obtain ⟨n0, e0, _, w0⟩ := DataW.trod_int Try.underlying3 h0
    obtain ⟨n1, e1, _, w1⟩ := DataW.trod_int Try.underlying3 h1
    obtain ⟨n2, e2, _, w2⟩ := DataW.trod_int Try.underlying3 h2
    simp only [List.cons.injEq, and_true] at e0 e1 e2
    subst e0 e1 e2
    exact ⟨⟨n0, n1, n2⟩, rfl, wf64 w0, wf64 w1, wf64 w2⟩
theorem vGrid_rep (g : Grid) : ∀ j, j < 3 → ∃ v, (vGrid g)[j]? = some v ∧ v.oneCell' = true ∧ ∀ m, (nth (eGrid g) j).rep m v := by
  intro j hj
  rcases (show j = 0 ∨ j = 1 ∨ j = 2 by omega) with rfl | rfl | rfl <;> exact ⟨_, rfl, rfl, fun m => rfl⟩
theorem open_grid {b0 : Nat} {v : Value} {d : DataW H} {ps : List MemPlace} (hval : Value.okWide Try.prog W .any b0 23 v) (h : DataW.Trod enc Try.prog W base sp held 23 v d ps) :
    ∃ g : Grid, U.rep (memOf W) β0 (.agg ((eGrid g).map .d)) v ∧ GridR g :=
  open_agg (sz := 3) Try.underlying23 (fun h => open_gridC h) (fun _ => rfl) (fun _ => rfl) vGrid_rep hval h
theorem open_rec {b0 : Nat} {v : Value} {d : DataW H} {ps : List MemPlace} (hval : Value.okWide Try.prog W .any b0 53 v) (h : DataW.Trod enc Try.prog W base sp held 53 v d ps) :
    ∃ r : Rec, U.rep (memOf W) β0 (.agg ((eRec r).map .d)) v ∧ RecR r :=
  open_agg (sz := 3) Try.underlying53 (fun h => open_recC h) (fun _ => rfl) (fun _ => rfl) vRec_rep hval h
theorem cells_slice (A : Option Addr) (n c : Nat) : (Value.slice A n c).cells.toList = [.slice A n c] := rfl
theorem open_recs {b0 : Nat} {v : Value} {d : DataW H} {ps : List MemPlace} (hval : Value.okWide Try.prog W .any b0 24 v) (h : DataW.Trod enc Try.prog W base sp held 24 v d ps) :
    ∃ l : List Rec, U.rep (memOf W) β0 (.c (.d (row 3 eRec zRec l))) v ∧ ∀ r ∈ l, RecR r := by
  obtain ⟨A, n, c, rfl⟩ := okWide_slice Try.underlying24 hval
  obtain ⟨fuel, hf⟩ := h
  rw [cells_slice] at hf
  exact open_rows Try.underlying24 c53 (by decide) (fun h => open_recC h) vRec_len vRec_rep hf
theorem open_i {b0 : Nat} {v : Value} {d : DataW H} {ps : List MemPlace} (hval : Value.okWide Try.prog W .any b0 3 v) (h : DataW.Trod enc Try.prog W base sp held 3 v d ps) :
    ∃ n : Int, U.rep (memOf W) β0 (.c (.d (dI n))) v ∧ R64 n := by
  obtain ⟨n, rfl, _, _, hw⟩ := open_int Try.underlying3 hval h
  exact ⟨n, rfl, wf64 hw⟩
end
/-- What a function that only reckons does, as a walk. -/
theorem FnOk.walk {n : FuncId} {args : List U} {Q : T → Prop} (h : FnOk Try.prog n args Q) (hQ : ∀ r, Q r → r = B true) (W : World) {vs : List Value} (ha : All2 (U.rep (memOf W) β0) args vs) :
    Calls Try.prog n vs.toArray W fun e W' => e = .returned (.bool true) ∧ Below W.heap.size W W' :=
  (h.calls (memOf W) W vs (memOf_good W) ha).mono fun e W' ⟨v, m', r, he, hq, _, hr, _, _, hf⟩ => by
    rw [hQ r hq] at hr
    obtain rfl : v = .bool true := hr
    exact ⟨he, ⟨hf.os, hf.tape, hf.output, hf.size, fun k hk => hf.block k hk (fun e => e)⟩⟩
theorem own_ : ownKnob Try.prog.godebug = none := by kernel_rfl
theorem laidOut_ : laidOutB Try.prog = true := by kernel_rfl
end Go.Proofs.Ytfpmgnkbklnkaaa.Eng
end
