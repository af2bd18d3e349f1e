/- Part 2 of the engine that steps through the program, of the plain words and of what the program's functions come to; no condition. -/
import Derived.Laws.BytesString
import Derived.Laws.Strings
import Derived.Scope
import Derived.Test.YtfpmgnkbklnkaaaProg
import Derived.Test.YtfpmgnkbklnkaaaK1
section
set_option linter.unusedSimpArgs false
set_option linter.unusedVariables false
namespace Go.Proofs.Ytfpmgnkbklnkaaa.Eng
open Go
def frzP (n sz k : Nat) : List C → Option Prop
  | [] => some True
  | .gs q s lo len :: r => bif Nat.beq q n then (bif Nat.beq s sz then (frzP n sz k r).map (fun p => lo + len ≤ k ∧ p) else none) else frzP n sz k r
  | _ :: r => frzP n sz k r
theorem frzP_sound {n sz k : Nat} : ∀ {l : List C} {p : Prop}, frzP n sz k l = some p → p → allP (C.frzOk n sz k) l := by
  intro l
  induction l with
  | nil => intro p _ _; trivial
  | cons c r ih =>
    intro p h hp
    cases c
    case gs q s lo len =>
      simp only [frzP] at h
      cases e : Nat.beq q n with
      | false =>
        rw [e] at h
        refine ⟨fun e' => ?_, ih h hp⟩
        subst e'; simp at e
      | true =>
        rw [e] at h
        cases e2 : Nat.beq s sz with
        | false => rw [e2] at h; simp at h
        | true =>
          rw [e2] at h
          simp only [cond_true, Option.map_eq_some_iff] at h
          obtain ⟨p', h1, rfl⟩ := h
          exact ⟨fun _ => ⟨Nat.eq_of_beq_eq_true e2, hp.1⟩, ih h1 hp.2⟩
    all_goals exact ⟨trivial, ih (by simpa [frzP] using h) hp⟩
def frzAll (n sz k : Nat) (st : St) : Option Prop := frzP n sz k ((st.sl.flatMap fun p => p.2.cs) ++ (st.env.flatMap fun p => p.2.cs))
theorem allP_app {α : Type} {p : α → Prop} : ∀ {l k : List α}, allP p (l ++ k) → allP p l ∧ allP p k
  | [], _, h => ⟨trivial, h⟩
  | _ :: _, _, h => ⟨⟨h.1, (allP_app h.2).1⟩, (allP_app h.2).2⟩
theorem frzAll_sound {n sz k : Nat} {st : St} {p : Prop} (h : frzAll n sz k st = some p) (hp : p) : frzOk n sz k st := allP_app (frzP_sound h hp)
section
variable {G : Ctx} {ops : Array Oper} {st st' : St} {Q : St → Prop} {Qe : Exit → St → Prop} {l : List Nat} {c : Code}
theorem AC.freezeN (n : Nat) (ks es : List Nat) {e sz k : Nat} {get : Nat → Nat → D} {C' : Prop} (hF : G.F = noF) (hb : look st.env n = some (.arr e sz k get)) (hok : frzAll n sz k st = some C') (hst : St.norm ⟨frzS n get st.sl, frzE n get st.env⟩ ks es = st') (hw : st'.wfB = true) (hc : C') (h : AC G c st' Qe) : AC G c st Qe :=
  AC.freeze hF hb (frzAll_sound hok hc) (AC.le (Le.ofNorm hst hw) h)
theorem AOps.freezeN (n : Nat) (ks es : List Nat) {e sz k : Nat} {get : Nat → Nat → D} {C' : Prop} (hF : G.F = noF) (hb : look st.env n = some (.arr e sz k get)) (hok : frzAll n sz k st = some C') (hst : St.norm ⟨frzS n get st.sl, frzE n get st.env⟩ ks es = st') (hw : st'.wfB = true) (hc : C') (h : AOps G ops l st' Q) : AOps G ops l st Q :=
  AOps.freeze hF hb (frzAll_sound hok hc) (AOps.le (Le.ofNorm hst hw) h)
theorem AC.nilslotN (n d e sz : Nat) (get : Nat → Nat → D) (ks es : List Nat) (hd : look st.sl d = some (.one (.c (.d (.v (.slice none 0 0)))))) (hn : st.has n = false) (h9 : Nat.blt n 9000 = true) (hst : ((st.bind n (.arr e sz 0 get)).put d (.one (.c (.gs n sz 0 0)))).norm ks es = st') (hw : st'.wfB = true) (h : AC G c st' Qe) : AC G c st Qe :=
  AC.nilslot e sz get hd hn h9 (AC.le (Le.ofNorm hst hw) h)
theorem AOps.nilslotN (n d e sz : Nat) (get : Nat → Nat → D) (ks es : List Nat) (hd : look st.sl d = some (.one (.c (.d (.v (.slice none 0 0)))))) (hn : st.has n = false) (h9 : Nat.blt n 9000 = true) (hst : ((st.bind n (.arr e sz 0 get)).put d (.one (.c (.gs n sz 0 0)))).norm ks es = st') (hw : st'.wfB = true) (h : AOps G ops l st' Q) : AOps G ops l st Q :=
  AOps.nilslot e sz get hd hn h9 (AOps.le (Le.ofNorm hst hw) h)
theorem blockA_n {id : Nat} {Q : Exit → St → Prop} {st : St} (h : Q .normal st) : blockA id Q .normal st := h
theorem DLe.row0 {α : Type} {sz : Nat} {enc : α → List D} {d : α} {L : List α} : DLe (.sl sz L.length fun i j => nth (enc (L.getD (0 + i) d)) j) (row sz enc d L) :=
  DLe.sl rfl fun i hi j _ => by rw [Nat.zero_add]
/-! #### short names, for what is printed -/
theorem au {p : Nat → Prop} {n : Nat} (h : AllUpTo p n) (hp : p n) : AllUpTo p (n + 1) := AllUpTo.succ h hp
theorem lk {sl r : List (Nat × T)} {k : Nat} {x : T} (h : look sl k = some x) (t : LeS sl r) : LeS sl ((k, x) :: r) := LeS.cons h (TLe.refl _) t
theorem ek {sl r : List (Nat × Blk)} {k : Nat} {x : Blk} (h : look sl k = some x) (t : LeE sl r) : LeE sl ((k, x) :: r) := LeE.cons h (BLe.refl _) t
theorem ck {x : C} {l k : List C} (t : All2 CLe l k) : All2 CLe (x :: l) (x :: k) := All2.cons (CLe.refl _) t
theorem AOps.rn {ops : Array Oper} {l : List Nat} {Q : St → Prop} {st st' : St} (l1 ks es : List Nat) (hk : AOps G ops l st' Q) (h : Eng.runN G.P G.N 0 ops l1 ks es st = some (True, st') := by kernel_rfl) : AOps G ops (l1 ++ l) st Q := AOps.runN 0 l1 ks es h trivial hk
theorem AOps.rd {ops : Array Oper} {Q : St → Prop} {st st' : St} (l1 ks es : List Nat) (hk : Q st') (h : Eng.runN G.P G.N 0 ops l1 ks es st = some (True, st') := by kernel_rfl) : AOps G ops l1 st Q := AOps.runE 0 ks es h trivial hk
theorem AOps.nm {ops : Array Oper} {l : List Nat} {Q : St → Prop} {st st' : St} (ks es : List Nat) (hk : AOps G ops l st' Q) (h : st.norm ks es = st' := by kernel_rfl) (hw : st'.wfB = true := by kernel_rfl) : AOps G ops l st Q := AOps.le (Le.ofNorm h hw) hk
theorem AC.rR {ops : Array Oper} {st : St} {Qe : Exit → St → Prop} {id : Nat} (l : List Nat) (h : AOps G ops l st (Qe .normal)) (hl : List.range ops.size = l := by kernel_rfl) : AC G (.region id ops false) st Qe := AC.reg hl h
theorem AC.rS {ops : Array Oper} {st : St} {Qe : Exit → St → Prop} {id : Nat} {y : Code} (l : List Nat) (h : AOps G ops l st fun s => AC G y s Qe) (hl : List.range ops.size = l := by kernel_rfl) : AC G (.seq (.region id ops false) y) st Qe := AC.regS hl h
theorem rqr {fn : Func} {st : St} {us : List U} (us' : List U) (h2 : All2 ULe us us') (h1 : evRess G.P st fn.results.toList = some us := by kernel_rfl) (h3 : us'.flatMap U.names = [] := by kernel_rfl) : ResQ G fn (fun r_ => r_ = tupOf us') .ret st := ResQ.ret h1 h2 h3 rfl
theorem rqn {fn : Func} {st : St} {us : List U} (us' : List U) (h2 : All2 ULe us us') (h1 : evRess G.P st fn.results.toList = some us := by kernel_rfl) (h3 : us'.flatMap U.names = [] := by kernel_rfl) : ResQ G fn (fun r_ => r_ = tupOf us') .normal st := ResQ.normal h1 h2 h3 rfl
theorem b1 {a b : Bool} : (a || b) = true ↔ a = true ∨ b = true := by simp
theorem b2 {a b : Bool} : (a || b) = false ↔ a = false ∧ b = false := by simp
theorem b3 {a b : Bool} : (a && b) = true ↔ a = true ∧ b = true := by simp
theorem b4 {a b : Bool} : (a && b) = false ↔ (a = true → b = false) := by simp
theorem b5 {p : Prop} [Decidable p] : (decide p = true) = p := by simp
theorem b6 {p : Prop} [Decidable p] : decide p = false ↔ ¬ p := by simp
theorem b7 {α : Type} [BEq α] [LawfulBEq α] {a b : α} : (a == b) = true ↔ a = b := by simp
theorem b8_ {α : Type} [BEq α] [LawfulBEq α] {a b : α} : (a == b) = false ↔ a ≠ b := by simp
theorem b9 {α : Type} [BEq α] [LawfulBEq α] {a b : α} : (a != b) = true ↔ a ≠ b := by simp
theorem b10 {α : Type} [BEq α] [LawfulBEq α] {a b : α} : (a != b) = false ↔ a = b := by simp
theorem b11 {b : Bool} : ((!b) = true) = (b = false) := by simp
theorem b12 {b : Bool} : ((!b) = false) = (b = true) := by simp
theorem b13 {α : Type} (a b : α) : (a ≠ b) = ¬ (a = b) := rfl
theorem b14 {a b : Int} : ¬ a < b ↔ b ≤ a := Int.not_lt
theorem b15 {a b : Int} : ¬ a ≤ b ↔ b < a := Int.not_le
/-- What an operation at which nothing is to be shown comes to, and what the state has for it. -/
def lookD (ops : Array Oper) (S : St) (i : Nat) : Option T := match ops[i]? with
  | some o => match o.dst with
    | some d => look S.sl d
    | none => none
  | none => none
def opT (P : Program) (N : Nat) (bs : List (Nat × Nat)) (ops : Array Oper) (S : St) (i : Nat) : Option T := match ops[i]? with
  | some o => match o.dst, wantedA ops S o, evVal P S o with
    | some d, some true, some (_, x) => bif triv S o && Nat.blt d N && noBind bs i && (o.op.operands.toList.all fun y => (opnd S y).names.all fun n => bs.all fun p => !Nat.beq p.2 n) then some x else none
    | _, _, _ => none
  | none => none
theorem OpAt.t {ops : Array Oper} {bs : List (Nat × Nat)} {S : St} {i : Nat} (h : opT G.P G.N bs ops S i = lookD ops S i) (hs : (lookD ops S i).isSome = true) : OpAt G ops bs S i := by
  obtain ⟨x', hx'⟩ := Option.isSome_iff_exists.1 hs
  rw [hx'] at h
  unfold opT at h
  unfold lookD at hx'
  split at h
  · rename_i o ho
    rw [ho] at hx'
    split at h
    · rename_i d C' x hd hw he
      simp only [hd] at hx'
      cases hb : (triv S o && Nat.blt d G.N && noBind bs i && (o.op.operands.toList.all fun y => (opnd S y).names.all fun n => bs.all fun p => !Nat.beq p.2 n)) with
      | false => simp only [hb, cond_false] at h; cases h
      | true =>
        simp only [hb, cond_true] at h
        obtain rfl := Option.some.inj h
        simp only [Bool.and_eq_true] at hb
        obtain ⟨⟨⟨h1, h2⟩, h3⟩, h4⟩ := hb
        exact OpAt.val ho hw he (triv_sound h1 he) hd h2 hx' (TLe.refl _) h3 (List.all_eq_true.2 fun n hn => List.any_eq_true.2 ⟨n, hn, Nat.beq_refl _⟩) (by simpa only [List.all_eq_true] using h4)
    · cases h
  · cases h
theorem ot {ops : Array Oper} {bs : List (Nat × Nat)} {S : St} {i : Nat} (h : opT G.P G.N bs ops S i = lookD ops S i := by kernel_rfl) (hs : (lookD ops S i).isSome = true := by kernel_rfl) : OpAt G ops bs S i := OpAt.t h hs
def callT (N : Nat) (bs : List (Nat × Nat)) (ops : Array Oper) (S : St) (i f : Nat) : Option (List U × T) := match ops[i]? with
  | some o => match o.op, o.dst, wantedA ops S o with
    | .call c, some d, some true => match c.callee with
      | .value fop => match asFn (opnd S fop), look S.sl d with
        | some f', some x => bif Nat.beq f' f && Nat.blt d N && noBind bs i && x.names.isEmpty then some (c.args.toList.map (fun y => toU (opnd S y)), x) else none
        | _, _ => none
      | _ => none
    | _, _, _ => none
  | none => none
theorem oc {ops : Array Oper} {bs : List (Nat × Nat)} {S : St} {i f : Nat} {us : List U} {x : T} (hf : FnOk G.P f us fun r_ => r_ = x) (h : callT G.N bs ops S i f = some (us, x) := by kernel_rfl) : OpAt G ops bs S i := by
  unfold callT at h
  split at h
  · rename_i o ho
    split at h
    · rename_i c d hop hd hw
      split at h
      · rename_i fop hcl
        split at h
        · rename_i f' x' hfo hx
          cases hb : (Nat.beq f' f && Nat.blt d G.N && noBind bs i && x'.names.isEmpty) with
          | false => simp only [hb, cond_false] at h; cases h
          | true =>
            simp only [hb, cond_true] at h
            obtain ⟨h1, h2⟩ := Prod.mk.inj (Option.some.inj h)
            subst h2
            simp only [Bool.and_eq_true] at hb
            obtain ⟨⟨⟨e1, e2⟩, e3⟩, e4⟩ := hb
            obtain rfl := Nat.eq_of_beq_eq_true e1
            exact OpAt.call ho hw hop hcl hfo hd e2 h1 hx hf (fun r hr => hr ▸ TLe.refl _) (by simpa using e4) e3
        · cases h
      · cases h
    · cases h
  · cases h
end
end Go.Proofs.Ytfpmgnkbklnkaaa.Eng
end
section
set_option linter.unusedSimpArgs false
set_option linter.unusedVariables false
namespace Go.Proofs.Ytfpmgnkbklnkaaa.Eng
open Go
/-- A row, some cells of one element written. -/
def setG (get : Nat → Nat → D) (i off : Nat) (c : List D) : Nat → Nat → D := fun i' j => bif Nat.beq i' i && (Nat.ble off j && Nat.blt j (off + c.length)) then c.getD (j - off) default else get i' j
theorem row_lt {i' i j sz : Nat} (h : i' < i) (hj : j < sz) : i' * sz + j < i * sz := by
  have := Nat.mul_le_mul_right sz (show i' + 1 ≤ i from h)
  rw [Nat.add_mul, Nat.one_mul] at this; omega
theorem splice_get (cur cs : List Value) (o q : Nat) (h : o + cs.length ≤ cur.length) : (cur.take o ++ cs ++ cur.drop (o + cs.length))[q]? = if q < o then cur[q]? else if q < o + cs.length then cs[q - o]? else cur[q]? := by
  rw [List.append_assoc]
  split
  · rename_i h1
    rw [List.getElem?_append_left (by simp; omega), List.getElem?_take_of_lt h1]
  · rename_i h1
    rw [List.getElem?_append_right (by simp; omega)]
    have e : (cur.take o).length = o := by simp; omega
    rw [e]
    split
    · rename_i h2
      rw [List.getElem?_append_left (by omega)]
    · rename_i h2
      rw [List.getElem?_append_right (by omega), List.getElem?_drop]
      congr 1; omega
section
variable {G : Ctx} {ops : Array Oper} {st : St} {m : Mem} {β : Bt} {a : Act} {w : World} {o : Oper}
theorem All2.get' {α γ : Type} {Rr : α → γ → Prop} : ∀ {l : List α} {vs : List γ}, All2 Rr l vs → ∀ (i : Nat) (d : α), i < l.length → ∃ v, vs[i]? = some v ∧ Rr (l.getD i d) v
  | _ :: _, _ :: _, .cons h t, 0, d, _ => ⟨_, rfl, h⟩
  | _ :: _, _ :: _, .cons h t, i + 1, d, hi => by
    obtain ⟨v, h1, h2⟩ := All2.get' t i d (by simpa using hi)
    exact ⟨v, by simpa using h1, h2⟩
theorem R.storeE (h : R G st m β a w) {n e sz k : Nat} {get : Nat → Nat → D} (hb : look st.env n = some (.arr e sz k get)) {i off : Nat} (c : List D) (cs : List Value) (hc : All2 (D.rep m) c cs) (hone : ∀ v ∈ cs, v.oneCell' = true) (hi : i < k) (hoff : off + c.length ≤ sz) :
    ∃ b w', (β n).A = some ⟨b, 0, none⟩ ∧ (storeCells ⟨b, i * sz + off, none⟩ cs).run G.P w = .ok () w' ∧
      R G { st with env := (n, .arr e sz k (setG get i off c)) :: st.env } m β a w' := by
  obtain ⟨xs, ⟨hxl, hown'⟩, h1c, hg⟩ := h.env n _ hb
  rcases hown' with ⟨_, h0⟩ | ⟨b, cap, cur, hv, _, hheap, hkc, hcm, hcs, htk⟩
  · omega
  have hA : (β n).A = some ⟨b, 0, none⟩ := by injection hv with hA _ _
  have hcap : (β n).cap = cap := by injection hv
  have hcl : c.length = cs.length := hc.length
  have hspan : i * sz + off + cs.length ≤ k * sz := by
    have := Nat.mul_le_mul_right sz (show i + 1 ≤ k from hi)
    rw [Nat.add_mul, Nat.one_mul] at this; omega
  have hcur : k * sz ≤ cur.size := by rw [hcs]; exact Nat.mul_le_mul_right sz hkc
  have hst := run_storeCells_at G.P b (i * sz + off) e cs 0 cur w hheap (by omega) hone
  simp only [Nat.add_zero] at hst
  refine ⟨b, _, hA, hst, ?_⟩
  have hh : st.has n = true := by simp [St.has, hb]
  have hown := h.own n hh _ hA
  have hother : ∀ k, k ≠ b → (w.setRow b (cur.toList.take (i * sz + off) ++ cs ++ cur.toList.drop (i * sz + off + cs.length)).toArray).heap[k]? = w.heap[k]? := fun k hk => setRow_other w b k _ hk
  have hsize : (w.setRow b (cur.toList.take (i * sz + off) ++ cs ++ cur.toList.drop (i * sz + off + cs.length)).toArray).heap.size = w.heap.size := by simp [World.setRow]
  have hhas : ∀ q, St.has { st with env := (n, .arr e sz k (setG get i off c)) :: st.env } q = true ↔ st.has q = true := by
    intro q
    simp only [St.has, look_put]
    by_cases ek : n = q
    · subst ek; simp [hb]
    · simp [ek]
  refine ⟨⟨h.fr.os, h.fr.tape, h.fr.output, by rw [hsize]; exact h.fr.size, fun q hk hF => ?_⟩, h.ext, ?_, ?_, ?_, ?_, h.slots, ?_, ?_, h.size, h.defers, h.pin⟩
  · rw [hother q]
    · exact h.fr.block q hk hF
    · rintro rfl
      rcases hown.1 with h1 | h1
      · simp at h1; omega
      · exact hF h1
  · intro ad v hv
    have hne : ad.block ≠ b := by
      rintro e
      have := hown.2 ad.off ad.spot
      simp only at this
      rw [← e] at this
      rw [show (⟨ad.block, ad.off, ad.spot⟩ : Addr) = ad from rfl, hv] at this
      cases this
    rw [World.cell?_of_block (w := w) (hother _ hne)]
    exact h.good ad v hv
  · intro q bk hk
    simp only [look_put] at hk
    by_cases ek : n = q
    · subst ek
      rw [if_pos rfl] at hk
      obtain rfl := Option.some.inj hk
      have hlen : (cur.toList.take (i * sz + off) ++ cs ++ cur.toList.drop (i * sz + off + cs.length)).length = cur.size := by simp; omega
      refine ⟨(cur.toList.take (i * sz + off) ++ cs ++ cur.toList.drop (i * sz + off + cs.length)).take (k * sz), ⟨by rw [List.length_take, hlen]; omega, .inr ⟨b, cap, _, hv, Nat.zero_le _, setRow_heap w b cur _ e _ hheap, hkc, hcm, by rw [← hcs]; simp only [List.size_toArray]; exact hlen, by simp only [List.toList_toArray]⟩⟩, ?_, ?_⟩
      · intro v hvm
        obtain ⟨q, hq⟩ := List.mem_iff_getElem?.1 hvm
        have hql : q < k * sz := by
          rcases Nat.lt_or_ge q (k * sz) with h2 | h2
          · exact h2
          · rw [List.getElem?_eq_none (by simp; omega)] at hq; cases hq
        rw [List.getElem?_take_of_lt hql, splice_get _ _ _ _ (by simp; omega)] at hq
        have hxs : cur.toList[q]? = some v → v ∈ xs := fun h3 => by
          rw [← htk]; exact List.mem_iff_getElem?.2 ⟨q, by rw [List.getElem?_take_of_lt hql]; exact h3⟩
        split at hq
        · exact h1c v (hxs hq)
        · split at hq
          · exact hone v (List.mem_iff_getElem?.2 ⟨_, hq⟩)
          · exact h1c v (hxs hq)
      · intro i' hi' j hj
        have hlt : i' * sz + j < k * sz := row_lt hi' hj
        rw [List.getElem?_take_of_lt hlt, splice_get _ _ _ _ (by simp; omega)]
        obtain ⟨x, hx1, hx2⟩ := hg i' hi' j hj
        have hxc : cur.toList[i' * sz + j]? = some x := by
          rw [← htk, List.getElem?_take_of_lt hlt] at hx1; exact hx1
        by_cases hin : i' = i ∧ off ≤ j ∧ j < off + c.length
        · obtain ⟨rfl, h2, h3⟩ := hin
          rw [if_neg (by omega), if_pos (by omega)]
          obtain ⟨v, hv1, hv2⟩ := hc.get' (j - off) default (by omega)
          refine ⟨v, by rw [← hv1]; congr 1; omega, ?_⟩
          have : (Nat.beq i' i' && (Nat.ble off j && Nat.blt j (off + c.length))) = true := by simp [Nat.ble_eq, Nat.blt_eq]; omega
          simp only [setG, this, cond_true]; exact hv2
        · have hf : (Nat.beq i' i && (Nat.ble off j && Nat.blt j (off + c.length))) = false := by
            rw [Bool.eq_false_iff]; intro hh2
            simp only [Bool.and_eq_true, Nat.ble_eq, Nat.blt_eq] at hh2
            exact hin ⟨Nat.eq_of_beq_eq_true hh2.1, hh2.2.1, hh2.2.2⟩
          refine ⟨x, ?_, by simp only [setG, hf, cond_false]; exact hx2⟩
          rcases Nat.lt_trichotomy i' i with h4 | h4 | h4
          · have := row_lt h4 hj
            rw [if_pos (by omega)]; exact hxc
          · subst h4
            by_cases h5 : j < off
            · rw [if_pos (by omega)]; exact hxc
            · rw [if_neg (by omega), if_neg (by omega)]; exact hxc
          · have h6 := Nat.mul_le_mul_right sz (show i + 1 ≤ i' from h4)
            rw [Nat.add_mul, Nat.one_mul] at h6
            rw [if_neg (by omega), if_neg (by omega)]; exact hxc
    · simp [ek] at hk
      refine Blk.rep_world bk (w := w) (fun ad had => hother _ ?_) (h.env q bk hk)
      exact fun e => h.dist q n (by simp [St.has, hk]) hh (fun e => ek e.symm) ad _ had hA e
  · intro q hk; exact h.own q ((hhas q).1 hk)
  · intro p q hp hq; exact h.dist p q ((hhas p).1 hp) ((hhas q).1 hq)
  · intro q x hx p hp; exact (hhas p).2 (h.wfs q x hx p hp)
  · intro q bk hk p hp
    simp only [look_put] at hk
    by_cases ek : n = q
    · rw [if_pos ek] at hk
      obtain rfl := Option.some.inj hk
      cases hp
    · simp [ek] at hk
      exact (hhas p).2 (h.wfe q bk hk p hp)
def dsOf : List C → Option (List D)
  | [] => some []
  | .d x :: r => (dsOf r).map (x :: ·)
  | _ => none
theorem dsOf_rep : ∀ {l : List C} {c : List D} {vs : List Value}, dsOf l = some c → All2 (C.rep m β) l vs → All2 (D.rep m) c vs := by
  intro l
  induction l with
  | nil => intro c vs h hr; cases hr; simp [dsOf] at h; subst h; exact .nil
  | cons x r ih =>
    intro c vs h hr
    cases hr with
    | cons hx ht =>
      cases x
      case d x =>
        simp only [dsOf, Option.map_eq_some_iff] at h
        obtain ⟨c', h1, rfl⟩ := h
        exact .cons hx (ih h1 ht)
      all_goals (simp [dsOf] at h)
/-- A store into an element of an owned row. -/
theorem step_storeE {q : Nat} {t : TypeId} {x y : Operand} (ho : ops[q]? = some o) (hw : wantedA ops st o = some true) (hop : o.op = .store t x y) {n sz i off : Nat} (hx : opnd st x = .one (.c (.ep n sz i off))) {e k : Nat} {get : Nat → Nat → D} {l : List C} {c : List D}
    (hb : look st.env n = some (.arr e sz k get)) (hc : cellsOf (opnd st y) = some l) (hds : dsOf l = some c) (hs : tsize G.P t = some c.length) (hi : i < k) (hle : Nat.ble (off + c.length) sz = true) (hd : o.dst = none) :
    AStep G ops q st { st with env := (n, .arr e sz k (setG get i off c)) :: st.env } := by
  intro m β a w h K Q hK
  have hrep := cellsOf_rep hc (opnd_rep h y)
  have hcs := dsOf_rep hds hrep.1
  obtain ⟨b, w', hA, hrun, hR⟩ := h.storeE hb c (a.eval y).cells.toList hcs hrep.2 hi (Nat.le_of_ble_eq_true hle)
  have hxv := opnd_rep h x
  rw [hx] at hxv
  obtain ⟨b', o', hA', hv⟩ := hxv
  rw [hA] at hA'
  obtain ⟨rfl, rfl⟩ : b = b' ∧ 0 = o' := by injection hA' with e; injection e with e1 e2; exact ⟨e1, e2⟩
  refine wpOp_wanted ho (wantedA_sound h hw) ?_
  unfold Oper.wp
  have hlen := hcs.length
  rw [Nat.zero_add] at hv
  have hex : (execOp a.eval o).run G.P w = .ok .skip w' := by
    simp [execOp, hop, Instr.storeAt, Instr.sureAddr, hv, storeVar, run_sizeOf hs, show (a.eval y).cells.size = c.length by simp at hlen; omega, hrun]
  rw [hex, Oper.upon_skip, hd]
  exact hK _ _ _ _ hR
end
end Go.Proofs.Ytfpmgnkbklnkaaa.Eng
end
section
set_option linter.unusedSimpArgs false
set_option linter.unusedVariables false
namespace Go.Proofs.Ytfpmgnkbklnkaaa.Eng
open Go
/-! #### other names -/
def ren (l : List (Nat × Nat)) (k : Nat) : Nat := (look l k).getD k
def CP.ren (f : Nat → Nat) : CP → CP
  | .ptr n off => .ptr (f n) off
  | x => x
def C.ren (f : Nat → Nat) : C → C
  | .ptr n off => .ptr (f n) off
  | .ep n sz i j => .ep (f n) sz i j
  | .gs n sz lo len => .gs (f n) sz lo len
  | .fn g caps => .fn g (caps.map (CP.ren f))
  | x => x
def U.ren (f : Nat → Nat) : U → U
  | .c x => .c (x.ren f)
  | .agg l => .agg (l.map (C.ren f))
def T.ren (f : Nat → Nat) : T → T
  | .any => .any
  | .one x => .one (x.ren f)
  | .tup l => .tup (l.map (U.ren f))
def Blk.ren (f : Nat → Nat) : Blk → Blk
  | .var l => .var (l.map (C.ren f))
  | x => x
section
variable {m : Mem} {β : Bt} {f : Nat → Nat}
theorem All2.map_left {α β γ : Type} {R : β → γ → Prop} {g : α → β} : ∀ {l : List α} {k : List γ}, All2 R (l.map g) k ↔ All2 (fun a b => R (g a) b) l k
  | [], k => ⟨fun h => by cases h; exact .nil, fun h => by cases h; exact .nil⟩
  | a :: l, k => ⟨fun h => by cases h with | cons h t => exact .cons h (All2.map_left.1 t), fun h => by cases h with | cons h t => exact .cons h (All2.map_left.2 t)⟩
theorem All2.iff {α β : Type} {R S : α → β → Prop} (h : ∀ a b, R a b ↔ S a b) {l : List α} {k : List β} : All2 R l k ↔ All2 S l k :=
  ⟨fun x => forall₂_imp (fun a _ b hr => (h a b).1 hr) x, fun x => forall₂_imp (fun a _ b hr => (h a b).2 hr) x⟩
theorem CP.rep_ren (x : CP) (v : Value) : (x.ren f).rep m β v ↔ x.rep m (fun k => β (f k)) v := by cases x <;> exact Iff.rfl
theorem C.rep_ren (x : C) (v : Value) : (x.ren f).rep m β v ↔ x.rep m (fun k => β (f k)) v := by
  cases x with
  | fn g caps =>
    simp only [C.ren, C.rep]
    refine ⟨fun ⟨vs, e, h⟩ => ⟨vs, e, ?_⟩, fun ⟨vs, e, h⟩ => ⟨vs, e, ?_⟩⟩
    · exact (All2.iff (fun a b => CP.rep_ren a b)).1 (All2.map_left.1 h)
    · exact All2.map_left.2 ((All2.iff (fun a b => CP.rep_ren a b)).2 h)
  | _ => exact Iff.rfl
theorem U.rep_ren (x : U) (v : Value) : (x.ren f).rep m β v ↔ x.rep m (fun k => β (f k)) v := by
  cases x with
  | c x => exact C.rep_ren x v
  | agg l =>
    simp only [U.ren, U.rep]
    refine ⟨fun ⟨vs, e, h⟩ => ⟨vs, e, ?_⟩, fun ⟨vs, e, h⟩ => ⟨vs, e, ?_⟩⟩
    · exact (All2.iff (fun a b => C.rep_ren a b)).1 (All2.map_left.1 h)
    · exact All2.map_left.2 ((All2.iff (fun a b => C.rep_ren a b)).2 h)
theorem T.rep_ren (x : T) (v : Value) : (x.ren f).rep m β v ↔ x.rep m (fun k => β (f k)) v := by
  cases x with
  | any => exact Iff.rfl
  | one x => exact U.rep_ren x v
  | tup l =>
    simp only [T.ren, T.rep]
    refine ⟨fun ⟨vs, e, h⟩ => ⟨vs, e, ?_⟩, fun ⟨vs, e, h⟩ => ⟨vs, e, ?_⟩⟩
    · exact (All2.iff (fun a b => U.rep_ren a b)).1 (All2.map_left.1 h)
    · exact All2.map_left.2 ((All2.iff (fun a b => U.rep_ren a b)).2 h)
theorem Blk.rep_ren (x : Blk) (w : World) (n : Nat) : (x.ren f).rep m β w (f n) ↔ x.rep m (fun k => β (f k)) w n := by
  cases x with
  | var l =>
    simp only [Blk.ren, Blk.rep]
    refine ⟨fun ⟨b, vs, e, h1, h2, h⟩ => ⟨b, vs, e, h1, h2, ?_⟩, fun ⟨b, vs, e, h1, h2, h⟩ => ⟨b, vs, e, h1, h2, ?_⟩⟩
    · exact (All2.iff (fun a b => C.rep_ren a b)).1 (All2.map_left.1 h)
    · exact All2.map_left.2 ((All2.iff (fun a b => C.rep_ren a b)).2 h)
  | arr => exact Iff.rfl
theorem CP.names_ren (x : CP) : (x.ren f).names = x.names.map f := by cases x <;> rfl
theorem flatMap_ren {α : Type} {g : α → α} {nm : α → List Nat} (h : ∀ x, nm (g x) = (nm x).map f) : ∀ (l : List α), (l.map g).flatMap nm = (l.flatMap nm).map f
  | [] => rfl
  | x :: l => by simp [h x, flatMap_ren h l]
theorem C.names_ren (x : C) : (x.ren f).names = x.names.map f := by
  cases x with
  | fn g caps => exact flatMap_ren CP.names_ren caps
  | _ => rfl
theorem U.names_ren (x : U) : (x.ren f).names = x.names.map f := by
  cases x with
  | c x => exact C.names_ren x
  | agg l => exact flatMap_ren C.names_ren l
theorem T.names_ren (x : T) : (x.ren f).names = x.names.map f := by
  cases x with
  | any => rfl
  | one x => exact U.names_ren x
  | tup l => exact flatMap_ren U.names_ren l
theorem Blk.names_ren (x : Blk) : (x.ren f).names = x.names.map f := by
  cases x with
  | var l => exact flatMap_ren C.names_ren l
  | arr => rfl
end
/-! #### lists of blocks -/
def inE (env : List (Nat × Blk)) (n : Nat) : Bool := (look env n).isSome
def distB : List Nat → Bool
  | [] => true
  | k :: r => !(r.any (Nat.beq k)) && distB r
def keysR (f : Nat → Nat) (env : List (Nat × Blk)) : List Nat := env.map fun p => f p.1
def renE (f : Nat → Nat) (env : List (Nat × Blk)) : List (Nat × Blk) := env.map fun p => (f p.1, p.2.ren f)
theorem inE_spec {env : List (Nat × Blk)} {n : Nat} (h : inE env n = true) : ∃ b, look env n = some b := Option.isSome_iff_exists.1 h
theorem inE_of {env : List (Nat × Blk)} {n : Nat} {b : Blk} (h : look env n = some b) : inE env n = true := by simp [inE, h]
theorem dist_inj {f : Nat → Nat} : ∀ {env : List (Nat × Blk)}, distB (keysR f env) = true → ∀ {p q : Nat × Blk}, p ∈ env → q ∈ env → f p.1 = f q.1 → p = q
  | [], _, p, q, hp, _, _ => by cases hp
  | x :: r, h, p, q, hp, hq, e => by
    simp only [keysR, List.map_cons, distB, Bool.and_eq_true, Bool.not_eq_true', List.any_eq_false] at h
    rcases List.mem_cons.1 hp with e1 | hp
    · rcases List.mem_cons.1 hq with e2 | hq
      · rw [e1, e2]
      · exact absurd (show Nat.beq (f x.1) (f q.1) = true by rw [← e, e1]; exact Nat.beq_refl _) (h.1 _ (List.mem_map.2 ⟨q, hq, rfl⟩))
    · rcases List.mem_cons.1 hq with e2 | hq
      · exact absurd (show Nat.beq (f x.1) (f p.1) = true by rw [e, e2]; exact Nat.beq_refl _) (h.1 _ (List.mem_map.2 ⟨p, hp, rfl⟩))
      · exact dist_inj h.2 hp hq e
theorem dist_inj' {f : Nat → Nat} {env : List (Nat × Blk)} (h : distB (keysR f env) = true) {n k : Nat} (hn : inE env n = true) (hk : inE env k = true) (e : f n = f k) : n = k := by
  obtain ⟨b, hb⟩ := inE_spec hn
  obtain ⟨c, hc⟩ := inE_spec hk
  exact congrArg Prod.fst (dist_inj h (look_mem hb) (look_mem hc) e)
theorem look_of_mem {f : Nat → Nat} : ∀ {env : List (Nat × Blk)}, distB (keysR f env) = true → ∀ {n : Nat} {b : Blk}, (n, b) ∈ env → look env n = some b
  | [], _, _, _, h => by cases h
  | x :: r, h, n, b, hm => by
    have h' := h
    simp only [keysR, List.map_cons, distB, Bool.and_eq_true] at h
    rw [show (x :: r) = ((x.1, x.2) :: r) from rfl, look_put]
    rcases List.mem_cons.1 hm with rfl | hm
    · simp
    · split
      · rename_i e
        have := dist_inj h' (List.mem_cons_self ..) (List.mem_cons_of_mem _ hm) (congrArg f e)
        rw [this]
      · exact look_of_mem h.2 hm
theorem look_renE {f : Nat → Nat} : ∀ {env : List (Nat × Blk)} {k : Nat} {b' : Blk}, look (renE f env) k = some b' → ∃ n b, (n, b) ∈ env ∧ k = f n ∧ b' = b.ren f
  | [], k, b', h => by simp [renE, look] at h
  | x :: r, k, b', h => by
    simp only [renE, List.map_cons, look_put] at h
    split at h
    · rename_i e; obtain rfl := Option.some.inj h; exact ⟨x.1, x.2, List.mem_cons_self .., e.symm, rfl⟩
    · obtain ⟨n, b, h1, h2⟩ := look_renE (env := r) h
      exact ⟨n, b, List.mem_cons_of_mem _ h1, h2⟩
/-- What a list of named blocks says of memory and world. -/
structure RE (m : Mem) (β : Bt) (w : World) (E : List (Nat × Blk)) : Prop where
  env : ∀ n b, look E n = some b → b.rep m β w n
  nomem : ∀ n, inE E n = true → ∀ ad, (β n).A = some ad → ∀ o s, m ⟨ad.block, o, s⟩ = none
  dist : ∀ n k, inE E n = true → inE E k = true → n ≠ k → ∀ ad bd, (β n).A = some ad → (β k).A = some bd → ad.block ≠ bd.block
  wfe : ∀ k b, look E k = some b → ∀ n ∈ b.names, inE E n = true
def blocksOf (β : Bt) (env : List (Nat × Blk)) (q : Nat) : Prop := ∃ n ad, inE env n = true ∧ (β n).A = some ad ∧ ad.block = q
/-- Called with such values and such blocks: what it hands back, and what it leaves of these blocks; names from 9000 on stay where they stood. -/
structure FnG (P : Program) (f : FuncId) (args : List U) (env0 : List (Nat × Blk)) (Q : T → List (Nat × Blk) → Prop) : Prop where
  entry : ∃ fn, P.funcs[f]? = some fn ∧ fn.body.isSome = true ∧ (fn.name == "runtime.NumGoroutine") = false
  wfe : ∀ k b, look env0 k = some b → ∀ n ∈ b.names, inE env0 n = true
  calls : ∀ (m : Mem) (β : Bt) (w : World) (vs : List Value), Good m w → All2 (U.rep m β) args vs → RE m β w env0 → Calls P f vs.toArray w fun e w' =>
    ∃ v m' β' r env', e = .returned v ∧ Q r env' ∧ r.rep m' β' v ∧ (∀ n ∈ r.names, inE env' n = true) ∧ Ext w.heap.size m m' ∧ Good m' w' ∧ Fr (blocksOf β env0) w w' ∧ RE m' β' w' env' ∧ (∀ n, 9000 ≤ n → β' n = β n) ∧
      ∀ n, inE env' n = true → ∀ ad, (β' n).A = some ad → w.heap.size ≤ ad.block ∨ blocksOf β env0 ad.block
theorem FnG.mono {P : Program} {f : FuncId} {args : List U} {env0 : List (Nat × Blk)} {Q Q' : T → List (Nat × Blk) → Prop} (h : FnG P f args env0 Q) (hq : ∀ r e, Q r e → Q' r e) : FnG P f args env0 Q' :=
  ⟨h.entry, h.wfe, fun m β w vs hg ha he => (h.calls m β w vs hg ha he).mono fun e w' ⟨v, m', β', r, env', h1, h2, h3⟩ => ⟨v, m', β', r, env', h1, hq r env' h2, h3⟩⟩
/-- The callee's end: its blocks by the contract's names. -/
def endE (st : St) (f : Nat → Nat) : List (Nat × Blk) → Prop
  | [] => True
  | (k, b) :: r => (∃ x, look st.env (f k) = some x ∧ BLe x (b.ren f)) ∧ endE st f r
theorem endE_get {st : St} {f : Nat → Nat} : ∀ {env : List (Nat × Blk)}, endE st f env → ∀ {k : Nat} {b : Blk}, (k, b) ∈ env → ∃ x, look st.env (f k) = some x ∧ BLe x (b.ren f)
  | [], _, _, _, h => by cases h
  | x :: r, h, k, b, hm => by
    rcases List.mem_cons.1 hm with rfl | hm
    · exact h.1
    · exact endE_get h.2 hm
def resOk (l : List (Nat × Nat)) (us : List U) (env : List (Nat × Blk)) : Bool :=
  l.all (fun p => Nat.blt p.1 9000 || Nat.beq p.1 p.2) && distB (keysR (ren l) env) && us.all (fun u => u.names.all (inE env)) && env.all (fun p => p.2.names.all (inE env))
def ResG (G : Ctx) (fn : Func) (Q : T → List (Nat × Blk) → Prop) : Exit → St → Prop
  | .normal, st | .ret, st => ∃ us us' l env', evRess G.P st fn.results.toList = some us ∧ All2 ULe us (us'.map (U.ren (ren l))) ∧ endE st (ren l) env' ∧ resOk l us' env' = true ∧ Q (tupOf us') env'
  | _, _ => False
theorem ResG.ret {G : Ctx} {fn : Func} {Q : T → List (Nat × Blk) → Prop} {st : St} {us us' : List U} (l : List (Nat × Nat)) {env' : List (Nat × Blk)} (h1 : evRess G.P st fn.results.toList = some us) (h2 : All2 ULe us (us'.map (U.ren (ren l)))) (h3 : endE st (ren l) env') (h4 : resOk l us' env' = true) (h5 : Q (tupOf us') env') : ResG G fn Q .ret st := ⟨us, us', l, env', h1, h2, h3, h4, h5⟩
theorem ResG.normal {G : Ctx} {fn : Func} {Q : T → List (Nat × Blk) → Prop} {st : St} {us us' : List U} (l : List (Nat × Nat)) {env' : List (Nat × Blk)} (h1 : evRess G.P st fn.results.toList = some us) (h2 : All2 ULe us (us'.map (U.ren (ren l)))) (h3 : endE st (ren l) env') (h4 : resOk l us' env' = true) (h5 : Q (tupOf us') env') : ResG G fn Q .normal st := ⟨us, us', l, env', h1, h2, h3, h4, h5⟩
theorem tupOf_ren (f : Nat → Nat) (us : List U) : tupOf (us.map (U.ren f)) = (tupOf us).ren f := by
  cases us with
  | nil => rfl
  | cons u t => cases t <;> rfl
theorem FnG.intro {P : Program} {f : FuncId} {fn : Func} {c : Code} {args : List U} {env0 : List (Nat × Blk)} {Q : T → List (Nat × Blk) → Prop} (hf : P.funcs[f]? = some fn) (hb : fn.body = some c) (hname : (fn.name == "runtime.NumGoroutine") = false) (hN : Nat.ble args.length fn.ntmps = true)
    (hp : args.all (fun u => u.names.all (inE env0)) = true) (hpe : env0.all (fun p => p.2.names.all (inE env0)) = true) {N : Nat} (hnt : fn.ntmps = N) (h : ∀ w0 m0 F β, AC ⟨P, w0, m0, F, N, β⟩ c ⟨argSlots 0 args, env0⟩ (ResG ⟨P, w0, m0, F, N, β⟩ fn Q)) : FnG P f args env0 Q := by
  subst hnt
  refine ⟨⟨fn, hf, by simp [hb], hname⟩, fun k b hb n hn => List.all_eq_true.1 (List.all_eq_true.1 hpe _ (look_mem hb)) n hn, fun m β w vs hg ha he => ?_⟩
  let G : Ctx := ⟨P, w, m, blocksOf β env0, fn.ntmps, β⟩
  have hlen := ha.length
  have hN' := Nat.le_of_ble_eq_true hN
  have hR : R G ⟨argSlots 0 args, env0⟩ m β { tmps := vs.toArray ++ Array.replicate (fn.ntmps - vs.toArray.size) undef, defers := [] } w := by
    refine ⟨Fr.refl _ _, Ext.refl _ _, hg, he.env, ?_, fun n k hn hk => he.dist n k hn hk, ?_, ?_, he.wfe, ?_, rfl, fun _ _ => rfl⟩
    · intro n hn ad had
      exact ⟨.inr ⟨n, ad, hn, had, rfl⟩, he.nomem n hn ad had⟩
    · intro k x hx
      obtain ⟨j, u, rfl, hu, rfl⟩ := look_argSlots args 0 k x hx
      obtain ⟨v, hv, hr⟩ := ha.get hu
      refine ⟨v, ?_, hr⟩
      have hlt : 0 + j < vs.toArray.size := by have := (List.getElem?_eq_some_iff.1 hv).1; simpa using this
      rw [Array.getElem?_append_left hlt]
      simpa using hv
    · intro k x hx n hn
      obtain ⟨j, u, rfl, hu, rfl⟩ := look_argSlots args 0 k x hx
      exact List.all_eq_true.1 (List.all_eq_true.1 hp u (List.mem_of_getElem? hu)) n hn
    · simp [G]; omega
  refine calls_of_wp hf hb (h w m (blocksOf β env0) β m β _ w hR _ ?_)
  intro e st' m' β' a' w' hq hR'
  have fin : (∃ us us' l env', evRess G.P st' fn.results.toList = some us ∧ All2 ULe us (us'.map (U.ren (ren l))) ∧ endE st' (ren l) env' ∧ resOk l us' env' = true ∧ Q (tupOf us') env') → a'.defers = [] ∧ ∃ v, (results fn a'.tmps).run P w' = .ok v w' ∧
      ∃ v' m'' β'' r env', (Ending.returned v : Ending) = .returned v' ∧ Q r env' ∧ r.rep m'' β'' v' ∧ (∀ n ∈ r.names, inE env' n = true) ∧ Ext w.heap.size m m'' ∧ Good m'' w' ∧ Fr (blocksOf β env0) w w' ∧ RE m'' β'' w' env' ∧ (∀ n, 9000 ≤ n → β'' n = β n) ∧
      ∀ n, inE env' n = true → ∀ ad, (β'' n).A = some ad → w.heap.size ≤ ad.block ∨ blocksOf β env0 ad.block := by
    rintro ⟨us, us', l, env', hus, hle, hend, hok, hQ⟩
    simp only [resOk, Bool.and_eq_true] at hok
    obtain ⟨⟨⟨hk1, hk2⟩, hk3⟩, hk4⟩ := hok
    obtain ⟨v, hv, hr, _⟩ := run_resultsT hR' (fn := fn) hus hle
    have hhas : ∀ n, inE env' n = true → st'.has (ren l n) = true := by
      intro n hn
      obtain ⟨b, hb⟩ := inE_spec hn
      obtain ⟨x, hx, _⟩ := endE_get hend (look_mem hb)
      simp [St.has, hx]
    refine ⟨hR'.defers, v, hv, v, m', fun k => β' (ren l k), tupOf us', env', rfl, hQ, ?_, ?_, hR'.ext, hR'.good, hR'.fr, ⟨?_, ?_, ?_, ?_⟩, ?_, ?_⟩
    · rw [tupOf_ren] at hr
      exact (T.rep_ren _ _).1 hr
    · intro n hn
      rw [tupOf_names] at hn
      obtain ⟨u, hu, hn⟩ := List.mem_flatMap.1 hn
      exact List.all_eq_true.1 (List.all_eq_true.1 hk3 u hu) n hn
    · intro n b hb
      obtain ⟨x, hx, hbl⟩ := endE_get hend (look_mem hb)
      exact (Blk.rep_ren b w' n).1 (hbl m' β' w' _ (hR'.env _ x hx))
    · intro n hn ad had
      exact (hR'.own _ (hhas n hn) ad had).2
    · intro n k hn hk hne ad bd had hbd
      exact hR'.dist _ _ (hhas n hn) (hhas k hk) (fun e => hne (dist_inj' hk2 hn hk e)) ad bd had hbd
    · intro k b hb
      exact fun n hn => List.all_eq_true.1 (List.all_eq_true.1 hk4 _ (look_mem hb)) n hn
    · intro n hn
      have : ren l n = n := by
        unfold ren
        cases hl : look l n with
        | none => rfl
        | some k =>
          have := List.all_eq_true.1 hk1 _ (look_mem hl)
          simp only [Bool.or_eq_true, Nat.blt_eq] at this
          rcases this with h1 | h1
          · omega
          · exact (Nat.eq_of_beq_eq_true h1).symm
      simp only [this]
      exact hR'.pin n hn
    · intro n hn ad had
      exact (hR'.own _ (hhas n hn) ad had).1
  cases e with
  | normal => exact fin hq
  | ret => exact fin hq
  | _ => exact hq.elim
end Go.Proofs.Ytfpmgnkbklnkaaa.Eng
end
section
set_option linter.unusedSimpArgs false
set_option linter.unusedVariables false
namespace Go.Proofs.Ytfpmgnkbklnkaaa.Eng
open Go
def cpU : CP → U
  | .any => .c .any
  | .d x => .c (.d x)
  | .ptr n off => .c (.ptr n off)
theorem cpU_rep {m : Mem} {β : Bt} : ∀ {l : List CP} {vs : List Value}, All2 (CP.rep m β) l vs → All2 (U.rep m β) (l.map cpU) vs
  | _, _, .nil => .nil
  | c :: _, _, .cons h t => .cons (by cases c <;> exact h) (cpU_rep t)
def asFnC : T → Option (FuncId × List CP)
  | .one (.c (.fn f caps)) => some (f, caps)
  | _ => none
section
variable {G : Ctx} {st : St} {m m' : Mem} {β : Bt} {a : Act} {w w' : World}
theorem run_callC (h : R G st m β a w) {o : Oper} {c : Call} {fop : Operand} {f : FuncId} {caps : List CP} (ho : o.op = .call c) (hc : c.callee = .value fop) (hf : asFnC (opnd st fop) = some (f, caps))
    (hfn : ∃ fn, G.P.funcs[f]? = some fn ∧ fn.body.isSome = true ∧ (fn.name == "runtime.NumGoroutine") = false) :
    ∃ vs, All2 (CP.rep m β) caps vs ∧ (execOp a.eval o).run G.P w = .ok (.enter f (c.args.toList.map a.eval ++ vs).toArray) w := by
  obtain ⟨fn, h1, h2, h3⟩ := hfn
  have hv := opnd_rep h fop
  unfold asFnC at hf
  split at hf
  · rename_i f' caps' hop
    obtain ⟨rfl, rfl⟩ := Prod.mk.inj (Option.some.inj hf)
    rw [hop] at hv
    obtain ⟨vs, hv, hvs⟩ := hv
    refine ⟨vs, hvs, ?_⟩
    have h2' : fn.body.isNone = false := by cases hb : fn.body <;> simp_all
    have h3' : ¬ fn.name = "runtime.NumGoroutine" := by simpa using h3
    have h2'' : ¬ fn.body = none := by intro e; rw [e] at h2; cases h2
    simp [execOp, ho, resolve, hc, hv, Deferred.ofValue, invoke, callFunc, h1, h2'', h3']
  · cases hf
/-- The blocks that are handed over, as the caller names them. -/
def hand (st : St) (f : Nat → Nat) : List (Nat × Blk) → Prop
  | [] => True
  | (n, b) :: r => look st.env (f n) = some (b.ren f) ∧ hand st f r
theorem hand_get {f : Nat → Nat} : ∀ {env : List (Nat × Blk)}, hand st f env → ∀ {n : Nat} {b : Blk}, (n, b) ∈ env → look st.env (f n) = some (b.ren f)
  | [], _, _, _, h => by cases h
  | x :: r, h, n, b, hm => by
    rcases List.mem_cons.1 hm with rfl | hm
    · exact h.1
    · exact hand_get h.2 hm
/-- What is left behind the call. -/
def postG (st : St) (ks es : List Nat) (d : Nat) (f : Nat → Nat) (r : T) (env : List (Nat × Blk)) : St := ⟨(d, r.ren f) :: pick st.sl ks, renE f env ++ pick st.env es⟩
def postOk (l l' : List (Nat × Nat)) (env0 env' : List (Nat × Blk)) (st : St) (ks es : List Nat) (d : Nat) (r : T) : Bool :=
  distB (keysR (ren l') env') &&
  env'.all (fun p => !(es.any (Nat.beq (ren l' p.1))) && (Nat.blt (ren l' p.1) 9000 || (Nat.ble 9000 p.1 && Nat.beq (ren l p.1) (ren l' p.1)))) &&
  es.all (fun e => !(env0.any fun p => Nat.beq (ren l p.1) e)) &&
  (pick st.sl ks).all (fun q => q.2.names.all fun k => es.any (Nat.beq k) || env'.any fun p => Nat.beq (ren l' p.1) k && Nat.ble 9000 p.1 && Nat.beq (ren l p.1) k) &&
  (pick st.env es).all (fun q => q.2.names.all fun k => es.any (Nat.beq k) || env'.any fun p => Nat.beq (ren l' p.1) k && Nat.ble 9000 p.1 && Nat.beq (ren l p.1) k) &&
  (postG st ks es d (ren l') r env').wfB
def backB (β β' : Bt) (f : Nat → Nat) (env : List (Nat × Blk)) : Bt := fun k => match env.find? (fun p => Nat.beq (f p.1) k) with
  | some p => β' p.1
  | none => β k
theorem backB_in {β β' : Bt} {f : Nat → Nat} {env : List (Nat × Blk)} (hd : distB (keysR f env) = true) {p : Nat × Blk} (hp : p ∈ env) : backB β β' f env (f p.1) = β' p.1 := by
  unfold backB
  cases hf : env.find? (fun q => Nat.beq (f q.1) (f p.1)) with
  | none => have := List.find?_eq_none.1 hf p hp; simp at this
  | some q =>
    have h1 := List.find?_some hf
    have h2 := List.mem_of_find?_eq_some hf
    rw [dist_inj hd h2 hp (Nat.eq_of_beq_eq_true h1)]
theorem backB_out {β β' : Bt} {f : Nat → Nat} {env : List (Nat × Blk)} {k : Nat} (h : ∀ p ∈ env, f p.1 ≠ k) : backB β β' f env k = β k := by
  unfold backB
  cases hf : env.find? (fun q => Nat.beq (f q.1) k) with
  | none => rfl
  | some q =>
    have h1 := List.find?_some hf
    exact absurd (Nat.eq_of_beq_eq_true h1) (h q (List.mem_of_find?_eq_some hf))
theorem any_beq {l : List Nat} {k : Nat} : l.any (Nat.beq k) = true ↔ k ∈ l := by
  rw [List.any_eq_true]
  exact ⟨fun ⟨x, hx, e⟩ => by rw [Nat.eq_of_beq_eq_true e]; exact hx, fun h => ⟨k, h, Nat.beq_refl _⟩⟩
theorem mem_pick {α : Type} {l : List (Nat × α)} : ∀ {ks : List Nat} {k : Nat} {x : α}, look (pick l ks) k = some x → k ∈ ks
  | [], k, x, h => by simp [pick, look] at h
  | q :: ks, k, x, h => by
    simp only [pick] at h
    split at h
    · rw [look_put] at h
      split at h
      · rename_i e; subst e; exact List.mem_cons_self ..
      · exact List.mem_cons_of_mem _ (mem_pick h)
    · exact List.mem_cons_of_mem _ (mem_pick h)
theorem R.callG (h : R G st m β a w) {l l' : List (Nat × Nat)} {env0 env' : List (Nat × Blk)} {ks es : List Nat} {d : Nat} {r : T} {β' : Bt} {v : Value}
    (hh : hand st (ren l) env0) (hd0 : distB (keysR (ren l) env0) = true) (hok : postOk l l' env0 env' st ks es d r = true) (hN : d < G.N)
    (hrep : r.rep m' β' v) (hrn0 : ∀ n ∈ r.names, inE env' n = true) (hext : Ext w.heap.size m m') (hg : Good m' w') (hfr : Fr (blocksOf (fun k => β (ren l k)) env0) w w') (he : RE m' β' w' env') (hpin : ∀ n, 9000 ≤ n → β' n = β (ren l n))
    (hown : ∀ n, inE env' n = true → ∀ ad, (β' n).A = some ad → w.heap.size ≤ ad.block ∨ blocksOf (fun k => β (ren l k)) env0 ad.block) :
    R G (postG st ks es d (ren l') r env') m' (backB β β' (ren l') env') (a.put (some d) v) w' := by
  simp only [postOk, Bool.and_eq_true] at hok
  obtain ⟨⟨⟨⟨⟨ha, hb⟩, hc⟩, hs⟩, hse⟩, hwf⟩ := hok
  have hb1 : ∀ p ∈ env', ren l' p.1 ∉ es := fun p hp hm => by
    have := List.all_eq_true.1 hb p hp
    simp only [Bool.and_eq_true, Bool.not_eq_true'] at this
    rw [any_beq.2 hm] at this
    cases this.1
  have hb2 : ∀ p ∈ env', ren l' p.1 < 9000 ∨ (9000 ≤ p.1 ∧ ren l p.1 = ren l' p.1) := fun p hp => by
    have := List.all_eq_true.1 hb p hp
    simp only [Bool.and_eq_true, Bool.or_eq_true, Nat.blt_eq] at this
    rcases this.2 with h1 | h1
    · exact .inl h1
    · exact .inr ⟨Nat.le_of_ble_eq_true h1.1, Nat.eq_of_beq_eq_true h1.2⟩
  have hc1 : ∀ e ∈ es, ∀ p ∈ env0, ren l p.1 ≠ e := fun e hm p hp h1 => by
    have := List.all_eq_true.1 hc e hm
    simp only [Bool.not_eq_true', List.any_eq_false] at this
    exact this p hp (by rw [h1]; exact Nat.beq_refl _)
  have hes : ∀ k ∈ es, backB β β' (ren l') env' k = β k := fun k hk => backB_out fun p hp e => hb1 p hp (e ▸ hk)
  have hpn : ∀ k, (∃ p ∈ env', ren l' p.1 = k ∧ 9000 ≤ p.1 ∧ ren l p.1 = k) → backB β β' (ren l') env' k = β k := by
    rintro k ⟨p, hp, h1, h2, h3⟩
    rw [← h1, backB_in ha hp, hpin _ h2, h3, h1]
  have hnm : ∀ k, (es.any (Nat.beq k) || env'.any fun p => Nat.beq (ren l' p.1) k && Nat.ble 9000 p.1 && Nat.beq (ren l p.1) k) = true → backB β β' (ren l') env' k = β k := by
    intro k hk
    simp only [Bool.or_eq_true] at hk
    rcases hk with hk | hk
    · exact hes k (any_beq.1 hk)
    · obtain ⟨p, hp, hk⟩ := List.any_eq_true.1 hk
      simp only [Bool.and_eq_true] at hk
      exact hpn k ⟨p, hp, Nat.eq_of_beq_eq_true hk.1.1, Nat.le_of_ble_eq_true hk.1.2, Nat.eq_of_beq_eq_true hk.2⟩
  have hhas : ∀ n, inE env0 n = true → st.has (ren l n) = true := fun n hn => by
    obtain ⟨b, hb⟩ := inE_spec hn
    simp [St.has, hand_get hh (look_mem hb)]
  have hlt : ∀ k, st.has k = true → ∀ ad, (β k).A = some ad → ad.block < w.heap.size := by
    intro k hk ad had
    unfold St.has at hk
    obtain ⟨b, hb⟩ := Option.isSome_iff_exists.1 hk
    exact Blk.lt b (h.env k b hb) ad had
  have hnot : ∀ k ∈ es, st.has k = true → ∀ ad, (β k).A = some ad → ¬ blocksOf (fun k => β (ren l k)) env0 ad.block := by
    rintro k hk hkh ad had ⟨n, bd, hn, hbd, e⟩
    obtain ⟨b, hb⟩ := inE_spec hn
    exact h.dist _ _ hkh (hhas n hn) (fun e' => hc1 k hk _ (look_mem hb) e'.symm) ad bd had hbd e.symm
  have hin : ∀ q, blocksOf (fun k => β (ren l k)) env0 q → G.w0.heap.size ≤ q ∨ G.F q := by
    rintro q ⟨n, ad, hn, had, rfl⟩
    exact (h.own _ (hhas n hn) ad had).1
  have key : ∀ k b, look (postG st ks es d (ren l') r env').env k = some b → (∃ n c, (n, c) ∈ env' ∧ look env' n = some c ∧ k = ren l' n ∧ b = c.ren (ren l')) ∨ (k ∈ es ∧ look st.env k = some b) := by
    intro k b hk
    simp only [postG, look_append] at hk
    cases hl : look (renE (ren l') env') k with
    | some x =>
      simp only [hl, Option.some_or, Option.some.injEq] at hk
      subst hk
      obtain ⟨n, c, h1, h2, h3⟩ := look_renE hl
      exact .inl ⟨n, c, h1, look_of_mem ha h1, h2, h3⟩
    | none =>
      simp only [hl, Option.none_or] at hk
      exact .inr ⟨mem_pick hk, look_pick _ _ _ _ hk⟩
  have keyh : ∀ k, (postG st ks es d (ren l') r env').has k = true → (∃ n c, (n, c) ∈ env' ∧ look env' n = some c ∧ k = ren l' n) ∨ (k ∈ es ∧ st.has k = true) := by
    intro k hk
    unfold St.has at hk
    obtain ⟨b, hb⟩ := Option.isSome_iff_exists.1 hk
    rcases key k b hb with ⟨n, c, h1, h2, h3, _⟩ | ⟨h1, h2⟩
    · exact .inl ⟨n, c, h1, h2, h3⟩
    · exact .inr ⟨h1, by simp [St.has, h2]⟩
  have hother : ∀ k ∈ es, st.has k = true → ∀ ad, (β k).A = some ad → w'.heap[ad.block]? = w.heap[ad.block]? := fun k hk hkh ad had => hfr.block _ (hlt k hkh ad had) (hnot k hk hkh ad had)
  refine ⟨⟨hfr.os.trans h.fr.os, hfr.tape.trans h.fr.tape, hfr.output.trans h.fr.output, Nat.le_trans h.fr.size hfr.size, fun k hk hF => ?_⟩, h.ext.trans (hext.mono h.fr.size), hg, ?_, ?_, ?_, ?_, fun k x hx => wfB_sl hwf hx, fun k b hb => wfB_env hwf hb, ?_, h.defers, ?_⟩
  · rw [hfr.block k (Nat.lt_of_lt_of_le hk h.fr.size) (fun hq => by rcases hin k hq with h1 | h1; omega; exact hF h1)]
    exact h.fr.block k hk hF
  · intro k b hk
    rcases key k b hk with ⟨n, c, h1, h2, rfl, rfl⟩ | ⟨h1, h2⟩
    · rw [Blk.rep_ren]
      refine Blk.rep_mono (fun _ _ h => h) c w' n (backB_in ha h1).symm (fun q hq => ?_) (he.env n c h2)
      obtain ⟨c', hc'⟩ := inE_spec (he.wfe n c h2 q hq)
      exact (backB_in ha (look_mem hc')).symm
    · have hkh : st.has k = true := by simp [St.has, h2]
      have hpk : look (pick st.env es) k = some b := by
        simp only [postG, look_append] at hk
        cases hl : look (renE (ren l') env') k with
        | some x =>
          obtain ⟨n, c, h1', h2', h3⟩ := look_renE hl
          exact absurd (h2' ▸ h1) (hb1 _ h1')
        | none => simpa only [hl, Option.none_or] using hk
      refine Blk.rep_world b (w := w) (fun ad had => ?_) (Blk.rep_mono hext.keep b w k (hes k h1).symm (fun q hq => ?_) (h.env k b h2))
      · rw [hes k h1] at had
        exact hother k h1 hkh ad had
      · exact (hnm q (List.all_eq_true.1 (List.all_eq_true.1 hse _ (look_mem hpk)) q hq)).symm
  · intro k hk ad had
    rcases keyh k hk with ⟨n, c, h1, h2, rfl⟩ | ⟨h1, h2⟩
    · rw [backB_in ha h1] at had
      refine ⟨?_, he.nomem n (inE_of h2) ad had⟩
      rcases hown n (inE_of h2) ad had with h3 | h3
      · exact .inl (Nat.le_trans h.fr.size h3)
      · exact hin _ h3
    · rw [hes k h1] at had
      refine ⟨(h.own k h2 ad had).1, fun o s => ?_⟩
      cases hm : m' ⟨ad.block, o, s⟩ with
      | none => rfl
      | some v =>
        rcases hext.new _ _ hm with h3 | h3
        · rw [(h.own k h2 ad had).2 o s] at h3; cases h3
        · have := hlt k h2 ad had; simp at h3; omega
  · have cross : ∀ n c k, (n, c) ∈ env' → look env' n = some c → k ∈ es → st.has k = true → ∀ ad bd, (β' n).A = some ad → (β k).A = some bd → ad.block ≠ bd.block := by
      intro n c k h1 h2 hk hkh ad bd had hbd e
      rcases hown n (inE_of h2) ad had with h3 | h3
      · have := hlt k hkh bd hbd; omega
      · exact hnot k hk hkh bd hbd (e ▸ h3)
    intro n k hn hk hne ad bd had hbd
    rcases keyh n hn with ⟨n', c, h1, h2, rfl⟩ | ⟨h1, h2⟩ <;> rcases keyh k hk with ⟨k', c', h1', h2', rfl⟩ | ⟨h1', h2'⟩
    · rw [backB_in ha h1] at had
      rw [backB_in ha h1'] at hbd
      exact he.dist n' k' (inE_of h2) (inE_of h2') (fun e => hne (by rw [e])) ad bd had hbd
    · rw [backB_in ha h1] at had
      rw [hes k h1'] at hbd
      exact cross n' c k h1 h2 h1' h2' ad bd had hbd
    · rw [hes n h1] at had
      rw [backB_in ha h1'] at hbd
      exact (cross k' c' n h1' h2' h1 h2 bd ad hbd had).symm
    · rw [hes n h1] at had
      rw [hes k h1'] at hbd
      exact h.dist n k h2 h2' hne ad bd had hbd
  · intro k x hx
    simp only [postG, look_put] at hx
    by_cases e : d = k
    · subst e
      simp at hx
      subst hx
      refine ⟨v, ?_, ?_⟩
      · simp only [Act.put]; rw [Array.getElem?_setIfInBounds_self_of_lt (by rw [h.size]; exact hN)]
      · rw [T.rep_ren]
        refine T.rep_mono (fun _ _ h => h) r v (fun n hn => ?_) hrep
        obtain ⟨b, hb⟩ := inE_spec (hrn0 n hn)
        exact (backB_in ha (look_mem hb)).symm
    · rw [if_neg e] at hx
      obtain ⟨u, hu, hr⟩ := h.slots k x (look_pick _ _ _ _ hx)
      refine ⟨u, ?_, T.rep_mono hext.keep x u (fun n hn => (hnm n (List.all_eq_true.1 (List.all_eq_true.1 hs _ (look_mem hx)) n hn)).symm) hr⟩
      simp only [Act.put]
      rw [Array.getElem?_setIfInBounds_ne e]
      exact hu
  · simpa [Act.put] using h.size
  · intro n hn
    by_cases hex : ∃ p ∈ env', ren l' p.1 = n
    · obtain ⟨p, hp, rfl⟩ := hex
      rcases hb2 p hp with h1 | h1
      · omega
      · rw [backB_in ha hp, hpin _ h1.1, h1.2]; exact h.pin _ hn
    · rw [backB_out fun p hp e => hex ⟨p, hp, e⟩]; exact h.pin _ hn
variable {ops : Array Oper} {l : List Nat} {Q : St → Prop}
/-- A call of a function that is handed blocks. -/
theorem AOps.callG {i : Nat} {o : Oper} (ρ : List (Nat × Nat)) (ho : ops[i]? = some o) (hw : wantedA ops st o = some true) {c : Call} (hop : o.op = .call c) {fop : Operand} (hc : c.callee = .value fop) {f : FuncId} {caps : List CP} (hfo : asFnC (opnd st fop) = some (f, caps))
    {d : Nat} (hd : o.dst = some d) (hN : Nat.blt d G.N = true) {us : List U} {env0 : List (Nat × Blk)} {Qf : T → List (Nat × Blk) → Prop} (hf : FnG G.P f us env0 Qf)
    (hus : c.args.toList.map (fun x => toU (opnd st x)) ++ caps.map cpU = us.map (U.ren (ren ρ))) (hh : hand st (ren ρ) env0) (hd0 : distB (keysR (ren ρ) env0) = true)
    (h : ∀ r env', Qf r env' → ∃ ρ' ks es, postOk ρ ρ' env0 env' st ks es d r = true ∧ AOps G ops l (postG st ks es d (ren ρ') r env') Q) : AOps G ops (i :: l) st Q := by
  intro m β a w hR Qc hQ
  rw [wpOps_cons]
  refine wpOp_wanted ho (wantedA_sound hR hw) ?_
  unfold Oper.wp
  obtain ⟨vs, hcap, hrun⟩ := run_callC hR hop hc hfo hf.entry
  rw [hrun, Oper.upon_enter]
  have hargs : All2 (U.rep m fun k => β (ren ρ k)) us (c.args.toList.map a.eval ++ vs) := by
    have h1 : All2 (U.rep m β) (c.args.toList.map (fun x => toU (opnd st x))) (c.args.toList.map a.eval) := by
      generalize c.args.toList = q
      induction q with
      | nil => exact .nil
      | cons x q ih => exact .cons (toU_rep (opnd_rep hR x)) ih
    have h2 : All2 (U.rep m β) (us.map (U.ren (ren ρ))) (c.args.toList.map a.eval ++ vs) := by
      rw [← hus]
      have h3 := cpU_rep hcap
      revert h1
      generalize c.args.toList.map (fun x => toU (opnd st x)) = q
      generalize c.args.toList.map a.eval = q'
      intro h1
      induction h1 with
      | nil => exact h3
      | cons h t ih => exact .cons h ih
    exact (All2.iff fun a b => U.rep_ren a b).1 (All2.map_left.1 h2)
  have hE : RE m (fun k => β (ren ρ k)) w env0 := by
    have hhas : ∀ n, inE env0 n = true → st.has (ren ρ n) = true := fun n hn => by
      obtain ⟨b, hb⟩ := inE_spec hn
      simp [St.has, hand_get hh (look_mem hb)]
    refine ⟨fun n b hb => ?_, fun n hn ad had => (hR.own _ (hhas n hn) ad had).2, fun n k hn hk hne ad bd had hbd => ?_, fun k b hb n hn => ?_⟩
    · exact (Blk.rep_ren b w n).1 (hR.env _ _ (hand_get hh (look_mem hb)))
    · exact hR.dist _ _ (hhas n hn) (hhas k hk) (fun e => hne (dist_inj' hd0 hn hk e)) ad bd had hbd
    · exact hf.wfe k b hb n hn
  refine (hf.calls m _ w _ hR.good hargs hE).mono ?_
  rintro e w' ⟨v, m', β', r, env', rfl, hq, hr, hrn, hext, hg, hfr, he, hpin, hown⟩
  show wpOps G.P ops Qc l (a.put o.dst v) w'
  rw [hd]
  obtain ⟨ρ', ks, es, hok, hk⟩ := h r env' hq
  exact hk m' _ _ w' (hR.callG hh hd0 hok (Nat.le_of_ble_eq_true hN) hr hrn hext hg hfr he hpin hown) Qc hQ
end
end Go.Proofs.Ytfpmgnkbklnkaaa.Eng
end
section
set_option linter.unusedSimpArgs false
set_option linter.unusedVariables false
namespace Go.Proofs.Ytfpmgnkbklnkaaa.Eng
open Go
section
variable {G : Ctx} {ops : Array Oper} {st : St} {m : Mem} {β : Bt} {a : Act} {w : World} {o : Oper} {l : List Nat} {Q : St → Prop} {Qe : Exit → St → Prop} {c : Code}
theorem AOps.split (b : Bool) (ht : b = true → AOps G ops l st Q) (hf : b = false → AOps G ops l st Q) : AOps G ops l st Q := by cases b; exact hf rfl; exact ht rfl
/-! #### a slice against nil -/
def sliceLen : T → Option Nat
  | .one (.c (.d (.sl _ n _))) => some n
  | .one (.c (.gs _ _ _ n)) => some n
  | _ => none
theorem equal_nil {d : Nat} {t e : TypeId} (hu : G.P.underlying t = some (.slice e)) (A : Option Addr) (n k : Nat) : (Op.equalIn (d + 1) t (.slice A n k) (.slice none 0 0)).run G.P w = .ok A.isNone w := by
  cases A <;> simp [Op.equalIn, run_underlying hu]
theorem AOps.nilTest {i : Nat} (ho : ops[i]? = some o) (hw : wantedA ops st o = some true) {t tt : TypeId} {x : Operand} (hop : o.op = .binOp .eql t x (.const (.slice none 0 0)) tt) {e n : Nat} (hu : G.P.underlying t = some (.slice e)) (hx : sliceLen (opnd st x) = some n)
    {d : Nat} (hd : o.dst = some d) (hN : Nat.blt d G.N = true) (h : ∀ b : Bool, (b = true → n = 0) → AOps G ops l (st.put d (B b)) Q) : AOps G ops (i :: l) st Q := by
  intro m β a w hR Qc hQ
  rw [wpOps_cons]
  have key : ∃ A k, a.eval x = .slice A n k ∧ (A = none → n = 0) := by
    have hr := opnd_rep hR x
    have hnm := opnd_names hR x
    unfold sliceLen at hx
    split at hx
    · rename_i sz n' get hop'
      obtain rfl := Option.some.inj hx
      rw [hop'] at hr
      obtain ⟨A, cap, e1, hc, hh⟩ := hr
      refine ⟨A, cap, e1, fun hA => ?_⟩
      rcases hh with h0 | ⟨b, o, h1, _⟩
      · exact h0
      · rw [hA] at h1; cases h1
    · rename_i k sz lo n' hop'
      obtain rfl := Option.some.inj hx
      rw [hop'] at hr hnm
      obtain ⟨e1, hc⟩ := hr
      refine ⟨_, _, e1, fun hA => ?_⟩
      rcases Nat.eq_zero_or_pos n' with h0 | h0
      · exact h0
      · obtain ⟨b, hb⟩ := hR.some_of_cap (hnm k (by simp [T.names, U.names, C.names])) (show 0 < (β k).cap by omega)
        rw [hb] at hA; cases hA
    · cases hx
  obtain ⟨A, k, hv, hA⟩ := key
  have hrun : (execOp a.eval o).run G.P w = .ok (.value (.bool A.isNone)) w := by
    have heq : (Op.equal t (.slice A n k) (.slice none 0 0)).run G.P w = .ok A.isNone w := equal_nil hu A n k
    have hce : a.eval (.const (.slice none 0 0)) = .slice none 0 0 := rfl
    simp only [execOp, hop, eqGuard, hv, hce, binOp, Sem.run_bind, Sem.run_pure, Result.andThen_ok, heq]
    simp [heq]
  refine wpOp_wanted ho (wantedA_sound hR hw) ?_
  unfold Oper.wp
  rw [hrun, Oper.upon_value, hd]
  refine h A.isNone (fun hb => hA (by simpa using hb)) m β _ w (hR.put (Nat.le_of_ble_eq_true hN) rfl (by simp [B, T.names, U.names, C.names])) Qc hQ
/-! #### a block is made -/
theorem R.bindB (h : R G st m β a w) {n : Nat} (hn : st.has n = false) (h9 : n < 9000) {blk : Blk} {vs : Array Value} (e : TypeId) (cap : Nat) (hnm : blk.names = [])
    (hrep : blk.rep m (setB β n ⟨some ⟨w.heap.size, 0, none⟩, cap⟩) (w.alloc (.cells vs e)) n) :
    R G (st.bind n blk) m (setB β n ⟨some ⟨w.heap.size, 0, none⟩, cap⟩) a (w.alloc (.cells vs e)) := by
  have hhas : ∀ k, (st.bind n blk).has k = true ↔ k = n ∨ st.has k = true := by
    intro k
    simp only [St.has, St.bind, look_put]
    by_cases e : n = k
    · subst e; simp
    · simp [e]; intro e'; exact absurd e'.symm e
  have hne : ∀ k, st.has k = true → setB β n ⟨some ⟨w.heap.size, 0, none⟩, cap⟩ k = β k := fun k hk => setB_other _ _ _ (has_ne hn hk)
  have hold : ∀ k, k < w.heap.size → (w.alloc (.cells vs e)).heap[k]? = w.heap[k]? := fun k hk => heap_alloc_old w _ k hk
  have hlt : ∀ k, st.has k = true → ∀ ad, (β k).A = some ad → ad.block < w.heap.size := by
    intro k hk ad had
    unfold St.has at hk
    obtain ⟨b, hb⟩ := Option.isSome_iff_exists.1 hk
    exact Blk.lt b (h.env k b hb) ad had
  refine ⟨?_, h.ext, ?_, ?_, ?_, ?_, ?_, ?_, ?_, h.size, h.defers, fun k hk => by rw [setB_other _ _ _ (by omega)]; exact h.pin k hk⟩
  · exact ⟨h.fr.os, h.fr.tape, h.fr.output, by have := h.fr.size; simp; omega, fun k hk hF => by
      rw [hold k (Nat.lt_of_lt_of_le hk h.fr.size)]; exact h.fr.block k hk hF⟩
  · intro ad v hv
    rw [World.cell?_of_block (w := w) (hold _ (h.good.lt hv))]
    exact h.good ad v hv
  · intro k b hb
    simp only [St.bind, look_put] at hb
    by_cases ek : n = k
    · subst ek
      simp at hb; subst hb
      exact hrep
    · simp [ek] at hb
      have hk : st.has k = true := by simp [St.has, hb]
      refine Blk.rep_world b (w := w) (fun ad had => hold _ ?_) (Blk.rep_mono (fun _ _ h => h) b w k (hne k hk).symm (fun q hq => (hne q (h.wfe k b hb q hq)).symm) (h.env k b hb))
      rw [hne k hk] at had
      exact hlt k hk ad had
  · intro k hk ad had
    rcases (hhas k).1 hk with rfl | hk
    · rw [setB_same] at had
      obtain rfl := Option.some.inj had
      refine ⟨.inl h.fr.size, fun o s => ?_⟩
      cases hm : m ⟨w.heap.size, o, s⟩ with
      | none => rfl
      | some v => exact absurd (h.good.lt hm) (by simp)
    · rw [hne k hk] at had
      exact h.own k hk ad had
  · intro p q hp hq hpq ad bd had hbd
    rcases (hhas p).1 hp with rfl | hp' <;> rcases (hhas q).1 hq with rfl | hq'
    · exact absurd rfl hpq
    · rw [setB_same] at had
      obtain rfl := Option.some.inj had
      rw [hne q hq'] at hbd
      exact fun e => by have := hlt q hq' bd hbd; simp at e; omega
    · rw [setB_same] at hbd
      obtain rfl := Option.some.inj hbd
      rw [hne p hp'] at had
      exact fun e => by have := hlt p hp' ad had; simp at e; omega
    · rw [hne p hp'] at had
      rw [hne q hq'] at hbd
      exact h.dist p q hp' hq' hpq ad bd had hbd
  · intro k x hx
    obtain ⟨v, hv, hr⟩ := h.slots k x hx
    exact ⟨v, hv, T.rep_mono (fun _ _ h => h) x v (fun q hq => (hne q (h.wfs k x hx q hq)).symm) hr⟩
  · intro k x hx q hq
    exact (hhas q).2 (.inr (h.wfs k x hx q hq))
  · intro k b hb q hq
    simp only [St.bind, look_put] at hb
    by_cases ek : n = k
    · simp [ek] at hb; subst hb
      rw [hnm] at hq; cases hq
    · simp [ek] at hb
      exact (hhas q).2 (.inr (h.wfe k b hb q hq))
/-- A slice of no element, not nil: a row that begins. -/
theorem AOps.empty {i : Nat} (ho : ops[i]? = some o) (hw : wantedA ops st o = some true) {t e sz n : Nat} (hop : o.op = .buildSlice t 0 #[]) (hu : G.P.underlying t = some (.slice e)) (hs : tsize G.P e = some sz) (get : Nat → Nat → D) (hn : st.has n = false) (h9 : Nat.blt n 9000 = true)
    {d : Nat} (hd : o.dst = some d) (hN : Nat.blt d G.N = true) (h : AOps G ops l ((st.bind n (.arr e sz 0 get)).put d (.one (.c (.gs n sz 0 0)))) Q) : AOps G ops (i :: l) st Q := by
  intro m β a w hR Qc hQ
  rw [wpOps_cons]
  refine wpOp_wanted ho (wantedA_sound hR hw) ?_
  unfold Oper.wp
  have hrun : (execOp a.eval o).run G.P w = .ok (.value (.slice (some ⟨w.heap.size, 0, none⟩) 0 0)) (w.alloc (.cells #[] e)) := by
    have e0 : Array.map (fun x => (default : Value)) (Array.range 0) = #[] := by apply Array.ext'; simp
    simp [execOp, hop, Instr.buildSlice, run_underlying hu, run_sizeOf hs, Instr.fill, newRow, e0]
  rw [hrun, Oper.upon_value, hd]
  have hB := hR.bindB hn (by simpa [Nat.blt_eq] using h9) (blk := .arr e sz 0 get) (vs := #[]) e 0 rfl ⟨[], by
    have := World.ownsRow_lit (base := 0) (e := e) (size := sz) w #[] 0 (Nat.zero_le _) (Nat.zero_le _) (by simp)
    simpa [setB_same] using this, by simp, by intro i hi; omega⟩
  refine h m _ _ _ (hB.put (Nat.le_of_ble_eq_true hN) (v := .slice (some ⟨w.heap.size, 0, none⟩) 0 0) ?_ ?_) Qc hQ
  · exact ⟨by simp [setB_same, at_], Nat.zero_le _⟩
  · intro k hk
    simp [T.names, U.names, C.names] at hk
    subst hk
    simp [St.has, St.bind, look_put]
/-! #### clear -/
theorem R.clear (h : R G st m β a w) {n e sz k : Nat} {get : Nat → Nat → D} (hb : look st.env n = some (.arr e sz k get)) {b lo : Nat} (hA : (β n).A = some ⟨b, 0, none⟩) (cs : List Value) (hone : ∀ v ∈ cs, v.oneCell' = true) (hspan : lo * sz + cs.length ≤ k * sz) (hlo : lo ≤ k) :
    ∃ w', (storeCells ⟨b, lo * sz, none⟩ cs).run G.P w = .ok () w' ∧ R G { st with env := (n, .arr e sz lo get) :: st.env } m β a w' := by
  obtain ⟨xs, ⟨hxl, hown'⟩, h1c, hg⟩ := h.env n _ hb
  rcases hown' with ⟨hv0, _⟩ | ⟨b', cap, cur, hv, _, hheap, hkc, hcm, hcs, htk⟩
  · injection hv0 with hv0 _ _; rw [hA] at hv0; cases hv0
  obtain rfl : b = b' := by injection hv with h1 _ _; rw [hA] at h1; injection h1 with h1; injection h1
  have hcap : (β n).cap = cap := by injection hv
  have hcur : k * sz ≤ cur.size := by rw [hcs]; exact Nat.mul_le_mul_right sz hkc
  have hlk : lo * sz ≤ k * sz := Nat.mul_le_mul_right sz hlo
  have hst := run_storeCells_at G.P b (lo * sz) e cs 0 cur w hheap (by omega) hone
  simp only [Nat.add_zero] at hst
  refine ⟨_, hst, ?_⟩
  have hh : st.has n = true := by simp [St.has, hb]
  have hown := h.own n hh _ hA
  have hother : ∀ k, k ≠ b → (w.setRow b (cur.toList.take (lo * sz) ++ cs ++ cur.toList.drop (lo * sz + cs.length)).toArray).heap[k]? = w.heap[k]? := fun k hk => setRow_other w b k _ hk
  have hsize : (w.setRow b (cur.toList.take (lo * sz) ++ cs ++ cur.toList.drop (lo * sz + cs.length)).toArray).heap.size = w.heap.size := by simp [World.setRow]
  have hhas : ∀ q, St.has { st with env := (n, .arr e sz lo get) :: st.env } q = true ↔ st.has q = true := by
    intro q
    simp only [St.has, look_put]
    by_cases ek : n = q
    · subst ek; simp [hb]
    · simp [ek]
  refine ⟨⟨h.fr.os, h.fr.tape, h.fr.output, by rw [hsize]; exact h.fr.size, fun q hk hF => ?_⟩, h.ext, ?_, ?_, ?_, ?_, h.slots, ?_, ?_, h.size, h.defers, h.pin⟩
  · rw [hother q]
    · exact h.fr.block q hk hF
    · rintro rfl
      rcases hown.1 with h1 | h1
      · simp at h1; omega
      · exact hF h1
  · intro ad v hv
    have hne : ad.block ≠ b := by
      rintro e
      have := hown.2 ad.off ad.spot
      simp only at this
      rw [← e] at this
      rw [show (⟨ad.block, ad.off, ad.spot⟩ : Addr) = ad from rfl, hv] at this
      cases this
    rw [World.cell?_of_block (w := w) (hother _ hne)]
    exact h.good ad v hv
  · intro q bk hk
    simp only [look_put] at hk
    by_cases ek : n = q
    · subst ek
      rw [if_pos rfl] at hk
      obtain rfl := Option.some.inj hk
      have hlen : (cur.toList.take (lo * sz) ++ cs ++ cur.toList.drop (lo * sz + cs.length)).length = cur.size := by simp; omega
      have htl : (cur.toList.take (lo * sz) ++ cs ++ cur.toList.drop (lo * sz + cs.length)).take (lo * sz) = xs.take (lo * sz) := by
        rw [List.append_assoc, List.take_append_of_le_length (by simp; omega), List.take_take, Nat.min_self, ← htk, List.take_take, Nat.min_eq_left hlk]
      refine ⟨xs.take (lo * sz), ⟨by rw [List.length_take, hxl]; omega, .inr ⟨b, cap, _, by rw [hA, hcap], Nat.zero_le _, setRow_heap w b cur _ e _ hheap, by omega, hcm, by rw [← hcs]; simp only [List.size_toArray]; exact hlen, by simp only [List.toList_toArray]; exact htl⟩⟩, ?_, ?_⟩
      · exact fun v hv => h1c v (List.mem_of_mem_take hv)
      · intro i hi j hj
        obtain ⟨x, hx1, hx2⟩ := hg i (by omega) j hj
        exact ⟨x, by rw [List.getElem?_take_of_lt (row_lt hi hj)]; exact hx1, hx2⟩
    · simp [ek] at hk
      refine Blk.rep_world bk (w := w) (fun ad had => hother _ ?_) (h.env q bk hk)
      exact fun e => h.dist q n (by simp [St.has, hk]) hh (fun e => ek e.symm) ad _ had hA e
  · intro q hk; exact h.own q ((hhas q).1 hk)
  · intro p q hp hq; exact h.dist p q ((hhas p).1 hp) ((hhas q).1 hq)
  · intro q x hx p hp; exact (hhas p).2 (h.wfs q x hx p hp)
  · intro q bk hk p hp
    simp only [look_put] at hk
    by_cases ek : n = q
    · rw [if_pos ek] at hk
      obtain rfl := Option.some.inj hk
      cases hp
    · simp [ek] at hk
      exact (hhas p).2 (h.wfe q bk hk p hp)
def zeroOk (P : Program) (e sz : Nat) : Bool := match P.info? e with
  | some i => match i.zero with
    | some z => z.cells.size == sz && z.cells.toList.all Value.oneCell'
    | none => false
  | none => false
theorem zeroOk_spec {P : Program} {e sz : Nat} (h : zeroOk P e sz = true) : ∃ i z, P.info? e = some i ∧ i.zero = some z ∧ z.cells.size = sz ∧ ∀ v ∈ z.cells.toList, v.oneCell' = true := by
  unfold zeroOk at h
  split at h
  · rename_i i hi
    split at h
    · rename_i z hz
      simp only [Bool.and_eq_true, beq_iff_eq] at h
      exact ⟨i, z, hi, hz, h.1, List.all_eq_true.1 h.2⟩
    · cases h
  · cases h
theorem zeroCells_spec {z : Array Value} {n : Nat} (h : ∀ v ∈ z.toList, v.oneCell' = true) : (Builtin.zeroCells z n).toList.length = n * z.size ∧ ∀ v ∈ (Builtin.zeroCells z n).toList, v.oneCell' = true := by
  refine ⟨by simp [Builtin.zeroCells], fun v hv => ?_⟩
  simp only [Builtin.zeroCells, Array.toList_map, List.mem_map] at hv
  obtain ⟨i, hi, rfl⟩ := hv
  have hi : i < n * z.size := by simpa using hi
  have hp : 0 < z.size := by rcases Nat.eq_zero_or_pos z.size with h0 | h0; (rw [h0] at hi; omega); exact h0
  have hlt := Nat.mod_lt i hp
  rw [getElem!_pos z _ hlt]
  exact h _ (by simp)
/-- A window of an owned row to its end is cleared: what stands ahead of it is told. -/
theorem AOps.clear {i : Nat} (ho : ops[i]? = some o) (hw : wantedA ops st o = some true) {c : Call} (hop : o.op = .call c) {x : Operand} {t : TypeId} (hcl : c.callee = .builtin .clear) (hca : c.args = #[x]) (hct : c.argTypes = #[t]) (hd : o.dst = none)
    {n e sz k lo len : Nat} {get : Nat → Nat → D} (hx : opnd st x = .one (.c (.gs n sz lo len))) (hb : look st.env n = some (.arr e sz k get)) (hu : G.P.underlying t = some (.slice e)) (hz : zeroOk G.P e sz = true) (hlen : lo + len ≤ k ∧ 0 < len)
    (h : AOps G ops l { st with env := (n, .arr e sz lo get) :: st.env } Q) : AOps G ops (i :: l) st Q := by
  intro m β a w hR Qc hQ
  rw [wpOps_cons]
  refine wpOp_wanted ho (wantedA_sound hR hw) ?_
  unfold Oper.wp
  have hr := opnd_rep hR x
  rw [hx] at hr
  obtain ⟨hv, hcap⟩ := hr
  have hst : st.has n = true := by simp [St.has, hb]
  obtain ⟨b, hA⟩ := hR.some_of_cap hst (show 0 < (β n).cap by omega)
  obtain ⟨ii, zv, hi, hzv, hzs, hone⟩ := zeroOk_spec hz
  obtain ⟨hl, h1⟩ := zeroCells_spec (n := len) hone
  rw [hzs] at hl
  have hspan : lo * sz + (Builtin.zeroCells zv.cells len).toList.length ≤ k * sz := by
    rw [hl, ← Nat.add_mul]; exact Nat.mul_le_mul_right sz hlen.1
  obtain ⟨w', hrun, hR'⟩ := hR.clear hb hA _ h1 hspan (by omega)
  obtain ⟨len', rfl⟩ : ∃ q, len = q + 1 := ⟨len - 1, by omega⟩
  have hex : (execOp a.eval o).run G.P w = .ok (.value (.tuple #[])) w' := by
    simp only [execOp, hop, resolve, hcl, hca, Sem.run_bind, Sem.run_pure, Result.andThen_ok, invoke, builtin, hct]
    simp [Builtin.clear_, hv, at_, hA, run_underlying hu, zeroValue, typeInfo, hi, hzv, hrun]
  rw [hex, Oper.upon_value, hd]
  exact h m β _ w' hR' Qc hQ
/-! #### nil in a variable begins a row -/
theorem R.nilcell (h : R G st m β a w) {v n i : Nat} {l : List C} (hv : look st.env v = some (.var l)) (hl : l[i]? = some (.d (.v (.slice none 0 0)))) (hn : st.has n = false) (h9 : n < 9000) (e sz : Nat) (get : Nat → Nat → D) :
    R G { (st.bind n (.arr e sz 0 get)) with env := (v, .var (l.set i (.gs n sz 0 0))) :: (st.bind n (.arr e sz 0 get)).env } m (setB β n ⟨none, 0⟩) a w := by
  have h' := h.nilrow hn h9 (e := e) (sz := sz) get
  have hne : v ≠ n := by rintro rfl; simp [St.has, hv] at hn
  have hv' : look (st.bind n (.arr e sz 0 get)).env v = some (.var l) := by simp [St.bind, look_put, hne.symm, hv]
  have hhas : ∀ q, St.has { (st.bind n (.arr e sz 0 get)) with env := (v, .var (l.set i (.gs n sz 0 0))) :: (st.bind n (.arr e sz 0 get)).env } q = true ↔ (st.bind n (.arr e sz 0 get)).has q = true := by
    intro q
    simp only [St.has, look_put]
    by_cases ek : v = q
    · subst ek; simp [hv']
    · simp [ek]
  refine { h' with env := ?_, own := fun q hq => h'.own q ((hhas q).1 hq), dist := fun p q hp hq => h'.dist p q ((hhas p).1 hp) ((hhas q).1 hq), wfs := fun k x hx p hp => (hhas p).2 (h'.wfs k x hx p hp), wfe := ?_, slots := h'.slots, size := h'.size, pin := h'.pin }
  · intro k b hk
    simp only [look_put] at hk
    by_cases ek : v = k
    · subst ek
      rw [if_pos rfl] at hk
      obtain rfl := Option.some.inj hk
      obtain ⟨b, vs, e', hA, hheap, hr⟩ := h'.env v _ hv'
      refine ⟨b, vs, e', hA, hheap, ?_⟩
      have : ∀ {l : List C} {vs : List Value} (i : Nat), l[i]? = some (.d (.v (.slice none 0 0))) → All2 (C.rep m (setB β n ⟨none, 0⟩)) l vs → All2 (C.rep m (setB β n ⟨none, 0⟩)) (l.set i (.gs n sz 0 0)) vs := by
        intro l
        induction l with
        | nil => intro vs i hi; simp at hi
        | cons x l ih =>
          intro vs i hi hr
          cases hr with
          | cons hx ht =>
            cases i with
            | zero =>
              simp at hi
              subst hi
              refine .cons ?_ ht
              obtain rfl := (show _ = Value.slice none 0 0 from hx)
              exact ⟨by simp [setB_same, at_], Nat.zero_le _⟩
            | succ i => exact .cons hx (ih i (by simpa using hi) ht)
      exact this i hl hr
    · rw [if_neg ek] at hk
      exact h'.env k b hk
  · intro k b hk p hp
    simp only [look_put] at hk
    refine (hhas p).2 ?_
    by_cases ek : v = k
    · rw [if_pos ek] at hk
      obtain rfl := Option.some.inj hk
      simp only [Blk.names, List.mem_flatMap] at hp
      obtain ⟨x, hx, hp⟩ := hp
      rcases List.mem_or_eq_of_mem_set hx with hx | rfl
      · exact h'.wfe v _ hv' p (List.mem_flatMap.2 ⟨x, hx, hp⟩)
      · simp [C.names] at hp; subst hp; simp [St.has, St.bind, look_put]
    · rw [if_neg ek] at hk
      exact h'.wfe k b hk p hp
theorem AC.nilcell (v n i e sz : Nat) (get : Nat → Nat → D) (ks es : List Nat) {l : List C} {st' : St} (hv : look st.env v = some (.var l)) (hl : l[i]? = some (.d (.v (.slice none 0 0)))) (hn : st.has n = false) (h9 : Nat.blt n 9000 = true)
    (hst : St.norm { (st.bind n (.arr e sz 0 get)) with env := (v, .var (l.set i (.gs n sz 0 0))) :: (st.bind n (.arr e sz 0 get)).env } ks es = st') (hw : st'.wfB = true) (h : AC G c st' Qe) : AC G c st Qe :=
  fun m β a w hR Qc hQ => AC.le (Le.ofNorm hst hw) h m _ a w (hR.nilcell hv hl hn (by simpa [Nat.blt_eq] using h9) e sz get) Qc hQ
theorem AOps.nilcell (v n i e sz : Nat) (get : Nat → Nat → D) (ks es : List Nat) {l : List C} {l2 : List Nat} {st' : St} (hv : look st.env v = some (.var l)) (hl : l[i]? = some (.d (.v (.slice none 0 0)))) (hn : st.has n = false) (h9 : Nat.blt n 9000 = true)
    (hst : St.norm { (st.bind n (.arr e sz 0 get)) with env := (v, .var (l.set i (.gs n sz 0 0))) :: (st.bind n (.arr e sz 0 get)).env } ks es = st') (hw : st'.wfB = true) (h : AOps G ops l2 st' Q) : AOps G ops l2 st Q :=
  fun m β a w hR Qc hQ => AOps.le (Le.ofNorm hst hw) h m _ a w (hR.nilcell hv hl hn (by simpa [Nat.blt_eq] using h9) e sz get) Qc hQ
/-! #### words -/
theorem endE_nil {f : Nat → Nat} : endE st f [] := trivial
theorem endE_cons {f : Nat → Nat} {k : Nat} {b b' x : Blk} {r : List (Nat × Blk)} (h : look st.env (f k) = some x) (hb : b.ren f = b') (hl : BLe x b') (t : endE st f r) : endE st f ((k, b) :: r) := ⟨⟨x, h, hb ▸ hl⟩, t⟩
theorem us_cons {f : Nat → Nat} {u w w' : U} {us ws : List U} (hw : w.ren f = w') (h : ULe u w') (t : All2 ULe us (ws.map (U.ren f))) : All2 ULe (u :: us) ((w :: ws).map (U.ren f)) := .cons (hw ▸ h) t
theorem CLe.gs {n sz lo a b : Nat} (h : a = b) : CLe (.gs n sz lo a) (.gs n sz lo b) := .eq (by rw [h])
theorem us_nil {f : Nat → Nat} : All2 ULe [] (([] : List U).map (U.ren f)) := .nil
theorem hand_cons {f : Nat → Nat} {n : Nat} {b : Blk} {r : List (Nat × Blk)} (h : look st.env (f n) = some (b.ren f)) (t : hand st f r) : hand st f ((n, b) :: r) := ⟨h, t⟩
theorem hand_nil {f : Nat → Nat} : hand st f [] := trivial
/-- An element of an owned row is written: all of it, or a part. -/
theorem BLe.setE {α : Type} {e sz i off : Nat} {enc : α → List D} {d : α} {L : List α} {x : α} {c : List D} (hi : i < L.length)
    (hc : ∀ j, j < sz → (bif Nat.ble off j && Nat.blt j (off + c.length) then c.getD (j - off) default else nth (enc (L.getD i d)) j) = nth (enc x) j) :
    BLe (.arr e sz L.length (setG (fun i j => nth (enc (L.getD i d)) j) i off c)) (arow e sz enc d (L.set i x)) := by
  refine BLe.arr (by simp) fun i' hi' j hj => ?_
  unfold setG
  by_cases h : i' = i
  · subst h
    have := hc j hj
    rw [Nat.beq_refl, Bool.true_and, this]
    simp [List.getD, List.getElem?_set_self, hi]
  · have hf : Nat.beq i' i = false := by rw [Bool.eq_false_iff]; exact fun hh => h (Nat.eq_of_beq_eq_true hh)
    rw [hf, Bool.false_and]
    simp [List.getD, List.getElem?_set_ne (show i ≠ i' from fun e => h e.symm)]
theorem BLe.cutA {α : Type} {e sz k : Nat} {enc : α → List D} {d : α} {L : List α} (hk : k ≤ L.length) : BLe (.arr e sz k fun i j => nth (enc (L.getD i d)) j) (arow e sz enc d (L.take k)) :=
  BLe.arr (by simp; omega) fun i hi j _ => by
    have : (L.take k).getD i d = L.getD i d := by simp only [List.getD]; rw [List.getElem?_take_of_lt hi]
    rw [this]
end
end Go.Proofs.Ytfpmgnkbklnkaaa.Eng
end
section
set_option linter.unusedSimpArgs false
set_option linter.unusedVariables false
namespace Go.Proofs.Ytfpmgnkbklnkaaa.Eng
open Go
section
variable {G : Ctx} {ops : Array Oper} {st : St} {m : Mem} {β : Bt} {a : Act} {w : World} {o : Oper}
def appOk (P : Program) (e sz bytes : Nat) : Bool := Nat.blt 0 sz && match P.info? e with
  | some i => Nat.beq i.bytes bytes && (match i.zero with | some z => Nat.beq z.cells.size sz | none => false)
  | none => false
theorem step_appendG {i : Nat} {t e sz0 n0 n2 len k k3 bytes e2 : Nat} {get get2 : Nat → Nat → D} {s x : Operand} {c : Call} (ho : ops[i]? = some o) (hw : wantedA ops st o = some true) (hop : o.op = .call c) (hcl : c.callee = .builtin .append) (hca : c.args.toList = [s, x]) (hct : c.argTypes.toList = [t, t])
    (hse : sliceElem G.P t = some (e, sz0)) (hop1 : opnd st s = .one (.c (.gs n0 sz0 0 len))) (hop2 : opnd st x = .one (.c (.gs n2 sz0 0 k))) (hb : look st.env n0 = some (.arr e sz0 len get)) (hb2 : look st.env n2 = some (.arr e2 sz0 k3 get2)) (hok : appOk G.P e sz0 bytes = true)
    (hc : k ≤ k3 ∧ len + k ≤ 9223372036854775807 ∧ (len + k) * bytes ≤ 140737488355328) (h9 : Nat.blt n0 9000 = true) {d : Nat} (hd : o.dst = some d) (hN : Nat.blt d G.N = true) :
    AStep G ops i st (St.put ⟨sweepS n0 st.sl, (n0, .arr e sz0 (len + k) fun p q => bif Nat.blt p len then get p q else get2 (p - len) q) :: sweepE n0 st.env⟩ d (.one (.c (.gs n0 sz0 0 (len + k))))) := by
  have hN := Nat.le_of_ble_eq_true hN
  intro m β a w h K Q hK
  have hs := opnd_rep h s
  have hx := opnd_rep h x
  have hsn := opnd_names h s
  obtain ⟨hu, hsz⟩ := sliceElem_spec hse
  obtain ⟨c7, ii, hi, rfl, z, hz, hzs⟩ : 0 < sz0 ∧ ∃ ii, G.P.info? e = some ii ∧ ii.bytes = bytes ∧ ∃ z, ii.zero = some z ∧ z.cells.size = sz0 := by
    unfold appOk at hok
    simp only [Bool.and_eq_true] at hok
    refine ⟨Nat.le_of_ble_eq_true hok.1, ?_⟩
    have hok := hok.2
    split at hok
    · rename_i ii hi
      simp only [Bool.and_eq_true] at hok
      refine ⟨ii, hi, Nat.eq_of_beq_eq_true hok.1, ?_⟩
      have hok := hok.2
      split at hok
      · rename_i z hz; exact ⟨z, hz, Nat.eq_of_beq_eq_true hok⟩
      · cases hok
    · cases hok
  obtain ⟨hk3, hc1, hc2⟩ := hc
  rw [hop1] at hs hsn
  rw [hop2] at hx
  have hh : st.has n0 = true := hsn n0 (by simp [T.names, U.names, C.names])
  obtain ⟨xs, hown, hones, hrep⟩ := h.env n0 _ hb
  obtain ⟨hsv, hle⟩ := hs
  simp only [Nat.zero_mul, Nat.sub_zero] at hsv
  have hA0 : at_ (β n0).A 0 = (β n0).A := by
    rcases hown.2 with ⟨h0, _⟩ | ⟨g, cap, cur, hv, _⟩
    · injection h0 with h0; simp [h0, at_]
    · injection hv with hv; simp [hv, at_]
  rw [hA0] at hsv
  obtain ⟨xs2, hown2, hones2, hrep2⟩ := h.env n2 _ hb2
  obtain ⟨hxv, hxc⟩ := hx
  simp only [Nat.zero_mul, Nat.sub_zero] at hxv
  obtain ⟨news, hnl, hA, hnr⟩ : ∃ news : List Value, news.length = k * sz0 ∧ (k = 0 ∨ ∃ ad, at_ (β n2).A 0 = some ad ∧ ∀ j u, news[j]? = some u → w.cell? (ad.add j) = some u) ∧
      (∀ u ∈ news, u.oneCell' = true) ∧ ∀ i, i < k → ∀ j, j < sz0 → ∃ x, news[i * sz0 + j]? = some x ∧ (get2 i j).rep m x := by
    have hl2 := hown2.1
    have hkk := Nat.mul_le_mul_right sz0 hk3
    refine ⟨xs2.take (k * sz0), by rw [List.length_take, hl2]; omega, ?_, fun u hu => hones2 u (List.mem_of_mem_take hu), fun i hi j hj => ?_⟩
    · rcases Nat.eq_zero_or_pos k with h0 | h0
      · exact .inl h0
      · right
        rcases hown2.2 with ⟨_, h1⟩ | ⟨g, cap, cur, hv, _⟩
        · omega
        · have hAg : (β n2).A = some ⟨g, 0, none⟩ := by injection hv
          have hcg : (β n2).cap = cap := by injection hv
          rw [hAg, hcg] at hown2
          refine ⟨⟨g, 0, none⟩, by simp [hAg, at_], fun j u hj => ?_⟩
          have hjl : j < k * sz0 := by
            rcases Nat.lt_or_ge j (k * sz0) with h2 | h2
            · exact h2
            · rw [List.getElem?_eq_none (by rw [List.length_take]; omega)] at hj; cases hj
          rw [List.getElem?_take_of_lt hjl] at hj
          have := hown2.cellAt j (by omega)
          rw [show (⟨g, 0, none⟩ : Addr).add j = ⟨g, j, none⟩ by simp only [Addr.add]; split <;> simp_all, this]
          exact hj
    · obtain ⟨y, hy, hr⟩ := hrep2 i (by omega) j hj
      exact ⟨y, by rw [List.getElem?_take_of_lt (row_lt hi hj)]; exact hy, hr⟩
  have hisz : ii.size = sz0 := by unfold tsize at hsz; simp [hi] at hsz; exact hsz
  obtain ⟨v', w', hrun, hown', hgrown, hblock⟩ := append_run (P := G.P) (w := w) t o.type e ii z sz0 ii.bytes hu hi hz hisz rfl hzs c7 _ len xs hown (at_ (β n2).A 0) k (β n2).cap news hnl hA hnr.1 (by simpa [maxLen] using hc1) hc2
  obtain ⟨A', cap', rfl⟩ : ∃ A' cap', v' = .slice A' (len + k) cap' := by
    rcases hown'.2 with ⟨rfl, h0⟩ | ⟨g, cap, cur, rfl, _⟩
    · exact ⟨none, 0, by rw [h0]⟩
    · exact ⟨_, _, rfl⟩
  have hxl : xs.length = len * sz0 := hown.1
  refine wpOp_wanted ho (wantedA_sound h hw) ?_
  unfold Oper.wp
  have h1 : c.args = #[s, x] := by apply Array.ext'; simpa using hca
  have h2 : c.argTypes = #[t, t] := by apply Array.ext'; simpa using hct
  have hex : (execOp a.eval o).run G.P w = .ok (.value (.slice A' (len + k) cap')) w' := by
    simp only [execOp, hop, resolve, hcl, h1, Sem.run_bind, Sem.run_pure, Result.andThen_ok, invoke, builtin, h2]
    simp [hsv, hxv, hrun]
  rw [hex, Oper.upon_value, hd]
  have hR := h.rerow (by simpa [Nat.blt_eq] using h9) hb w' (by rwa [ownBlock_slice] at hgrown) ⟨A', cap'⟩ (.arr e sz0 (len + k) fun p q => bif Nat.blt p len then get p q else get2 (p - len) q) rfl
    (by
      refine ⟨xs ++ news, by simpa [setB_same] using hown', ?_, ?_⟩
      · intro u hu
        rcases List.mem_append.1 hu with hu | hu
        · exact hones u hu
        · exact hnr.1 u hu
      · intro p hp q hq
        by_cases hlt : p < len
        · have hb : Nat.blt p len = true := by simpa [Nat.blt_eq] using hlt
          simp only [hb, cond_true]
          obtain ⟨y, hy, hr⟩ := hrep p hlt q hq
          exact ⟨y, by rw [List.getElem?_append_left (List.getElem?_eq_some_iff.1 hy).1]; exact hy, hr⟩
        · have hb : Nat.blt p len = false := by rw [Bool.eq_false_iff]; simpa [Nat.blt_eq] using hlt
          simp only [hb, cond_false]
          obtain ⟨y, hy, hr⟩ := hnr.2 (p - len) (by omega) q hq
          refine ⟨y, ?_, hr⟩
          have e1 : p * sz0 + q = len * sz0 + ((p - len) * sz0 + q) := by
            rw [← Nat.add_assoc, ← Nat.add_mul, Nat.add_sub_cancel' (by omega)]
          rw [List.getElem?_append_right (by rw [hxl, e1]; omega), hxl, e1, Nat.add_sub_cancel_left]
          exact hy)
    (by
      intro ad had
      obtain rfl : A' = some ad := had
      rcases hblock with h1 | h1
      · left
        cases hA : (β n0).A with
        | none => simp [Value.ownBlock, hA] at h1
        | some bd => simp [Value.ownBlock, hA] at h1; simp [h1]
      · right; simp [Value.ownBlock] at h1; omega)
  refine hK _ _ _ _ (hR.put hN ⟨?_, ?_⟩ ?_)
  · have hA1 : at_ A' 0 = A' := by
      rcases hown'.2 with ⟨h0, _⟩ | ⟨g, cap, cur, hv, _⟩
      · injection h0 with h0; simp [h0, at_]
      · injection hv with hv; simp [hv, at_]
    simp [setB_same, hA1]
  · simp only [setB_same, Nat.zero_add]
    rcases hown'.2 with ⟨h0, h00⟩ | ⟨g, cap, cur, hv, _, _, hle', _⟩
    · omega
    · injection hv with _ _ hv; omega
  · intro q hq
    simp [T.names, U.names, C.names] at hq
    subst hq
    simp [St.has, look_put]
end
end Go.Proofs.Ytfpmgnkbklnkaaa.Eng
end
section
set_option linter.unusedSimpArgs false
set_option linter.unusedVariables false
namespace Go.Proofs.Ytfpmgnkbklnkaaa.Eng
open Go
def b8 (n : Int) : UInt8 := UInt8.ofNat n.toNat
/-- The text of bytes that are told as numbers. -/
def strB (L : List Int) : ByteArray := ⟨(L.map b8).toArray⟩
theorem foldl_b8 : ∀ (L : List Int) (s : ByteArray), L.foldl (fun r n => r.push (UInt8.ofNat n.toNat)) s = ⟨s.data ++ (L.map b8).toArray⟩
  | [], s => by simp
  | n :: L, s => by
    rw [List.foldl_cons, foldl_b8 L]
    simp [ByteArray.push, b8]
section
variable {G : Ctx} {ops : Array Oper} {st : St} {o : Oper} {l : List Nat} {Q : St → Prop}
theorem AOps.toStr {i : Nat} (ho : ops[i]? = some o) (hw : wantedA ops st o = some true) {src tt : TypeId} {x : Operand} (hop : o.op = .convert src tt x) {e : TypeId} (hs : G.P.underlying src = some (.slice e)) (he : G.P.underlying e = some (.int .u8)) (hd' : G.P.underlying tt = some .string)
    {n k : Nat} {L : List Int} {get : Nat → Nat → D} (hx : opnd st x = .one (.c (.gs n 1 0 k))) (hk : k = L.length) (hb : look st.env n = some (.arr e 1 L.length get)) (hg : ∀ i, i < L.length → get i 0 = dK .u8 (L.getD i 0)) {d : Nat} (hd : o.dst = some d) (hN : Nat.blt d G.N = true)
    (h : AOps G ops l (st.put d (.one (.c (.d (dS (strB L)))))) Q) : AOps G ops (i :: l) st Q := by
  intro m β a w hR Qc hQ
  rw [wpOps_cons]
  refine wpOp_wanted ho (wantedA_sound hR hw) ?_
  unfold Oper.wp
  subst hk
  have hr := opnd_rep hR x
  rw [hx] at hr
  obtain ⟨hv, hcap⟩ := hr
  obtain ⟨xs, hown, hone, hrep⟩ := hR.env n _ hb
  have hrun : (execOp a.eval o).run G.P w = .ok (.value (.string (strB L))) w := by
    have key : (Conv.bytesToString (a.eval x)).run G.P w = .ok (.string (strB L)) w := by
      rcases hown.2 with ⟨h0, h00⟩ | ⟨g, cap, cur, hvv, _⟩
      · have hA : (β n).A = none := by injection h0
        have hL : L = [] := List.eq_nil_of_length_eq_zero h00
        rw [hv, hA]
        subst hL
        simp [at_, Conv.bytesToString, strB]
        rfl
      · have hA : (β n).A = some ⟨g, 0, none⟩ := by injection hvv
        rw [hv, hA]
        have hown' := hown
        rw [hA] at hown'
        have hl := run_loadCells_list (P := G.P) w ⟨g, 0, none⟩ (L.map (Value.int .u8)) (fun j v hj => by
          have hjl : j < L.length := by
            have := (List.getElem?_eq_some_iff.1 hj).1
            simpa using this
          obtain ⟨y, hy, hyr⟩ := hrep j hjl 0 (by omega)
          rw [hg j hjl] at hyr
          obtain rfl : y = Value.int .u8 (L.getD j 0) := hyr
          have hc := hown'.cellAt j (by omega)
          rw [show (⟨g, 0, none⟩ : Addr).add j = ⟨g, j, none⟩ by simp only [Addr.add]; split <;> simp_all, hc]
          rw [Nat.mul_one, Nat.add_zero] at hy
          rw [hy]
          simp [List.getElem?_eq_getElem hjl, List.getD] at hj ⊢
          exact hj)
        rw [List.length_map] at hl
        have := run_bytesToString (P := G.P) w ⟨g, 0, none⟩ L.length ((β n).cap - 0) L hl
        simp only [at_, Option.map_some, Nat.zero_mul, Nat.zero_add]
        rw [this, foldl_b8]
        simp [strB]
    obtain ⟨A, n', c', hvs⟩ : ∃ A n' c', a.eval x = .slice A n' c' := ⟨_, _, _, hv⟩
    have hc := run_convert_bytes_string (P := G.P) w src tt e A n' c' hs he hd'
    rw [← hvs] at hc
    simp only [execOp, hop, Sem.run_bind, hc, key, Result.andThen_ok, Sem.run_pure]
  rw [hrun, Oper.upon_value, hd]
  exact h m β _ w (hR.put (Nat.le_of_ble_eq_true hN) rfl (by simp [T.names, U.names, C.names])) Qc hQ
end
end Go.Proofs.Ytfpmgnkbklnkaaa.Eng
end
section
set_option linter.unusedSimpArgs false
set_option linter.unusedVariables false
namespace Go.Proofs.Ytfpmgnkbklnkaaa.Eng
open Go
def jumpW (l : Nat) (J : Act → World → Prop) (Q : Exit → Act → World → Prop) : Exit → Act → World → Prop
  | .goto l', a, w => l' = l ∧ J a w
  | e, a, w => Q e a w
theorem wp_scope_ghost {P : Program} {a : Act} {w : World} {Q : Exit → Act → World → Prop} {c rest : Code} (l : Nat) (J : Nat → Act → World → Prop) (hf : findLabel c l = some rest)
    (first : c.wp P (jumpW l (fun a w => ∃ n, J n a w) Q) a w) (pass : ∀ n a w, J n a w → rest.wp P (jumpW l (fun a' w' => ∃ k, k < n ∧ J k a' w') Q) a w) : (Code.scope c).wp P Q a w := by
  intro b k cs
  have hg : gotoIn l (.inScope c :: k) = some (.code rest :: .inScope c :: k) := by simp [gotoIn, hf]
  have key : ∀ n a w, J n a w → ∃ e a' w', Q e a' w' ∧ Arrives P (lone (b.at a (.code rest :: .inScope c :: k)) cs w) b k cs e a' w' := by
    intro n
    induction n using Nat.strongRecOn with
    | _ n ih =>
      intro a w hJ
      obtain ⟨e, a₁, w₁, hq, harr⟩ := pass n a w hJ b (.inScope c :: k) cs
      cases e with
      | normal => exact ⟨.normal, a₁, w₁, hq, Steps.trans harr (.one step_inScope)⟩
      | exit id => exact ⟨.exit id, a₁, w₁, hq, fun k' hk => harr k' (by simp [exitTo, hk])⟩
      | goto l' =>
        obtain ⟨rfl, k', hlt, hJ'⟩ := hq
        obtain ⟨e₂, a₂, w₂, hq₂, harr₂⟩ := ih _ hlt a₁ w₁ hJ'
        exact ⟨e₂, a₂, w₂, hq₂, .of_steps (harr _ hg) harr₂⟩
      | ret => exact ⟨_, a₁, w₁, hq, harr⟩
      | panic ch => exact ⟨_, a₁, w₁, hq, harr⟩
      | outgrown => exact ⟨_, a₁, w₁, hq, harr⟩
  obtain ⟨e, a₁, w₁, hq, harr⟩ := first b (.inScope c :: k) cs
  cases e with
  | normal => exact ⟨.normal, a₁, w₁, hq, .head step_scope (Steps.trans harr (.one step_inScope))⟩
  | exit id => exact ⟨.exit id, a₁, w₁, hq, fun k' hk => .head step_scope (harr k' (by simp [exitTo, hk]))⟩
  | goto l' =>
    obtain ⟨rfl, n, hJ'⟩ := hq
    obtain ⟨e₂, a₂, w₂, hq₂, harr₂⟩ := key n a₁ w₁ hJ'
    exact ⟨e₂, a₂, w₂, hq₂, .of_steps (.head step_scope (harr _ hg)) harr₂⟩
  | ret => exact ⟨_, a₁, w₁, hq, .of_steps (.one step_scope) harr⟩
  | panic ch => exact ⟨_, a₁, w₁, hq, .of_steps (.one step_scope) harr⟩
  | outgrown => exact ⟨_, a₁, w₁, hq, .of_steps (.one step_scope) harr⟩
/-- A jump to label l. -/
def jumpA (l : Nat) (J : St → Prop) (Q : Exit → St → Prop) : Exit → St → Prop
  | .goto l', st => l' = l ∧ J st
  | e, st => Q e st
section
variable {G : Ctx} {st : St} {Q : Exit → St → Prop} {c y : Code}
theorem AC.label {l : Nat} (h : Q .normal st) : AC G (.label l) st Q := fun m β a w hR Qc hQ => wp_label (hQ _ _ _ _ _ _ h hR)
theorem AC.goto {l : Nat} (h : Q (.goto l) st) : AC G (.goto l) st Q := fun m β a w hR Qc hQ => wp_goto (hQ _ _ _ _ _ _ h hR)
theorem thenA_g {l : Nat} (h : Q (.goto l) st) : thenA G y Q (.goto l) st := h
theorem blockA_g {l id : Nat} (h : Q (.goto l) st) : blockA id Q (.goto l) st := h
theorem joinA_g {ι : Type} {S : ι → St} {p : ι → Prop} {l : Nat} (h : Q (.goto l) st) : joinA S p Q (.goto l) st := h
theorem jumpA_hit {l : Nat} {J : St → Prop} (h : J st) : jumpA l J Q (.goto l) st := ⟨rfl, h⟩
theorem AC.scope {ι : Type} (l : Nat) (S : ι → St) (p : ι → Prop) (μ : ι → Nat) (hf : findLabel c l = some (.seq .skip y))
    (pass : ∀ x, p x → AC G y (S x) (jumpA l (fun s => ∃ z, p z ∧ μ z < μ x ∧ Le s (S z)) Q))
    (first : (∀ x, p x → AC G y (S x) (jumpA l (fun s => ∃ z, p z ∧ Le s (S z)) Q)) → AC G c st (jumpA l (fun s => ∃ z, p z ∧ Le s (S z)) Q)) : AC G (.scope c) st Q := by
  intro m β a w hR Qc hQ
  have h1 : ∀ x, p x → AC G y (S x) (jumpA l (fun s => ∃ z, p z ∧ Le s (S z)) Q) := fun x hx => (pass x hx).mono fun e s hq => by
    cases e with
    | goto l' => obtain ⟨h1, z, h2, _, h3⟩ := hq; exact ⟨h1, z, h2, h3⟩
    | _ => exact hq
  refine wp_scope_ghost l (fun n a w => ∃ x, p x ∧ μ x = n ∧ ∃ m β, R G (S x) m β a w) hf ?_ ?_
  · refine first h1 m β a w hR _ ?_
    intro e st' m' β' a' w' hq hR'
    cases e with
    | goto l' => obtain ⟨h1, z, h2, h3⟩ := hq; exact ⟨h1, μ z, z, h2, rfl, m', β', hR'.le h3⟩
    | _ => exact hQ _ _ _ _ _ _ hq hR'
  · rintro n a w ⟨x, hx, rfl, m, β, hR⟩
    refine AC.seq (AC.skip (pass x hx)) m β a w hR _ ?_
    intro e st' m' β' a' w' hq hR'
    cases e with
    | goto l' => obtain ⟨h1, z, h2, h4, h3⟩ := hq; exact ⟨h1, μ z, h4, z, h2, rfl, m', β', hR'.le h3⟩
    | _ => exact hQ _ _ _ _ _ _ hq hR'
end
end Go.Proofs.Ytfpmgnkbklnkaaa.Eng
end
section
set_option linter.unusedSimpArgs false
set_option linter.unusedVariables false
namespace Go.Proofs.Ytfpmgnkbklnkaaa.Eng
open Go
section
variable {G : Ctx} {st : St} {m : Mem} {β : Bt} {a : Act} {w : World} {ops : Array Oper} {o : Oper}
theorem step_rowLit {i e n : Nat} {t len : Nat} {parts : Array (Nat × Operand)} (ho : ops[i]? = some o) (hw : wantedA ops st o = some true) (hop : o.op = .buildSlice t len parts) {l : List D} {s : Nat}
    (he : evLit G.P t len (parts.toList.map fun p => (p.1, opnd st p.2)) = some (l, s)) (hse0 : sliceElem G.P t = some (e, s)) (hn : st.has n = false) (h9 : Nat.blt n 9000 = true) (hmx : Nat.ble len 9223372036854775807 = true) {d : Nat} (hd : o.dst = some d) (hN : Nat.blt d G.N = true) : AStep G ops i st ((st.bind n (.arr e s len fun i j => l.getD (i * s + j) (.v undef))).put d (.one (.c (.gs n s 0 len)))) := by
  intro m β a w h K Q hK
  unfold evLit at he
  split at he
  · rename_i e' s' hse
    obtain ⟨hu, hsz⟩ := sliceElem_spec hse
    split at he
    · rename_i z hz
      split at he
      · rename_i lc hl
        cases hb : (Nat.ble (len * s') 16777216 && lc.all C.isD && Nat.beq lc.length (len * s') && Nat.blt 0 (len * s')) with
        | false => simp only [hb, cond_false] at he; cases he
        | true =>
          simp only [hb, cond_true] at he
          obtain ⟨rfl, rfl⟩ := Prod.mk.inj (Option.some.inj he)
          simp only [Bool.and_eq_true] at hb
          obtain ⟨⟨⟨hb1, hb2⟩, hb3⟩, hb4⟩ := hb
          have hb1 := Nat.le_of_ble_eq_true hb1
          have hb3 := Nat.eq_of_beq_eq_true hb3
          have hb4 : 0 < len * s' := Nat.le_of_ble_eq_true hb4
          obtain ⟨ii, zv, hi, hzv, hzrep⟩ := zeroC_spec (m := m) (β := β) hz
          have hplace : ∀ i p, placeOf G.P t i = some p → (fun i => some (i * s', s')) i = some p := by
            intro i p hp
            unfold placeOf at hp
            simp [hu, hsz] at hp
            subst hp; rfl
          have hbase : All2 (C.rep m β) ((List.range (len * s')).map fun i => z.getD (i % z.length) .any) ((Array.range (len * s')).map (zv.cells[· % zv.cells.size]!)).toList := by
            have hlen := hzrep.length
            simp only [Array.length_toList] at hlen
            refine All2.of_get (by simp) fun k x y hx hy => ?_
            simp only [Array.toList_map, Array.toList_range, List.getElem?_map, Option.map_eq_some_iff] at hx hy
            obtain ⟨q, hq, rfl⟩ := hx
            obtain ⟨q', hq', rfl⟩ := hy
            rw [hq] at hq'
            obtain rfl := Option.some.inj hq'
            rw [← hlen]
            by_cases hlt : q % z.length < z.length
            · have hc : z[q % z.length]? = some (z[q % z.length]) := List.getElem?_eq_getElem hlt
              obtain ⟨v, hv, hr⟩ := hzrep.get hc
              simp only [List.getD, hc, Option.getD_some]
              rw [Array.getElem?_toList] at hv
              simpa [getElem!_def, hv] using hr
            · simp only [List.getD, List.getElem?_eq_none (Nat.le_of_not_lt hlt), Option.getD_none]
              trivial
          obtain ⟨cs, hf, hcs⟩ := fill_rep hplace _ (parts.toList.map fun p => (p.1, a.eval p.2)) _ lc _ (parts_rep h parts.toList) hbase hl
          have hall := List.all_eq_true.1 hb2
          have hones : ∀ v ∈ cs.toList, v.oneCell' = true := by
            intro v hv
            obtain ⟨k, hk⟩ := List.mem_iff_getElem?.1 hv
            have hklt : k < lc.length := by rw [hcs.length]; exact (List.getElem?_eq_some_iff.1 hk).1
            obtain ⟨v', hv', hr⟩ := hcs.get (List.getElem?_eq_getElem hklt)
            rw [hk] at hv'
            obtain rfl := Option.some.inj hv'
            exact (isD_one (hall _ (List.getElem_mem hklt)) hr).1
          rw [hse] at hse0
          obtain ⟨rfl, _⟩ := Prod.mk.inj (Option.some.inj hse0)
          have hcl : cs.size = len * s' := by have := hcs.length; rw [hb3] at this; simpa using this.symm
          have hB := h.bindB hn (by simpa [Nat.blt_eq] using h9) (blk := .arr e' s' len fun i j => (lc.map toD).getD (i * s' + j) (.v undef)) (vs := cs) e' len rfl ⟨cs.toList, by
            have := World.ownsRow_lit (base := 0) (e := e') (size := s') w cs len (Nat.zero_le _) (Nat.le_of_ble_eq_true hmx) hcl
            simpa [setB_same] using this, hones, fun i hi j hj => by
              have hk : i * s' + j < lc.length := by
                rw [hb3]
                calc i * s' + j < i * s' + s' := by omega
                  _ = (i + 1) * s' := by rw [Nat.add_mul, Nat.one_mul]
                  _ ≤ len * s' := Nat.mul_le_mul_right _ hi
              obtain ⟨v, hv, hr⟩ := hcs.get (List.getElem?_eq_getElem hk)
              refine ⟨v, hv, ?_⟩
              have : (lc.map toD).getD (i * s' + j) (.v undef) = toD lc[i * s' + j] := by simp [List.getD, hk]
              show D.rep m ((lc.map toD).getD (i * s' + j) (.v undef)) v
              rw [this]
              exact (isD_one (hall _ (List.getElem_mem hk)) hr).2⟩
          refine wpOp_wanted ho (wantedA_sound h hw) ?_
          unfold Oper.wp
          have hrun : (execOp a.eval o).run G.P w = .ok (.value (.slice (some ⟨w.heap.size, 0, none⟩) len len)) (w.alloc (.cells cs e')) := by
            have hzr : (zeroValue e').run G.P w = .ok zv w := by simp [zeroValue, typeInfo, hi, hzv]
            have hp : (parts.map fun (i, x) => (i, a.eval x)).toList = parts.toList.map fun p => (p.1, a.eval p.2) := by simp
            have h1 : ¬ len * s' > 2 ^ 24 := by omega
            have h2 : ¬ len * s' = 0 := by omega
            simp only [execOp, hop, Instr.buildSlice, Sem.run_bind, run_underlying hu, Result.andThen_ok, run_sizeOf hsz, if_neg h1, if_neg h2, Sem.run_pure, hzr, hp, hf, newRow, run_newObj]
            rfl
          rw [hrun, Oper.upon_value, hd]
          refine hK _ _ _ _ (hB.put (Nat.le_of_ble_eq_true hN) (v := .slice (some ⟨w.heap.size, 0, none⟩) len len) ⟨by simp [setB_same, at_], by simp [setB_same]⟩ ?_)
          intro k hk
          simp [T.names, U.names, C.names] at hk
          subst hk
          simp [St.has, St.bind, look_put]
      · cases he
    · cases he
  · cases he
theorem BLe.lit1 {α : Type} {e sz : Nat} {enc : α → List D} {d x : α} {c : List D} (h : ∀ j, j < sz → c.getD (0 * sz + j) (.v undef) = nth (enc x) j) : BLe (.arr e sz 1 fun i j => c.getD (i * sz + j) (.v undef)) (arow e sz enc d [x]) :=
  BLe.arr rfl fun i hi j hj => by
    obtain rfl : i = 0 := by omega
    exact h j hj
end
end Go.Proofs.Ytfpmgnkbklnkaaa.Eng
end
section
set_option linter.unusedVariables false
namespace Go.Proofs.Ytfpmgnkbklnkaaa.Eng
open Go
abbrev sp (n : Nat) : Nat × T := (n, tP n 0)
section
variable {G : Ctx} {ops : Array Oper} {st st' : St} {Q : St → Prop} {Qe : Exit → St → Prop} {l : List Nat} {c : Code}
abbrev St.ks (s : St) : List Nat := s.sl.map (·.1)
abbrev St.es (s : St) : List Nat := s.env.map (·.1)
theorem AOps.m (l1 : List Nat) (st' : St) (hk : AOps G ops l st' Q) (h : Eng.runN G.P G.N 0 ops l1 st'.ks st'.es st = some (True, st') := by kernel_rfl) : AOps G ops (l1 ++ l) st Q := AOps.runN 0 l1 _ _ h trivial hk
theorem AOps.e (st' : St) (hk : Q st') (h : Eng.runN G.P G.N 0 ops l st'.ks st'.es st = some (True, st') := by kernel_rfl) : AOps G ops l st Q := AOps.runE 0 _ _ h trivial hk
theorem AOps.mc (l1 : List Nat) {C' : Prop} (st' : St) (hc : C') (hk : AOps G ops l st' Q) (h : Eng.runN G.P G.N 0 ops l1 st'.ks st'.es st = some (C', st') := by kernel_rfl) : AOps G ops (l1 ++ l) st Q := AOps.runN 0 l1 _ _ h hc hk
theorem AOps.ec {C' : Prop} (st' : St) (hc : C') (hk : Q st') (h : Eng.runN G.P G.N 0 ops l st'.ks st'.es st = some (C', st') := by kernel_rfl) : AOps G ops l st Q := AOps.runE 0 _ _ h hc hk
theorem AOps.n (st' : St) (hk : AOps G ops l st' Q) (h : st.norm st'.ks st'.es = st' := by kernel_rfl) (hw : st'.wfB = true := by kernel_rfl) : AOps G ops l st Q := AOps.le (Le.ofNorm h hw) hk
theorem AC.n (st' : St) (hk : AC G c st' Qe) (h : st.norm st'.ks st'.es = st' := by kernel_rfl) (hw : st'.wfB = true := by kernel_rfl) : AC G c st Qe := AC.le (Le.ofNorm h hw) hk
theorem AC.qR {id : Nat} (st' : St) (hk : Qe .normal st') (h : Eng.runN G.P G.N 0 ops (List.range ops.size) st'.ks st'.es st = some (True, st') := by kernel_rfl) : AC G (.region id ops false) st Qe := AC.reg rfl (AOps.runE 0 _ _ h trivial hk)
theorem AC.q {id : Nat} (st' : St) (hk : AC G c st' Qe) (h : Eng.runN G.P G.N 0 ops (List.range ops.size) st'.ks st'.es st = some (True, st') := by kernel_rfl) : AC G (.seq (.region id ops false) c) st Qe := AC.regS rfl (AOps.runE 0 _ _ h trivial hk)
theorem AC.cd {o : Operand} {x y : Code} {b : Bool} (ht : b = true → AC G x st Qe) (hf : b = false → AC G y st Qe) (ho : exact (opnd st o) = some (.bool b) := by kernel_rfl) : AC G (.cond o x y) st Qe := AC.cond ho ht hf
theorem scd {x y : T} {d dy : Nat} (h : st.norm st'.ks st'.es = st' := by kernel_rfl) (hw : st'.wfB = true := by kernel_rfl) (h1 : look st.sl d = some x := by kernel_rfl) (h2 : look st.sl dy = some y := by kernel_rfl) :
    AOps G ops [] st fun s => Le s st' ∧ look s.sl d = some x ∧ look s.sl dy = some y := AOps.done ⟨Le.ofNorm h hw, h1, h2⟩
theorem AOps.s {l2 : List Nat} (l1 : List Nat) (ip d dy dp : Nat) (want : Bool) (b y : Bool) (ks : List Nat)
    (hrun : b = want → AOps G ops l1 (st.put d (B want)) fun s => Le s (st.norm ks (st.env.map (·.1))) ∧ look s.sl d = some (B want) ∧ look s.sl dy = some (B y))
    (hk : AOps G ops l2 ((st.norm ks (st.env.map (·.1))).put dp (B (scv want b y))) Q) (hok : scOk G.N ops l1 ip d want ks st dy dp = true := by kernel_rfl) (hb : look st.sl d = some (B b) := by kernel_rfl) : AOps G ops (l1 ++ ip :: l2) st Q :=
  AOps.sc l1 ip d dy dp want b y ks hok hb hrun hk
theorem AC.dS {id : Nat} {y : Code} (k : Nat) (bs : List (Nat × Nat)) (S : St) (r : List Nat)
    (hbs : bs = [] ∨ ∃ i n, bs = [(i, n)] ∧ i < k ∧ (look S.env n).isSome = true) (hk : AllUpTo (OpAt G ops bs S) k) (htail : AOps G ops r S fun s => AC G y s Qe)
    (hm : G.P.follows .mixedOrders = true := by kernel_rfl) (hd : drawOk ops k k = true := by kernel_rfl)
    (h2 : pick st.sl ((subSt ops k bs S (Array.replicate ops.size false)).sl.map (·.1)) = (subSt ops k bs S (Array.replicate ops.size false)).sl := by kernel_rfl)
    (h3 : pick st.env ((subSt ops k bs S (Array.replicate ops.size false)).env.map (·.1)) = (subSt ops k bs S (Array.replicate ops.size false)).env := by kernel_rfl)
    (hwf : S.wfB = true := by kernel_rfl) (hw0 : (subSt ops k bs S (Array.replicate ops.size false)).wfB = true := by kernel_rfl) (hl : List.range' k (ops.size - k) = r := by kernel_rfl) :
    AC G (.seq (.region id ops true) y) st Qe := AC.drawS hm k bs S hd rfl h2 h3 hwf hw0 hbs hk hl htail
theorem AC.dL {id : Nat} (k : Nat) (bs : List (Nat × Nat)) (S : St) (r : List Nat)
    (hbs : bs = [] ∨ ∃ i n, bs = [(i, n)] ∧ i < k ∧ (look S.env n).isSome = true) (hk : AllUpTo (OpAt G ops bs S) k) (htail : AOps G ops r S (Qe .normal))
    (hm : G.P.follows .mixedOrders = true := by kernel_rfl) (hd : drawOk ops k k = true := by kernel_rfl)
    (h2 : pick st.sl ((subSt ops k bs S (Array.replicate ops.size false)).sl.map (·.1)) = (subSt ops k bs S (Array.replicate ops.size false)).sl := by kernel_rfl)
    (h3 : pick st.env ((subSt ops k bs S (Array.replicate ops.size false)).env.map (·.1)) = (subSt ops k bs S (Array.replicate ops.size false)).env := by kernel_rfl)
    (hwf : S.wfB = true := by kernel_rfl) (hw0 : (subSt ops k bs S (Array.replicate ops.size false)).wfB = true := by kernel_rfl) (hl : List.range' k (ops.size - k) = r := by kernel_rfl) :
    AC G (.region id ops true) st Qe := AC.drawL hm k bs S hd rfl h2 h3 hwf hw0 hbs hk hl htail
def callN (P : Program) (N : Nat) (ops : Array Oper) (i : Nat) (st : St) : Option (FuncId × List U) := match ops[i]? with
  | some o => match o.op, o.dst, wantedA ops st o with
    | .call c, some d, some true => match c.callee with
      | .value fop => match asFn (opnd st fop) with
        | some f => bif Nat.blt d N then some (f, c.args.toList.map (fun x => toU (opnd st x))) else none
        | none => none
      | _ => none
    | _, _, _ => none
  | none => none
def dOf (ops : Array Oper) (i : Nat) : Nat := match ops[i]? with
  | some o => o.dst.getD 0
  | none => 0
theorem AOps.ca {i f : Nat} {us : List U} {Qf : T → Prop} (hf : FnOk G.P f us Qf) (h : ∀ r, Qf r → AOps G ops l (st.put (dOf ops i) r) Q) (hc : callN G.P G.N ops i st = some (f, us) := by kernel_rfl) : AOps G ops (i :: l) st Q := by
  unfold callN at hc
  split at hc
  · rename_i o ho
    split at hc
    · rename_i c d' hop hd hw
      split at hc
      · rename_i fop hcl
        split at hc
        · rename_i f' hfo
          cases hb : Nat.blt d' G.N with
          | false => rw [hb] at hc; cases hc
          | true =>
            rw [hb] at hc
            simp only [cond_true, Option.some.injEq, Prod.mk.injEq] at hc
            obtain ⟨rfl, rfl⟩ := hc
            have hd' : dOf ops i = d' := by unfold dOf; rw [ho]; simp [hd]
            exact AOps.call ho hw hop hcl hfo hd hb rfl hf (hd' ▸ h)
        · cases hc
      · cases hc
    · cases hc
  · cases hc
end
def offT (N : Nat) (bs : List (Nat × Nat)) (ops : Array Oper) (S : St) (i : Nat) : Option T := match ops[i]? with
  | some o => match o.dst, wantedA ops S o with
    | some d, some false => bif Nat.blt d N && noBind bs i then some U0 else none
    | _, _ => none
  | none => none
theorem oo {G : Ctx} {ops : Array Oper} {bs : List (Nat × Nat)} {S : St} {i : Nat} (h : offT G.N bs ops S i = lookD ops S i := by kernel_rfl) (hs : (lookD ops S i).isSome = true := by kernel_rfl) : OpAt G ops bs S i := by
  obtain ⟨x', hx'⟩ := Option.isSome_iff_exists.1 hs
  rw [hx'] at h
  unfold offT at h
  unfold lookD at hx'
  split at h
  · rename_i o ho
    rw [ho] at hx'
    split at h
    · rename_i d hd hw
      simp only [hd] at hx'
      cases hb : (Nat.blt d G.N && noBind bs i) with
      | false => simp only [hb, cond_false] at h; cases h
      | true =>
        simp only [hb, cond_true] at h
        obtain rfl := Option.some.inj h
        simp only [Bool.and_eq_true] at hb
        exact OpAt.off ho hw hd hb.1 hx' hb.2
    · cases h
  · cases h
def anyT (P : Program) (N : Nat) (bs : List (Nat × Nat)) (ops : Array Oper) (S : St) (i : Nat) : Option T := match offT N bs ops S i with
  | some x => some x
  | none => opT P N bs ops S i
theorem oa {G : Ctx} {ops : Array Oper} {bs : List (Nat × Nat)} {S : St} {i : Nat} (h : anyT G.P G.N bs ops S i = lookD ops S i) (hs : (lookD ops S i).isSome = true) : OpAt G ops bs S i := by
  unfold anyT at h
  split at h
  · rename_i x hx; exact oo (hx.trans h) hs
  · exact OpAt.t h hs
theorem ar {G : Ctx} {ops : Array Oper} {bs : List (Nat × Nat)} {S : St} {m : Nat} (k : Nat) (hm : AllUpTo (OpAt G ops bs S) m) (h : (List.range' m k).map (anyT G.P G.N bs ops S) = (List.range' m k).map (lookD ops S) := by kernel_rfl)
    (hs : ((List.range' m k).all fun i => (lookD ops S i).isSome) = true := by kernel_rfl) : AllUpTo (OpAt G ops bs S) (m + k) := by
  have h1 : ∀ i, i ∈ List.range' m k → OpAt G ops bs S i := fun i hi => oa (List.map_inj_left.1 h i hi) (List.all_eq_true.1 hs i hi)
  clear h hs
  induction k with
  | zero => exact hm
  | succ k ih => exact AllUpTo.succ (ih fun i hi => h1 i (by simp only [List.mem_range'_1] at hi ⊢; omega)) (h1 (m + k) (by simp only [List.mem_range'_1]; omega))
theorem AC.nl {G : Ctx} {st : St} {Qe : Exit → St → Prop} {c : Code} (n d e sz : Nat) (get : Nat → Nat → D) (st' : St) (h : AC G c st' Qe) (hd : look st.sl d = some (.one (.c (.d (.v (.slice none 0 0))))) := by rfl) (hn : st.has n = false := by kernel_rfl) (h9 : Nat.blt n 9000 = true := by kernel_rfl)
    (hst : ((st.bind n (.arr e sz 0 get)).put d (.one (.c (.gs n sz 0 0)))).norm st'.ks st'.es = st' := by kernel_rfl) (hw : st'.wfB = true := by kernel_rfl) : AC G c st Qe := AC.nilslotN n d e sz get _ _ hd hn h9 hst hw h
theorem AC.fz {G : Ctx} {st : St} {Qe : Exit → St → Prop} {c : Code} (n : Nat) (C' : Prop) (st' : St) (hc : C') (h : AC G c st' Qe) {e sz k : Nat} {get : Nat → Nat → D} (hb : look st.env n = some (.arr e sz k get)) (hF : G.F = noF := by rfl)
    (hok : frzAll n sz k st = some C' := by kernel_rfl) (hst : St.norm ⟨frzS n get st.sl, frzE n get st.env⟩ st'.ks st'.es = st' := by kernel_rfl) (hw : st'.wfB = true := by kernel_rfl) : AC G c st Qe := AC.freezeN n _ _ hF hb hok hst hw hc h
theorem FnOk.go {P : Program} {f : FuncId} {fn : Func} {c : Code} {args : List U} {Q : T → Prop} (hf : P.funcs[f]? = some fn) (hb : fn.body = some c) (N : Nat) (h : ∀ w0 m0, AC ⟨P, w0, m0, noF, N, β0⟩ c ⟨argSlots 0 args, []⟩ (ResQ ⟨P, w0, m0, noF, N, β0⟩ fn Q))
    (hname : (fn.name == "runtime.NumGoroutine") = false := by kernel_rfl) (hN : Nat.ble args.length fn.ntmps = true := by kernel_rfl) (hp : args.flatMap U.names = [] := by kernel_rfl) (hnt : fn.ntmps = N := by kernel_rfl) : FnOk P f args Q := FnOk.intro hf hb hname hN hp hnt h
theorem jt {α : Type} {b : Bool} {x y : α} (h : b = true) : x = bif b then x else y := by rw [h]; rfl
theorem jf {α : Type} {b : Bool} {x y : α} (h : b = false) : y = bif b then x else y := by rw [h]; rfl
theorem bb : (∀ a b : Bool, (a || b) = true ↔ a = true ∨ b = true) ∧ (∀ a b : Bool, (a || b) = false ↔ a = false ∧ b = false) ∧ (∀ a b : Bool, (a && b) = true ↔ a = true ∧ b = true) ∧ (∀ a b : Bool, (a && b) = false ↔ (a = true → b = false)) ∧
    (∀ (p : Prop) [Decidable p], (decide p = true) = p) ∧ (∀ (p : Prop) [Decidable p], decide p = false ↔ ¬ p) ∧ (∀ {α : Type} [BEq α] [LawfulBEq α] (a b : α), (a == b) = true ↔ a = b) ∧ (∀ {α : Type} [BEq α] [LawfulBEq α] (a b : α), (a == b) = false ↔ a ≠ b) ∧
    (∀ {α : Type} [BEq α] [LawfulBEq α] (a b : α), (a != b) = true ↔ a ≠ b) ∧ (∀ {α : Type} [BEq α] [LawfulBEq α] (a b : α), (a != b) = false ↔ a = b) ∧ (∀ b : Bool, ((!b) = true) = (b = false)) ∧ (∀ b : Bool, ((!b) = false) = (b = true)) ∧
    (∀ {α : Type} (a b : α), (a ≠ b) = ¬ (a = b)) ∧ (∀ a b : Int, ¬ a < b ↔ b ≤ a) ∧ (∀ a b : Int, ¬ a ≤ b ↔ b < a) :=
  ⟨@b1, @b2, @b3, @b4, fun _ => b5, fun _ => b6, fun _ _ => b7, fun _ _ => b8_, fun _ _ => b9, fun _ _ => b10, @b11, @b12, b13, @b14, @b15⟩
end Go.Proofs.Ytfpmgnkbklnkaaa.Eng
end
namespace Go.Proofs.Ytfpmgnkbklnkaaa.Eng
open Go
structure Grid where
  Size : Int
  Hop : Int
  Late : Int
deriving DecidableEq
def zGrid : Grid := ⟨0, 0, 0⟩
def eGrid (x : Grid) : List D := [dI x.Size, dI x.Hop, dI x.Late]
structure Rec where
  Key : Int
  Time : Int
  Text : ByteArray
deriving DecidableEq
def zRec : Rec := ⟨0, 0, ByteArray.empty⟩
def eRec (x : Rec) : List D := [dI x.Key, dI x.Time, dS x.Text]
structure Beat where
  Key : Int
  Wait : Int
  V : Int
deriving DecidableEq
def zBeat : Beat := ⟨0, 0, 0⟩
def eBeat (x : Beat) : List D := [dI x.Key, dI x.Wait, dI x.V]
structure H4 where
  h0 : Int
  h1 : Int
  h2 : Int
  h3 : Int
deriving DecidableEq
def zH4 : H4 := ⟨0, 0, 0, 0⟩
def eH4 (x : H4) : List D := [dI x.h0, dI x.h1, dI x.h2, dI x.h3]
structure Agg where
  Count : Int
  Sum : Int
  Min : Int
  Max : Int
  Hist : H4
  Re : Int
  Im : Int
deriving DecidableEq
def zAgg : Agg := ⟨0, 0, 0, 0, zH4, 0, 0⟩
def eAgg (x : Agg) : List D := [dI x.Count, dI x.Sum, dI x.Min, dI x.Max, dI x.Hist.h0, dI x.Hist.h1, dI x.Hist.h2, dI x.Hist.h3, dI x.Re, dI x.Im]
structure Cell where
  Key : Int
  Start : Int
  A : Agg
deriving DecidableEq
def zCell : Cell := ⟨0, 0, zAgg⟩
def eCell (x : Cell) : List D := [dI x.Key, dI x.Start, dI x.A.Count, dI x.A.Sum, dI x.A.Min, dI x.A.Max, dI x.A.Hist.h0, dI x.A.Hist.h1, dI x.A.Hist.h2, dI x.A.Hist.h3, dI x.A.Re, dI x.A.Im]
structure State where
  Mark : Int
  Late : Int
  Bad : Int
  N : Int
  L : List Cell
deriving DecidableEq
def zState : State := ⟨0, 0, 0, 0, []⟩
def eState (x : State) : List D := [dI x.Mark, dI x.Late, dI x.Bad, dI x.N, row 12 eCell zCell x.L]
end Go.Proofs.Ytfpmgnkbklnkaaa.Eng
namespace Go.Proofs.Ytfpmgnkbklnkaaa.Eng
open Go
theorem mulb {a b A B : Int} (ha : 0 ≤ a) (hA : a ≤ A) (hb : 0 ≤ b) (hB : b ≤ B) : 0 ≤ a * b ∧ a * b ≤ A * B :=
  ⟨Int.mul_nonneg ha hb, Int.mul_le_mul hA hB hb (Int.le_trans ha hA)⟩
def gridMay (g : Grid) : Bool := decide (1 ≤ g.Size ∧ g.Size ≤ 1048576 ∧ 1 ≤ g.Hop ∧ g.Hop ≤ g.Size ∧ 0 ≤ g.Late ∧ g.Late ≤ 1048576 ∧
  (g.Size = g.Hop ∨ g.Size = 2 * g.Hop ∨ g.Size = 3 * g.Hop ∨ g.Size = 4 * g.Hop ∨ g.Size = 5 * g.Hop ∨ g.Size = 6 * g.Hop ∨ g.Size = 7 * g.Hop ∨ g.Size = 8 * g.Hop))
theorem gridMay_yes {g : Grid} {k : Nat} (h1 : 1 ≤ k) (h8 : k ≤ 8) (hs : 1 ≤ g.Size ∧ g.Size ≤ 1048576 ∧ 1 ≤ g.Hop ∧ g.Hop ≤ g.Size ∧ 0 ≤ g.Late ∧ g.Late ≤ 1048576) (h : (k : Int) * g.Hop = g.Size) : gridMay g = true := by
  simp only [gridMay, decide_eq_true_eq]
  have hk : k = 1 ∨ k = 2 ∨ k = 3 ∨ k = 4 ∨ k = 5 ∨ k = 6 ∨ k = 7 ∨ k = 8 := by omega
  refine ⟨hs.1, hs.2.1, hs.2.2.1, hs.2.2.2.1, hs.2.2.2.2.1, hs.2.2.2.2.2, ?_⟩
  rcases hk with rfl | rfl | rfl | rfl | rfl | rfl | rfl | rfl <;> simp at h <;> omega
theorem gridMay_no {g : Grid} (h : ∀ j : Nat, 1 ≤ j → j < 9 → (j : Int) * g.Hop ≠ g.Size) : gridMay g = false := by
  simp only [gridMay, decide_eq_false_iff_not]
  rintro ⟨_, _, _, _, _, _, hh⟩
  have a1 := h 1 (by omega) (by omega); have a2 := h 2 (by omega) (by omega); have a3 := h 3 (by omega) (by omega); have a4 := h 4 (by omega) (by omega)
  have a5 := h 5 (by omega) (by omega); have a6 := h 6 (by omega) (by omega); have a7 := h 7 (by omega) (by omega); have a8 := h 8 (by omega) (by omega)
  simp at a1 a2 a3 a4 a5 a6 a7 a8
  omega
def gridClosed (g : Grid) (start mark : Int) : Bool := gridMay g && decide (0 ≤ mark) && decide (start ≤ mark - g.Size - g.Late)
theorem gridMay_spec {g : Grid} (h : gridMay g = true) : 1 ≤ g.Size ∧ g.Size ≤ 1048576 ∧ 1 ≤ g.Hop ∧ g.Hop ≤ g.Size ∧ 0 ≤ g.Late ∧ g.Late ≤ 1048576 := by
  simp only [gridMay, decide_eq_true_eq] at h; omega
theorem gridMay_k {g : Grid} (h : gridMay g = true) : ∃ k : Nat, 1 ≤ k ∧ k ≤ 8 ∧ g.Size = g.Hop * k := by
  simp only [gridMay, decide_eq_true_eq] at h
  rcases h.2.2.2.2.2.2 with e | e | e | e | e | e | e | e
  · exact ⟨1, by omega⟩
  · exact ⟨2, by omega⟩
  · exact ⟨3, by omega⟩
  · exact ⟨4, by omega⟩
  · exact ⟨5, by omega⟩
  · exact ⟨6, by omega⟩
  · exact ⟨7, by omega⟩
  · exact ⟨8, by omega⟩
theorem closed14 {g : Grid} {start mark : Int} (h : mark ≤ 9223372036854775807) : ((gridMay g && decide (mark ≥ 0)) && decide (start ≤ IntKind.i64.wrap (mark - IntKind.i64.wrap (g.Size + g.Late)))) = gridClosed g start mark := by
  simp only [gridClosed]
  cases hg : gridMay g with
  | false => simp
  | true =>
    have := gridMay_spec hg
    by_cases hm : 0 ≤ mark
    · rw [wrap_in (n := g.Size + g.Late) (by omega) (by omega), wrap_in (by omega) (by omega)]
      congr 1; rw [decide_eq_decide]; omega
    · simp [hm]
def gridCheck (g : Grid) : Int := if gridMay g then 0 else 1
theorem closedG {g : Grid} {start mark : Int} (h : mark ≤ 9223372036854775807) : (((gridCheck g == 0) && decide (mark ≥ 0)) && decide (start ≤ IntKind.i64.wrap (IntKind.i64.wrap (mark - g.Size) - g.Late))) = gridClosed g start mark := by
  simp only [gridClosed, gridCheck]
  cases hg : gridMay g with
  | false => simp
  | true =>
    have := gridMay_spec hg
    by_cases hm : 0 ≤ mark
    · rw [wrap_in (n := mark - g.Size) (by omega) (by omega), wrap_in (by omega) (by omega)]; simp
    · simp [hm]
/-- A window's size in hops, by a division. -/
theorem gridMay_div {g : Grid} (h1 : 1 ≤ g.Size) (h2 : g.Size ≤ 1048576) (h3 : 1 ≤ g.Hop) (h4 : g.Hop ≤ g.Size) (h5 : Int.tmod g.Size g.Hop = 0) (h6 : Int.tdiv g.Size g.Hop ≤ 8) (h7 : 0 ≤ g.Late) (h8 : g.Late ≤ 1048576) : gridMay g = true := by
  have e := Int.tmod_add_mul_tdiv g.Size g.Hop
  rw [h5, Int.tdiv_eq_ediv_of_nonneg (by omega)] at e
  rw [Int.tdiv_eq_ediv_of_nonneg (by omega)] at h6
  have h0 : 1 ≤ g.Size / g.Hop := by
    by_cases h : 0 < g.Size / g.Hop
    · exact h
    · have : g.Size / g.Hop = 0 := by have := Int.ediv_nonneg (a := g.Size) (b := g.Hop) (by omega) (by omega); omega
      rw [this] at e; omega
  generalize g.Size / g.Hop = q at *
  refine gridMay_yes (k := q.toNat) (by omega) (by omega) ⟨h1, h2, h3, h4, h7, h8⟩ ?_
  rw [Int.toNat_of_nonneg (by omega), Int.mul_comm]; omega
theorem gridMay_mod {g : Grid} (h : gridMay g = true) : Int.tmod g.Size g.Hop = 0 ∧ 1 ≤ Int.tdiv g.Size g.Hop ∧ Int.tdiv g.Size g.Hop ≤ 8 := by
  obtain ⟨k, h1, h8, e⟩ := gridMay_k h
  have := gridMay_spec h
  rw [e]
  refine ⟨Int.mul_tmod_right _ _, ?_, ?_⟩ <;> rw [Int.mul_tdiv_cancel_left _ (by omega)] <;> omega
theorem tdiv_in {a b : Int} (h1 : 1 ≤ a) (h2 : a ≤ 1048576) (h3 : 1 ≤ b) : IntKind.i64.wrap (Int.tdiv a b) = Int.tdiv a b := by
  have e := Int.tdiv_eq_ediv_of_nonneg (a := a) (b := b) (by omega)
  have := Int.ediv_nonneg (a := a) (b := b) (by omega) (by omega)
  have h := Int.ediv_le_self (a := a) b (by omega)
  rw [wrap_in] <;> omega
theorem check_no {g : Grid} (h : ¬ (1 ≤ g.Size ∧ g.Size ≤ 1048576 ∧ 1 ≤ g.Hop ∧ g.Hop ≤ g.Size ∧ Int.tmod g.Size g.Hop = 0 ∧ IntKind.i64.wrap (Int.tdiv g.Size g.Hop) ≤ 8 ∧ 0 ≤ g.Late ∧ g.Late ≤ 1048576)) : (1 : Int) = gridCheck g := by
  unfold gridCheck
  cases hg : gridMay g with
  | false => simp
  | true =>
    have s := gridMay_spec hg
    have m := gridMay_mod hg
    exact absurd ⟨s.1, s.2.1, s.2.2.1, s.2.2.2.1, m.1, by rw [tdiv_in] <;> omega, s.2.2.2.2.1, s.2.2.2.2.2⟩ h
theorem check_yes {g : Grid} (h : 1 ≤ g.Size ∧ g.Size ≤ 1048576 ∧ 1 ≤ g.Hop ∧ g.Hop ≤ g.Size ∧ Int.tmod g.Size g.Hop = 0 ∧ IntKind.i64.wrap (Int.tdiv g.Size g.Hop) ≤ 8 ∧ 0 ≤ g.Late ∧ g.Late ≤ 1048576) : (0 : Int) = gridCheck g := by
  obtain ⟨h1, h2, h3, h4, h5, h6, h7, h8⟩ := h
  rw [tdiv_in h1 h2 h3] at h6
  rw [gridCheck, if_pos (gridMay_div h1 h2 h3 h4 h5 h6 h7 h8)]
abbrev R64 (n : Int) : Prop := -9223372036854775808 ≤ n ∧ n ≤ 9223372036854775807
def ahead (a b : Cell) : Bool := decide (a.Start < b.Start) || (a.Start == b.Start && decide (a.Key < b.Key))
def inN (n : Int) : Bool := decide (n ≥ 0) && decide (n ≤ 1099511627776)
/-- A sum that stays at the ends. -/
def satAdd (a b : Int) : Int := if a + b > 9223372036854775807 then 9223372036854775807 else if a + b < -9223372036854775808 then -9223372036854775808 else a + b
theorem satAdd_in (a b : Int) : R64 (satAdd a b) := by unfold satAdd; split; omega; split <;> omega
def sortOf (v : Int) : Int := if v < 0 then 0 else if v < 10 then 1 else if v < 100 then 2 else 3
def farN (n count : Int) : Int := if -count ≤ n ∧ n ≤ count then (n.natAbs : Int) else 0
def farOk (n count : Int) : Bool := decide (-count ≤ n ∧ n ≤ count)
def cmpI (a b : Int) : Int := if a < b then -1 else if a > b then 1 else 0
def orI : List Int → Int
  | [] => 0
  | x :: r => if x ≠ 0 then x else orI r
theorem orI_hit : ∀ {l : List Int} {i : Nat}, i < l.length → (∀ j, j < i → l.getD j 0 = 0) → l.getD i 0 ≠ 0 → orI l = l.getD i 0
  | x :: r, 0, _, _, h => by
    have h' : x ≠ 0 := h
    simp [orI, h']
  | x :: r, i + 1, hi, h, hx => by
    have h0 : x = 0 := h 0 (by omega)
    rw [orI, if_neg (by simpa using h0), orI_hit (i := i) (by simpa using hi) (fun j hj => h (j + 1) (by omega)) hx]
    rfl
theorem orI_none : ∀ {l : List Int}, (∀ j, j < l.length → l.getD j 0 = 0) → orI l = 0
  | [], _ => rfl
  | x :: r, h => by
    have h0 : x = 0 := h 0 (by simp)
    rw [orI, if_neg (by simpa using h0), orI_none (fun j hj => h (j + 1) (by simpa using hj))]
def zeroState : State := ⟨-1, 0, 0, 0, []⟩
/-- So many quarter turns, as the model has complex numbers. -/
def turnK : Nat → Value
  | 0 => .complex .f64 4607182418800017408 0
  | 1 => .complex .f64 0 4607182418800017408
  | 2 => .complex .f64 13830554455654793216 0
  | _ => .complex .f64 9223372036854775808 13830554455654793216
def turnRe : Nat → Value
  | 0 => .float .f64 4607182418800017408
  | 1 => .float .f64 0
  | 2 => .float .f64 13830554455654793216
  | _ => .float .f64 9223372036854775808
def turnIm : Nat → Value
  | 0 => .float .f64 0
  | 1 => .float .f64 4607182418800017408
  | 2 => .float .f64 0
  | _ => .float .f64 13830554455654793216
def quarter (v : Int) : Nat := (v % 4).toNat
theorem quarter_lt (v : Int) : quarter v < 4 := by unfold quarter; omega
theorem quarter_and (v : Int) (h : R64 v) : bitsAnd .i64 v 3 = quarter v := by
  have hb : (BitVec.ofInt 64 v &&& BitVec.ofInt 64 3).toNat = quarter v := by
    rw [BitVec.toNat_and]
    have h3 : (BitVec.ofInt 64 3).toNat = 2 ^ 2 - 1 := by decide
    rw [h3, Nat.and_two_pow_sub_one_eq_mod, BitVec.toNat_ofInt]
    unfold quarter
    omega
  show IntKind.i64.wrap (((BitVec.ofInt 64 v &&& BitVec.ofInt 64 3).toNat : Nat) : Int) = _
  rw [hb]
  have := quarter_lt v
  rw [wrap_in] <;> omega
def turnV (v : Int) : Value := turnK (quarter v)
def hget (h : H4) : Int → Int
  | 0 => h.h0
  | 1 => h.h1
  | 2 => h.h2
  | _ => h.h3
def hset (h : H4) (k n : Int) : H4 := match k with
  | 0 => { h with h0 := n }
  | 1 => { h with h1 := n }
  | 2 => { h with h2 := n }
  | _ => { h with h3 := n }
def quartRe (v : Int) : Int := match quarter v with
  | 0 => 1
  | 2 => -1
  | _ => 0
def quartIm (v : Int) : Int := match quarter v with
  | 1 => 1
  | 3 => -1
  | _ => 0
/-- A number more. -/
def aggAdd (a : Agg) (v : Int) : Agg :=
  { Count := satAdd a.Count 1, Sum := satAdd a.Sum v, Min := if a.Count = 0 then v else min a.Min v, Max := if a.Count = 0 then v else max a.Max v,
    Hist := hset a.Hist (sortOf v) (satAdd (hget a.Hist (sortOf v)) 1), Re := satAdd a.Re (quartRe v), Im := satAdd a.Im (quartIm v) }
def AggR (a : Agg) : Prop := R64 a.Count ∧ R64 a.Sum ∧ R64 a.Min ∧ R64 a.Max ∧ R64 a.Hist.h0 ∧ R64 a.Hist.h1 ∧ R64 a.Hist.h2 ∧ R64 a.Hist.h3 ∧ R64 a.Re ∧ R64 a.Im
theorem sortOf_cases (v : Int) : sortOf v = 0 ∨ sortOf v = 1 ∨ sortOf v = 2 ∨ sortOf v = 3 := by
  unfold sortOf; split; omega; split; omega; split <;> omega
theorem aggAdd_in {a : Agg} {v : Int} (h : AggR a) (hv : R64 v) : AggR (aggAdd a v) := by
  obtain ⟨h1, h2, h3, h4, h5, h6, h7, h8, h9, h10⟩ := h
  refine ⟨satAdd_in _ _, satAdd_in _ _, ?_, ?_, ?_, ?_, ?_, ?_, satAdd_in _ _, satAdd_in _ _⟩
  · simp only [aggAdd]; split <;> omega
  · simp only [aggAdd]; split <;> omega
  all_goals
    simp only [aggAdd]
    rcases sortOf_cases v with e | e | e | e <;> rw [e] <;> simp only [hset] <;> first | exact satAdd_in _ _ | assumption
def aggMay (a : Agg) : Bool := decide (1 ≤ a.Count ∧ a.Count ≤ 1099511627776 ∧ a.Min ≤ a.Max ∧ 0 ≤ a.Hist.h0 ∧ 0 ≤ a.Hist.h1 ∧ 0 ≤ a.Hist.h2 ∧ 0 ≤ a.Hist.h3 ∧
  a.Hist.h0 + a.Hist.h1 + a.Hist.h2 + a.Hist.h3 = a.Count ∧ (a.Re.natAbs : Int) + a.Im.natAbs ≤ a.Count)
def aggCheck (a : Agg) : Int := if aggMay a then 0 else 1
def aggAll (l : List Int) : Agg := l.foldl aggAdd zAgg
theorem satAdd_zero {n : Int} (h : R64 n) : satAdd n 0 = n := by unfold satAdd; split; omega; split <;> omega
theorem quarter_tmod {v : Int} : Int.tmod (IntKind.i64.wrap (Int.tmod v 4 + 4)) 4 = (quarter v : Int) := by
  have h1 := Int.tmod_lt_of_pos v (b := 4) (by omega)
  have h2 := Int.lt_tmod_of_pos v (b := 4) (by omega)
  rw [wrap_in (by omega) (by omega), Int.tmod_eq_emod_of_nonneg (by omega)]
  have h3 := Int.tmod_add_mul_tdiv v 4
  unfold quarter
  generalize Int.tmod v 4 = m at *
  omega
theorem aggMay_spec {a : Agg} (h : aggMay a = true) : 1 ≤ a.Count ∧ a.Count ≤ 1099511627776 ∧ a.Min ≤ a.Max ∧ 0 ≤ a.Hist.h0 ∧ 0 ≤ a.Hist.h1 ∧ 0 ≤ a.Hist.h2 ∧ 0 ≤ a.Hist.h3 ∧
  a.Hist.h0 + a.Hist.h1 + a.Hist.h2 + a.Hist.h3 = a.Count ∧ (a.Re.natAbs : Int) + a.Im.natAbs ≤ a.Count := by simpa only [aggMay, decide_eq_true_eq] using h
/-- What fold.Check knows behind k sorts. -/
def chk (a : Agg) (k : Nat) (left : Int) (ok : Bool) : Prop :=
  (ok = true → 1 ≤ a.Count ∧ a.Count ≤ 1099511627776 ∧ a.Min ≤ a.Max ∧ 0 ≤ left ∧ left ≤ a.Count ∧
    ((k = 0 ∧ left = a.Count) ∨ (k = 1 ∧ left = a.Count - a.Hist.h0 ∧ 0 ≤ a.Hist.h0) ∨ (k = 2 ∧ left = a.Count - a.Hist.h0 - a.Hist.h1 ∧ 0 ≤ a.Hist.h0 ∧ 0 ≤ a.Hist.h1) ∨
     (k = 3 ∧ left = a.Count - a.Hist.h0 - a.Hist.h1 - a.Hist.h2 ∧ 0 ≤ a.Hist.h0 ∧ 0 ≤ a.Hist.h1 ∧ 0 ≤ a.Hist.h2) ∨
     (k = 4 ∧ left = a.Count - a.Hist.h0 - a.Hist.h1 - a.Hist.h2 - a.Hist.h3 ∧ 0 ≤ a.Hist.h0 ∧ 0 ≤ a.Hist.h1 ∧ 0 ≤ a.Hist.h2 ∧ 0 ≤ a.Hist.h3))) ∧
  (ok = false → aggMay a = false)
theorem chk_begin (a : Agg) : chk a 0 a.Count ((decide (a.Count ≥ 1) && decide (a.Count ≤ 1099511627776)) && decide (a.Min ≤ a.Max)) := by
  refine ⟨fun h => ?_, fun h => ?_⟩
  · simp only [Bool.and_eq_true, decide_eq_true_eq] at h; omega
  · cases hm : aggMay a with
    | false => rfl
    | true =>
      have := aggMay_spec hm
      simp only [Bool.and_eq_false_iff, decide_eq_false_iff_not] at h; omega
theorem hg0 (h : H4) : hget h ((0 : Nat) : Int) = h.h0 := rfl
theorem hg1 (h : H4) : hget h ((1 : Nat) : Int) = h.h1 := rfl
theorem hg2 (h : H4) : hget h ((2 : Nat) : Int) = h.h2 := rfl
theorem hg3 (h : H4) : hget h ((3 : Nat) : Int) = h.h3 := rfl
theorem chk_step {a : Agg} {k : Nat} {left : Int} {ok : Bool} (hk : k < 4) (h : chk a k left ok) : chk a (k + 1) (IntKind.i64.wrap (left - hget a.Hist k)) ((ok && decide (hget a.Hist k ≥ 0)) && decide (hget a.Hist k ≤ left)) := by
  have hk' : k = 0 ∨ k = 1 ∨ k = 2 ∨ k = 3 := by omega
  cases ok with
  | false => exact ⟨fun h => by simp at h, fun _ => h.2 rfl⟩
  | true =>
    have h1 := h.1 rfl
    refine ⟨fun h => ?_, fun h => ?_⟩
    · simp only [Bool.and_eq_true, decide_eq_true_eq] at h
      rcases hk' with rfl | rfl | rfl | rfl <;> simp only [hg0, hg1, hg2, hg3, true_and] at h ⊢ <;> rw [wrap_in (by omega) (by omega)] <;> omega
    · cases hm : aggMay a with
      | false => rfl
      | true =>
        have := aggMay_spec hm
        simp only [Bool.and_eq_false_iff, decide_eq_false_iff_not] at h
        rcases hk' with rfl | rfl | rfl | rfl <;> simp only [hg0, hg1, hg2, hg3] at h <;> simp at h <;> omega
theorem chk_bad {a : Agg} {k : Nat} {left : Int} {ok : Bool} (hk : 4 ≤ k) (h : chk a k left ok) (hb : ok = false ∨ left ≠ 0) : aggMay a = false := by
  cases ok with
  | false => exact h.2 rfl
  | true =>
    have h1 := h.1 rfl
    cases hm : aggMay a with
    | false => rfl
    | true =>
      have := aggMay_spec hm
      rcases hb with hb | hb
      · cases hb
      · omega
theorem chk_good {a : Agg} {k : Nat} {left : Int} {ok : Bool} (hk : 4 ≤ k) (h : chk a k left ok) (h1 : ok = true) (h2 : left = 0) : 1 ≤ a.Count ∧ a.Count ≤ 1099511627776 ∧
    aggMay a = ((farOk a.Re a.Count && farOk a.Im a.Count) && decide (farN a.Re a.Count + farN a.Im a.Count ≤ a.Count)) := by
  have h1 := h.1 h1
  refine ⟨h1.1, h1.2.1, ?_⟩
  have e1 : farOk a.Re a.Count = true → farN a.Re a.Count = a.Re.natAbs := fun h => by simp only [farOk, decide_eq_true_eq] at h; rw [farN, if_pos h]
  have e2 : farOk a.Im a.Count = true → farN a.Im a.Count = a.Im.natAbs := fun h => by simp only [farOk, decide_eq_true_eq] at h; rw [farN, if_pos h]
  have d1 : farOk a.Re a.Count = true ↔ -a.Count ≤ a.Re ∧ a.Re ≤ a.Count := by simp [farOk]
  have d2 : farOk a.Im a.Count = true ↔ -a.Count ≤ a.Im ∧ a.Im ≤ a.Count := by simp [farOk]
  rw [Bool.eq_iff_iff]
  simp only [aggMay, Bool.and_eq_true, decide_eq_true_eq]
  constructor
  · intro h
    have f1 := d1.2 (by omega)
    have f2 := d2.2 (by omega)
    exact ⟨⟨f1, f2⟩, by rw [e1 f1, e2 f2]; omega⟩
  · rintro ⟨⟨h3, h4⟩, h5⟩
    rw [e1 h3, e2 h4] at h5
    omega
theorem farN_in (n c : Int) (h : 0 ≤ c) : 0 ≤ farN n c ∧ farN n c ≤ c := by unfold farN; split <;> omega
/-- The first place where p holds; -1: none. -/
def idxF {α : Type} (p : α → Bool) : List α → Int
  | [] => -1
  | x :: r => if p x then 0 else (if idxF p r < 0 then -1 else idxF p r + 1)
theorem idxF_hit {α : Type} {p : α → Bool} {d : α} : ∀ {l : List α} {i : Nat}, i < l.length → (∀ j, j < i → p (l.getD j d) = false) → p (l.getD i d) = true → idxF p l = i
  | x :: r, 0, _, _, h => by
    have h' : p x = true := h
    simp [idxF, h']
  | x :: r, i + 1, hi, h, hx => by
    have h0 : p x = false := h 0 (by omega)
    rw [idxF, if_neg (by simp [h0]), idxF_hit (d := d) (i := i) (by simpa using hi) (fun j hj => h (j + 1) (by omega)) hx]
    rw [if_neg (by omega)]; rfl
theorem idxF_none {α : Type} {p : α → Bool} {d : α} : ∀ {l : List α}, (∀ j, j < l.length → p (l.getD j d) = false) → idxF p l = -1
  | [], _ => rfl
  | x :: r, h => by
    have h0 : p x = false := h 0 (by simp)
    rw [idxF, if_neg (by simp [h0]), idxF_none (d := d) (l := r) (fun j hj => h (j + 1) (by simpa using hj)), if_pos (by decide)]
theorem idxF_any {α : Type} (p : α → Bool) : ∀ (l : List α), decide (idxF p l ≥ 0) = l.any p
  | [] => rfl
  | x :: r => by
    rw [idxF, List.any_cons]
    cases hp : p x with
    | true => simp
    | false =>
      have ih := idxF_any p r
      rw [if_neg (by simp), Bool.false_or, ← ih, decide_eq_decide]
      split <;> omega
def outN (n : Int) : Bool := decide (n < 0) || decide (n > 1099511627776)
theorem outN_not (n : Int) : (!outN n) = inN n := by
  rw [Bool.eq_iff_iff]; simp [outN, inN]
def allIn (l : List Int) : Bool := l.all inN
theorem allIn_any (l : List Int) : (!l.any outN) = allIn l := by
  induction l with
  | nil => rfl
  | cons x r ih => simp only [allIn, List.any_cons, List.all_cons, Bool.not_or, ih, outN_not]
def sameCells (a b : List Cell) : Bool := decide (a = b)
theorem sameCells_len {a b : List Cell} (h : ¬ ((a.length : Int) = b.length)) : false = sameCells a b := by
  symm; simp only [sameCells, decide_eq_false_iff_not]; rintro rfl; exact h rfl
theorem sameCells_at {a b : List Cell} {i : Nat} {d : Cell} (h : ¬ (a.getD i d = b.getD i d)) : false = sameCells a b := by
  symm; simp only [sameCells, decide_eq_false_iff_not]; rintro rfl; exact h rfl
theorem sameCells_yes {a b : List Cell} {d : Cell} (hl : (a.length : Int) = b.length) (h : ∀ j, j < a.length → a.getD j d = b.getD j d) : true = sameCells a b := by
  symm; simp only [sameCells, decide_eq_true_eq]
  refine List.ext_getElem (by omega) fun i h1 h2 => ?_
  have := h i h1
  simpa [List.getD, List.getElem?_eq_getElem h1, List.getElem?_eq_getElem h2] using this
def sameState (a b : State) : Bool := decide (a = b)
theorem State.ext_iff' (a b : State) : a = b ↔ a.Mark = b.Mark ∧ a.Late = b.Late ∧ a.Bad = b.Bad ∧ a.N = b.N ∧ a.L = b.L := by cases a; cases b; simp
theorem sameState_eq (a b : State) : ((((a.Mark == b.Mark && a.Late == b.Late) && a.Bad == b.Bad) && a.N == b.N) && sameCells a.L b.L) = sameState a b := by
  rw [Bool.eq_iff_iff]; simp only [sameState, sameCells, State.ext_iff', Bool.and_eq_true, beq_iff_eq, decide_eq_true_eq]
  constructor
  · rintro ⟨⟨⟨⟨h1, h2⟩, h3⟩, h4⟩, h5⟩; exact ⟨h1, h2, h3, h4, h5⟩
  · rintro ⟨h1, h2, h3, h4, h5⟩; exact ⟨⟨⟨⟨h1, h2⟩, h3⟩, h4⟩, h5⟩
theorem take_snoc {α : Type} {l : List α} {i : Nat} (d : α) (h : i < l.length) : l.take (i + 1) = l.take i ++ [l.getD i d] := by
  rw [List.take_add_one, List.getD, List.getElem?_eq_getElem h]; rfl
theorem AggR_foldl : ∀ {l : List Int} {a : Agg}, AggR a → (∀ x ∈ l, R64 x) → AggR (l.foldl aggAdd a)
  | [], _, ha, _ => ha
  | x :: r, a, ha, h => by
    rw [List.foldl_cons]
    exact AggR_foldl (aggAdd_in ha (h x (by simp))) fun y hy => h y (by simp [hy])
theorem zAgg_R : AggR zAgg := by
  refine ⟨?_, ?_, ?_, ?_, ?_, ?_, ?_, ?_, ?_, ?_⟩ <;> constructor <;> decide
theorem getD_mem {α : Type} {l : List α} {i : Nat} (d : α) (h : i < l.length) : l.getD i d ∈ l := by
  rw [List.getD, List.getElem?_eq_getElem h]; exact List.getElem_mem h
def cutRec (r : Rec) : Rec := ⟨r.Key, r.Time, if (r.Text.size : Int) > 50 then r.Text.extract 0 50 else r.Text⟩
def someRecs (l : List Rec) : List Rec := (l.take 150).map cutRec
theorem some_take (l : List Rec) : (bif decide ((l.length : Int) > 150) then l.take 150 else l) = l.take 150 := by
  by_cases h : (l.length : Int) > 150
  · simp [h]
  · have : l.length ≤ 150 := by omega
    simp [h, List.take_of_length_le this]
theorem map_snoc {α β : Type} {l : List α} {f : α → β} {i : Nat} {d : α} {x : β} (h : i < l.length) (hx : x = f (l.getD i d)) : (l.take i).map f ++ [x] = (l.take (i + 1)).map f := by
  rw [take_snoc d h, hx]; simp
def stF (g : Grid) (t : Int) (k : Nat) : Int := t - Int.tmod t g.Hop - g.Size + g.Hop * ((k : Int) + 1)
def startsTo (g : Grid) (t : Int) (k : Nat) : List Int := ((List.range k).map (stF g t)).filter fun s => decide (0 ≤ s)
theorem startsTo_succ (g : Grid) (t : Int) (k : Nat) : startsTo g t (k + 1) = if 0 ≤ stF g t k then startsTo g t k ++ [stF g t k] else startsTo g t k := by
  simp only [startsTo, List.range_succ, List.map_append, List.filter_append, List.map_cons, List.map_nil]
  split <;> simp [*]
theorem startsTo_len (g : Grid) (t : Int) (k : Nat) : (startsTo g t k).length ≤ k := by
  have := List.length_filter_le (fun s => decide (0 ≤ s)) ((List.range k).map (stF g t))
  simpa [startsTo] using this
def timeOk (g : Grid) (t : Int) : Bool := gridMay g && decide (0 ≤ t) && decide (t ≤ 1099511627776)
def gridStarts (g : Grid) (t : Int) : List Int := if timeOk g t then startsTo g t (Int.tdiv g.Size g.Hop).toNat else []
def startsErr (g : Grid) (t : Int) : Int := if timeOk g t then 0 else 1
theorem tmod_b {t h : Int} (h0 : 0 ≤ t) (h1 : 1 ≤ h) : 0 ≤ Int.tmod t h ∧ Int.tmod t h < h := ⟨Int.tmod_nonneg _ h0, Int.tmod_lt_of_pos _ (by omega)⟩
theorem orderC (a b : Cell) : decide (orI [cmpI a.Start b.Start, cmpI a.Key b.Key] < 0) = ahead a b := by
  by_cases h1 : a.Start < b.Start
  · simp [orI, cmpI, ahead, h1]
  · by_cases h2 : b.Start < a.Start
    · have h3 : ¬ a.Start = b.Start := by omega
      simp [orI, cmpI, ahead, h1, h2, h3]
    · have e : a.Start = b.Start := by omega
      by_cases h4 : a.Key < b.Key
      · simp [orI, cmpI, ahead, e, h4]
      · by_cases h5 : b.Key < a.Key
        · simp [orI, cmpI, ahead, e, h4, h5]
        · simp [orI, cmpI, ahead, e, h4, h5]
def headMay (g : Grid) (s : State) : Bool := gridMay g && (s.Mark == -1 || inN s.Mark) && inN s.Late && inN s.Bad && inN s.N && decide (s.Late + s.Bad ≤ s.N) && decide ((s.L.length : Int) ≤ 64)
def mayCell (g : Grid) (mark : Int) (c : Cell) : Bool := inN c.Key && decide (c.Key ≤ 1048576) && inN c.Start && (Int.tmod c.Start g.Hop == 0) && decide (c.Start ≤ mark) && !gridClosed g c.Start mark && aggMay c.A
def aheadAt (L : List Cell) (j : Nat) : Bool := j == 0 || ahead (L.getD (j - 1) zCell) (L.getD j zCell)
def mayTo (g : Grid) (s : State) (i : Nat) : Prop := ∀ j, j < i → mayCell g s.Mark (s.L.getD j zCell) = true ∧ aheadAt s.L j = true
def stateMay (g : Grid) (s : State) : Bool := headMay g s && (List.range s.L.length).all fun j => mayCell g s.Mark (s.L.getD j zCell) && aheadAt s.L j
theorem stateMay_iff {g : Grid} {s : State} : stateMay g s = true ↔ headMay g s = true ∧ mayTo g s s.L.length := by
  simp only [stateMay, mayTo, Bool.and_eq_true, List.all_eq_true, List.mem_range]
theorem inN_b {n : Int} (h : inN n = true) : 0 ≤ n ∧ n ≤ 1099511627776 := by simpa [inN] using h
theorem headMay_spec {g : Grid} {s : State} (h : headMay g s = true) : gridMay g = true ∧ (s.Mark = -1 ∨ inN s.Mark = true) ∧ inN s.Late = true ∧ inN s.Bad = true ∧ inN s.N = true ∧ s.Late + s.Bad ≤ s.N ∧ s.L.length ≤ 64 := by
  simp only [headMay, Bool.and_eq_true, Bool.or_eq_true, beq_iff_eq, decide_eq_true_eq] at h
  obtain ⟨⟨⟨⟨⟨⟨h1, h2⟩, h3⟩, h4⟩, h5⟩, h6⟩, h7⟩ := h
  exact ⟨h1, h2, h3, h4, h5, h6, by omega⟩
theorem head16 (g : Grid) (s : State) : (((((((!gridMay g) || (s.Mark != (-1) && !(inN s.Mark))) || !(inN s.Late)) || !(inN s.Bad)) || !(inN s.N)) || decide (IntKind.i64.wrap (s.Late + s.Bad) > s.N)) || decide ((s.L.length : Int) > 64)) = !headMay g s := by
  simp only [headMay]
  cases h1 : gridMay g <;> cases h2 : inN s.Late <;> cases h3 : inN s.Bad <;> cases h4 : inN s.N <;> simp
  have b1 := inN_b h2; have b2 := inN_b h3
  rw [wrap_in (by omega) (by omega)]
  cases h5 : inN s.Mark <;> cases h6 : (s.Mark == (-1)) <;> simp_all
  all_goals (rw [Bool.eq_iff_iff]; simp <;> omega)
theorem cell16 (g : Grid) (s : State) (c : Cell) : (((((((!(inN c.Key)) || decide (c.Key > 1048576)) || !(inN c.Start)) || Int.tmod c.Start g.Hop != 0) || decide (c.Start > s.Mark)) || gridClosed g c.Start s.Mark) || !(aggMay c.A)) = !mayCell g s.Mark c := by
  simp only [mayCell, Bool.not_and, Bool.not_not, Int.not_le, ← decide_not, bne]
theorem mayTo_zero (g : Grid) (s : State) : mayTo g s 0 := fun j hj => absurd hj (by omega)
theorem mayTo_succ {g : Grid} {s : State} {i : Nat} (h : mayTo g s i) (h1 : mayCell g s.Mark (s.L.getD i zCell) = true) (h2 : aheadAt s.L i = true) : mayTo g s (i + 1) := fun j hj => by
  by_cases e : j = i
  · subst e; exact ⟨h1, h2⟩
  · exact h j (by omega)
theorem may_no_head {g : Grid} {s : State} (h : headMay g s = false) : false = stateMay g s := by simp [stateMay, h]
theorem may_no_cell {g : Grid} {s : State} {i : Nat} (hi : i < s.L.length) (h : mayCell g s.Mark (s.L.getD i zCell) = false) : false = stateMay g s := by
  symm; rw [Bool.eq_false_iff]; intro hm; rw [(stateMay_iff.1 hm).2 i hi |>.1] at h; cases h
theorem may_no_order {g : Grid} {s : State} {i : Nat} (hi : i < s.L.length) (h : aheadAt s.L i = false) : false = stateMay g s := by
  symm; rw [Bool.eq_false_iff]; intro hm; rw [(stateMay_iff.1 hm).2 i hi |>.2] at h; cases h
theorem may_yes {g : Grid} {s : State} {i : Nat} (hh : headMay g s = true) (hi : s.L.length ≤ i) (h : mayTo g s i) : true = stateMay g s := by
  symm; exact stateMay_iff.2 ⟨hh, fun j hj => h j (by omega)⟩
theorem flip_t {a b : Bool} (e : a = !b) (h : a = true) : b = false := by subst h; revert e; cases b <;> decide
theorem flip_f {a b : Bool} (e : a = !b) (h : a = false) : b = true := by subst h; revert e; cases b <;> decide
theorem ord_0 {L : List Cell} {i : Nat} (h : i = 0) : aheadAt L i = true := by subst h; rfl
theorem ord_ix {i : Nat} (h0 : 0 < i) (h1 : i ≤ 1000000) : (IntKind.i64.wrap ((i : Int) - 1)).toNat = i - 1 := by rw [wrap_in (by omega) (by omega)]; omega
theorem ord_t {L : List Cell} {i : Nat} (h0 : 0 < i) (h1 : i ≤ 1000000) (h : (!ahead (L.getD (IntKind.i64.wrap ((i : Int) - 1)).toNat zCell) (L.getD i zCell)) = true) : aheadAt L i = false := by
  rw [ord_ix h0 h1] at h
  have : (i == 0) = false := by simp; omega
  simp only [aheadAt, this, Bool.false_or]; simpa using h
theorem ord_f {L : List Cell} {i : Nat} (h0 : 0 < i) (h1 : i ≤ 1000000) (h : (!ahead (L.getD (IntKind.i64.wrap ((i : Int) - 1)).toNat zCell) (L.getD i zCell)) = false) : aheadAt L i = true := by
  rw [ord_ix h0 h1] at h
  have : (i == 0) = false := by simp; omega
  simp only [aheadAt, this, Bool.false_or]; simpa using h
theorem head20 (g : Grid) (s : State) : (((((gridCheck g == 0) && (s.Mark == (-1) || allIn [s.Mark])) && allIn [s.Late, s.Bad, s.N]) && decide (s.Late ≤ IntKind.i64.wrap (s.N - s.Bad))) && decide ((s.L.length : Int) ≤ 64)) = headMay g s := by
  have e0 : (gridCheck g == 0) = gridMay g := by unfold gridCheck; cases gridMay g <;> rfl
  simp only [headMay, e0, allIn, List.all_cons, List.all_nil, Bool.and_true]
  cases h2 : inN s.Late <;> cases h3 : inN s.Bad <;> cases h4 : inN s.N <;> simp
  have b1 := inN_b h2; have b2 := inN_b h3; have b3 := inN_b h4
  rw [wrap_in (by omega) (by omega)]
  congr 2
  rw [decide_eq_decide]; omega
theorem cell20 (g : Grid) (s : State) (c : Cell) : (((((allIn [c.Key, c.Start] && decide (c.Key ≤ 1048576)) && (Int.tmod c.Start g.Hop == 0)) && decide (c.Start ≤ s.Mark)) && !gridClosed g c.Start s.Mark) && (aggCheck c.A == 0)) = mayCell g s.Mark c := by
  have e0 : (aggCheck c.A == 0) = aggMay c.A := by unfold aggCheck; cases aggMay c.A <;> rfl
  simp only [mayCell, e0, allIn, List.all_cons, List.all_nil, Bool.and_true]
  cases inN c.Key <;> cases inN c.Start <;> simp
theorem ord_v {L : List Cell} {i : Nat} (h0 : 0 < i) (h1 : i ≤ 1000000) : decide (orI [cmpI (L.getD (IntKind.i64.wrap ((i : Int) - 1)).toNat zCell).Start (L.getD i zCell).Start, cmpI (L.getD (IntKind.i64.wrap ((i : Int) - 1)).toNat zCell).Key (L.getD i zCell).Key] < 0) = aheadAt L i := by
  rw [orderC, ord_ix h0 h1]
  have : (i == 0) = false := by simp; omega
  simp only [aheadAt, this, Bool.false_or]
def chkS (g : Grid) (s : State) (i : Nat) (ok : Bool) : Prop := (ok = true → headMay g s = true ∧ mayTo g s i) ∧ (ok = false → stateMay g s = false)
theorem chkS_zero {g : Grid} {s : State} {v : Bool} (h : v = headMay g s) : chkS g s 0 v := by
  subst h
  exact ⟨fun h => ⟨h, mayTo_zero g s⟩, fun h => (may_no_head h).symm⟩
theorem chkS_step {g : Grid} {s : State} {i : Nat} {ok v : Bool} (hi : i < s.L.length) (h : chkS g s i ok) (hok : (!ok) = false) (hv : v = (mayCell g s.Mark (s.L.getD i zCell) && aheadAt s.L i)) : chkS g s (i + 1) v := by
  have hk : ok = true := by cases ok <;> simp_all
  have h1 := h.1 hk
  subst hv
  refine ⟨fun h => ?_, fun h => ?_⟩
  · rw [Bool.and_eq_true] at h
    exact ⟨h1.1, mayTo_succ h1.2 h.1 h.2⟩
  · rw [Bool.and_eq_false_iff] at h
    rcases h with h | h
    · exact (may_no_cell hi h).symm
    · exact (may_no_order hi h).symm
def stateCheck (g : Grid) (s : State) : Int := if stateMay g s then 0 else 1
theorem check_ret1 {g : Grid} {s : State} {i : Nat} {ok : Bool} (h : chkS g s i ok) (hok : (!ok) = true) : 1 = stateCheck g s := by
  have hk : ok = false := by cases ok <;> simp_all
  rw [stateCheck, h.2 hk]; rfl
theorem check_ret0 {g : Grid} {s : State} {i : Nat} {ok : Bool} (h : chkS g s i ok) (hok : (!ok) = false) (hi : s.L.length ≤ i) : 0 = stateCheck g s := by
  have hk : ok = true := by cases ok <;> simp_all
  rw [stateCheck, stateMay_iff.2 ⟨(h.1 hk).1, fun j hj => (h.1 hk).2 j (by omega)⟩]; rfl
theorem gridCheck_ok {g : Grid} (h : gridCheck g = 0) : gridMay g = true := by
  unfold gridCheck at h; cases hg : gridMay g with
  | true => rfl
  | false => simp [hg] at h
theorem time_yes {g : Grid} {t : Int} (h : gridMay g = true) (h0 : 0 ≤ t) (h1 : t ≤ 1099511627776) : timeOk g t = true := by simp [timeOk, h, h0, h1]
theorem time_no {g : Grid} {t : Int} (h : (¬ gridCheck g = 0 ∨ t < 0) ∨ t > 1099511627776) : ¬ timeOk g t = true := by
  intro hh
  simp only [timeOk, Bool.and_eq_true, decide_eq_true_eq] at hh
  have : gridCheck g = 0 := by simp [gridCheck, hh.1.1]
  omega
theorem time_no14 {g : Grid} {t : Int} (h : (gridMay g = false ∨ t < 0) ∨ t > 1099511627776) : ¬ timeOk g t = true := by
  intro hh
  simp only [timeOk, Bool.and_eq_true, decide_eq_true_eq] at hh
  rcases h with (h | h) | h
  · rw [hh.1.1] at h; cases h
  · omega
  · omega
def newCell (key start : Int) : Cell := ⟨key, start, zAgg⟩
/-- A number into a window. -/
def putC (key start v : Int) : List Cell → List Cell
  | [] => [⟨key, start, aggAdd zAgg v⟩]
  | c :: r => if ahead c (newCell key start) then c :: putC key start v r
    else if ahead (newCell key start) c then ⟨key, start, aggAdd zAgg v⟩ :: c :: r else ⟨c.Key, c.Start, aggAdd c.A v⟩ :: r
theorem put_new {key start v : Int} : ∀ {l : List Cell} {i : Nat}, i ≤ l.length → (∀ j, j < i → ahead (l.getD j zCell) (newCell key start) = true) →
    (i = l.length ∨ (ahead (l.getD i zCell) (newCell key start) = false ∧ ahead (newCell key start) (l.getD i zCell) = true)) → (l.take i ++ [⟨(newCell key start).Key, (newCell key start).Start, aggAdd (newCell key start).A v⟩]) ++ l.drop i = putC key start v l
  | [], i, hi, _, _ => by
    obtain rfl : i = 0 := by simpa using hi
    rfl
  | c :: r, 0, _, _, h => by
    rcases h with h | ⟨h1, h2⟩
    · simp at h
    · have h1' : ahead c (newCell key start) = false := h1
      have h2' : ahead (newCell key start) c = true := h2
      rw [putC, if_neg (by simp [h1']), if_pos h2']; rfl
  | c :: r, i + 1, hi, ha, h => by
    have h0 : ahead c (newCell key start) = true := ha 0 (by omega)
    have ih := put_new (v := v) (l := r) (i := i) (by simpa using hi) (fun j hj => ha (j + 1) (by omega)) (by simpa using h)
    rw [putC, if_pos h0, ← ih]; rfl
theorem put_old {key start v : Int} : ∀ {l : List Cell} {i : Nat}, i < l.length → (∀ j, j < i → ahead (l.getD j zCell) (newCell key start) = true) →
    ahead (l.getD i zCell) (newCell key start) = false → ahead (newCell key start) (l.getD i zCell) = false → (l.take i ++ [⟨(l.getD i zCell).Key, (l.getD i zCell).Start, aggAdd (l.getD i zCell).A v⟩]) ++ l.drop (i + 1) = putC key start v l
  | c :: r, 0, _, _, h1, h2 => by
    have h1' : ahead c (newCell key start) = false := h1
    have h2' : ahead (newCell key start) c = false := h2
    rw [putC, if_neg (by simp [h1']), if_neg (by simp [h2'])]; rfl
  | c :: r, i + 1, hi, ha, h1, h2 => by
    have h0 : ahead c (newCell key start) = true := ha 0 (by omega)
    have ih := put_old (v := v) (l := r) (i := i) (by simpa using hi) (fun j hj => ha (j + 1) (by omega)) (by simpa using h1) (by simpa using h2)
    rw [putC, if_pos h0, ← ih]; rfl
theorem putC_len {key start v : Int} : ∀ {l : List Cell}, l.length ≤ (putC key start v l).length ∧ (putC key start v l).length ≤ l.length + 1
  | [] => by simp [putC]
  | c :: r => by
    have := putC_len (key := key) (start := start) (v := v) (l := r)
    rw [putC]; split
    · simp; omega
    · split <;> simp
theorem putC_R {key start v : Int} (hv : R64 v) : ∀ {l : List Cell}, (∀ c ∈ l, AggR c.A) → ∀ c ∈ putC key start v l, AggR c.A
  | [], _, c, hc => by
    simp only [putC, List.mem_singleton] at hc
    subst hc; exact aggAdd_in zAgg_R hv
  | d :: r, h, c, hc => by
    rw [putC] at hc
    split at hc
    · rcases List.mem_cons.1 hc with rfl | hc
      · exact h _ (by simp)
      · exact putC_R hv (fun x hx => h x (by simp [hx])) c hc
    · split at hc
      · rcases List.mem_cons.1 hc with rfl | hc
        · exact aggAdd_in zAgg_R hv
        · exact h c hc
      · rcases List.mem_cons.1 hc with rfl | hc
        · exact aggAdd_in (h d (by simp)) hv
        · exact h c (by simp [hc])
end Go.Proofs.Ytfpmgnkbklnkaaa.Eng
section
set_option linter.unusedSimpArgs false
set_option linter.unusedVariables false
namespace Go.Proofs.Ytfpmgnkbklnkaaa.Eng
open Go Go.Proofs
theorem H4.ext_iff' (a b : H4) : a = b ↔ a.h0 = b.h0 ∧ a.h1 = b.h1 ∧ a.h2 = b.h2 ∧ a.h3 = b.h3 := by cases a; cases b; simp
theorem Agg.ext_iff' (a b : Agg) : a = b ↔ a.Count = b.Count ∧ a.Sum = b.Sum ∧ a.Min = b.Min ∧ a.Max = b.Max ∧ a.Hist = b.Hist ∧ a.Re = b.Re ∧ a.Im = b.Im := by cases a; cases b; simp
theorem Cell.ext_iff' (a b : Cell) : a = b ↔ a.Key = b.Key ∧ a.Start = b.Start ∧ a.A = b.A := by cases a; cases b; simp
theorem Rec.ext_iff' (a b : Rec) : a = b ↔ a.Key = b.Key ∧ a.Time = b.Time ∧ a.Text = b.Text := by cases a; cases b; simp
theorem bytes_beq (x y : ByteArray) : (x == y) = true ↔ x = y := by
  obtain ⟨x⟩ := x
  obtain ⟨y⟩ := y
  show (x == y) = true ↔ _
  simp
theorem ok_bool {b c : Bool} {w : World} (e : b = c) : (Result.ok b w : Result Bool) = .ok c w := by rw [e]
theorem h4 {n : Nat} {w : World} (a b c d a' b' c' d' : Int) : (Op.equalIn (n + 1 + 1) 42 (.agg #[.int .i64 a, .int .i64 b, .int .i64 c, .int .i64 d]) (.agg #[.int .i64 a', .int .i64 b', .int .i64 c', .int .i64 d'])).run Try.prog w = .ok ([a == a', b == b', c == c', d == d'].all id) w := by
  refine equal_array (s := 1) (n := 4) Try.underlying42 (by kernel_rfl) ?_
  exact .cons ⟨_, _, part_one (by kernel_rfl) rfl, part_one (by kernel_rfl) rfl, equal_int Try.underlying3 _ _⟩ (.cons ⟨_, _, part_one (by kernel_rfl) rfl, part_one (by kernel_rfl) rfl, equal_int Try.underlying3 _ _⟩ (.cons ⟨_, _, part_one (by kernel_rfl) rfl, part_one (by kernel_rfl) rfl, equal_int Try.underlying3 _ _⟩ (.cons ⟨_, _, part_one (by kernel_rfl) rfl, part_one (by kernel_rfl) rfl, equal_int Try.underlying3 _ _⟩ .nil)))
def aggV (a : Agg) : Array Value := #[.int .i64 a.Count, .int .i64 a.Sum, .int .i64 a.Min, .int .i64 a.Max, .int .i64 a.Hist.h0, .int .i64 a.Hist.h1, .int .i64 a.Hist.h2, .int .i64 a.Hist.h3, .int .i64 a.Re, .int .i64 a.Im]
def cellV (a : Cell) : Array Value := #[.int .i64 a.Key, .int .i64 a.Start, .int .i64 a.A.Count, .int .i64 a.A.Sum, .int .i64 a.A.Min, .int .i64 a.A.Max, .int .i64 a.A.Hist.h0, .int .i64 a.A.Hist.h1, .int .i64 a.A.Hist.h2, .int .i64 a.A.Hist.h3, .int .i64 a.A.Re, .int .i64 a.A.Im]
def recV (a : Rec) : Array Value := #[.int .i64 a.Key, .int .i64 a.Time, .string a.Text]
theorem eqA {n : Nat} {w : World} (a b : Agg) : (Op.equalIn (n + 1 + 1 + 1) 44 (.agg (aggV a)) (.agg (aggV b))).run Try.prog w = .ok (decide (a = b)) w := by
  refine (equal_struct (bs := [a.Count == b.Count, a.Sum == b.Sum, a.Min == b.Min, a.Max == b.Max, [a.Hist.h0 == b.Hist.h0, a.Hist.h1 == b.Hist.h1, a.Hist.h2 == b.Hist.h2, a.Hist.h3 == b.Hist.h3].all id, a.Re == b.Re, a.Im == b.Im]) Try.underlying44 (by kernel_rfl) ?_).trans (ok_bool ?_)
  · exact .cons (FEq.int (by decide) Try.underlying3 rfl rfl) (.cons (FEq.int (by decide) Try.underlying3 rfl rfl) (.cons (FEq.int (by decide) Try.underlying3 rfl rfl) (.cons (FEq.int (by decide) Try.underlying3 rfl rfl) (.cons (FEq.sub (s := 4) (by decide) (by kernel_rfl) (by kernel_rfl) (h4 a.Hist.h0 a.Hist.h1 a.Hist.h2 a.Hist.h3 b.Hist.h0 b.Hist.h1 b.Hist.h2 b.Hist.h3)) (.cons (FEq.int (by decide) Try.underlying3 rfl rfl) (.cons (FEq.int (by decide) Try.underlying3 rfl rfl) .nil))))))
  · rw [Bool.eq_iff_iff]
    simp only [List.all_cons, List.all_nil, id, Bool.and_true, Bool.and_eq_true, beq_iff_eq, decide_eq_true_eq, Agg.ext_iff', H4.ext_iff']
theorem eqC {n : Nat} {w : World} (a b : Cell) : (Op.equalIn (n + 1 + 1 + 1 + 1) 46 (.agg (cellV a)) (.agg (cellV b))).run Try.prog w = .ok (decide (a = b)) w := by
  refine (equal_struct (bs := [a.Key == b.Key, a.Start == b.Start, decide (a.A = b.A)]) Try.underlying46 (by kernel_rfl) ?_).trans (ok_bool ?_)
  · have hh := eqA (n := n) (w := w) a.A b.A
    exact .cons (FEq.int (by decide) Try.underlying3 rfl rfl) (.cons (FEq.int (by decide) Try.underlying3 rfl rfl) (.cons (FEq.sub (s := 10) (by decide) (by kernel_rfl) (by kernel_rfl) hh) .nil))
  · rw [Bool.eq_iff_iff]
    simp only [List.all_cons, List.all_nil, id, Bool.and_true, Bool.and_eq_true, beq_iff_eq, decide_eq_true_eq, Cell.ext_iff']
theorem eqR {n : Nat} {w : World} (a b : Rec) : (Op.equalIn (n + 1 + 1) 53 (.agg (recV a)) (.agg (recV b))).run Try.prog w = .ok (decide (a = b)) w := by
  refine (equal_struct (bs := [a.Key == b.Key, a.Time == b.Time, a.Text == b.Text]) Try.underlying53 (by kernel_rfl) ?_).trans (ok_bool ?_)
  · exact .cons (FEq.int (by decide) Try.underlying3 rfl rfl) (.cons (FEq.int (by decide) Try.underlying3 rfl rfl) (.cons (FEq.str (by decide) Try.underlying9 rfl rfl) .nil))
  · rw [Bool.eq_iff_iff]
    simp only [List.all_cons, List.all_nil, id, Bool.and_true, Bool.and_eq_true, beq_iff_eq, decide_eq_true_eq, Rec.ext_iff', bytes_beq]
theorem eq_of {P : Program} {t : TypeId} {x y : Value} {b : Bool} {w : World} (k : Nat) (hk : Op.maxDepth = k) (h : (Op.equalIn k t x y).run P w = .ok b w) : (Op.equal t x y).run P w = .ok b w := by
  subst hk; exact h
theorem eq_Agg : EqOn Try.prog 44 eAgg := ⟨by kernel_rfl, fun a b w => eq_of (9997 + 1 + 1 + 1) rfl (eqA a b)⟩
theorem eq_Cell : EqOn Try.prog 46 eCell := ⟨by kernel_rfl, fun a b w => eq_of (9996 + 1 + 1 + 1 + 1) rfl (eqC a b)⟩
theorem eq_Rec : EqOn Try.prog 53 eRec := ⟨by kernel_rfl, fun a b w => eq_of (9998 + 1 + 1) rfl (eqR a b)⟩
end Go.Proofs.Ytfpmgnkbklnkaaa.Eng
end
section
set_option linter.unusedSimpArgs false
set_option linter.unusedVariables false
namespace Go.Proofs.Ytfpmgnkbklnkaaa.Eng
open Go
/-! #### numbers as bytes -/
def byteN (s : ByteArray) (i : Nat) : Nat := (byteAt s i).toNat
/-- The place of the first byte below 128. -/
def takeK (s : ByteArray) : Nat := (List.range (min s.size 10)).findIdx fun i => decide (byteN s i ≤ 127)
/-- Sevens of bits from k down, m of them. -/
def hor (s : ByteArray) (k : Nat) : Nat → Nat
  | 0 => 0
  | m + 1 => (hor s k m * 128 + byteN s (k - m) % 128) % 18446744073709551616
def takeU (s : ByteArray) : Nat := hor s (takeK s) (takeK s + 1)
def numOf (u : Nat) : Int := if u % 2 = 1 then -((u / 2 : Nat) : Int) - 1 else ((u / 2 : Nat) : Int)
def zig (n : Int) : Nat := if n < 0 then (-(n + 1)).toNat * 2 + 1 else n.toNat * 2
/-- Sevens of bits, the lowest first; at most k of them ahead of the last. -/
def putLF : Nat → Nat → List UInt8
  | 0, u => [UInt8.ofNat u]
  | k + 1, u => if u > 127 then UInt8.ofNat (u % 128 + 128) :: putLF k (u / 128) else [UInt8.ofNat u]
def putL (u : Nat) : List UInt8 := putLF 10 u
def putB (n : Int) : ByteArray := ⟨(putL (zig n)).toArray⟩
def takeOk (s : ByteArray) : Bool := decide (takeK s < s.size) && decide (takeK s < 10) && decide (putB (numOf (takeU s)) = s.extract 0 (takeK s + 1))
def takeN (s : ByteArray) : Int := if takeOk s then numOf (takeU s) else 0
def takeRest (s : ByteArray) : ByteArray := if takeOk s then s.extract (takeK s + 1) s.size else ⟨#[]⟩
def takeErr (s : ByteArray) : Int := if takeOk s then 0 else 2
def valN (r : Rec) : Int := takeN r.Text
def valOk (r : Rec) : Bool := takeOk r.Text && decide (takeK r.Text + 1 = r.Text.size)
theorem hor_lt (s : ByteArray) (k : Nat) : ∀ m, hor s k m < 18446744073709551616
  | 0 => by show 0 < _; decide
  | m + 1 => Nat.mod_lt _ (by decide)
theorem numOf_in {u : Nat} (h : u < 18446744073709551616) : R64 (numOf u) := by unfold numOf; split <;> constructor <;> omega
theorem valN_in (r : Rec) : R64 (valN r) := by
  unfold valN takeN
  split
  · exact numOf_in (hor_lt _ _ _)
  · constructor <;> decide
/-! #### a record -/
def putStep (g : Grid) (mark key v : Int) (a : List Cell × Nat) (st : Int) : List Cell × Nat := if gridClosed g st mark then a else (putC key st v a.1, a.2 + 1)
def putTo (g : Grid) (mark key v : Int) (starts : List Int) (l : List Cell) (i : Nat) : List Cell × Nat := (starts.take i).foldl (putStep g mark key v) (l, 0)
theorem putTo_succ {g : Grid} {mark key v : Int} {starts : List Int} {l : List Cell} {i : Nat} (h : i < starts.length) : putTo g mark key v starts l (i + 1) = putStep g mark key v (putTo g mark key v starts l i) (starts.getD i 0) := by
  unfold putTo
  rw [take_snoc 0 h, List.foldl_append]; rfl
theorem putTo_spec {g : Grid} {mark key v : Int} {starts : List Int} {l : List Cell} (hv : R64 v) (hl : ∀ c ∈ l, AggR c.A) : ∀ i, i ≤ starts.length →
    (putTo g mark key v starts l i).1.length ≤ l.length + i ∧ (putTo g mark key v starts l i).2 ≤ i ∧ ∀ c ∈ (putTo g mark key v starts l i).1, AggR c.A
  | 0, _ => ⟨by simp [putTo], by simp [putTo], by simpa [putTo] using hl⟩
  | i + 1, hi => by
    obtain ⟨h1, h2, h3⟩ := putTo_spec (g := g) (mark := mark) (key := key) (starts := starts) hv hl i (by omega)
    rw [putTo_succ (by omega)]
    unfold putStep
    split
    · exact ⟨by omega, by omega, h3⟩
    · have := putC_len (key := key) (start := starts.getD i 0) (v := v) (l := (putTo g mark key v starts l i).1)
      exact ⟨by simp only; omega, by simp only; omega, putC_R hv h3⟩
def putOpen (g : Grid) (s : State) (r : Rec) : List Cell × Nat := putTo g s.Mark r.Key (valN r) (gridStarts g r.Time) s.L (gridStarts g r.Time).length
def feedDrop (g : Grid) (s : State) (r : Rec) : Bool := (((putOpen g s r).2 : Int) == 0) || decide (((putOpen g s r).1.length : Int) > 64)
def feedL (g : Grid) (s : State) (r : Rec) : List Cell := if feedDrop g s r then s.L else (putOpen g s r).1
def feedMark (s : State) (r : Rec) : Int := if r.Time > s.Mark then r.Time else s.Mark
def recMay (r : Rec) : Bool := inN r.Key && decide (r.Key ≤ 1048576) && inN r.Time
def feedMay (g : Grid) (s : State) (r : Rec) : Bool := stateMay g s && recMay r
def feedErr (g : Grid) (s : State) (r : Rec) : Int := if feedMay g s r then (if s.N = 1099511627776 then 6 else 0) else 1
def feedSt (g : Grid) (s : State) (r : Rec) : State :=
  if feedErr g s r = 0 then
    if valOk r then ⟨feedMark s r, if feedDrop g s r then s.Late + 1 else s.Late, s.Bad, s.N + 1, (feedL g s r).filter fun c => !gridClosed g c.Start (feedMark s r)⟩
    else ⟨s.Mark, s.Late, s.Bad + 1, s.N + 1, s.L⟩
  else zState
def feedOver (g : Grid) (s : State) (r : Rec) : List Cell :=
  if feedErr g s r = 0 then (if valOk r then (feedL g s r).filter fun c => gridClosed g c.Start (feedMark s r) else []) else []
theorem filt_in {α : Type} {p : α → Bool} {L : List α} {i : Nat} (d : α) (hi : i < L.length) (h : p (L.getD i d) = true) : (L.take i).filter p ++ [L.getD i d] = (L.take (i + 1)).filter p := by
  rw [take_snoc d hi, List.filter_append]; simp only [List.filter_cons, List.filter_nil, h, if_true]
theorem filt_out {α : Type} {p : α → Bool} {L : List α} {i : Nat} (d : α) (hi : i < L.length) (h : p (L.getD i d) = false) : (L.take i).filter p = (L.take (i + 1)).filter p := by
  rw [take_snoc d hi, List.filter_append]; simp only [List.filter_cons, List.filter_nil, h, List.append_nil, Bool.false_eq_true, if_false]
theorem filt_len {α : Type} (p : α → Bool) (L : List α) (i : Nat) : ((L.take i).filter p).length ≤ i := by
  have h1 := List.length_filter_le p (L.take i)
  have h2 : (L.take i).length ≤ i := by simp; omega
  omega
theorem nt {b : Bool} (h : b = false) : (!b) = true := by rw [h]; rfl
theorem nf {b : Bool} (h : b = true) : (!b) = false := by rw [h]; rfl
theorem feed_bad {g : Grid} {s : State} {r : Rec} (h : feedMay g s r = false) : feedSt g s r = zState ∧ feedOver g s r = [] ∧ feedErr g s r = 1 := by
  have e : feedErr g s r = 1 := by simp [feedErr, h]
  exact ⟨by simp [feedSt, e], by simp [feedOver, e], e⟩
theorem feed_full {g : Grid} {s : State} {r : Rec} (h : feedMay g s r = true) (hn : s.N = 1099511627776) : feedSt g s r = zState ∧ feedOver g s r = [] ∧ feedErr g s r = 6 := by
  have e : feedErr g s r = 6 := by simp [feedErr, h, hn]
  exact ⟨by simp [feedSt, e], by simp [feedOver, e], e⟩
theorem feed_none {g : Grid} {s : State} {r : Rec} (h : feedMay g s r = true) (hn : ¬ s.N = 1099511627776) (hv : valOk r = false) : feedSt g s r = ⟨s.Mark, s.Late, s.Bad + 1, s.N + 1, s.L⟩ ∧ feedOver g s r = [] ∧ feedErr g s r = 0 := by
  have e : feedErr g s r = 0 := by simp [feedErr, h, hn]
  exact ⟨by simp [feedSt, e, hv], by simp [feedOver, e, hv], e⟩
theorem feed_some {g : Grid} {s : State} {r : Rec} (h : feedMay g s r = true) (hn : ¬ s.N = 1099511627776) (hv : valOk r = true) {l : List Cell} {late mark : Int} (h1 : l = feedL g s r) (h2 : late = if feedDrop g s r then s.Late + 1 else s.Late) (h3 : mark = feedMark s r) :
    feedSt g s r = ⟨mark, late, s.Bad, s.N + 1, l.filter fun c => !gridClosed g c.Start mark⟩ ∧ feedOver g s r = (l.filter fun c => gridClosed g c.Start mark) ∧ feedErr g s r = 0 := by
  have e : feedErr g s r = 0 := by simp [feedErr, h, hn]
  subst h1 h2 h3
  exact ⟨by simp [feedSt, e, hv], by simp [feedOver, e, hv], e⟩
theorem feed16 (g : Grid) (s : State) (r : Rec) : ((((!(stateMay g s)) || !(inN r.Key)) || decide (r.Key > 1048576)) || !(inN r.Time)) = !feedMay g s r := by
  simp only [feedMay, recMay]
  cases stateMay g s <;> cases inN r.Key <;> cases inN r.Time <;> simp <;> (rw [Bool.eq_iff_iff]; simp)
theorem putTo_put {g : Grid} {mark key v : Int} {starts : List Int} {l : List Cell} {i : Nat} (h : i < starts.length) (hc : gridClosed g (starts.getD i 0) mark = false) :
    putTo g mark key v starts l (i + 1) = (putC key (starts.getD i 0) v (putTo g mark key v starts l i).1, (putTo g mark key v starts l i).2 + 1) := by
  rw [putTo_succ h, putStep, if_neg (by rw [hc]; decide)]
theorem putTo_skip {g : Grid} {mark key v : Int} {starts : List Int} {l : List Cell} {i : Nat} (h : i < starts.length) (hc : gridClosed g (starts.getD i 0) mark = true) :
    putTo g mark key v starts l (i + 1) = putTo g mark key v starts l i := by
  rw [putTo_succ h, putStep, if_pos hc]
theorem gridStarts_len (g : Grid) (t : Int) : (gridStarts g t).length ≤ 8 := by
  unfold gridStarts
  split
  · rename_i h
    simp only [timeOk, Bool.and_eq_true] at h
    have h1 := gridMay_mod h.1.1
    have h2 := startsTo_len g t (Int.tdiv g.Size g.Hop).toNat
    omega
  · simp
theorem feedL_spec (g : Grid) (s : State) (r : Rec) (hr : ∀ c ∈ s.L, AggR c.A) (hl : s.L.length ≤ 64) : (feedL g s r).length ≤ 72 ∧ ∀ c ∈ feedL g s r, AggR c.A := by
  unfold feedL
  split
  · exact ⟨by omega, hr⟩
  · have h := putTo_spec (g := g) (mark := s.Mark) (key := r.Key) (starts := gridStarts g r.Time) (l := s.L) (valN_in r) hr _ (Nat.le_refl _)
    have h8 := gridStarts_len g r.Time
    exact ⟨by unfold putOpen; omega, h.2.2⟩
theorem feedErr_may {g : Grid} {s : State} {r : Rec} (h : feedErr g s r = 0) : feedMay g s r = true := by
  unfold feedErr at h
  split at h
  · assumption
  · cases h
theorem feedErr_len {g : Grid} {s : State} {r : Rec} (h : feedErr g s r = 0) : s.L.length ≤ 64 := by
  have hM := feedErr_may h
  simp only [feedMay, Bool.and_eq_true] at hM
  exact (headMay_spec (stateMay_iff.1 hM.1).1).2.2.2.2.2.2
theorem feedSt_R {g : Grid} {s : State} {r : Rec} (hr : ∀ c ∈ s.L, AggR c.A) : ∀ c ∈ (feedSt g s r).L, AggR c.A := by
  unfold feedSt
  split
  · rename_i h
    split
    · exact fun c hc => (feedL_spec g s r hr (feedErr_len h)).2 c (List.mem_filter.1 hc).1
    · exact hr
  · intro c hc; cases hc
theorem feedOver_len {g : Grid} {s : State} {r : Rec} (hr : ∀ c ∈ s.L, AggR c.A) : (feedOver g s r).length ≤ 72 := by
  unfold feedOver
  split
  · rename_i h
    split
    · exact Nat.le_trans (List.length_filter_le _ _) (feedL_spec g s r hr (feedErr_len h)).1
    · simp
  · simp
theorem feedOver_R {g : Grid} {s : State} {r : Rec} (hr : ∀ c ∈ s.L, AggR c.A) : ∀ c ∈ feedOver g s r, AggR c.A := by
  unfold feedOver
  split
  · rename_i h
    split
    · exact fun c hc => (feedL_spec g s r hr (feedErr_len h)).2 c (List.mem_filter.1 hc).1
    · intro c hc; cases hc
  · intro c hc; cases hc
/-! #### records, one behind the other -/
def runStep (g : Grid) (a : State × List Cell × Int) (r : Rec) : State × List Cell × Int :=
  if a.2.2 ≠ 0 then a else if feedErr g a.1 r ≠ 0 then (zState, [], feedErr g a.1 r) else (feedSt g a.1 r, a.2.1 ++ feedOver g a.1 r, 0)
def runTo (g : Grid) (s : State) (l : List Rec) (i : Nat) : State × List Cell × Int := (l.take i).foldl (runStep g) (s, [], 0)
def runAll (g : Grid) (s : State) (l : List Rec) : State × List Cell × Int := if stateMay g s then l.foldl (runStep g) (s, [], 0) else (zState, [], 1)
theorem runTo_succ {g : Grid} {s : State} {l : List Rec} {i : Nat} (h : i < l.length) : runTo g s l (i + 1) = runStep g (runTo g s l i) (l.getD i zRec) := by
  unfold runTo; rw [take_snoc zRec h, List.foldl_append]; rfl
theorem runTo_ok {g : Grid} {s : State} {l : List Rec} {i : Nat} (h : i < l.length) (h0 : (runTo g s l i).2.2 = 0) (he : feedErr g (runTo g s l i).1 (l.getD i zRec) = 0) :
    runTo g s l (i + 1) = (feedSt g (runTo g s l i).1 (l.getD i zRec), (runTo g s l i).2.1 ++ feedOver g (runTo g s l i).1 (l.getD i zRec), 0) := by
  rw [runTo_succ h, runStep, if_neg (fun hh => hh h0), if_neg (fun hh => hh he)]
theorem run_stays {g : Grid} : ∀ (l : List Rec) {a : State × List Cell × Int}, a.2.2 ≠ 0 → l.foldl (runStep g) a = a
  | [], _, _ => rfl
  | r :: l, a, h => by rw [List.foldl_cons, runStep, if_pos h]; exact run_stays l h
theorem run_err {g : Grid} {s : State} {l : List Rec} {i : Nat} (hs : stateMay g s = true) (h : i < l.length) (h0 : (runTo g s l i).2.2 = 0) (he : ¬ feedErr g (runTo g s l i).1 (l.getD i zRec) = 0) :
    runAll g s l = (zState, [], feedErr g (runTo g s l i).1 (l.getD i zRec)) := by
  have e : l = l.take (i + 1) ++ l.drop (i + 1) := (List.take_append_drop _ _).symm
  have e2 : l.foldl (runStep g) (s, [], 0) = (l.drop (i + 1)).foldl (runStep g) (runTo g s l (i + 1)) := by
    conv => lhs; rw [e]
    rw [List.foldl_append]; rfl
  rw [runAll, if_pos hs, e2, runTo_succ h, runStep, if_neg (by simp [h0]), if_pos he]
  exact run_stays _ he
theorem run_all {g : Grid} {s : State} {l : List Rec} {i : Nat} (hs : stateMay g s = true) (h : l.length ≤ i) : runAll g s l = runTo g s l i := by
  rw [runAll, if_pos hs, runTo, List.take_of_length_le h]
theorem run_no {g : Grid} {s : State} {l : List Rec} (hs : stateMay g s = false) : runAll g s l = (zState, [], 1) := by rw [runAll, if_neg (by rw [hs]; decide)]
def RunI (g : Grid) (s : State) (l : List Rec) (i : Nat) : Prop := (runTo g s l i).2.2 = 0 ∧ (∀ c ∈ (runTo g s l i).1.L, AggR c.A) ∧ (runTo g s l i).2.1.length ≤ 72 * i
theorem RunI_zero {g : Grid} {s : State} {l : List Rec} (hr : ∀ c ∈ s.L, AggR c.A) : RunI g s l 0 := ⟨rfl, hr, by simp [runTo]⟩
theorem RunI_succ {g : Grid} {s : State} {l : List Rec} {i : Nat} (h : RunI g s l i) (hi : i < l.length) (he : feedErr g (runTo g s l i).1 (l.getD i zRec) = 0) : RunI g s l (i + 1) := by
  have hl := feedOver_len (g := g) (r := l.getD i zRec) h.2.1
  refine ⟨?_, ?_, ?_⟩ <;> rw [runTo_ok hi h.1 he]
  · exact feedSt_R h.2.1
  · simp only [List.length_append]; have := h.2.2; omega
theorem statecheck_no {g : Grid} {s : State} (h : ¬ stateCheck g s = 0) : stateMay g s = false := by
  cases hm : stateMay g s with
  | false => rfl
  | true => exact absurd (by simp [stateCheck, hm]) h
theorem statecheck_yes {g : Grid} {s : State} (h : stateCheck g s = 0) : stateMay g s = true := by
  cases hm : stateMay g s with
  | true => rfl
  | false => simp [stateCheck, hm] at h
theorem bytes_eq (x y : ByteArray) : (x == y) = true ↔ x = y := by
  obtain ⟨x⟩ := x
  obtain ⟨y⟩ := y
  show (x == y) = true ↔ _
  simp
theorem toList_beq (x y : ByteArray) : (x.toList == y.toList) = (x == y) := by
  rw [ByteArray.toList_eq, ByteArray.toList_eq, Bool.eq_iff_iff, bytes_eq]
  obtain ⟨x⟩ := x
  obtain ⟨y⟩ := y
  simp
theorem rest_empty {s : ByteArray} : (takeErr s == 0 && (takeRest s).toList == (⟨#[]⟩ : ByteArray).toList) = (takeOk s && decide (takeK s + 1 = s.size)) := by
  rw [toList_beq]
  unfold takeErr takeRest
  cases h : takeOk s with
  | false => simp
  | true =>
    have hk : takeK s < s.size := by simp only [takeOk, Bool.and_eq_true, decide_eq_true_eq] at h; exact h.1.1
    simp only [if_true, Bool.true_and]
    rw [Bool.eq_iff_iff]
    simp only [bytes_eq, decide_eq_true_eq, beq_self_eq_true, Bool.true_and]
    have e2 : (s.extract (takeK s + 1) s.size).size = s.size - (takeK s + 1) := by simp
    constructor
    · intro e; rw [e] at e2; have : (⟨#[]⟩ : ByteArray).size = 0 := rfl; omega
    · intro e
      have h0 : (s.extract (takeK s + 1) s.size).size = 0 := by omega
      exact ByteArray.ext (Array.eq_empty_of_size_eq_zero h0)
end Go.Proofs.Ytfpmgnkbklnkaaa.Eng
end
section
set_option linter.unusedSimpArgs false
set_option linter.unusedVariables false
namespace Go.Proofs.Ytfpmgnkbklnkaaa.Eng
open Go
def downF (g : Grid) (t : Int) (j : Nat) : Int := Int.tdiv t g.Hop * g.Hop - (j : Int) * g.Hop
def downTo (g : Grid) (t : Int) (j : Nat) : List Int := (List.range j).map (downF g t)
theorem downF_zero (g : Grid) (t : Int) : Int.tdiv t g.Hop * g.Hop = downF g t 0 := by simp [downF]
theorem downF_succ (g : Grid) (t : Int) (j : Nat) : downF g t j - g.Hop = downF g t (j + 1) := by
  have e : ((j + 1 : Nat) : Int) * g.Hop = (j : Int) * g.Hop + g.Hop := by rw [Int.natCast_add, Int.add_mul]; simp
  unfold downF; rw [e]; omega
theorem downTo_succ (g : Grid) (t : Int) (j : Nat) : downTo g t j ++ [downF g t j] = downTo g t (j + 1) := by simp [downTo, List.range_succ]
theorem downTo_len (g : Grid) (t : Int) (j : Nat) : (downTo g t j).length = j := by simp [downTo]
theorem base_b {t h : Int} (h0 : 0 ≤ t) (h1 : 1 ≤ h) : 0 ≤ Int.tdiv t h ∧ Int.tdiv t h ≤ t ∧ 0 ≤ Int.tdiv t h * h ∧ Int.tdiv t h * h ≤ t ∧ t < Int.tdiv t h * h + h ∧ t - Int.tmod t h = Int.tdiv t h * h := by
  have e := Int.tmod_add_mul_tdiv t h
  have b := tmod_b h0 h1
  have q : 0 ≤ Int.tdiv t h := Int.tdiv_nonneg h0 (by omega)
  have q2 : Int.tdiv t h ≤ t := by rw [Int.tdiv_eq_ediv_of_nonneg h0]; exact Int.ediv_le_self _ h0
  have q3 := Int.mul_nonneg q (show 0 ≤ h by omega)
  rw [Int.mul_comm] at e
  omega
theorem gridK {g : Grid} (h : gridMay g = true) : ∃ K : Nat, 1 ≤ K ∧ K ≤ 8 ∧ (Int.tdiv g.Size g.Hop).toNat = K ∧ g.Size = (K : Int) * g.Hop := by
  obtain ⟨k, h1, h8, e⟩ := gridMay_k h
  have := gridMay_spec h
  refine ⟨k, h1, h8, ?_, by rw [e, Int.mul_comm]⟩
  rw [e, Int.mul_tdiv_cancel_left _ (by omega)]; omega
theorem down_gap {h : Int} (h1 : 1 ≤ h) {j K : Nat} (hj : j < K) : (j : Int) * h + h ≤ (K : Int) * h := by
  obtain ⟨q, rfl⟩ : ∃ q, K = j + 1 + q := ⟨K - (j + 1), by omega⟩
  have := Int.mul_nonneg (show (0 : Int) ≤ (q : Int) by omega) (show 0 ≤ h by omega)
  rw [Int.natCast_add, Int.natCast_add, Int.add_mul, Int.add_mul]; simp; omega
theorem down_mono {h : Int} (h1 : 1 ≤ h) {j K : Nat} (hj : j ≤ K) : (j : Int) * h ≤ (K : Int) * h := by
  rcases Nat.lt_or_eq_of_le hj with h2 | rfl
  · have := down_gap h1 h2; omega
  · exact Int.le_refl _
theorem down_lt {g : Grid} (hg : gridMay g = true) {t : Int} (h0 : 0 ≤ t) {j K : Nat} (hK : g.Size = (K : Int) * g.Hop) : t < downF g t j + g.Size ↔ j < K := by
  have hs := gridMay_spec hg
  have b := base_b h0 hs.2.2.1
  unfold downF
  constructor
  · intro h
    rcases Nat.lt_or_ge j K with h2 | h2
    · exact h2
    · have := down_mono (h := g.Hop) (by omega) h2; omega
  · intro h
    have := down_gap (h := g.Hop) (by omega) h; omega
theorem down_8 {g : Grid} (hg : gridMay g = true) {t : Int} (h0 : 0 ≤ t) {j : Nat} (h : t < downF g t j + g.Size) : j < 8 := by
  obtain ⟨K, h1, h8, _, e⟩ := gridK hg
  have := (down_lt hg h0 e).1 h; omega
theorem downF_b {g : Grid} (hg : gridMay g = true) {t : Int} (h0 : 0 ≤ t) {j : Nat} (hj : j ≤ 8) : -9000000 ≤ downF g t j ∧ downF g t j ≤ t := by
  have hs := gridMay_spec hg
  have b := base_b h0 hs.2.2.1
  have m := mulb (a := (j : Int)) (A := 8) (b := g.Hop) (B := 1048576) (by omega) (by omega) (by omega) (by omega)
  unfold downF; omega
theorem rev_snoc {l : List Int} {m : Nat} (h : m < l.length) : l.reverse.take m ++ [l.getD ((l.length : Int) - 1 - (m : Int)).toNat 0] = l.reverse.take (m + 1) := by
  rw [take_snoc 0 (by simpa using h)]
  congr 2
  have e : ((l.length : Int) - 1 - (m : Int)).toNat = l.length - 1 - m := by omega
  rw [e, List.getD, List.getD, List.getElem?_reverse h]
theorem starts_eq {g : Grid} (hg : gridMay g = true) {t : Int} (h0 : 0 ≤ t) {j : Nat} (hi : ∀ i, i < j → 0 ≤ downF g t i ∧ t < downF g t i + g.Size) (he : ¬ (0 ≤ downF g t j ∧ t < downF g t j + g.Size)) :
    (downTo g t j).reverse = startsTo g t (Int.tdiv g.Size g.Hop).toNat := by
  obtain ⟨K, h1, h8, hK, e⟩ := gridK hg
  have hs := gridMay_spec hg
  have b := base_b h0 hs.2.2.1
  rw [hK]
  have hjK : j ≤ K := by
    rcases Nat.lt_or_ge K j with h | h
    · have := (down_lt hg h0 e).1 (hi K h).2; omega
    · exact h
  have e1 : (List.range K).map (stF g t) = ((List.range K).map (downF g t)).reverse := by
    refine List.ext_getElem (by simp) fun k hk1 hk2 => ?_
    have hk : k < K := by simpa using hk1
    simp only [List.getElem_map, List.getElem_range, List.getElem_reverse, List.length_map, List.length_range]
    obtain ⟨i, rfl⟩ : ∃ i, K = k + 1 + i := ⟨K - (k + 1), by omega⟩
    have e2 : k + 1 + i - 1 - k = i := by omega
    rw [e2]
    have e3 : ((k + 1 + i : Nat) : Int) * g.Hop = (k : Int) * g.Hop + g.Hop + (i : Int) * g.Hop := by
      rw [Int.natCast_add, Int.natCast_add, Int.add_mul, Int.add_mul]; simp
    have e4 : g.Hop * ((k : Int) + 1) = (k : Int) * g.Hop + g.Hop := by rw [Int.mul_comm, Int.add_mul]; simp
    unfold stF downF
    rw [e4, e, e3]; omega
  unfold startsTo
  rw [e1, List.filter_reverse]
  congr 1
  obtain ⟨n, rfl⟩ : ∃ n, K = j + n := ⟨K - j, by omega⟩
  rw [List.range_add, List.map_append, List.filter_append]
  have f1 : ((List.range j).map (downF g t)).filter (fun s => decide (0 ≤ s)) = downTo g t j := by
    unfold downTo
    rw [List.filter_eq_self]
    intro a ha
    obtain ⟨i, hi', rfl⟩ := List.mem_map.1 ha
    simpa using (hi i (by simpa using hi')).1
  have f2 : (((List.range n).map (j + ·)).map (downF g t)).filter (fun s => decide (0 ≤ s)) = [] := by
    rw [List.filter_eq_nil_iff]
    intro a ha
    obtain ⟨x, hx, rfl⟩ := List.mem_map.1 ha
    obtain ⟨q, hq, rfl⟩ := List.mem_map.1 hx
    have hq' : q < n := by simpa using hq
    have hj : downF g t j < 0 := by
      have := (down_lt (j := j) hg h0 e).2 (by omega)
      omega
    have hm := down_mono (h := g.Hop) (j := j) (K := j + q) (by omega) (by omega)
    have : downF g t (j + q) ≤ downF g t j := by unfold downF; omega
    simp; omega
  rw [f1, f2, List.append_nil]
end Go.Proofs.Ytfpmgnkbklnkaaa.Eng
end
section
set_option linter.unusedSimpArgs false
set_option linter.unusedVariables false
namespace Go.Proofs.Ytfpmgnkbklnkaaa.Eng
open Go
/-! #### deletion -/
def kept {α : Type} (p : α → Bool) (L : List α) (j : Nat) : List α := (L.take j).filter fun x => !p x
def gone {α : Type} (p : α → Bool) (L : List α) (j : Nat) : List α := (L.take j).filter p
def DelI {α : Type} (p : α → Bool) (L : List α) (j : Nat) (M : List α) : Prop := M.length = L.length ∧ M.take (kept p L j).length = kept p L j ∧ M.drop j = L.drop j ∧ (kept p L j).length < j
section
variable {α : Type} {p : α → Bool} {L M : List α} {j : Nat} {d : α}
theorem kept_snoc (hj : j < L.length) : kept p L (j + 1) = if p (L.getD j d) then kept p L j else kept p L j ++ [L.getD j d] := by
  unfold kept
  rw [take_snoc d hj, List.filter_append]
  generalize L.getD j d = x
  cases h : p x <;> simp [h]
theorem gone_snoc (hj : j < L.length) : gone p L (j + 1) = if p (L.getD j d) then gone p L j ++ [L.getD j d] else gone p L j := by
  unfold gone
  rw [take_snoc d hj, List.filter_append]
  generalize L.getD j d = x
  cases h : p x <;> simp [h]
theorem del_get (h : DelI p L j M) (hj : j < L.length) : M.getD j d = L.getD j d := by
  have h1 : (M.drop j)[0]? = (L.drop j)[0]? := by rw [h.2.2.1]
  simp only [List.getElem?_drop, Nat.add_zero] at h1
  simp [List.getD, h1]
theorem del_keep (h : DelI p L j M) (hj : j < L.length) (hp : p (M.getD j d) = false) : DelI p L (j + 1) (M.set (kept p L j).length (M.getD j d)) := by
  have hg := del_get (d := d) h hj
  obtain ⟨h1, h2, h3, h4⟩ := h
  rw [hg] at hp ⊢
  have hk : kept p L (j + 1) = kept p L j ++ [L.getD j d] := by rw [kept_snoc (d := d) hj, if_neg (by rw [hp]; decide)]
  refine ⟨by simp [h1], ?_, ?_, by rw [hk, List.length_append, List.length_singleton]; omega⟩
  · rw [hk, List.length_append, List.length_singleton]
    have hlt : (kept p L j).length < (M.set (kept p L j).length (L.getD j d)).length := by simp [h1]; omega
    rw [take_snoc d hlt, List.take_set_of_le (Nat.le_refl _), h2]
    congr 2
    simp [List.getD, List.getElem?_set_self (show (kept p L j).length < M.length by omega)]
  · rw [List.drop_set_of_lt (by omega)]
    have : (M.drop j).drop 1 = (L.drop j).drop 1 := by rw [h3]
    simpa [List.drop_drop, Nat.add_comm] using this
theorem del_skip (h : DelI p L j M) (hj : j < L.length) (hp : p (M.getD j d) = true) : DelI p L (j + 1) M := by
  have hg := del_get (d := d) h hj
  obtain ⟨h1, h2, h3, h4⟩ := h
  rw [hg] at hp
  have hk : kept p L (j + 1) = kept p L j := by rw [kept_snoc (d := d) hj, if_pos hp]
  refine ⟨h1, by rw [hk, h2], ?_, by rw [hk]; omega⟩
  have : (M.drop j).drop 1 = (L.drop j).drop 1 := by rw [h3]
  simpa [List.drop_drop, Nat.add_comm] using this
theorem keep_cnt (h : DelI p L j M) (hj : j < L.length) (hp : p (M.getD j d) = false) : (((kept p L j).length + 1 : Nat) : Int) = ((kept p L (j + 1)).length : Int) := by
  rw [del_get (d := d) h hj] at hp
  rw [kept_snoc (d := d) hj, if_neg (by rw [hp]; decide)]; simp
theorem skip_cnt (h : DelI p L j M) (hj : j < L.length) (hp : p (M.getD j d) = true) : ((kept p L j).length : Int) = ((kept p L (j + 1)).length : Int) := by
  rw [del_get (d := d) h hj] at hp
  rw [kept_snoc (d := d) hj, if_pos hp]
theorem del_end (h : DelI p L j M) (hj : L.length ≤ j) : M.take (kept p L j).length = L.filter fun x => !p x := by
  rw [h.2.1]; unfold kept; rw [List.take_of_length_le hj]
theorem kept_all (hj : L.length ≤ j) : kept p L j = L.filter fun x => !p x := by unfold kept; rw [List.take_of_length_le hj]
theorem gone_all (hj : L.length ≤ j) : gone p L j = L.filter p := by unfold gone; rw [List.take_of_length_le hj]
theorem idxF_spec (d : α) (h : idxF p L ≠ -1) : ∃ i : Nat, idxF p L = i ∧ i < L.length ∧ (∀ k, k < i → p (L.getD k d) = false) ∧ p (L.getD i d) = true := by
  by_cases he : ∃ i, i < L.length ∧ (∀ k, k < i → p (L.getD k d) = false) ∧ p (L.getD i d) = true
  · obtain ⟨i, h1, h2, h3⟩ := he
    exact ⟨i, idxF_hit h1 h2 h3, h1, h2, h3⟩
  · exfalso
    apply h
    have : ∀ j, j ≤ L.length → ∀ k, k < j → p (L.getD k d) = false := by
      intro j
      induction j with
      | zero => intro _ k hk; omega
      | succ j ih =>
        intro hj k hk
        by_cases e : k = j
        · subst e
          cases hc : p (L.getD k d) with
          | false => rfl
          | true => exact absurd ⟨k, by omega, ih (by omega), hc⟩ he
        · exact ih (by omega) k (by omega)
    exact idxF_none (d := d) (this L.length (Nat.le_refl _))
theorem filter_prefix {i : Nat} (hi : i ≤ L.length) (h : ∀ k, k < i → p (L.getD k d) = false) : kept p L i = L.take i := by
  unfold kept
  rw [List.filter_eq_self]
  intro x hx
  obtain ⟨k, hk⟩ := List.mem_iff_getElem?.1 hx
  have hlt : k < i := by
    rcases Nat.lt_or_ge k i with h1 | h1
    · exact h1
    · rw [List.getElem?_eq_none (by simp; omega)] at hk; cases hk
  rw [List.getElem?_take_of_lt hlt] at hk
  have := h k hlt
  simp only [List.getD, hk, Option.getD_some] at this
  simp [this]
/-- The first that goes. -/
theorem del_init (d : α) (h : ¬ idxF p L = -1) : DelI p L ((idxF p L).toNat + 1) L ∧ idxF p L = ((kept p L ((idxF p L).toNat + 1)).length : Int) ∧ 0 ≤ idxF p L ∧ (idxF p L).toNat + 1 ≤ L.length ∧ gone p L ((idxF p L).toNat + 1) = [L.getD (idxF p L).toNat d] := by
  obtain ⟨i, h1, h2, h3, h4⟩ := idxF_spec d h
  rw [h1]
  simp only [Int.toNat_natCast]
  have hk : kept p L (i + 1) = L.take i := by rw [kept_snoc (d := d) h2, if_pos h4, filter_prefix (d := d) (by omega) h3]
  have hl : (kept p L (i + 1)).length = i := by rw [hk]; simp; omega
  refine ⟨⟨rfl, by rw [hl, hk], rfl, by omega⟩, by rw [hl], by omega, by omega, ?_⟩
  rw [gone_snoc (d := d) h2, if_pos h4]
  have : gone p L i = [] := by
    unfold gone
    rw [List.filter_eq_nil_iff]
    intro x hx
    obtain ⟨k, hk⟩ := List.mem_iff_getElem?.1 hx
    have hlt : k < i := by
      rcases Nat.lt_or_ge k i with h1 | h1
      · exact h1
      · rw [List.getElem?_eq_none (by simp; omega)] at hk; cases hk
    rw [List.getElem?_take_of_lt hlt] at hk
    have := h3 k hlt
    simp only [List.getD, hk, Option.getD_some] at this
    simp [this]
  rw [this]; rfl
theorem idxF_keep (h : idxF p L = -1) : L = L.filter fun x => !p x := by
  symm
  rw [List.filter_eq_self]
  intro x hx
  have ha := idxF_any p L
  rw [h] at ha
  have : L.any p = false := by rw [← ha]; decide
  rw [List.any_eq_false] at this
  simpa using this x hx
theorem idxF_gone (h : idxF p L = -1) : L.filter p = [] := by
  rw [List.filter_eq_nil_iff]
  intro x hx
  have ha := idxF_any p L
  rw [h] at ha
  have : L.any p = false := by rw [← ha]; decide
  rw [List.any_eq_false] at this
  exact this x hx
end
/-! #### what is over -/
def overTo (g : Grid) (mark : Int) (O : List Cell) (c : Cell) : List Cell := if gridClosed g c.Start mark then O ++ [c] else O
theorem overTo_no {g : Grid} {mark : Int} {O : List Cell} {c : Cell} (h : gridClosed g c.Start mark = false) : overTo g mark O c = O := by simp [overTo, h]
theorem overTo_yes {g : Grid} {mark : Int} {O : List Cell} {c : Cell} (h : gridClosed g c.Start mark = true) : overTo g mark O c = O ++ [c] := by simp [overTo, h]
abbrev cloI (g : Grid) (mark : Int) : Int → Bool := fun x => gridClosed g x mark
abbrev clo (g : Grid) (mark : Int) : Cell → Bool := fun c => gridClosed g c.Start mark
def overIdx (g : Grid) (mark : Int) (O L : List Cell) : List Cell := if idxF (clo g mark) L = -1 then O else O ++ [L.getD (idxF (clo g mark) L).toNat zCell]
theorem overIdx_none {g : Grid} {mark : Int} {O L : List Cell} (h : ∀ j, j < L.length → clo g mark (L.getD j zCell) = false) : O = overIdx g mark O L := by
  rw [overIdx, if_pos (idxF_none h)]
theorem overIdx_hit {g : Grid} {mark : Int} {O L : List Cell} {i : Nat} (hi : i < L.length) (h : ∀ j, j < i → clo g mark (L.getD j zCell) = false) (hc : clo g mark (L.getD i zCell) = true) : overTo g mark O (L.getD i zCell) = overIdx g mark O L := by
  have := idxF_hit hi h hc
  rw [overTo_yes hc, overIdx, if_neg (by rw [this]; omega), this]; rfl
theorem overIdx_start {g : Grid} {mark : Int} {O L : List Cell} (h : ¬ idxF (clo g mark) L = -1) : overIdx g mark O L = O ++ gone (clo g mark) L ((idxF (clo g mark) L).toNat + 1) := by
  rw [overIdx, if_neg h, (del_init zCell h).2.2.2.2]
theorem over_keep {g : Grid} {mark : Int} {O L M : List Cell} {j : Nat} (h : DelI (clo g mark) L j M) (hj : j < L.length) (hp : clo g mark (M.getD j zCell) = false) : overTo g mark (O ++ gone (clo g mark) L j) (M.getD j zCell) = O ++ gone (clo g mark) L (j + 1) := by
  rw [overTo_no hp]; rw [del_get (d := zCell) h hj] at hp
  rw [gone_snoc (d := zCell) hj, if_neg (by rw [hp]; decide)]
theorem over_skip {g : Grid} {mark : Int} {O L M : List Cell} {j : Nat} (h : DelI (clo g mark) L j M) (hj : j < L.length) (hp : clo g mark (M.getD j zCell) = true) : overTo g mark (O ++ gone (clo g mark) L j) (M.getD j zCell) = O ++ gone (clo g mark) L (j + 1) := by
  rw [overTo_yes hp]; have hg := del_get (d := zCell) h hj; rw [hg] at hp ⊢
  rw [gone_snoc (d := zCell) hj, if_pos hp, List.append_assoc]
theorem over_all0 {g : Grid} {mark : Int} {O L : List Cell} (h : idxF (clo g mark) L = -1) : overIdx g mark O L = O ++ L.filter (clo g mark) := by
  rw [overIdx, if_pos h, idxF_gone h, List.append_nil]
theorem gone_len {α : Type} (p : α → Bool) (L : List α) (j : Nat) : (gone p L j).length ≤ L.length := Nat.le_trans (List.length_filter_le _ _) (by simp; omega)
theorem kept_len {α : Type} (p : α → Bool) (L : List α) (j : Nat) : (kept p L j).length ≤ L.length := Nat.le_trans (List.length_filter_le _ _) (by simp; omega)
end Go.Proofs.Ytfpmgnkbklnkaaa.Eng
end
section
set_option linter.unusedSimpArgs false
set_option linter.unusedVariables false
namespace Go.Proofs.Ytfpmgnkbklnkaaa.Eng
open Go
def orderV (a b : Cell) : Int := orI [cmpI a.Start b.Start, cmpI a.Key b.Key]
theorem orderV_lt {a b : Cell} : orderV a b < 0 ↔ ahead a b = true := by
  have := orderC a b
  unfold orderV
  rw [← this, decide_eq_true_eq]
theorem orderV_eq {a b : Cell} : orderV a b = 0 ↔ a.Start = b.Start ∧ a.Key = b.Key := by
  unfold orderV orI orI orI cmpI
  constructor
  · intro h; (repeat' split at h) <;> omega
  · rintro ⟨h1, h2⟩; simp [h1, h2]
theorem ahead_iff {a b : Cell} : ahead a b = true ↔ a.Start < b.Start ∨ (a.Start = b.Start ∧ a.Key < b.Key) := by simp [ahead]
/-- In order. -/
def Srt (L : List Cell) : Prop := ∀ j k, j < k → k < L.length → ahead (L.getD j zCell) (L.getD k zCell) = true
theorem ahead_trans {a b c : Cell} (h : ahead a b = true) (k : ahead b c = true) : ahead a c = true := by
  rw [ahead_iff] at *; omega
/-- How many stand ahead. -/
def aheadN (L : List Cell) (c : Cell) : Nat := (L.takeWhile fun x => ahead x c).length
def hasC (L : List Cell) (c : Cell) : Bool := decide (aheadN L c < L.length) && decide (orderV (L.getD (aheadN L c) zCell) c = 0)
theorem aheadN_eq {c : Cell} : ∀ {L : List Cell} {i : Nat}, i ≤ L.length → (∀ j, j < i → ahead (L.getD j zCell) c = true) → (i < L.length → ahead (L.getD i zCell) c = false) → aheadN L c = i
  | [], i, hi, _, _ => by
    obtain rfl : i = 0 := by simpa using hi
    rfl
  | x :: L, 0, _, _, h => by
    have h0 : ahead x c = false := h (by simp)
    simp [aheadN, List.takeWhile, h0]
  | x :: L, i + 1, hi, ha, h => by
    have h0 : ahead x c = true := ha 0 (by omega)
    have ih := aheadN_eq (c := c) (L := L) (i := i) (by simpa using hi) (fun j hj => ha (j + 1) (by omega)) (fun hl => h (by simpa using hl))
    simp only [aheadN, List.takeWhile, h0, List.length_cons] at ih ⊢
    rw [ih]
theorem aheadN_le (L : List Cell) (c : Cell) : aheadN L c ≤ L.length := (List.takeWhile_prefix _).length_le
theorem aheadN_lt {c : Cell} : ∀ {L : List Cell} {j : Nat}, j < aheadN L c → ahead (L.getD j zCell) c = true
  | [], j, h => by simp [aheadN] at h
  | x :: L, j, h => by
    unfold aheadN at h
    cases h0 : ahead x c with
    | false => simp [List.takeWhile, h0] at h
    | true =>
      simp only [List.takeWhile, h0, List.length_cons] at h
      cases j with
      | zero => exact h0
      | succ j => exact aheadN_lt (L := L) (j := j) (by unfold aheadN; omega)
theorem aheadN_at {c : Cell} : ∀ {L : List Cell}, aheadN L c < L.length → ahead (L.getD (aheadN L c) zCell) c = false
  | [], h => by simp at h
  | x :: L, h => by
    cases h0 : ahead x c with
    | false =>
      have : aheadN (x :: L) c = 0 := by simp [aheadN, List.takeWhile, h0]
      rw [this]; exact h0
    | true =>
      have e : aheadN (x :: L) c = aheadN L c + 1 := by simp [aheadN, List.takeWhile, h0]
      rw [e] at h ⊢
      exact aheadN_at (L := L) (by simpa using h)
/-! #### the search -/
theorem mid_eq {lo hi : Nat} (h : lo + hi ≤ 4000000) : IntKind.i64.wrap (Int.fdiv (IntKind.u64.wrap (IntKind.i64.wrap ((lo : Int) + (hi : Int)))) (2 ^ min (1 : Int).toNat IntKind.u64.bits)) = (((lo + hi) / 2 : Nat) : Int) := by
  rw [wrap_in (n := (lo : Int) + (hi : Int)) (by omega) (by omega)]
  have e1 : IntKind.u64.wrap ((lo : Int) + (hi : Int)) = ((lo + hi : Nat) : Int) := by
    simp [IntKind.wrap, IntKind.bits, IntKind.signed]; omega
  have e2 : min (1 : Int).toNat IntKind.u64.bits = 1 := by decide
  rw [e1, e2]
  have e3 : Int.fdiv ((lo + hi : Nat) : Int) (2 ^ 1) = (((lo + hi) / 2 : Nat) : Int) := by
    rw [show ((2 : Int) ^ 1) = ((2 : Nat) : Int) by decide]
    rw [Int.fdiv_eq_ediv_of_nonneg _ (by omega)]; rfl
  rw [e3, wrap_in (by omega) (by omega)]
def SrcI (L : List Cell) (c : Cell) (lo hi : Nat) : Prop := lo ≤ hi ∧ hi ≤ L.length ∧ (∀ j, j < lo → ahead (L.getD j zCell) c = true) ∧ (∀ j, hi ≤ j → j < L.length → ahead (L.getD j zCell) c = false)
theorem src_init (L : List Cell) (c : Cell) : SrcI L c 0 L.length := ⟨by omega, by omega, fun j hj => by omega, fun j h1 h2 => by omega⟩
theorem src_lo {L : List Cell} {c : Cell} {lo hi : Nat} (hs : Srt L) (h : SrcI L c lo hi) (hlt : lo < hi) (ho : orI [cmpI (L.getD ((lo + hi) / 2) zCell).Start c.Start, cmpI (L.getD ((lo + hi) / 2) zCell).Key c.Key] < 0) : SrcI L c ((lo + hi) / 2 + 1) hi := by
  obtain ⟨h1, h2, h3, h4⟩ := h
  have hm := orderV_lt.1 ho
  refine ⟨by omega, h2, fun j hj => ?_, h4⟩
  by_cases e : j = (lo + hi) / 2
  · subst e; exact hm
  · exact ahead_trans (hs j _ (by omega) (by omega)) hm
theorem src_hi {L : List Cell} {c : Cell} {lo hi : Nat} (hs : Srt L) (h : SrcI L c lo hi) (hlt : lo < hi) (ho : ¬ orI [cmpI (L.getD ((lo + hi) / 2) zCell).Start c.Start, cmpI (L.getD ((lo + hi) / 2) zCell).Key c.Key] < 0) : SrcI L c lo ((lo + hi) / 2) := by
  obtain ⟨h1, h2, h3, h4⟩ := h
  have hm : ahead (L.getD ((lo + hi) / 2) zCell) c = false := by rw [Bool.eq_false_iff]; exact fun hh => ho (orderV_lt.2 hh)
  refine ⟨by omega, by omega, h3, fun j h5 h6 => ?_⟩
  by_cases e : j = (lo + hi) / 2
  · subst e; exact hm
  · rw [Bool.eq_false_iff]; intro hh
    rw [ahead_trans (hs _ j (by omega) h6) hh] at hm; cases hm
theorem src_end {L : List Cell} {c : Cell} {lo hi : Nat} (h : SrcI L c lo hi) (hge : ¬ lo < hi) : aheadN L c = lo := by
  obtain ⟨h1, h2, h3, h4⟩ := h
  exact aheadN_eq (by omega) h3 (fun hl => h4 lo (by omega) hl)
theorem src_has1 {L : List Cell} {c : Cell} {lo hi : Nat} (h : SrcI L c lo hi) (hge : ¬ lo < hi) (hlt : lo < L.length) : ((orI [cmpI (L.getD lo zCell).Start c.Start, cmpI (L.getD lo zCell).Key c.Key]) == 0) = hasC L c := by
  have := src_end h hge
  unfold hasC
  rw [this, decide_eq_true (by omega), Bool.true_and]
  rfl
theorem src_has0 {L : List Cell} {c : Cell} {lo hi : Nat} (h : SrcI L c lo hi) (hge : ¬ lo < hi) (hlt : ¬ lo < L.length) : false = hasC L c := by
  have := src_end h hge
  unfold hasC
  rw [this, decide_eq_false (by omega), Bool.false_and]
/-! #### taken into the windows -/
def takeTo (key v : Int) (starts : List Int) (l : List Cell) (i : Nat) : List Cell := (starts.take i).foldl (fun a at_ => putC key at_ v a) l
theorem takeTo_succ {key v : Int} {starts : List Int} {l : List Cell} {i : Nat} (h : i < starts.length) : takeTo key v starts l (i + 1) = putC key (starts.getD i 0) v (takeTo key v starts l i) := by
  unfold takeTo
  rw [take_snoc 0 h, List.foldl_append]; rfl
def takeL (key v : Int) (starts : List Int) (l : List Cell) : List Cell := if (takeTo key v starts l starts.length).length ≤ 64 then takeTo key v starts l starts.length else l
def takeFits (key v : Int) (starts : List Int) (l : List Cell) : Bool := decide ((takeTo key v starts l starts.length).length ≤ 64)
theorem srt_pw {L : List Cell} : Srt L ↔ L.Pairwise fun a b => ahead a b = true := by
  rw [List.pairwise_iff_getElem]
  constructor
  · intro h i j hi hj hij
    have := h i j hij hj
    simpa [List.getD, hi, hj] using this
  · intro h j k hjk hk
    have := h j k (by omega) hk hjk
    simpa [List.getD, hk, show j < L.length by omega] using this
theorem ahead_as {a b c : Cell} (h : c.Start = b.Start) (k : c.Key = b.Key) : ahead a c = ahead a b := by simp [ahead, h, k]
theorem ahead_sa {a b c : Cell} (h : c.Start = b.Start) (k : c.Key = b.Key) : ahead c a = ahead b a := by simp [ahead, h, k]
theorem ahead_neither {a b : Cell} (h : ahead a b = false) (k : ahead b a = false) : a.Start = b.Start ∧ a.Key = b.Key := by
  rw [Bool.eq_false_iff, ne_eq, ahead_iff] at *; omega
theorem putC_mem {key start v : Int} : ∀ {l : List Cell} {c : Cell}, c ∈ putC key start v l → (c.Start = start ∧ c.Key = key) ∨ ∃ d ∈ l, c.Start = d.Start ∧ c.Key = d.Key
  | [], c, h => by simp only [putC, List.mem_singleton] at h; subst h; exact .inl ⟨rfl, rfl⟩
  | d :: r, c, h => by
    rw [putC] at h
    split at h
    · rcases List.mem_cons.1 h with rfl | h
      · exact .inr ⟨c, by simp, rfl, rfl⟩
      · rcases putC_mem h with h1 | ⟨e, he, h1⟩
        · exact .inl h1
        · exact .inr ⟨e, by simp [he], h1⟩
    · split at h
      · rcases List.mem_cons.1 h with rfl | h
        · exact .inl ⟨rfl, rfl⟩
        · exact .inr ⟨c, h, rfl, rfl⟩
      · rcases List.mem_cons.1 h with rfl | h
        · exact .inr ⟨d, by simp, rfl, rfl⟩
        · exact .inr ⟨c, by simp [h], rfl, rfl⟩
theorem putC_pw {key start v : Int} : ∀ {l : List Cell}, l.Pairwise (fun a b => ahead a b = true) → (putC key start v l).Pairwise (fun a b => ahead a b = true)
  | [], _ => by simp [putC]
  | d :: r, h => by
    obtain ⟨h1, h2⟩ := List.pairwise_cons.1 h
    rw [putC]
    split
    · rename_i ha
      refine List.pairwise_cons.2 ⟨fun c hc => ?_, putC_pw h2⟩
      rcases putC_mem hc with ⟨e1, e2⟩ | ⟨e, he, e1, e2⟩
      · rw [ahead_as (b := newCell key start) e1 e2]; exact ha
      · rw [ahead_as e1 e2]; exact h1 e he
    · rename_i ha
      split
      · rename_i hb
        refine List.pairwise_cons.2 ⟨fun c hc => ?_, h⟩
        have hb' : ahead ⟨key, start, aggAdd zAgg v⟩ d = true := hb
        rcases List.mem_cons.1 hc with rfl | hc
        · exact hb'
        · exact ahead_trans hb' (h1 c hc)
      · exact List.pairwise_cons.2 ⟨fun c hc => h1 c hc, h2⟩
theorem putC_srt {key start v : Int} {l : List Cell} (h : Srt l) : Srt (putC key start v l) := srt_pw.2 (putC_pw (srt_pw.1 h))
theorem takeTo_spec {key v : Int} {starts : List Int} {l : List Cell} (hs : Srt l) (hv : R64 v) (hl : ∀ c ∈ l, AggR c.A) : ∀ i, i ≤ starts.length → Srt (takeTo key v starts l i) ∧ (∀ c ∈ takeTo key v starts l i, AggR c.A) ∧ (takeTo key v starts l i).length ≤ l.length + i
  | 0, _ => ⟨hs, hl, by simp [takeTo]⟩
  | i + 1, hi => by
    obtain ⟨h1, h2, h3⟩ := takeTo_spec (key := key) (starts := starts) hs hv hl i (by omega)
    rw [takeTo_succ (by omega)]
    have := putC_len (key := key) (start := starts.getD i 0) (v := v) (l := takeTo key v starts l i)
    exact ⟨putC_srt h1, putC_R hv h2, by omega⟩
/-- Found: the number goes into what stands there. -/
theorem put_found {key at_ v : Int} {L : List Cell} (h : hasC L (newCell key at_) = true) :
    L.set (aheadN L (newCell key at_)) ⟨(L.getD (aheadN L (newCell key at_)) zCell).Key, (L.getD (aheadN L (newCell key at_)) zCell).Start, aggAdd (L.getD (aheadN L (newCell key at_)) zCell).A v⟩ = putC key at_ v L := by
  simp only [hasC, Bool.and_eq_true, decide_eq_true_eq] at h
  obtain ⟨h1, h2⟩ := h
  have h3 := orderV_eq.1 h2
  have h4 : ahead (newCell key at_) (L.getD (aheadN L (newCell key at_)) zCell) = false := by rw [Bool.eq_false_iff, ne_eq, ahead_iff]; omega
  rw [← put_old (v := v) h1 (fun j hj => aheadN_lt hj) (aheadN_at h1) h4, List.set_eq_take_append_cons_drop, if_pos h1, List.append_assoc]
  rfl
theorem put_fresh {key at_ v : Int} {L : List Cell} (h : hasC L (newCell key at_) = false) :
    (L.take (aheadN L (newCell key at_)) ++ [(⟨key, at_, aggAdd zAgg v⟩ : Cell)]) ++ L.drop (aheadN L (newCell key at_)) = putC key at_ v L := by
  refine put_new (v := v) (aheadN_le _ _) (fun j hj => aheadN_lt hj) ?_
  by_cases h1 : aheadN L (newCell key at_) < L.length
  · right
    have h2 := aheadN_at h1
    refine ⟨h2, ?_⟩
    cases h3 : ahead (newCell key at_) (L.getD (aheadN L (newCell key at_)) zCell) with
    | true => rfl
    | false =>
      have := ahead_neither h2 h3
      simp only [hasC, Bool.and_eq_false_imp, decide_eq_true_eq, decide_eq_false_iff_not] at h
      exact absurd (orderV_eq.2 this) (h h1)
  · left; have := aheadN_le L (newCell key at_); omega
abbrev ins (L vs : List Cell) (i : Int) : List Cell := (L.take i.toNat ++ vs) ++ L.drop i.toNat
theorem ins_len {L : List Cell} {c : Cell} {k : Nat} (h : k ≤ L.length) : (ins L [c] (k : Int)).length = L.length + 1 := by simp; omega
theorem ins_get {L : List Cell} {c : Cell} {k : Nat} (h : k ≤ L.length) : (ins L [c] (k : Int)).getD k zCell = c := by
  simp only [ins, Int.toNat_natCast, List.append_assoc, List.getD]
  rw [List.getElem?_append_right (by simp; omega)]
  have : k - (L.take k).length = 0 := by simp; omega
  rw [this]; rfl
theorem ins_set {L : List Cell} {c d : Cell} {k : Nat} (h : k ≤ L.length) : (ins L [c] (k : Int)).set k d = (L.take k ++ [d]) ++ L.drop k := by
  simp only [ins, Int.toNat_natCast, List.append_assoc]
  rw [List.set_append_right _ _ (by simp; omega)]
  have : k - (L.take k).length = 0 := by simp; omega
  rw [this]; rfl
theorem take_found {key v : Int} {starts : List Int} {l : List Cell} {i : Nat} (hi : i < starts.length) (h : hasC (takeTo key v starts l i) (newCell key (starts.getD i 0)) = true) :
    (takeTo key v starts l i).set (aheadN (takeTo key v starts l i) (newCell key (starts.getD i 0))) ⟨((takeTo key v starts l i).getD (aheadN (takeTo key v starts l i) (newCell key (starts.getD i 0))) zCell).Key, ((takeTo key v starts l i).getD (aheadN (takeTo key v starts l i) (newCell key (starts.getD i 0))) zCell).Start,
      aggAdd ((takeTo key v starts l i).getD (aheadN (takeTo key v starts l i) (newCell key (starts.getD i 0))) zCell).A v⟩ = takeTo key v starts l (i + 1) := by
  rw [takeTo_succ hi]; exact put_found h
theorem take_fresh {key v : Int} {starts : List Int} {l : List Cell} {i : Nat} (hi : i < starts.length) (h : hasC (takeTo key v starts l i) (newCell key (starts.getD i 0)) = false) (k : Nat) (hk : k = aheadN (takeTo key v starts l i) (newCell key (starts.getD i 0))) (L : List Cell) (hL : L = ins (takeTo key v starts l i) [newCell key (starts.getD i 0)] (k : Int)) :
    L.set k ⟨(L.getD k zCell).Key, (L.getD k zCell).Start, aggAdd (L.getD k zCell).A v⟩ = takeTo key v starts l (i + 1) := by
  have hle : k ≤ (takeTo key v starts l i).length := by rw [hk]; exact aheadN_le _ _
  subst hL
  rw [ins_get hle, ins_set hle, takeTo_succ hi, hk]
  exact put_fresh h
theorem hasC_lt {L : List Cell} {c : Cell} (h : hasC L c = true) : aheadN L c < L.length := by
  simp only [hasC, Bool.and_eq_true, decide_eq_true_eq] at h; exact h.1
section
variable {key v : Int} {starts : List Int} {l : List Cell} {i : Nat} (hi : i = starts.length)
include hi
theorem takeL_yes (h : (takeTo key v starts l i).length ≤ 64) : takeTo key v starts l i = takeL key v starts l := by subst hi; rw [takeL, if_pos h]
theorem takeL_no (h : 64 < (takeTo key v starts l i).length) : l = takeL key v starts l := by subst hi; rw [takeL, if_neg (by omega)]
theorem fits_yes (h : (takeTo key v starts l i).length ≤ 64) : true = takeFits key v starts l := by subst hi; rw [takeFits, decide_eq_true h]
theorem fits_no (h : 64 < (takeTo key v starts l i).length) : false = takeFits key v starts l := by subst hi; rw [takeFits, decide_eq_false (by omega)]
end
end Go.Proofs.Ytfpmgnkbklnkaaa.Eng
end
section
set_option linter.unusedSimpArgs false
set_option linter.unusedVariables false
namespace Go.Proofs.Ytfpmgnkbklnkaaa.Eng
open Go
theorem feedG (g : Grid) (s : State) (r : Rec) : (((stateCheck g s != 0) || !(allIn [r.Key, r.Time])) || decide (r.Key > 1048576)) = !feedMay g s r := by
  have e : (stateCheck g s != 0) = !stateMay g s := by unfold stateCheck; cases stateMay g s <;> rfl
  rw [e]
  simp only [feedMay, recMay, allIn, List.all_cons, List.all_nil, Bool.and_true]
  cases stateMay g s <;> cases inN r.Key <;> cases inN r.Time <;> simp <;> (rw [Bool.eq_iff_iff]; simp)
/-- Those of the beginnings that are open. -/
abbrev openS (g : Grid) (s : State) (r : Rec) : List Int := (gridStarts g r.Time).filter fun x => !cloI g s.Mark x
theorem put_fold {g : Grid} {mark key v : Int} : ∀ (starts : List Int) (l : List Cell) (n : Nat),
    starts.foldl (putStep g mark key v) (l, n) = ((starts.filter fun x => !cloI g mark x).foldl (fun a at_ => putC key at_ v a) l, n + (starts.filter fun x => !cloI g mark x).length)
  | [], l, n => rfl
  | x :: r, l, n => by
    rw [List.foldl_cons, putStep]
    cases h : gridClosed g x mark with
    | true => rw [if_pos rfl, put_fold r l n, List.filter_cons_of_neg (by simp [cloI, h])]
    | false =>
      rw [if_neg (by decide), put_fold r _ _, List.filter_cons_of_pos (by simp [cloI, h]), List.foldl_cons, List.length_cons]
      simp only [Prod.mk.injEq, true_and]; omega
theorem putOpen_eq (g : Grid) (s : State) (r : Rec) : putOpen g s r = (takeTo r.Key (valN r) (openS g s r) s.L (openS g s r).length, (openS g s r).length) := by
  unfold putOpen putTo takeTo
  rw [List.take_of_length_le (Nat.le_refl _), List.take_of_length_le (Nat.le_refl _), put_fold]; simp
theorem drop_0 {g : Grid} {s : State} {r : Rec} (h : (openS g s r).length = 0) : feedDrop g s r = true := by
  unfold feedDrop; rw [putOpen_eq]; simp [h]
theorem drop_1 {g : Grid} {s : State} {r : Rec} (h : ¬ (openS g s r).length = 0) : feedDrop g s r = !takeFits r.Key (valN r) (openS g s r) s.L := by
  have h' : (((openS g s r).length : Int) == 0) = false := by rw [beq_eq_false_iff_ne]; omega
  unfold feedDrop takeFits
  rw [putOpen_eq]
  simp only [h', Bool.false_or]
  rw [Bool.eq_iff_iff]; simp; omega
theorem eng_L0 {g : Grid} {s : State} {r : Rec} (h : (openS g s r).length = 0) : s.L = feedL g s r := by rw [feedL, if_pos (drop_0 h)]
theorem eng_L1 {g : Grid} {s : State} {r : Rec} (h : ¬ (openS g s r).length = 0) : takeL r.Key (valN r) (openS g s r) s.L = feedL g s r := by
  rw [feedL, drop_1 h, takeL, takeFits, putOpen_eq]
  by_cases hf : (takeTo r.Key (valN r) (openS g s r) s.L (openS g s r).length).length ≤ 64 <;> simp [hf]
theorem eng_late0 {g : Grid} {s : State} {r : Rec} (h : (openS g s r).length = 0) : s.Late + 1 = if feedDrop g s r then s.Late + 1 else s.Late := by rw [if_pos (drop_0 h)]
theorem eng_late1 {g : Grid} {s : State} {r : Rec} (h : ¬ (openS g s r).length = 0) (hf : takeFits r.Key (valN r) (openS g s r) s.L = false) : s.Late + 1 = if feedDrop g s r then s.Late + 1 else s.Late := by rw [if_pos (by rw [drop_1 h, hf]; rfl)]
theorem eng_late2 {g : Grid} {s : State} {r : Rec} (h : ¬ (openS g s r).length = 0) (hf : takeFits r.Key (valN r) (openS g s r) s.L = true) : s.Late = if feedDrop g s r then s.Late + 1 else s.Late := by rw [if_neg (by rw [drop_1 h, hf]; decide)]
theorem openS_len (g : Grid) (s : State) (r : Rec) : (openS g s r).length ≤ 8 := Nat.le_trans (List.length_filter_le _ _) (gridStarts_len g r.Time)
theorem may_srt {g : Grid} {s : State} (h : stateMay g s = true) : Srt s.L := by
  have ha := (stateMay_iff.1 h).2
  intro j k hjk hk
  induction k with
  | zero => omega
  | succ k ih =>
    have h1 := (ha (k + 1) hk).2
    simp only [aheadAt, Nat.add_sub_cancel, Bool.or_eq_true, beq_iff_eq] at h1
    have h1 : ahead (s.L.getD k zCell) (s.L.getD (k + 1) zCell) = true := by rcases h1 with h1 | h1; omega; exact h1
    by_cases e : j = k
    · subst e; exact h1
    · exact ahead_trans (ih (by omega) (by omega)) h1
theorem feedSt_len {g : Grid} {s : State} {r : Rec} (hr : ∀ c ∈ s.L, AggR c.A) : (feedSt g s r).L.length ≤ 72 := by
  unfold feedSt
  split
  · rename_i h
    have h64 := feedErr_len h
    split
    · exact Nat.le_trans (List.length_filter_le _ _) (feedL_spec g s r hr h64).1
    · show s.L.length ≤ 72; omega
  · exact Nat.zero_le _
theorem run_L {g : Grid} {s : State} {l : List Rec} (hs : stateMay g s = true) (hr : ∀ c ∈ s.L, AggR c.A) : ∀ i, i ≤ l.length → (∀ c ∈ (runTo g s l i).1.L, AggR c.A) ∧ (runTo g s l i).1.L.length ≤ 72
  | 0, _ => ⟨hr, by have := (headMay_spec (stateMay_iff.1 hs).1).2.2.2.2.2.2; show s.L.length ≤ 72; omega⟩
  | i + 1, hi => by
    have ih := run_L (l := l) hs hr i (by omega)
    rw [runTo_succ (by omega)]
    unfold runStep
    split
    · exact ih
    · split
      · exact ⟨fun c hc => (by cases hc), Nat.zero_le _⟩
      · exact ⟨feedSt_R ih.1, feedSt_len ih.1⟩
end Go.Proofs.Ytfpmgnkbklnkaaa.Eng
end
section
set_option linter.unusedSimpArgs false
set_option linter.unusedVariables false
namespace Go.Proofs.Ytfpmgnkbklnkaaa.Eng
open Go
theorem wrapU64 (n : Int) : IntKind.u64.wrap n = n % 18446744073709551616 := by simp [IntKind.wrap, IntKind.bits, IntKind.signed]
theorem wrapU8 (n : Int) : IntKind.u8.wrap n = n % 256 := by simp [IntKind.wrap, IntKind.bits, IntKind.signed]
theorem u64_in {n : Int} (h0 : 0 ≤ n) (h1 : n < 18446744073709551616) : IntKind.u64.wrap n = n := by rw [wrapU64]; omega
theorem u8_in {n : Int} (h0 : 0 ≤ n) (h1 : n < 256) : IntKind.u8.wrap n = n := by rw [wrapU8]; omega
theorem zig_lt {n : Int} (h : R64 n) : zig n < 18446744073709551616 := by unfold zig; split <;> omega
theorem zig_eq {n : Int} (h : R64 n) : (bif decide (n < 0) then IntKind.u64.wrap ((IntKind.u64.wrap ((IntKind.u64.wrap (0 - (n + 1))) * 2)) + 1) else IntKind.u64.wrap ((IntKind.u64.wrap n) * 2)) = (zig n : Int) := by
  unfold zig
  by_cases h0 : n < 0
  · simp only [h0, decide_true, cond_true, if_true]
    rw [wrapU64, wrapU64, wrapU64]; omega
  · simp only [h0, decide_false, cond_false, if_false]
    rw [wrapU64, wrapU64]; omega
/-! #### laid -/
def PutI (n : Int) (u : Nat) (L : List Int) (j : Nat) : Prop := (L.map b8) ++ putLF (10 - j) u = putL (zig n) ∧ j ≤ 9 ∧ L.length = j ∧ u * 128 ^ j < 18446744073709551616
theorem put_begin {n : Int} (h : R64 n) : PutI n (zig n) [] 0 := ⟨by simp [putL], by omega, rfl, by simpa using zig_lt h⟩
theorem put_u64 {n : Int} {u : Nat} {L : List Int} {j : Nat} (h : PutI n u L j) : u < 18446744073709551616 := by
  have := h.2.2.2
  have h1 : 0 < 128 ^ j := Nat.pow_pos (by omega)
  exact Nat.lt_of_le_of_lt (Nat.le_mul_of_pos_right u h1) this
theorem byte_eq {u : Nat} : b8 (IntKind.u8.wrap (IntKind.u64.wrap ((Int.tmod (u : Int) (128 : Int)) + 128))) = UInt8.ofNat (u % 128 + 128) := by
  have e : Int.tmod (u : Int) (128 : Int) = ((u % 128 : Nat) : Int) := by rw [Int.tmod_eq_emod_of_nonneg (by omega)]; omega
  rw [e, u64_in (by omega) (by omega), u8_in (by omega) (by omega)]
  unfold b8
  congr 1
theorem put_next {n : Int} {u : Nat} {L : List Int} {j : Nat} (h : PutI n u L j) (hu : 127 < u) : PutI n (u / 128) (L ++ [IntKind.u8.wrap (IntKind.u64.wrap ((Int.tmod (u : Int) (128 : Int)) + 128))]) (j + 1) := by
  obtain ⟨h1, h2, h3, h4⟩ := h
  have hj : j ≤ 8 := by
    rcases Nat.lt_or_ge 8 j with h5 | h5
    · obtain rfl : j = 9 := by omega
      have : 128 * 128 ^ 9 ≤ u * 128 ^ 9 := Nat.mul_le_mul_right _ (by omega)
      have e : (128 * 128 ^ 9 : Nat) = 1180591620717411303424 := by decide
      omega
    · exact h5
  refine ⟨?_, by omega, by simp [h3], ?_⟩
  · rw [← h1, List.map_append, List.map_cons, List.map_nil, byte_eq, List.append_assoc]
    congr 1
    obtain ⟨k, hk⟩ : ∃ k, 10 - j = k + 1 := ⟨9 - j, by omega⟩
    rw [hk, putLF, if_pos (by omega), show 10 - (j + 1) = k by omega]
    rfl
  · rw [Nat.pow_succ]
    have : u / 128 * 128 ≤ u := Nat.div_mul_le_self u 128
    calc u / 128 * (128 ^ j * 128) = (u / 128 * 128) * 128 ^ j := by rw [Nat.mul_comm (128 ^ j) 128, Nat.mul_assoc]
      _ ≤ u * 128 ^ j := Nat.mul_le_mul_right _ this
      _ < _ := h4
theorem put_end {n : Int} {u : Nat} {L : List Int} {j : Nat} (h : PutI n u L j) (hu : ¬ 127 < u) : strB (L ++ [IntKind.u8.wrap (u : Int)]) = putB n := by
  obtain ⟨h1, h2, h3, h4⟩ := h
  have e : putLF (10 - j) u = [UInt8.ofNat u] := by
    obtain ⟨k, hk⟩ : ∃ k, 10 - j = k + 1 := ⟨9 - j, by omega⟩
    rw [hk, putLF, if_neg hu]
  have e2 : b8 (IntKind.u8.wrap (u : Int)) = UInt8.ofNat u := by rw [u8_in (by omega) (by omega)]; unfold b8; congr 1
  unfold strB putB
  rw [← h1, e, List.map_append, List.map_cons, List.map_nil, e2]
theorem div128 {u : Nat} (h : u < 18446744073709551616) : IntKind.u64.wrap (Int.tdiv (u : Int) (128 : Int)) = ((u / 128 : Nat) : Int) := by
  have e : Int.tdiv (u : Int) (128 : Int) = ((u / 128 : Nat) : Int) := by rw [Int.tdiv_eq_ediv_of_nonneg (by omega)]; omega
  rw [e, u64_in (by omega) (by omega)]
/-! #### taken -/
theorem takeK_eq {s : ByteArray} {k : Nat} (h1 : k ≤ s.size) (h2 : k ≤ 10) (h3 : ∀ i, i < k → 127 < byteN s i) (h4 : k < s.size → k < 10 → byteN s k ≤ 127) : takeK s = k := by
  unfold takeK
  by_cases h : k < min s.size 10
  · rw [List.findIdx_eq (by simpa using h)]
    simp only [List.getElem_range, decide_eq_true_eq, decide_eq_false_iff_not, Nat.not_le]
    exact ⟨h4 (by omega) (by omega), h3⟩
  · have hk : k = min s.size 10 := by omega
    rw [hk]
    conv => rhs; rw [← List.length_range (n := min s.size 10)]
    rw [List.findIdx_eq_length]
    intro x hx
    simp only [List.mem_range] at hx
    simpa using h3 x (by omega)
theorem take_no1 {s : ByteArray} {k : Nat} (hK : takeK s = k) (h : k = s.size ∨ k = 10) : takeOk s = false := by
  unfold takeOk
  rw [hK]
  rcases h with h | h
  · rw [decide_eq_false (show ¬ k < s.size by omega)]; simp
  · rw [decide_eq_false (show ¬ k < 10 by omega)]; simp
theorem take_bad {s : ByteArray} (h : takeOk s = false) : takeN s = 0 ∧ takeRest s = ⟨#[]⟩ ∧ takeErr s = 2 := by simp [takeN, takeRest, takeErr, h]
theorem take_good {s : ByteArray} (h : takeOk s = true) : takeN s = numOf (takeU s) ∧ takeRest s = s.extract (takeK s + 1) s.size ∧ takeErr s = 0 := by simp [takeN, takeRest, takeErr, h]
theorem hor_step {s : ByteArray} {k m : Nat} (h : m ≤ k) : IntKind.u64.wrap ((IntKind.u64.wrap (((hor s k m : Nat) : Int) * 128)) + (Int.tmod (IntKind.u64.wrap (((byteAt s (((k : Int) - (m : Int)).toNat)).toNat : Nat) : Int)) 128)) = ((hor s k (m + 1) : Nat) : Int) := by
  have e : ((k : Int) - (m : Int)).toNat = k - m := by omega
  have hb : (byteAt s (k - m)).toNat < 256 := (byteAt s (k - m)).toNat_lt
  have hh := hor_lt s k m
  have e2 : hor s k (m + 1) = (hor s k m * 128 + byteN s (k - m) % 128) % 18446744073709551616 := rfl
  have e3 : byteN s (k - m) = (byteAt s (k - m)).toNat := rfl
  rw [e, u64_in (n := (((byteAt s (k - m)).toNat : Nat) : Int)) (by omega) (by omega), Int.tmod_eq_emod_of_nonneg (by omega), wrapU64, wrapU64, e2, e3]
  omega
theorem half_eq {u : Nat} (h : u < 18446744073709551616) : IntKind.i64.wrap (IntKind.u64.wrap (Int.tdiv (u : Int) 2)) = ((u / 2 : Nat) : Int) := by
  have e : Int.tdiv (u : Int) (2 : Int) = ((u / 2 : Nat) : Int) := by rw [Int.tdiv_eq_ediv_of_nonneg (by omega)]; omega
  rw [e, u64_in (by omega) (by omega), wrap_in (by omega) (by omega)]
theorem numOf_eq {u : Nat} (h : u < 18446744073709551616) : (bif (Int.tmod (u : Int) 2 == 1) then IntKind.i64.wrap ((IntKind.i64.wrap (0 - ((u / 2 : Nat) : Int))) - 1) else ((u / 2 : Nat) : Int)) = numOf u := by
  have e : Int.tmod (u : Int) 2 = ((u % 2 : Nat) : Int) := by rw [Int.tmod_eq_emod_of_nonneg (by omega)]; omega
  rw [e]
  unfold numOf
  by_cases h1 : u % 2 = 1
  · rw [h1, if_pos rfl]
    simp only [Int.natCast_one, beq_self_eq_true, cond_true]
    rw [wrap_in (n := 0 - ((u / 2 : Nat) : Int)) (by omega) (by omega), wrap_in (by omega) (by omega)]
    omega
  · have h0 : u % 2 = 0 := by omega
    rw [h0, if_neg (by omega)]
    rfl
theorem cut_eq {k : Nat} (h : k ≤ 10) : (IntKind.i64.wrap ((k : Int) + 1)).toNat = k + 1 := by rw [wrap_in (by omega) (by omega)]; omega
theorem bytes_ext {x y : ByteArray} (h : x.toList = y.toList) : x = y := (bytes_eq x y).1 (by rw [← toList_beq, h]; simp)
theorem take_no2 {s : ByteArray} {k : Nat} (hK : takeK s = k) (h10 : k ≤ 10) (h : (!((putB (numOf (takeU s))).toList == (s.extract (0 : Int).toNat (IntKind.i64.wrap ((k : Int) + 1) : Int).toNat).toList)) = true) : takeOk s = false := by
  rw [toList_beq, cut_eq h10, show s.extract (0 : Int).toNat (k + 1) = s.extract 0 (k + 1) from rfl] at h
  have hne : putB (numOf (takeU s)) ≠ s.extract 0 (k + 1) := fun e => by
    rw [(bytes_eq _ _).2 e] at h; cases h
  unfold takeOk
  rw [hK, decide_eq_false hne]; simp
theorem take_yes {s : ByteArray} {k : Nat} (hK : takeK s = k) (h1 : k < s.size) (h10 : k < 10) (h : (!((putB (numOf (takeU s))).toList == (s.extract (0 : Int).toNat (IntKind.i64.wrap ((k : Int) + 1) : Int).toNat).toList)) = false) : takeOk s = true := by
  rw [toList_beq, cut_eq (by omega), show s.extract (0 : Int).toNat (k + 1) = s.extract 0 (k + 1) from rfl] at h
  have he : putB (numOf (takeU s)) = s.extract 0 (k + 1) := (bytes_eq _ _).1 (by simpa using h)
  unfold takeOk
  rw [hK, decide_eq_true he, decide_eq_true h1, decide_eq_true h10]; rfl
end Go.Proofs.Ytfpmgnkbklnkaaa.Eng
end
section
set_option linter.unusedSimpArgs false
set_option linter.unusedVariables false
namespace Go.Proofs.Ytfpmgnkbklnkaaa.Eng
open Go
/-- What sevens of bits come to, the lowest first. -/
def valL : List UInt8 → Nat
  | [] => 0
  | b :: r => b.toNat % 128 + 128 * valL r
def bytesTo (s : ByteArray) (k : Nat) : List UInt8 := (List.range k).map (byteAt s)
def vU (s : ByteArray) (k : Nat) : Nat := valL (bytesTo s k)
def vM (s : ByteArray) (k : Nat) : Nat := vU s k % 18446744073709551616
theorem valL_snoc : ∀ (l : List UInt8) (b : UInt8), valL (l ++ [b]) = valL l + b.toNat % 128 * 128 ^ l.length
  | [], b => by simp [valL]
  | a :: l, b => by
    rw [List.cons_append, valL, valL, valL_snoc l b, List.length_cons, Nat.pow_succ, Nat.mul_add, Nat.add_assoc]
    congr 2
    rw [Nat.mul_left_comm, Nat.mul_comm 128]
theorem valL_lt : ∀ (l : List UInt8), valL l < 128 ^ l.length
  | [] => by simp [valL]
  | a :: l => by
    have := valL_lt l
    rw [valL, List.length_cons, Nat.pow_succ]
    omega
theorem bytesTo_succ (s : ByteArray) (k : Nat) : bytesTo s (k + 1) = bytesTo s k ++ [byteAt s k] := by
  unfold bytesTo; rw [List.range_succ, List.map_append]; rfl
theorem bytesTo_len (s : ByteArray) (k : Nat) : (bytesTo s k).length = k := by simp [bytesTo]
theorem vU_succ (s : ByteArray) (k : Nat) : vU s (k + 1) = vU s k + byteN s k % 128 * 128 ^ k := by
  unfold vU; rw [bytesTo_succ, valL_snoc, bytesTo_len]; rfl
theorem vU_lt (s : ByteArray) (k : Nat) : vU s k < 128 ^ k := by have := valL_lt (bytesTo s k); rwa [bytesTo_len] at this
/-- From the top down it comes to the same. -/
theorem hor_val (s : ByteArray) (k : Nat) : ∀ m, m ≤ k + 1 → hor s k m = valL ((bytesTo s (k + 1)).drop (k + 1 - m)) % 18446744073709551616
  | 0, _ => by
    rw [Nat.sub_zero, List.drop_of_length_le (by rw [bytesTo_len]; exact Nat.le_refl _)]; rfl
  | m + 1, h => by
    have ih := hor_val s k m (by omega)
    have hlt : k - m < (bytesTo s (k + 1)).length := by rw [bytesTo_len]; omega
    have hd : (bytesTo s (k + 1)).drop (k + 1 - (m + 1)) = byteAt s (k - m) :: (bytesTo s (k + 1)).drop (k + 1 - m) := by
      rw [show k + 1 - (m + 1) = k - m by omega, List.drop_eq_getElem_cons hlt, show k - m + 1 = k + 1 - m by omega]
      congr 1
      simp [bytesTo]
    rw [hd, valL, hor, ih]
    show _ = ((byteN s (k - m)) % 128 + _) % _
    omega
theorem takeU_val {s : ByteArray} {k : Nat} (h : takeK s = k) : takeU s = vM s (k + 1) := by
  rw [takeU, h, hor_val s k (k + 1) (Nat.le_refl _), Nat.sub_self, List.drop_zero]; rfl
/-! #### bits -/
theorem and127 {c : Nat} (h : c < 256) : bitsAnd .u8 ((c : Nat) : Int) (127 : Int) = ((c % 128 : Nat) : Int) := by
  unfold bitsAnd
  have e : ((BitVec.ofInt IntKind.u8.bits ((c : Nat) : Int) &&& BitVec.ofInt IntKind.u8.bits (127 : Int)).toNat : Nat) = c % 128 := by
    rw [BitVec.toNat_and, BitVec.toNat_ofInt, BitVec.toNat_ofInt]
    have e1 : (((c : Nat) : Int) % ((2 ^ IntKind.u8.bits : Nat) : Int)).toNat = c := by
      have : ((2 ^ IntKind.u8.bits : Nat) : Int) = 256 := by decide
      rw [this]; omega
    have e2 : ((127 : Int) % ((2 ^ IntKind.u8.bits : Nat) : Int)).toNat = 2 ^ 7 - 1 := by decide
    rw [e1, e2, Nat.and_two_pow_sub_one_eq_mod]
  rw [e, u8_in (by omega) (by omega)]
theorem or_add {a b i : Nat} (ha : a < 2 ^ i) (hs : 2 ^ i * b + a < 18446744073709551616) : bitsOr .u64 ((a : Nat) : Int) ((2 ^ i * b : Nat) : Int) = ((2 ^ i * b + a : Nat) : Int) := by
  unfold bitsOr
  have hb : ((2 ^ IntKind.u64.bits : Nat) : Int) = 18446744073709551616 := by decide
  have e : ((BitVec.ofInt IntKind.u64.bits ((a : Nat) : Int) ||| BitVec.ofInt IntKind.u64.bits ((2 ^ i * b : Nat) : Int)).toNat : Nat) = 2 ^ i * b + a := by
    rw [BitVec.toNat_or, BitVec.toNat_ofInt, BitVec.toNat_ofInt, hb]
    have e1 : (((a : Nat) : Int) % 18446744073709551616).toNat = a := by omega
    have e2 : (((2 ^ i * b : Nat) : Int) % 18446744073709551616).toNat = 2 ^ i * b := by generalize 2 ^ i * b = z at *; omega
    rw [e1, e2, Nat.or_comm, Nat.two_pow_add_eq_or_of_lt ha]
  rw [e, u64_in (by omega) (by omega)]
theorem or_step {s : ByteArray} {k : Nat} (h : k < 10) : bitsOr .u64 ((vM s k : Nat) : Int) (IntKind.u64.wrap ((IntKind.u64.wrap (bitsAnd .u8 (((byteAt s k).toNat : Nat) : Int) (127 : Int))) * 2 ^ min ((IntKind.i64.wrap ((7 : Int) * (k : Int)))).toNat IntKind.u64.bits)) = ((vM s (k + 1) : Nat) : Int) := by
  have hc : (byteAt s k).toNat < 256 := (byteAt s k).toNat_lt
  have h7 : (IntKind.i64.wrap ((7 : Int) * (k : Int))).toNat = 7 * k := by rw [wrap_in (by omega) (by omega)]; omega
  have hmin : min (7 * k) IntKind.u64.bits = 7 * k := by
    have : IntKind.u64.bits = 64 := rfl
    rw [this]; omega
  rw [and127 hc, u64_in (n := (((byteAt s k).toNat % 128 : Nat) : Int)) (by omega) (by omega), h7, hmin]
  have hp : (128 : Nat) ^ k = 2 ^ (7 * k) := by rw [show (128 : Nat) = 2 ^ 7 by decide, ← Nat.pow_mul]
  have hle : 2 ^ (7 * k) ≤ 9223372036854775808 := by
    have := Nat.pow_le_pow_right (n := 2) (by omega) (show 7 * k ≤ 63 by omega)
    simpa using this
  have hv := vU_lt s k
  rw [hp] at hv
  have e0 : vM s k = vU s k := Nat.mod_eq_of_lt (by omega)
  have e1 : IntKind.u64.wrap ((((byteAt s k).toNat % 128 : Nat) : Int) * 2 ^ (7 * k)) = ((2 ^ (7 * k) * (byteN s k % 128 % 2 ^ (64 - 7 * k)) : Nat) : Int) := by
    rw [wrapU64]
    have e2 : ((((byteAt s k).toNat % 128 : Nat) : Int) * 2 ^ (7 * k)) = ((2 ^ (7 * k) * (byteN s k % 128) : Nat) : Int) := by
      rw [Int.natCast_mul, Int.natCast_pow, Int.mul_comm]; rfl
    have e3 : (18446744073709551616 : Nat) = 2 ^ (7 * k) * 2 ^ (64 - 7 * k) := by
      rw [← Nat.pow_add, show 7 * k + (64 - 7 * k) = 64 by omega]
    rw [e2, ← Nat.mul_mod_mul_left (2 ^ (7 * k)) (byteN s k % 128) (2 ^ (64 - 7 * k)), ← e3]
    rfl
  have hm : byteN s k % 128 % 2 ^ (64 - 7 * k) < 2 ^ (64 - 7 * k) := Nat.mod_lt _ (Nat.pow_pos (by omega))
  have hsum : 2 ^ (7 * k) * (byteN s k % 128 % 2 ^ (64 - 7 * k)) + vU s k < 18446744073709551616 := by
    have e3 : (18446744073709551616 : Nat) = 2 ^ (7 * k) * 2 ^ (64 - 7 * k) := by
      rw [← Nat.pow_add, show 7 * k + (64 - 7 * k) = 64 by omega]
    have := Nat.mul_le_mul_left (2 ^ (7 * k)) (show byteN s k % 128 % 2 ^ (64 - 7 * k) + 1 ≤ 2 ^ (64 - 7 * k) from hm)
    rw [← e3, Nat.mul_add, Nat.mul_one] at this
    omega
  rw [e0, e1, or_add hv hsum]
  congr 1
  have e4 : 2 ^ (7 * k) * (byteN s k % 128 % 2 ^ (64 - 7 * k)) = 2 ^ (7 * k) * (byteN s k % 128) % 18446744073709551616 := by
    have e3 : (18446744073709551616 : Nat) = 2 ^ (7 * k) * 2 ^ (64 - 7 * k) := by
      rw [← Nat.pow_add, show 7 * k + (64 - 7 * k) = 64 by omega]
    rw [e3, Nat.mul_mod_mul_left]
  have e5 : vM s (k + 1) = (vU s k + byteN s k % 128 * 2 ^ (7 * k)) % 18446744073709551616 := by unfold vM; rw [vU_succ, hp]
  rw [e5, Nat.mul_comm (byteN s k % 128), ← Nat.mod_eq_of_lt hsum, e4]
  omega
theorem xor_num {u : Nat} (h : u < 18446744073709551616) : bitsXor .i64 (IntKind.i64.wrap (Int.fdiv ((u : Nat) : Int) (2 ^ min ((1 : Int)).toNat IntKind.u64.bits))) (IntKind.i64.wrap (0 - (IntKind.i64.wrap (bitsAnd .u64 ((u : Nat) : Int) (1 : Int))))) = numOf u := by
  have e1 : Int.fdiv ((u : Nat) : Int) (2 ^ min ((1 : Int)).toNat IntKind.u64.bits) = ((u / 2 : Nat) : Int) := by
    have : min ((1 : Int)).toNat IntKind.u64.bits = 1 := by decide
    rw [this, show ((2 : Int) ^ 1) = ((2 : Nat) : Int) by decide, Int.fdiv_eq_ediv_of_nonneg _ (by omega)]; rfl
  have e2 : bitsAnd .u64 ((u : Nat) : Int) (1 : Int) = ((u % 2 : Nat) : Int) := by
    unfold bitsAnd
    have hb : ((2 ^ IntKind.u64.bits : Nat) : Int) = 18446744073709551616 := by decide
    have e : ((BitVec.ofInt IntKind.u64.bits ((u : Nat) : Int) &&& BitVec.ofInt IntKind.u64.bits (1 : Int)).toNat : Nat) = u % 2 := by
      rw [BitVec.toNat_and, BitVec.toNat_ofInt, BitVec.toNat_ofInt, hb]
      have e1 : (((u : Nat) : Int) % 18446744073709551616).toNat = u := by omega
      have e2 : ((1 : Int) % 18446744073709551616).toNat = 2 ^ 1 - 1 := by decide
      rw [e1, e2, Nat.and_two_pow_sub_one_eq_mod]
    rw [e, u64_in (by omega) (by omega)]
  rw [e1, e2, wrap_in (n := ((u / 2 : Nat) : Int)) (by omega) (by omega), wrap_in (n := ((u % 2 : Nat) : Int)) (by omega) (by omega), wrap_in (n := 0 - ((u % 2 : Nat) : Int)) (by omega) (by omega)]
  unfold bitsXor numOf
  have hb : ((2 ^ IntKind.i64.bits : Nat) : Int) = 18446744073709551616 := by decide
  have hx : (BitVec.ofInt IntKind.i64.bits ((u / 2 : Nat) : Int)).toNat = u / 2 := by rw [BitVec.toNat_ofInt, hb]; omega
  by_cases h1 : u % 2 = 1
  · rw [h1, if_pos rfl]
    have hy : BitVec.ofInt IntKind.i64.bits (0 - ((1 : Nat) : Int)) = BitVec.allOnes IntKind.i64.bits := by decide
    rw [hy, BitVec.xor_allOnes, BitVec.toNat_not, hx]
    have h64 : 2 ^ IntKind.i64.bits = 18446744073709551616 := by decide
    rw [h64, wrap_eq]
    unfold RowKit.wrap64
    omega
  · have h0 : u % 2 = 0 := by omega
    rw [h0, if_neg (by omega)]
    have hy : BitVec.ofInt IntKind.i64.bits (0 - ((0 : Nat) : Int)) = 0#IntKind.i64.bits := by decide
    rw [hy, BitVec.xor_zero, hx, wrap_in (by omega) (by omega)]
/-! #### which bytes are a number's -/
theorem putLF_val : ∀ (l : List UInt8) (c : UInt8) (fuel : Nat), l.length ≤ fuel → (∀ b ∈ l, 127 < b.toNat) → c.toNat < 128 → (l = [] ∨ 0 < c.toNat) → putLF fuel (valL (l ++ [c])) = l ++ [c]
  | [], c, fuel, _, _, hc, _ => by
    have e : valL ([] ++ [c]) = c.toNat := by simp [valL]; omega
    rw [e]
    have e2 : UInt8.ofNat c.toNat = c := by simp
    cases fuel with
    | zero => simp [putLF]
    | succ f => rw [putLF, if_neg (by omega), e2]; rfl
  | b :: l, c, 0, h, _, _, _ => by simp at h
  | b :: l, c, fuel + 1, h, hl, hc, h0 => by
    have hc0 : 0 < c.toNat := by rcases h0 with h0 | h0; cases h0; exact h0
    have ih := putLF_val l c fuel (by simpa using h) (fun x hx => hl x (by simp [hx])) hc (.inr hc0)
    have hb := hl b (by simp)
    have hb2 : b.toNat < 256 := b.toNat_lt
    have hv : 0 < valL (l ++ [c]) := by
      rw [valL_snoc]
      have : 0 < c.toNat % 128 * 128 ^ l.length := Nat.mul_pos (by omega) (Nat.pow_pos (by omega))
      omega
    rw [List.cons_append, valL, putLF, if_pos (by omega)]
    have e1 : (b.toNat % 128 + 128 * valL (l ++ [c])) % 128 + 128 = b.toNat := by omega
    have e2 : (b.toNat % 128 + 128 * valL (l ++ [c])) / 128 = valL (l ++ [c]) := by omega
    rw [e1, e2, ih]
    simp
/-- The last one of them. -/
theorem putLF_last : ∀ (fuel u : Nat), u < 128 ^ (fuel + 1) → ∃ j, (putLF fuel u).length = j + 1 ∧ (putLF fuel u).getLast? = some (UInt8.ofNat (u / 128 ^ j)) ∧ (0 < j → 0 < u / 128 ^ j) ∧ u / 128 ^ j < 128
  | 0, u, h => ⟨0, rfl, by simp [putLF], by omega, by simpa using h⟩
  | fuel + 1, u, h => by
    rw [putLF]
    split
    · obtain ⟨j, h1, h2, h3, h4⟩ := putLF_last fuel (u / 128) (by rw [Nat.pow_succ] at h; omega)
      have e : u / 128 / 128 ^ j = u / 128 ^ (j + 1) := by rw [Nat.div_div_eq_div_mul, Nat.pow_succ, Nat.mul_comm]
      refine ⟨j + 1, by simp [h1], ?_, fun _ => ?_, by rw [← e]; exact h4⟩
      · rw [List.getLast?_cons, h2, e]; simp
      · rw [← e]
        rcases Nat.eq_zero_or_pos j with h5 | h5
        · subst h5; simp; omega
        · exact h3 h5
    · exact ⟨0, rfl, by simp, by omega, by simp; omega⟩
theorem zig_num {u : Nat} (h : u < 18446744073709551616) : zig (numOf u) = u := by
  unfold zig numOf
  by_cases h1 : u % 2 = 1
  · rw [if_pos h1, if_pos (by omega)]; omega
  · rw [if_neg h1, if_neg (by omega)]; omega
theorem ext_bytes {s : ByteArray} {k : Nat} (h : k ≤ s.size) : s.extract 0 k = ⟨(bytesTo s k).toArray⟩ := by
  have hd : (s.extract 0 k).data = (bytesTo s k).toArray := by
    apply Array.ext
    · simp [bytesTo_len]; omega
    · intro i h1 h2
      have hi : i < k := by simpa [bytesTo_len] using h2
      have hs : i < s.data.size := Nat.lt_of_lt_of_le hi h
      simp [bytesTo, byteAt, Array.getD, hs, show ¬ s.size ≤ i from Nat.not_le.2 hs]
  cases hx : s.extract 0 k with
  | mk d => rw [hx] at hd; simp only at hd; rw [hd]
section
variable {s : ByteArray} {k : Nat} (h1 : k < s.size) (h2 : k < 10) (h3 : ∀ i, i < k → 127 < byteN s i) (h4 : byteN s k < 128)
include h1 h2 h3 h4
theorem take67_K : takeK s = k := takeK_eq (by omega) (by omega) h3 (fun _ _ => by omega)
theorem take67_bad (h : (0 < k ∧ byteN s k = 0) ∨ (k = 9 ∧ 1 < byteN s k)) : takeOk s = false := by
  have hK := take67_K h1 h2 h3 h4
  cases ho : takeOk s with
  | false => rfl
  | true =>
    exfalso
    simp only [takeOk, hK, Bool.and_eq_true, decide_eq_true_eq] at ho
    have he := ho.2
    rw [takeU_val hK, ext_bytes (by omega), putB, zig_num (u := vM s (k + 1)) (Nat.mod_lt _ (by decide))] at he
    have hl : putL (vM s (k + 1)) = bytesTo s (k + 1) := by
      have := congrArg (fun x : ByteArray => x.data.toList) he
      simpa using this
    have hu : vM s (k + 1) < 18446744073709551616 := Nat.mod_lt _ (by decide)
    obtain ⟨j, g1, g2, g3, g4⟩ := putLF_last 10 (vM s (k + 1)) (by
      have : (18446744073709551616 : Nat) ≤ 128 ^ (10 + 1) := by decide
      omega)
    have hl' : putLF 10 (vM s (k + 1)) = bytesTo s (k + 1) := hl
    rw [hl'] at g1 g2
    rw [bytesTo_len] at g1
    obtain rfl : k = j := by omega
    rw [bytesTo_succ, List.getLast?_append] at g2
    simp only [List.getLast?_singleton, Option.some_or, Option.some.injEq] at g2
    have hb : byteN s k = vM s (k + 1) / 128 ^ k := by
      unfold byteN; rw [g2]; simp; omega
    rcases h with ⟨h5, h6⟩ | ⟨h5, h6⟩
    · have := g3 h5; omega
    · subst h5
      have : vM s (9 + 1) / 128 ^ 9 < 2 := by
        rw [Nat.div_lt_iff_lt_mul (by decide)]
        have e : (2 * 128 ^ 9 : Nat) = 18446744073709551616 := by decide
        omega
      omega
theorem take67_ok (h : ¬ ((0 < k ∧ byteN s k = 0) ∨ (k = 9 ∧ 1 < byteN s k))) : takeOk s = true := by
  have hK := take67_K h1 h2 h3 h4
  have hv : vU s (k + 1) < 18446744073709551616 := by
    rw [vU_succ]
    have hlt := vU_lt s k
    have hb : byteN s k % 128 = byteN s k := by omega
    rw [hb]
    by_cases h9 : k = 9
    · subst h9
      have e : (128 ^ 9 : Nat) = 9223372036854775808 := by decide
      rw [e] at *
      have : byteN s 9 ≤ 1 := by omega
      omega
    · have hp : (128 : Nat) ^ (k + 1) ≤ 128 ^ 9 := Nat.pow_le_pow_right (by omega) (by omega)
      have e : (128 ^ 9 : Nat) = 9223372036854775808 := by decide
      have hm : byteN s k * 128 ^ k ≤ 127 * 128 ^ k := Nat.mul_le_mul_right _ (by omega)
      rw [Nat.pow_succ] at hp
      omega
  have hM : vM s (k + 1) = vU s (k + 1) := Nat.mod_eq_of_lt hv
  have hput : putL (vU s (k + 1)) = bytesTo s (k + 1) := by
    unfold putL vU
    rw [bytesTo_succ]
    refine putLF_val _ _ _ (by rw [bytesTo_len]; omega) ?_ h4 ?_
    · intro b hb
      simp only [bytesTo, List.mem_map, List.mem_range] at hb
      obtain ⟨i, hi, rfl⟩ := hb
      exact h3 i hi
    · by_cases h0 : k = 0
      · left; subst h0; rfl
      · right
        show 0 < byteN s k
        omega
  have he : putB (numOf (takeU s)) = s.extract 0 (k + 1) := by
    rw [takeU_val hK, ext_bytes (by omega), putB, zig_num (u := vM s (k + 1)) (Nat.mod_lt _ (by decide)), hM, hput]
  simp only [takeOk, hK, Bool.and_eq_true, decide_eq_true_eq]
  exact ⟨⟨h1, h2⟩, he⟩
end
end Go.Proofs.Ytfpmgnkbklnkaaa.Eng
end
section
set_option linter.unusedSimpArgs false
set_option linter.unusedVariables false
namespace Go.Proofs.Ytfpmgnkbklnkaaa.Eng
open Go
theorem some_len (l : List Rec) : (someRecs l).length ≤ 1000 := by simp [someRecs]; omega
theorem some_len150 (l : List Rec) : (someRecs l).length ≤ 150 := by simp [someRecs]; omega
theorem zero_R : ∀ c ∈ zeroState.L, AggR c.A := by intro c hc; cases hc
theorem run_R {g : Grid} {s : State} {l : List Rec} (hs : stateMay g s = true) (hr : ∀ c ∈ s.L, AggR c.A) : ∀ i, i ≤ l.length → (∀ c ∈ (runTo g s l i).2.1, AggR c.A) ∧ (runTo g s l i).2.1.length ≤ 72 * i
  | 0, _ => ⟨(by intro c hc; cases hc), by simp [runTo]⟩
  | i + 1, hi => by
    have ih := run_R (l := l) hs hr i (by omega)
    have hL := run_L (l := l) hs hr i (by omega)
    rw [runTo_succ (by omega)]
    unfold runStep
    split
    · exact ⟨ih.1, by omega⟩
    · split
      · exact ⟨fun c hc => (by cases hc), Nat.zero_le _⟩
      · refine ⟨fun c hc => ?_, ?_⟩
        · rcases List.mem_append.1 hc with hc | hc
          · exact ih.1 c hc
          · exact feedOver_R hL.1 c hc
        · have := feedOver_len (g := g) (r := l.getD i zRec) hL.1
          simp only [List.length_append]; omega
theorem runAll_to {g : Grid} {s : State} {l : List Rec} (hs : stateMay g s = true) : runAll g s l = runTo g s l l.length := run_all hs (Nat.le_refl _)
theorem runAll_no {g : Grid} {s : State} {l : List Rec} (hs : stateMay g s = false) : runAll g s l = (zState, [], 1) := run_no hs
section
variable {g : Grid} {s : State} {l : List Rec} (hr : ∀ c ∈ s.L, AggR c.A)
include hr
theorem runAll_L : (runAll g s l).1.L.length ≤ 72 := by
  cases h : stateMay g s with
  | true => rw [runAll_to h]; exact (run_L h hr _ (Nat.le_refl _)).2
  | false => rw [runAll_no h]; exact Nat.zero_le _
theorem runAll_LR : ∀ c ∈ (runAll g s l).1.L, AggR c.A := by
  cases h : stateMay g s with
  | true => rw [runAll_to h]; exact (run_L h hr _ (Nat.le_refl _)).1
  | false => rw [runAll_no h]; intro c hc; cases hc
theorem runAll_over : (runAll g s l).2.1.length ≤ 72 * l.length := by
  cases h : stateMay g s with
  | true => rw [runAll_to h]; exact (run_R h hr _ (Nat.le_refl _)).2
  | false => rw [runAll_no h]; exact Nat.zero_le _
theorem runAll_overR : ∀ c ∈ (runAll g s l).2.1, AggR c.A := by
  cases h : stateMay g s with
  | true => rw [runAll_to h]; exact (run_R h hr _ (Nat.le_refl _)).1
  | false => rw [runAll_no h]; intro c hc; cases hc
end
theorem same_refl (a : State) : sameState a a = true := by simp [sameState]
theorem sameC_refl (a : List Cell) : sameCells a a = true := by simp [sameCells]
end Go.Proofs.Ytfpmgnkbklnkaaa.Eng
end
section
set_option linter.unusedSimpArgs false
set_option linter.unusedVariables false
set_option maxRecDepth 100000
namespace Go.Proofs.Ytfpmgnkbklnkaaa.Eng
open Go Go.Proofs
abbrev umay14 (g : Grid) : List U := [.c (.d (dB (gridMay g)))]
abbrev y22_0 (g : Grid) : List (Nat × Blk) := [(1, .var ((eGrid g).map .d))]
/-- headgate/headgateref14.May. -/
theorem ok_may14 (g : Grid) :
 FnOk Try.prog 22 [.agg ((eGrid g).map .d)] (fun r_ => r_ = B (gridMay g)) := by
 refine FnOk.go Try.func22 rfl 45 ?_
 intro w0 m0
 show AC _ _ ⟨[(0, tA ((eGrid g).map .d))], []⟩ _
 refine AC.q ⟨[sp 1], y22_0 g⟩ ?_
 refine AC.seq ?_
 refine AC.rS [0, 1, 2, 3, 4, 5, 6, 7, 8, 9, 10, 11, 12, 13, 14, 15, 16, 17, 18, 19, 20, 21, 22, 23, 24, 25, 26, 27, 28, 29] ?_
 refine AOps.m [0, 1, 2, 3] ⟨[sp 1, (7, B (decide (g.Size < 1)))], y22_0 g⟩ ?_
 refine AOps.s [4, 5, 6] 7 7 10 11 false (decide (g.Size < 1)) (decide (g.Size > 1048576)) [1] (fun h_ => ?_) ?_
 clear h_
 refine AOps.m [4, 5, 6] ⟨[sp 1, (7, B false), (10, B (decide (g.Size > 1048576)))], y22_0 g⟩ ?_
 exact scd
 refine AOps.m [8] ⟨[sp 1, (12, B ((decide (g.Size < 1)) || (decide (g.Size > 1048576))))], y22_0 g⟩ ?_
 refine AOps.s [9, 10, 11] 12 12 15 16 false ((decide (g.Size < 1)) || (decide (g.Size > 1048576))) (decide (g.Hop < 1)) [1] (fun h_ => ?_) ?_
 clear h_
 refine AOps.m [9, 10, 11] ⟨[sp 1, (12, B false), (15, B (decide (g.Hop < 1)))], y22_0 g⟩ ?_
 exact scd
 refine AOps.m [13] ⟨[sp 1, (17, B (((decide (g.Size < 1)) || (decide (g.Size > 1048576))) || (decide (g.Hop < 1))))], y22_0 g⟩ ?_
 refine AOps.s [14, 15, 16, 17, 18] 19 17 22 23 false (((decide (g.Size < 1)) || (decide (g.Size > 1048576))) || (decide (g.Hop < 1))) (decide (g.Hop > g.Size)) [1] (fun h_ => ?_) ?_
 clear h_
 refine AOps.m [14, 15, 16, 17, 18] ⟨[sp 1, (17, B false), (22, B (decide (g.Hop > g.Size)))], y22_0 g⟩ ?_
 exact scd
 refine AOps.m [20] ⟨[sp 1, (24, B ((((decide (g.Size < 1)) || (decide (g.Size > 1048576))) || (decide (g.Hop < 1))) || (decide (g.Hop > g.Size))))], y22_0 g⟩ ?_
 refine AOps.s [21, 22, 23] 24 24 27 28 false ((((decide (g.Size < 1)) || (decide (g.Size > 1048576))) || (decide (g.Hop < 1))) || (decide (g.Hop > g.Size))) (decide (g.Late < 0)) [1] (fun h_ => ?_) ?_
 clear h_
 refine AOps.m [21, 22, 23] ⟨[sp 1, (24, B false), (27, B (decide (g.Late < 0)))], y22_0 g⟩ ?_
 exact scd
 refine AOps.m [25] ⟨[sp 1, (29, B (((((decide (g.Size < 1)) || (decide (g.Size > 1048576))) || (decide (g.Hop < 1))) || (decide (g.Hop > g.Size))) || (decide (g.Late < 0))))], y22_0 g⟩ ?_
 refine AOps.s [26, 27, 28] 29 29 32 33 false (((((decide (g.Size < 1)) || (decide (g.Size > 1048576))) || (decide (g.Hop < 1))) || (decide (g.Hop > g.Size))) || (decide (g.Late < 0))) (decide (g.Late > 1048576)) [1] (fun h_ => ?_) ?_
 clear h_
 refine AOps.m [26, 27, 28] ⟨[sp 1, (29, B false), (32, B (decide (g.Late > 1048576)))], y22_0 g⟩ ?_
 exact scd
 refine AOps.done ?_
 refine AC.cd (b := (((((decide (g.Size < 1)) || (decide (g.Size > 1048576))) || (decide (g.Hop < 1))) || (decide (g.Hop > g.Size))) || (decide (g.Late < 0))) || (decide (g.Late > 1048576))) (fun h_ => ?_) (fun h_ => ?_)
 have h1 := h_; have r1 := h_; clear h_; try simp only [bb] at h1
 refine AC.q ⟨[(2, B false)], []⟩ ?_
 refine AC.ret ?_
 exact rqr (umay14 g) (All2.cons (ULe.c (CLe.d (DLe.eq (congrArg dB (show (false) = (gridMay g) by first | exact (gridMay_yes (k := k) (by omega) (by omega) (by omega) (by assumption)).symm | (symm; simp only [gridMay, decide_eq_false_iff_not]; omega) | exact (gridMay_no (fun j a b => i3 j a (by omega))).symm))))) All2.nil)
 have h1 := h_; have r1 := h_; clear h_; try simp only [bb] at h1
 refine AC.skip ?_
 refine AC.seq ?_
 refine AC.q ⟨[sp 1, (3, I 1)], y22_0 g⟩ ?_
 refine AC.block ?_
 refine AC.loop (ι := Nat) (fun k => ⟨[sp 1, (3, I (k : Int))], y22_0 g⟩) (fun k => (1 ≤ k ∧ k ≤ 9 ∧ ∀ j : Nat, 1 ≤ j → j < k → (j : Int) * g.Hop ≠ g.Size)) (fun k => 9 - k) (1) (by refine ⟨by omega, by omega, fun j h1 h2 => ?_⟩; omega) (Le.of (lk rfl (LeS.cons rfl (TLe.i (by rfl)) LeS.nil)) (ek rfl LeE.nil) (by kernel_rfl)) ?_
 intro k hi_
 obtain ⟨i1, i2, i3⟩ := hi_
 show AC _ _ ⟨[sp 1, (3, I (k : Int))], y22_0 g⟩ _
 have hm := mulb (a := (k : Int)) (A := 9) (b := g.Hop) (B := 1048576) (by omega) (by omega) (by omega) (by omega)
 refine AC.seq ?_
 refine AC.q ⟨[sp 1, (3, I (k : Int)), (35, B (decide ((k : Int) ≤ 8)))], y22_0 g⟩ ?_
 refine AC.cd (b := decide ((k : Int) ≤ 8)) (fun h_ => ?_) (fun h_ => ?_)
 have h2 := h_; have r2 := h_; clear h_; try simp only [bb] at h2
 refine AC.skip ?_
 refine AC.seq ?_
 refine AC.block ?_
 refine AC.rS [0, 1, 2, 3, 4, 5, 6] ?_
 refine AOps.m [0, 1, 2, 3, 4, 5, 6] ⟨[sp 1, (3, I (k : Int)), (44, B ((IntKind.i64.wrap ((k : Int) * g.Hop)) == g.Size))], y22_0 g⟩ ?_
 refine AOps.le (st' := ⟨[sp 1, (3, I (k : Int)), (44, B (((k : Int) * g.Hop) == g.Size))], y22_0 g⟩) (Le.of (lk rfl (lk rfl (LeS.cons rfl (TLe.b (by rw [wrap_in (n := ((k : Int) * g.Hop)) (by omega) (by omega)] <;> rfl)) LeS.nil))) (ek rfl LeE.nil) (by kernel_rfl)) ?_
 refine AOps.done ?_
 refine AC.cd (b := ((k : Int) * g.Hop) == g.Size) (fun h_ => ?_) (fun h_ => ?_)
 have h3 := h_; have r3 := h_; clear h_; try simp only [bb] at h3
 refine AC.q ⟨[(2, B true)], []⟩ ?_
 refine AC.ret ?_
 exact rqr (umay14 g) (All2.cons (ULe.c (CLe.d (DLe.eq (congrArg dB (show (true) = (gridMay g) by first | exact (gridMay_yes (k := k) (by omega) (by omega) (by omega) (by assumption)).symm | (symm; simp only [gridMay, decide_eq_false_iff_not]; omega) | exact (gridMay_no (fun j a b => i3 j a (by omega))).symm))))) All2.nil)
 have h3 := h_; have r3 := h_; clear h_; try simp only [bb] at h3
 refine AC.skip ?_
 refine AC.rR [0, 1, 2] ?_
 refine AOps.m [0, 1, 2] ⟨[sp 1, (3, I (IntKind.i64.wrap ((k : Int) + 1)))], y22_0 g⟩ ?_
 refine AOps.le (st' := ⟨[sp 1, (3, I ((k + 1 : Nat) : Int))], y22_0 g⟩) (Le.of (lk rfl (LeS.cons rfl (TLe.i (by rw [wrap_in (n := ((k : Int) + 1)) (by omega) (by omega)] <;> omega)) LeS.nil)) (ek rfl LeE.nil) (by kernel_rfl)) ?_
 refine AOps.done ?_
 try refine blockA_n ?_
 exact roundA_n (k + 1) (by refine ⟨by omega, by omega, fun j h1 h2 => ?_⟩; by_cases e : j = k; (subst e; assumption); exact i3 j h1 (by omega)) (by show 9 - (k + 1) < 9 - k; omega) (Le.of (lk rfl (LeS.cons rfl (TLe.i (by omega)) LeS.nil)) (ek rfl LeE.nil) (by kernel_rfl))
 have h2 := h_; have r2 := h_; clear h_; try simp only [bb] at h2
 refine AC.exit ?_
 repeat (first | refine thenA_x ?_ | refine roundA_x ?_ | refine joinA_x ?_ | refine blockA_hit ?_ | refine blockA_miss (by decide) ?_)
 refine AC.q ⟨[(2, B false)], []⟩ ?_
 refine AC.ret ?_
 exact rqr (umay14 g) (All2.cons (ULe.c (CLe.d (DLe.eq (congrArg dB (show (false) = (gridMay g) by first | exact (gridMay_yes (k := k) (by omega) (by omega) (by omega) (by assumption)).symm | (symm; simp only [gridMay, decide_eq_false_iff_not]; omega) | exact (gridMay_no (fun j a b => i3 j a (by omega))).symm))))) All2.nil)
abbrev uclosed14 (g : Grid) (start : Int) (mark : Int) : List U := [.c (.d (dB (gridClosed g start mark)))]
abbrev z21_0 (g : Grid) : Nat × Blk := (3, .var ((eGrid g).map .d))
/-- headgate/headgateref14.Closed. -/
theorem ok_closed14 (g : Grid) (start : Int) (mark : Int) (hm : mark ≤ 9223372036854775807) :
 FnOk Try.prog 21 [.agg ((eGrid g).map .d), .c (.d (dI start)), .c (.d (dI mark))] (fun r_ => r_ = B (gridClosed g start mark)) := by
 refine FnOk.go Try.func21 rfl 24 ?_
 intro w0 m0
 show AC _ _ ⟨[(0, tA ((eGrid g).map .d)), (1, I start), (2, I mark)], []⟩ _
 refine AC.q ⟨[(1, I start), (2, I mark), sp 3], [(z21_0 g)]⟩ ?_
 refine AC.rS [0, 1, 2, 3, 4, 5, 6, 7, 8, 9, 10, 11, 12, 13, 14, 15, 16, 17] ?_
 refine AOps.m [0] ⟨[(1, I start), (2, I mark), sp 3, (7, tA ((eGrid g).map .d))], [(z21_0 g)]⟩ ?_
 refine AOps.ca (ok_may14 g) ?_
 rintro _ rfl
 refine AOps.m [2] ⟨[(1, I start), (2, I mark), sp 3, (9, B (gridMay g))], [(z21_0 g)]⟩ ?_
 refine AOps.s [3, 4] 5 9 11 12 true (gridMay g) (decide (mark ≥ 0)) [1, 2, 3] (fun h_ => ?_) ?_
 clear h_
 refine AOps.m [3, 4] ⟨[(1, I start), (2, I mark), sp 3, (9, B true), (11, B (decide (mark ≥ 0)))], [(z21_0 g)]⟩ ?_
 exact scd
 refine AOps.m [6] ⟨[(1, I start), (2, I mark), sp 3, (13, B ((gridMay g) && (decide (mark ≥ 0))))], [(z21_0 g)]⟩ ?_
 refine AOps.s [7, 8, 9, 10, 11, 12, 13, 14, 15] 16 13 22 23 true ((gridMay g) && (decide (mark ≥ 0))) (decide (start ≤ (IntKind.i64.wrap (mark - (IntKind.i64.wrap (g.Size + g.Late)))))) [] (fun h_ => ?_) ?_
 clear h_
 refine AOps.m [7, 8, 9, 10, 11, 12, 13, 14, 15] ⟨[(13, B true), (22, B (decide (start ≤ (IntKind.i64.wrap (mark - (IntKind.i64.wrap (g.Size + g.Late)))))))], [(z21_0 g)]⟩ ?_
 exact scd
 refine AOps.e ⟨[(6, B (((gridMay g) && (decide (mark ≥ 0))) && (decide (start ≤ (IntKind.i64.wrap (mark - (IntKind.i64.wrap (g.Size + g.Late))))))))], []⟩ ?_
 refine AC.ret ?_
 exact rqr (uclosed14 g start mark) (All2.cons (ULe.c (CLe.d (DLe.eq (congrArg dB (show (((gridMay g) && (decide (mark ≥ 0))) && (decide (start ≤ (IntKind.i64.wrap (mark - (IntKind.i64.wrap (g.Size + g.Late))))))) = (gridClosed g start mark) by exact closed14 hm))))) All2.nil)
abbrev ucheck (g : Grid) : List U := [.c (.d (dI (gridCheck g)))]
abbrev y43_0 (g : Grid) : List (Nat × Blk) := [(1, .var ((eGrid g).map .d))]
/-- headgate/grid.Check. -/
theorem ok_check (g : Grid) :
 FnOk Try.prog 43 [.agg ((eGrid g).map .d)] (fun r_ => r_ = I (gridCheck g)) := by
 refine FnOk.go Try.func43 rfl 49 ?_
 intro w0 m0
 show AC _ _ ⟨[(0, tA ((eGrid g).map .d))], []⟩ _
 refine AC.q ⟨[sp 1], y43_0 g⟩ ?_
 refine AC.seq ?_
 refine AC.rS [0, 1, 2, 3, 4, 5, 6, 7, 8, 9, 10, 11, 12, 13, 14, 15, 16, 17, 18, 19, 20, 21, 22, 23, 24, 25, 26, 27, 28, 29, 30, 31, 32, 33, 34, 35, 36, 37, 38, 39, 40, 41, 42, 43, 44, 45] ?_
 refine AOps.m [0, 1, 2, 3] ⟨[sp 1, (6, B (decide (g.Size < 1)))], y43_0 g⟩ ?_
 refine AOps.s [4, 5, 6] 7 6 9 10 false (decide (g.Size < 1)) (decide (g.Size > 1048576)) [1] (fun h_ => ?_) ?_
 clear h_
 refine AOps.m [4, 5, 6] ⟨[sp 1, (6, B false), (9, B (decide (g.Size > 1048576)))], y43_0 g⟩ ?_
 exact scd
 refine AOps.m [8] ⟨[sp 1, (11, B ((decide (g.Size < 1)) || (decide (g.Size > 1048576))))], y43_0 g⟩ ?_
 refine AOps.s [9, 10, 11] 12 11 14 15 false ((decide (g.Size < 1)) || (decide (g.Size > 1048576))) (decide (g.Hop < 1)) [1] (fun h_ => ?_) ?_
 clear h_
 refine AOps.m [9, 10, 11] ⟨[sp 1, (11, B false), (14, B (decide (g.Hop < 1)))], y43_0 g⟩ ?_
 exact scd
 refine AOps.m [13] ⟨[sp 1, (16, B (((decide (g.Size < 1)) || (decide (g.Size > 1048576))) || (decide (g.Hop < 1))))], y43_0 g⟩ ?_
 refine AOps.s [14, 15, 16, 17, 18] 19 16 21 22 false (((decide (g.Size < 1)) || (decide (g.Size > 1048576))) || (decide (g.Hop < 1))) (decide (g.Hop > g.Size)) [1] (fun h_ => ?_) ?_
 clear h_
 refine AOps.m [14, 15, 16, 17, 18] ⟨[sp 1, (16, B false), (21, B (decide (g.Hop > g.Size)))], y43_0 g⟩ ?_
 exact scd
 refine AOps.m [20] ⟨[sp 1, (23, B ((((decide (g.Size < 1)) || (decide (g.Size > 1048576))) || (decide (g.Hop < 1))) || (decide (g.Hop > g.Size))))], y43_0 g⟩ ?_
 refine AOps.s [21, 22, 23, 24, 25, 26] 27 23 29 30 false ((((decide (g.Size < 1)) || (decide (g.Size > 1048576))) || (decide (g.Hop < 1))) || (decide (g.Hop > g.Size))) ((Int.tmod g.Size g.Hop) != 0) [1] (fun h_ => ?_) ?_
 have h1 := h_; have r1 := h_; clear h_; try simp only [bb] at h1
 refine AOps.mc [21, 22, 23, 24, 25, 26] (C' := (g.Hop ≠ 0) ∧ True) ⟨[sp 1, (23, B false), (29, B ((Int.tmod g.Size g.Hop) != 0))], y43_0 g⟩ (⟨by omega, trivial⟩) ?_
 exact scd
 refine AOps.m [28] ⟨[sp 1, (31, B (((((decide (g.Size < 1)) || (decide (g.Size > 1048576))) || (decide (g.Hop < 1))) || (decide (g.Hop > g.Size))) || ((Int.tmod g.Size g.Hop) != 0)))], y43_0 g⟩ ?_
 refine AOps.s [29, 30, 31, 32, 33, 34] 35 31 37 38 false (((((decide (g.Size < 1)) || (decide (g.Size > 1048576))) || (decide (g.Hop < 1))) || (decide (g.Hop > g.Size))) || ((Int.tmod g.Size g.Hop) != 0)) (decide ((IntKind.i64.wrap (Int.tdiv g.Size g.Hop)) > 8)) [1] (fun h_ => ?_) ?_
 have h2 := h_; have r2 := h_; clear h_; try simp only [bb] at h2
 refine AOps.mc [29, 30, 31, 32, 33, 34] (C' := (g.Hop ≠ 0) ∧ True) ⟨[sp 1, (31, B false), (37, B (decide ((IntKind.i64.wrap (Int.tdiv g.Size g.Hop)) > 8)))], y43_0 g⟩ (⟨by omega, trivial⟩) ?_
 exact scd
 refine AOps.m [36] ⟨[sp 1, (39, B ((((((decide (g.Size < 1)) || (decide (g.Size > 1048576))) || (decide (g.Hop < 1))) || (decide (g.Hop > g.Size))) || ((Int.tmod g.Size g.Hop) != 0)) || (decide ((IntKind.i64.wrap (Int.tdiv g.Size g.Hop)) > 8))))], y43_0 g⟩ ?_
 refine AOps.s [37, 38, 39] 40 39 42 43 false ((((((decide (g.Size < 1)) || (decide (g.Size > 1048576))) || (decide (g.Hop < 1))) || (decide (g.Hop > g.Size))) || ((Int.tmod g.Size g.Hop) != 0)) || (decide ((IntKind.i64.wrap (Int.tdiv g.Size g.Hop)) > 8))) (decide (g.Late < 0)) [1] (fun h_ => ?_) ?_
 clear h_
 refine AOps.m [37, 38, 39] ⟨[sp 1, (39, B false), (42, B (decide (g.Late < 0)))], y43_0 g⟩ ?_
 exact scd
 refine AOps.m [41] ⟨[sp 1, (44, B (((((((decide (g.Size < 1)) || (decide (g.Size > 1048576))) || (decide (g.Hop < 1))) || (decide (g.Hop > g.Size))) || ((Int.tmod g.Size g.Hop) != 0)) || (decide ((IntKind.i64.wrap (Int.tdiv g.Size g.Hop)) > 8))) || (decide (g.Late < 0))))], y43_0 g⟩ ?_
 refine AOps.s [42, 43, 44] 45 44 47 48 false (((((((decide (g.Size < 1)) || (decide (g.Size > 1048576))) || (decide (g.Hop < 1))) || (decide (g.Hop > g.Size))) || ((Int.tmod g.Size g.Hop) != 0)) || (decide ((IntKind.i64.wrap (Int.tdiv g.Size g.Hop)) > 8))) || (decide (g.Late < 0))) (decide (g.Late > 1048576)) [] (fun h_ => ?_) ?_
 clear h_
 refine AOps.m [42, 43, 44] ⟨[(44, B false), (47, B (decide (g.Late > 1048576)))], y43_0 g⟩ ?_
 exact scd
 refine AOps.done ?_
 refine AC.cd (b := (((((((decide (g.Size < 1)) || (decide (g.Size > 1048576))) || (decide (g.Hop < 1))) || (decide (g.Hop > g.Size))) || ((Int.tmod g.Size g.Hop) != 0)) || (decide ((IntKind.i64.wrap (Int.tdiv g.Size g.Hop)) > 8))) || (decide (g.Late < 0))) || (decide (g.Late > 1048576))) (fun h_ => ?_) (fun h_ => ?_)
 have h3 := h_; have r3 := h_; clear h_; try simp only [bb] at h3
 refine AC.q ⟨[(2, I 1)], []⟩ ?_
 refine AC.ret ?_
 exact rqr (ucheck g) (All2.cons (ULe.c (CLe.d (DLe.eq (congrArg dI (show (1) = (gridCheck g) by first | exact check_no (g := g) (by omega) | exact check_yes (g := g) (by omega)))))) All2.nil)
 have h3 := h_; have r3 := h_; clear h_; try simp only [bb] at h3
 refine AC.skip ?_
 refine AC.q ⟨[(2, I 0)], []⟩ ?_
 refine AC.ret ?_
 exact rqr (ucheck g) (All2.cons (ULe.c (CLe.d (DLe.eq (congrArg dI (show (0) = (gridCheck g) by first | exact check_no (g := g) (by omega) | exact check_yes (g := g) (by omega)))))) All2.nil)
abbrev uclosed (g : Grid) (start : Int) (mark : Int) : List U := [.c (.d (dB (gridClosed g start mark)))]
abbrev z45_0 (g : Grid) : Nat × Blk := (3, .var ((eGrid g).map .d))
/-- headgate/grid.Closed. -/
theorem ok_closed (g : Grid) (start : Int) (mark : Int) (hm : mark ≤ 9223372036854775807) :
 FnOk Try.prog 45 [.agg ((eGrid g).map .d), .c (.d (dI start)), .c (.d (dI mark))] (fun r_ => r_ = B (gridClosed g start mark)) := by
 refine FnOk.go Try.func45 rfl 25 ?_
 intro w0 m0
 show AC _ _ ⟨[(0, tA ((eGrid g).map .d)), (1, I start), (2, I mark)], []⟩ _
 refine AC.q ⟨[(1, I start), (2, I mark), sp 3], [(z45_0 g)]⟩ ?_
 refine AC.rS [0, 1, 2, 3, 4, 5, 6, 7, 8, 9, 10, 11, 12, 13, 14, 15, 16, 17, 18] ?_
 refine AOps.m [0] ⟨[(1, I start), (2, I mark), sp 3, (7, tA ((eGrid g).map .d))], [(z45_0 g)]⟩ ?_
 refine AOps.ca (ok_check g) ?_
 rintro _ rfl
 refine AOps.m [2, 3] ⟨[(1, I start), (2, I mark), sp 3, (10, B ((gridCheck g) == 0))], [(z45_0 g)]⟩ ?_
 refine AOps.s [4, 5] 6 10 12 13 true ((gridCheck g) == 0) (decide (mark ≥ 0)) [1, 2, 3] (fun h_ => ?_) ?_
 clear h_
 refine AOps.m [4, 5] ⟨[(1, I start), (2, I mark), sp 3, (10, B true), (12, B (decide (mark ≥ 0)))], [(z45_0 g)]⟩ ?_
 exact scd
 refine AOps.m [7] ⟨[(1, I start), (2, I mark), sp 3, (14, B (((gridCheck g) == 0) && (decide (mark ≥ 0))))], [(z45_0 g)]⟩ ?_
 refine AOps.s [8, 9, 10, 11, 12, 13, 14, 15, 16] 17 14 23 24 true (((gridCheck g) == 0) && (decide (mark ≥ 0))) (decide (start ≤ (IntKind.i64.wrap ((IntKind.i64.wrap (mark - g.Size)) - g.Late)))) [] (fun h_ => ?_) ?_
 clear h_
 refine AOps.m [8, 9, 10, 11, 12, 13, 14, 15, 16] ⟨[(14, B true), (23, B (decide (start ≤ (IntKind.i64.wrap ((IntKind.i64.wrap (mark - g.Size)) - g.Late)))))], [(z45_0 g)]⟩ ?_
 exact scd
 refine AOps.e ⟨[(6, B ((((gridCheck g) == 0) && (decide (mark ≥ 0))) && (decide (start ≤ (IntKind.i64.wrap ((IntKind.i64.wrap (mark - g.Size)) - g.Late))))))], []⟩ ?_
 refine AC.ret ?_
 exact rqr (uclosed g start mark) (All2.cons (ULe.c (CLe.d (DLe.eq (congrArg dB (show ((((gridCheck g) == 0) && (decide (mark ≥ 0))) && (decide (start ≤ (IntKind.i64.wrap ((IntKind.i64.wrap (mark - g.Size)) - g.Late))))) = (gridClosed g start mark) by exact closedG hm))))) All2.nil)
end Go.Proofs.Ytfpmgnkbklnkaaa.Eng
end
section
set_option linter.unusedSimpArgs false
set_option linter.unusedVariables false
set_option maxRecDepth 100000
namespace Go.Proofs.Ytfpmgnkbklnkaaa.Eng
open Go Go.Proofs
abbrev uahead (a : Cell) (b : Cell) : List U := [.c (.d (dB (ahead a b)))]
abbrev z63_0 (a : Cell) : Nat × Blk := (2, .var ((eCell a).map .d))
abbrev z63_1 (b : Cell) : Nat × Blk := (3, .var ((eCell b).map .d))
/-- headgate/headgateref16.Ahead. -/
theorem ok_ahead (a : Cell) (b : Cell) :
 FnOk Try.prog 63 [.agg ((eCell a).map .d), .agg ((eCell b).map .d)] (fun r_ => r_ = B (ahead a b)) := by
 refine FnOk.go Try.func63 rfl 24 ?_
 intro w0 m0
 show AC _ _ ⟨[(0, tA ((eCell a).map .d)), (1, tA ((eCell b).map .d))], []⟩ _
 refine AC.q ⟨[sp 2, sp 3], [(z63_0 a), (z63_1 b)]⟩ ?_
 refine AC.rS [0, 1, 2, 3, 4, 5, 6, 7, 8, 9, 10, 11, 12, 13, 14, 15, 16, 17, 18, 19] ?_
 refine AOps.m [0, 1, 2, 3, 4, 5] ⟨[sp 2, sp 3, (10, B (decide (a.Start < b.Start)))], [(z63_0 a), (z63_1 b)]⟩ ?_
 refine AOps.s [6, 7, 8, 9, 10, 11, 12, 13, 14, 15, 16, 17] 18 10 22 23 false (decide (a.Start < b.Start)) ((a.Start == b.Start) && (decide (a.Key < b.Key))) [] (fun h_ => ?_) ?_
 clear h_
 refine AOps.m [6, 7, 8, 9, 10, 11] ⟨[sp 2, sp 3, (10, B false), (16, B (a.Start == b.Start))], [(z63_0 a), (z63_1 b)]⟩ ?_
 refine AOps.s [12, 13, 14, 15, 16] 17 16 21 22 true (a.Start == b.Start) (decide (a.Key < b.Key)) [10] (fun h_ => ?_) ?_
 clear h_
 refine AOps.m [12, 13, 14, 15, 16] ⟨[(10, B false), (16, B true), (21, B (decide (a.Key < b.Key)))], [(z63_0 a), (z63_1 b)]⟩ ?_
 exact scd
 exact scd
 refine AOps.e ⟨[(4, B ((decide (a.Start < b.Start)) || ((a.Start == b.Start) && (decide (a.Key < b.Key)))))], []⟩ ?_
 refine AC.ret ?_
 exact rqr (uahead a b) (All2.cons (ULe.c (CLe.d (DLe.eq (congrArg dB (show ((decide (a.Start < b.Start)) || ((a.Start == b.Start) && (decide (a.Key < b.Key)))) = (ahead a b) by rfl))))) All2.nil)
abbrev uin (n : Int) : List U := [.c (.d (dB (inN n)))]
/-- headgate/headgateref16.in. -/
theorem ok_in (n : Int) :
 FnOk Try.prog 65 [.c (.d (dI n))] (fun r_ => r_ = B (inN n)) := by
 refine FnOk.go Try.func65 rfl 9 ?_
 intro w0 m0
 show AC _ _ ⟨[(0, I n)], []⟩ _
 refine AC.q ⟨[(0, I n)], []⟩ ?_
 refine AC.rS [0, 1, 2, 3, 4, 5, 6] ?_
 refine AOps.m [0, 1, 2] ⟨[(0, I n), (5, B (decide (n ≥ 0)))], []⟩ ?_
 refine AOps.s [3, 4] 5 5 7 8 true (decide (n ≥ 0)) (decide (n ≤ 1099511627776)) [] (fun h_ => ?_) ?_
 clear h_
 refine AOps.m [3, 4] ⟨[(5, B true), (7, B (decide (n ≤ 1099511627776)))], []⟩ ?_
 exact scd
 refine AOps.e ⟨[(2, B ((decide (n ≥ 0)) && (decide (n ≤ 1099511627776))))], []⟩ ?_
 refine AC.ret ?_
 exact rqr (uin n) (All2.cons (ULe.c (CLe.d (DLe.eq (congrArg dB (show ((decide (n ≥ 0)) && (decide (n ≤ 1099511627776))) = (inN n) by rfl))))) All2.nil)
abbrev uplus15 (a : Int) (b : Int) : List U := [.c (.d (dI (satAdd a b)))]
/-- headgate/headgateref15.Plus. -/
theorem ok_plus15 (a : Int) (b : Int) (ha_ : R64 a) (hb_ : R64 b) :
 FnOk Try.prog 81 [.c (.d (dI a)), .c (.d (dI b))] (fun r_ => r_ = I (satAdd a b)) := by
 refine FnOk.go Try.func81 rfl 24 ?_
 intro w0 m0
 show AC _ _ ⟨[(0, I a), (1, I b)], []⟩ _
 refine AC.q ⟨[(0, I a), (1, I b)], []⟩ ?_
 refine AC.seq ?_
 refine AC.rS [0, 1, 2, 3, 4, 5, 6, 7] ?_
 refine AOps.m [0, 1, 2] ⟨[(0, I a), (1, I b), (7, B (decide (b > 0)))], []⟩ ?_
 refine AOps.s [3, 4, 5, 6] 7 7 11 12 true (decide (b > 0)) (decide (a > (IntKind.i64.wrap ((9223372036854775807 : Int) - b)))) [0, 1] (fun h_ => ?_) ?_
 clear h_
 refine AOps.m [3, 4, 5, 6] ⟨[(0, I a), (1, I b), (7, B true), (11, B (decide (a > (IntKind.i64.wrap ((9223372036854775807 : Int) - b)))))], []⟩ ?_
 exact scd
 refine AOps.done ?_
 refine AC.cd (b := (decide (b > 0)) && (decide (a > (IntKind.i64.wrap ((9223372036854775807 : Int) - b))))) (fun h_ => ?_) (fun h_ => ?_)
 have h1 := h_; have r1 := h_; clear h_; try simp only [bb] at h1
 refine AC.q ⟨[(4, I 9223372036854775807)], []⟩ ?_
 refine AC.ret ?_
 exact rqr (uplus15 a b) (All2.cons (ULe.c (CLe.d (DLe.eq (congrArg dI (show (9223372036854775807) = (satAdd a b) by simp only [wrap_eq, RowKit.wrap64] at *; unfold satAdd; (repeat' split) <;> omega))))) All2.nil)
 have h1 := h_; have r1 := h_; clear h_; try simp only [bb] at h1
 refine AC.skip ?_
 refine AC.seq ?_
 refine AC.rS [0, 1, 2, 3, 4, 5, 6, 7] ?_
 refine AOps.m [0, 1, 2] ⟨[(0, I a), (1, I b), (15, B (decide (b < 0)))], []⟩ ?_
 refine AOps.s [3, 4, 5, 6] 7 15 19 20 true (decide (b < 0)) (decide (a < (IntKind.i64.wrap ((-9223372036854775808) - b)))) [0, 1] (fun h_ => ?_) ?_
 clear h_
 refine AOps.m [3, 4, 5, 6] ⟨[(0, I a), (1, I b), (15, B true), (19, B (decide (a < (IntKind.i64.wrap ((-9223372036854775808) - b)))))], []⟩ ?_
 exact scd
 refine AOps.done ?_
 refine AC.cd (b := (decide (b < 0)) && (decide (a < (IntKind.i64.wrap ((-9223372036854775808) - b))))) (fun h_ => ?_) (fun h_ => ?_)
 have h2 := h_; have r2 := h_; clear h_; try simp only [bb] at h2
 refine AC.q ⟨[(4, I (-9223372036854775808))], []⟩ ?_
 refine AC.ret ?_
 exact rqr (uplus15 a b) (All2.cons (ULe.c (CLe.d (DLe.eq (congrArg dI (show ((-9223372036854775808)) = (satAdd a b) by simp only [wrap_eq, RowKit.wrap64] at *; unfold satAdd; (repeat' split) <;> omega))))) All2.nil)
 have h2 := h_; have r2 := h_; clear h_; try simp only [bb] at h2
 refine AC.skip ?_
 refine AC.q ⟨[(4, I (IntKind.i64.wrap (a + b)))], []⟩ ?_
 refine AC.ret ?_
 exact rqr (uplus15 a b) (All2.cons (ULe.c (CLe.d (DLe.eq (congrArg dI (show (IntKind.i64.wrap (a + b)) = (satAdd a b) by simp only [wrap_eq, RowKit.wrap64] at *; unfold satAdd; (repeat' split) <;> omega))))) All2.nil)
abbrev uplus (a : Int) (b : Int) : List U := [.c (.d (dI (satAdd a b)))]
abbrev z93_0 (a : Int) (b : Int) : Nat × T := (5, I (IntKind.i64.wrap (a + b)))
/-- headgate/fold.plus. -/
theorem ok_plus (a : Int) (b : Int) (ha_ : R64 a) (hb_ : R64 b) :
 FnOk Try.prog 93 [.c (.d (dI a)), .c (.d (dI b))] (fun r_ => r_ = I (satAdd a b)) := by
 refine FnOk.go Try.func93 rfl 26 ?_
 intro w0 m0
 show AC _ _ ⟨[(0, I a), (1, I b)], []⟩ _
 refine AC.q ⟨[(0, I a), (1, I b)], []⟩ ?_
 refine AC.q ⟨[(0, I a), (1, I b), (z93_0 a b)], []⟩ ?_
 refine AC.block ?_
 refine AC.rS [0, 1, 2, 3, 4, 5, 6, 7] ?_
 refine AOps.m [0, 1, 2] ⟨[(0, I a), (1, I b), (z93_0 a b), (13, B (decide (b > 0)))], []⟩ ?_
 refine AOps.s [3, 4, 5] 6 13 16 17 true (decide (b > 0)) (decide ((IntKind.i64.wrap (a + b)) < a)) [0, 1, 5] (fun h_ => ?_) ?_
 clear h_
 refine AOps.m [3, 4, 5] ⟨[(0, I a), (1, I b), (z93_0 a b), (13, B true), (16, B (decide ((IntKind.i64.wrap (a + b)) < a)))], []⟩ ?_
 exact scd
 refine AOps.e ⟨[(0, I a), (1, I b), (z93_0 a b), (10, B ((decide (b > 0)) && (decide ((IntKind.i64.wrap (a + b)) < a))))], []⟩ ?_
 refine AC.cd (b := (decide (b > 0)) && (decide ((IntKind.i64.wrap (a + b)) < a))) (fun h_ => ?_) (fun h_ => ?_)
 have h1 := h_; have r1 := h_; clear h_; try simp only [bb] at h1
 refine AC.q ⟨[(4, I 9223372036854775807)], []⟩ ?_
 refine AC.ret ?_
 exact rqr (uplus a b) (All2.cons (ULe.c (CLe.d (DLe.eq (congrArg dI (show (9223372036854775807) = (satAdd a b) by simp only [wrap_eq, RowKit.wrap64] at *; unfold satAdd; (repeat' split) <;> omega))))) All2.nil)
 have h1 := h_; have r1 := h_; clear h_; try simp only [bb] at h1
 refine AC.rS [0, 1, 2, 3, 4, 5, 6, 7] ?_
 refine AOps.m [0, 1, 2] ⟨[(0, I a), (z93_0 a b), (21, B (decide (b < 0)))], []⟩ ?_
 refine AOps.s [3, 4, 5] 6 21 24 25 true (decide (b < 0)) (decide ((IntKind.i64.wrap (a + b)) > a)) [5] (fun h_ => ?_) ?_
 clear h_
 refine AOps.m [3, 4, 5] ⟨[(z93_0 a b), (21, B true), (24, B (decide ((IntKind.i64.wrap (a + b)) > a)))], []⟩ ?_
 exact scd
 refine AOps.e ⟨[(z93_0 a b), (18, B ((decide (b < 0)) && (decide ((IntKind.i64.wrap (a + b)) > a))))], []⟩ ?_
 refine AC.cd (b := (decide (b < 0)) && (decide ((IntKind.i64.wrap (a + b)) > a))) (fun h_ => ?_) (fun h_ => ?_)
 have h2 := h_; have r2 := h_; clear h_; try simp only [bb] at h2
 refine AC.q ⟨[(4, I (-9223372036854775808))], []⟩ ?_
 refine AC.ret ?_
 exact rqr (uplus a b) (All2.cons (ULe.c (CLe.d (DLe.eq (congrArg dI (show ((-9223372036854775808)) = (satAdd a b) by simp only [wrap_eq, RowKit.wrap64] at *; unfold satAdd; (repeat' split) <;> omega))))) All2.nil)
 have h2 := h_; have r2 := h_; clear h_; try simp only [bb] at h2
 refine AC.q ⟨[(4, I (IntKind.i64.wrap (a + b)))], []⟩ ?_
 refine AC.ret ?_
 exact rqr (uplus a b) (All2.cons (ULe.c (CLe.d (DLe.eq (congrArg dI (show (IntKind.i64.wrap (a + b)) = (satAdd a b) by simp only [wrap_eq, RowKit.wrap64] at *; unfold satAdd; (repeat' split) <;> omega))))) All2.nil)
abbrev usort15 (v : Int) : List U := [.c (.d (dI (sortOf v)))]
/-- headgate/headgateref15.Sort. -/
theorem ok_sort15 (v : Int) :
 FnOk Try.prog 82 [.c (.d (dI v))] (fun r_ => r_ = I (sortOf v)) := by
 refine FnOk.go Try.func82 rfl 9 ?_
 intro w0 m0
 show AC _ _ ⟨[(0, I v)], []⟩ _
 refine AC.q ⟨[(0, I v)], []⟩ ?_
 refine AC.seq ?_
 refine AC.q ⟨[(0, I v), (4, B (decide (v ≥ 100)))], []⟩ ?_
 refine AC.cd (b := decide (v ≥ 100)) (fun h_ => ?_) (fun h_ => ?_)
 have h1 := h_; have r1 := h_; clear h_; try simp only [bb] at h1
 refine AC.q ⟨[(2, I 3)], []⟩ ?_
 refine AC.ret ?_
 exact rqr (usort15 v) (All2.cons (ULe.c (CLe.d (DLe.eq (congrArg dI (show (3) = (sortOf v) by unfold sortOf; (repeat (first | rw [if_pos (by omega)] | rw [if_neg (by omega)]))))))) All2.nil)
 have h1 := h_; have r1 := h_; clear h_; try simp only [bb] at h1
 refine AC.skip ?_
 refine AC.seq ?_
 refine AC.q ⟨[(0, I v), (6, B (decide (v ≥ 10)))], []⟩ ?_
 refine AC.cd (b := decide (v ≥ 10)) (fun h_ => ?_) (fun h_ => ?_)
 have h2 := h_; have r2 := h_; clear h_; try simp only [bb] at h2
 refine AC.q ⟨[(2, I 2)], []⟩ ?_
 refine AC.ret ?_
 exact rqr (usort15 v) (All2.cons (ULe.c (CLe.d (DLe.eq (congrArg dI (show (2) = (sortOf v) by unfold sortOf; (repeat (first | rw [if_pos (by omega)] | rw [if_neg (by omega)]))))))) All2.nil)
 have h2 := h_; have r2 := h_; clear h_; try simp only [bb] at h2
 refine AC.skip ?_
 refine AC.seq ?_
 refine AC.q ⟨[(8, B (decide (v ≥ 0)))], []⟩ ?_
 refine AC.cd (b := decide (v ≥ 0)) (fun h_ => ?_) (fun h_ => ?_)
 have h3 := h_; have r3 := h_; clear h_; try simp only [bb] at h3
 refine AC.q ⟨[(2, I 1)], []⟩ ?_
 refine AC.ret ?_
 exact rqr (usort15 v) (All2.cons (ULe.c (CLe.d (DLe.eq (congrArg dI (show (1) = (sortOf v) by unfold sortOf; (repeat (first | rw [if_pos (by omega)] | rw [if_neg (by omega)]))))))) All2.nil)
 have h3 := h_; have r3 := h_; clear h_; try simp only [bb] at h3
 refine AC.skip ?_
 refine AC.q ⟨[(2, I 0)], []⟩ ?_
 refine AC.ret ?_
 exact rqr (usort15 v) (All2.cons (ULe.c (CLe.d (DLe.eq (congrArg dI (show (0) = (sortOf v) by unfold sortOf; (repeat (first | rw [if_pos (by omega)] | rw [if_neg (by omega)]))))))) All2.nil)
abbrev usort (v : Int) : List U := [.c (.d (dI (sortOf v)))]
/-- headgate/fold.Sort. -/
theorem ok_sort (v : Int) :
 FnOk Try.prog 94 [.c (.d (dI v))] (fun r_ => r_ = I (sortOf v)) := by
 refine FnOk.go Try.func94 rfl 12 ?_
 intro w0 m0
 show AC _ _ ⟨[(0, I v)], []⟩ _
 refine AC.q ⟨[(0, I v)], []⟩ ?_
 refine AC.seq ?_
 refine AC.block ?_
 refine AC.q ⟨[(0, I v), (3, B (decide (v < 0)))], []⟩ ?_
 refine AC.cd (b := decide (v < 0)) (fun h_ => ?_) (fun h_ => ?_)
 have h1 := h_; have r1 := h_; clear h_; try simp only [bb] at h1
 refine AC.q ⟨[(2, I 0)], []⟩ ?_
 refine AC.ret ?_
 exact rqr (usort v) (All2.cons (ULe.c (CLe.d (DLe.eq (congrArg dI (show (0) = (sortOf v) by unfold sortOf; (repeat (first | rw [if_pos (by omega)] | rw [if_neg (by omega)]))))))) All2.nil)
 have h1 := h_; have r1 := h_; clear h_; try simp only [bb] at h1
 refine AC.q ⟨[(0, I v), (6, B (decide (v < 10)))], []⟩ ?_
 refine AC.cd (b := decide (v < 10)) (fun h_ => ?_) (fun h_ => ?_)
 have h2 := h_; have r2 := h_; clear h_; try simp only [bb] at h2
 refine AC.q ⟨[(2, I 1)], []⟩ ?_
 refine AC.ret ?_
 exact rqr (usort v) (All2.cons (ULe.c (CLe.d (DLe.eq (congrArg dI (show (1) = (sortOf v) by unfold sortOf; (repeat (first | rw [if_pos (by omega)] | rw [if_neg (by omega)]))))))) All2.nil)
 have h2 := h_; have r2 := h_; clear h_; try simp only [bb] at h2
 refine AC.q ⟨[(9, B (decide (v < 100)))], []⟩ ?_
 refine AC.cd (b := decide (v < 100)) (fun h_ => ?_) (fun h_ => ?_)
 have h3 := h_; have r3 := h_; clear h_; try simp only [bb] at h3
 refine AC.q ⟨[(2, I 2)], []⟩ ?_
 refine AC.ret ?_
 exact rqr (usort v) (All2.cons (ULe.c (CLe.d (DLe.eq (congrArg dI (show (2) = (sortOf v) by unfold sortOf; (repeat (first | rw [if_pos (by omega)] | rw [if_neg (by omega)]))))))) All2.nil)
 have h3 := h_; have r3 := h_; clear h_; try simp only [bb] at h3
 refine AC.skip ?_
 refine AC.q ⟨[(2, I 3)], []⟩ ?_
 refine AC.ret ?_
 exact rqr (usort v) (All2.cons (ULe.c (CLe.d (DLe.eq (congrArg dI (show (3) = (sortOf v) by unfold sortOf; (repeat (first | rw [if_pos (by omega)] | rw [if_neg (by omega)]))))))) All2.nil)
abbrev uisnan : List U := [.c (.d (dB false))]
/-- cmp.isNaN[int]. -/
theorem ok_isnan (n : Int) :
 FnOk Try.prog 92 [.c (.d (dI n))] (fun r_ => r_ = B false) := by
 refine FnOk.go Try.func92 rfl 6 ?_
 intro w0 m0
 show AC _ _ ⟨[(0, I n)], []⟩ _
 refine AC.q ⟨[(0, I n)], []⟩ ?_
 refine AC.q ⟨[(2, B (n != n))], []⟩ ?_
 refine AC.ret ?_
 exact rqr uisnan (All2.cons (ULe.c (CLe.d (DLe.eq (congrArg dB (show (n != n) = (false) by simp))))) All2.nil)
abbrev ucompare (a : Int) (b : Int) : List U := [.c (.d (dI (cmpI a b)))]
/-- cmp.Compare[int]. -/
theorem ok_compare (a : Int) (b : Int) :
 FnOk Try.prog 80 [.c (.d (dI a)), .c (.d (dI b))] (fun r_ => r_ = I (cmpI a b)) := by
 refine FnOk.go Try.func80 rfl 20 ?_
 intro w0 m0
 show AC _ _ ⟨[(0, I a), (1, I b)], []⟩ _
 refine AC.q ⟨[(0, I a), (1, I b)], []⟩ ?_
 refine AC.rS [0, 1, 2] ?_
 refine AOps.m [0] ⟨[(0, I a), (1, I b), (7, I a)], []⟩ ?_
 refine AOps.ca (ok_isnan a) ?_
 rintro _ rfl
 refine AOps.e ⟨[(0, I a), (1, I b), (5, B false)], []⟩ ?_
 refine AC.rS [0, 1, 2] ?_
 refine AOps.m [0] ⟨[(0, I a), (1, I b), (5, B false), (9, I b)], []⟩ ?_
 refine AOps.ca (ok_isnan b) ?_
 rintro _ rfl
 refine AOps.e ⟨[(0, I a), (1, I b), (5, B false), (6, B false)], []⟩ ?_
 refine AC.seq ?_
 refine AC.q ⟨[(0, I a), (1, I b), (6, B false), (11, B false)], []⟩ ?_
 refine AC.cd (b := false) (fun h_ => ?_) (fun h_ => ?_)
 cases h_
 clear h_
 refine AC.skip ?_
 refine AC.seq ?_
 refine AC.q ⟨[(0, I a), (1, I b), (13, B false)], []⟩ ?_
 refine AC.cd (b := false) (fun h_ => ?_) (fun h_ => ?_)
 cases h_
 clear h_
 refine AC.skip ?_
 refine AC.seq ?_
 refine AC.q ⟨[(0, I a), (1, I b), (16, B (decide (a < b)))], []⟩ ?_
 refine AC.cd (b := decide (a < b)) (fun h_ => ?_) (fun h_ => ?_)
 have h1 := h_; have r1 := h_; clear h_; try simp only [bb] at h1
 refine AC.q ⟨[(4, I (-1))], []⟩ ?_
 refine AC.ret ?_
 exact rqr (ucompare a b) (All2.cons (ULe.c (CLe.d (DLe.eq (congrArg dI (show ((-1)) = (cmpI a b) by unfold cmpI; (repeat (first | rw [if_pos (by omega)] | rw [if_neg (by omega)]))))))) All2.nil)
 have h1 := h_; have r1 := h_; clear h_; try simp only [bb] at h1
 refine AC.skip ?_
 refine AC.seq ?_
 refine AC.q ⟨[(19, B (decide (a > b)))], []⟩ ?_
 refine AC.cd (b := decide (a > b)) (fun h_ => ?_) (fun h_ => ?_)
 have h2 := h_; have r2 := h_; clear h_; try simp only [bb] at h2
 refine AC.q ⟨[(4, I 1)], []⟩ ?_
 refine AC.ret ?_
 exact rqr (ucompare a b) (All2.cons (ULe.c (CLe.d (DLe.eq (congrArg dI (show (1) = (cmpI a b) by unfold cmpI; (repeat (first | rw [if_pos (by omega)] | rw [if_neg (by omega)]))))))) All2.nil)
 have h2 := h_; have r2 := h_; clear h_; try simp only [bb] at h2
 refine AC.skip ?_
 refine AC.q ⟨[(4, I 0)], []⟩ ?_
 refine AC.ret ?_
 exact rqr (ucompare a b) (All2.cons (ULe.c (CLe.d (DLe.eq (congrArg dI (show (0) = (cmpI a b) by unfold cmpI; (repeat (first | rw [if_pos (by omega)] | rw [if_neg (by omega)]))))))) All2.nil)
abbrev uzero : List U := [.agg ((eState zeroState).map .d)]
/-- headgate/engine.Zero. -/
theorem ok_zero  :
 FnOk Try.prog 15 [] (fun r_ => r_ = tA ((eState zeroState).map .d)) := by
 refine FnOk.go Try.func15 rfl 2 ?_
 intro w0 m0
 show AC _ _ ⟨[], []⟩ _
 refine AC.q ⟨[sp 0], [(0, .var ([.d (dI 0), .d (dI 0), .d (dI 0), .d (dI 0), .d (.v (.slice none 0 0))]))]⟩ ?_
 refine AC.q ⟨[sp 0], [(0, .var ([.d (dI (-1)), .d (dI 0), .d (dI 0), .d (dI 0), .d (.v (.slice none 0 0))]))]⟩ ?_
 refine AC.ret ?_
 refine rqr uzero (All2.cons (ULe.agg (All2.cons (CLe.d (DLe.eq (congrArg dI (show ((-1)) = (zeroState.Mark) from ?_)))) (All2.cons (CLe.d (DLe.eq (congrArg dI (show (0) = (zeroState.Late) from ?_)))) (All2.cons (CLe.d (DLe.eq (congrArg dI (show (0) = (zeroState.Bad) from ?_)))) (All2.cons (CLe.d (DLe.eq (congrArg dI (show (0) = (zeroState.N) from ?_)))) (All2.cons (CLe.d (DLe.nilrow (by rfl))) All2.nil)))))) All2.nil)
 iterate 4 (· rfl)
abbrev ufar (n : Int) (count : Int) : List U := [.c (.d (dI (farN n count))), .c (.d (dB (farOk n count)))]
/-- headgate/fold.far. -/
theorem ok_far (n : Int) (count : Int) (h0 : 0 ≤ count) (h1 : count ≤ 1099511627776) :
 FnOk Try.prog 78 [.c (.d (dI n)), .c (.d (dI count))] (fun r_ => r_ = .tup [.c (.d (dI (farN n count))), .c (.d (dB (farOk n count)))]) := by
 refine FnOk.go Try.func78 rfl 19 ?_
 intro w0 m0
 show AC _ _ ⟨[(0, I n), (1, I count)], []⟩ _
 refine AC.q ⟨[(0, I n), (1, I count)], []⟩ ?_
 refine AC.seq ?_
 refine AC.rS [0, 1, 2, 3, 4, 5, 6, 7, 8] ?_
 refine AOps.m [0, 1, 2, 3, 4] ⟨[(0, I n), (1, I count), (10, B (decide (n < (IntKind.i64.wrap (0 - count)))))], []⟩ ?_
 refine AOps.s [5, 6, 7] 8 10 13 14 false (decide (n < (IntKind.i64.wrap (0 - count)))) (decide (n > count)) [0] (fun h_ => ?_) ?_
 clear h_
 refine AOps.m [5, 6, 7] ⟨[(0, I n), (10, B false), (13, B (decide (n > count)))], []⟩ ?_
 exact scd
 refine AOps.done ?_
 refine AC.cd (b := (decide (n < (IntKind.i64.wrap (0 - count)))) || (decide (n > count))) (fun h_ => ?_) (fun h_ => ?_)
 have h1 := h_; have r1 := h_; clear h_; try simp only [bb] at h1
 refine AC.q ⟨[(4, I 0), (5, B false)], []⟩ ?_
 refine AC.ret ?_
 refine rqr (ufar n count) (All2.cons (ULe.c (CLe.d (DLe.eq (congrArg dI (show (0) = (farN n count) from ?_))))) (All2.cons (ULe.c (CLe.d (DLe.eq (congrArg dB (show (false) = (farOk n count) from ?_))))) All2.nil))
 iterate 2 (· (try simp only [wrap_eq, RowKit.wrap64] at *); simp only [farN, farOk]; first | ((repeat (first | rw [if_pos (by omega)] | rw [if_neg (by omega)])); done) | ((repeat (first | rw [if_pos (by omega)] | rw [if_neg (by omega)])); (try split) <;> omega) | (symm; simp only [decide_eq_true_eq, decide_eq_false_iff_not]; omega))
 have h1 := h_; have r1 := h_; clear h_; try simp only [bb] at h1
 refine AC.skip ?_
 refine AC.q ⟨[(4, I (if IntKind.i64.wrap (0 - n) > n then IntKind.i64.wrap (0 - n) else n)), (5, B true)], []⟩ ?_
 refine AC.ret ?_
 refine rqr (ufar n count) (All2.cons (ULe.c (CLe.d (DLe.eq (congrArg dI (show ((if IntKind.i64.wrap (0 - n) > n then IntKind.i64.wrap (0 - n) else n)) = (farN n count) from ?_))))) (All2.cons (ULe.c (CLe.d (DLe.eq (congrArg dB (show (true) = (farOk n count) from ?_))))) All2.nil))
 iterate 2 (· (try simp only [wrap_eq, RowKit.wrap64] at *); simp only [farN, farOk]; first | ((repeat (first | rw [if_pos (by omega)] | rw [if_neg (by omega)])); done) | ((repeat (first | rw [if_pos (by omega)] | rw [if_neg (by omega)])); (try split) <;> omega) | (symm; simp only [decide_eq_true_eq, decide_eq_false_iff_not]; omega))
abbrev uor (l : List Int) : List U := [.c (.d (dI (orI l)))]
/-- cmp.Or[int]. -/
theorem ok_or (l : List Int) (hll : l.length ≤ 1000000) :
 FnOk Try.prog 79 [.c (.d (row 1 eI 0 l))] (fun r_ => r_ = I (orI l)) := by
 refine FnOk.go Try.func79 rfl 18 ?_
 intro w0 m0
 show AC _ _ ⟨[(0, tD (row 1 eI 0 l))], []⟩ _
 refine AC.q ⟨[(0, tD (row 1 eI 0 l))], []⟩ ?_
 refine AC.q ⟨[(0, tD (row 1 eI 0 l)), (3, I 0)], []⟩ ?_
 refine AC.seq ?_
 refine AC.q ⟨[(3, I 0), (6, tD (row 1 eI 0 l)), (7, I (l.length : Int)), (8, I 0)], []⟩ ?_
 refine AC.block ?_
 refine AC.loop (ι := Nat) (fun i => ⟨[(3, I 0), (6, tD (row 1 eI 0 l)), (7, I (l.length : Int)), (8, I (i : Int))], []⟩) (fun i => (i ≤ l.length ∧ ∀ j, j < i → l.getD j 0 = 0)) (fun i => l.length - i) (0) (by refine ⟨by omega, fun j hj => ?_⟩; omega) (Le.of (lk rfl (lk rfl (lk rfl (LeS.cons rfl (TLe.i (by rfl)) LeS.nil)))) LeE.nil (by kernel_rfl)) ?_
 intro i hi_
 obtain ⟨i1, i2⟩ := hi_
 show AC _ _ ⟨[(3, I 0), (6, tD (row 1 eI 0 l)), (7, I (l.length : Int)), (8, I (i : Int))], []⟩ _
 refine AC.q ⟨[(3, I 0), (6, tD (row 1 eI 0 l)), (7, I (l.length : Int)), (8, I (i : Int)), (9, B (decide ((i : Int) < (l.length : Int))))], []⟩ ?_
 refine AC.seq ?_
 refine AC.cd (b := decide ((i : Int) < (l.length : Int))) (fun h_ => ?_) (fun h_ => ?_)
 have h1 := h_; have r1 := h_; clear h_; try simp only [bb] at h1
 refine AC.skip ?_
 refine AC.seq ?_
 refine AC.block ?_
 refine AC.rS [0, 1, 2] ?_
 refine AOps.ec (C' := (0 ≤ (i : Int) ∧ (i : Int) < (l.length : Int)) ∧ True) ⟨[(3, I 0), (5, I (l.getD i 0)), (6, tD (row 1 eI 0 l)), (7, I (l.length : Int)), (8, I (i : Int))], []⟩ (⟨by omega, trivial⟩) ?_
 refine AC.q ⟨[(3, I 0), (5, I (l.getD i 0)), (6, tD (row 1 eI 0 l)), (7, I (l.length : Int)), (8, I (i : Int)), (14, B ((l.getD i 0) != 0))], []⟩ ?_
 refine AC.cd (b := (l.getD i 0) != 0) (fun h_ => ?_) (fun h_ => ?_)
 have h2 := h_; have r2 := h_; clear h_; try simp only [bb] at h2
 refine AC.q ⟨[(2, I (l.getD i 0))], []⟩ ?_
 refine AC.ret ?_
 exact rqr (uor l) (All2.cons (ULe.c (CLe.d (DLe.eq (congrArg dI (show ((l.getD i 0)) = (orI l) by first | exact (orI_hit (by omega) i2 (by assumption)).symm | exact (orI_none (fun j hj => i2 j (by omega))).symm))))) All2.nil)
 have h2 := h_; have r2 := h_; clear h_; try simp only [bb] at h2
 refine AC.skip ?_
 refine AC.rR [0, 1] ?_
 refine AOps.m [0, 1] ⟨[(3, I 0), (6, tD (row 1 eI 0 l)), (7, I (l.length : Int)), (8, I (IntKind.i64.wrap ((i : Int) + 1)))], []⟩ ?_
 refine AOps.le (st' := ⟨[(3, I 0), (6, tD (row 1 eI 0 l)), (7, I (l.length : Int)), (8, I ((i + 1 : Nat) : Int))], []⟩) (Le.of (lk rfl (lk rfl (lk rfl (LeS.cons rfl (TLe.i (by rw [wrap_in (n := ((i : Int) + 1)) (by omega) (by omega)] <;> omega)) LeS.nil)))) LeE.nil (by kernel_rfl)) ?_
 refine AOps.done ?_
 try refine blockA_n ?_
 exact roundA_n (i + 1) (by refine ⟨by omega, fun j hj => ?_⟩; by_cases e : j = i; (subst e; assumption); exact i2 j (by omega)) (by show l.length - (i + 1) < l.length - i; omega) (Le.of (lk rfl (lk rfl (lk rfl (LeS.cons rfl (TLe.i (by omega)) LeS.nil)))) LeE.nil (by kernel_rfl))
 have h1 := h_; have r1 := h_; clear h_; try simp only [bb] at h1
 refine AC.exit ?_
 repeat (first | refine thenA_x ?_ | refine roundA_x ?_ | refine joinA_x ?_ | refine blockA_hit ?_ | refine blockA_miss (by decide) ?_)
 refine AC.q ⟨[(2, I 0)], []⟩ ?_
 refine AC.ret ?_
 exact rqr (uor l) (All2.cons (ULe.c (CLe.d (DLe.eq (congrArg dI (show (0) = (orI l) by first | exact (orI_hit (by omega) i2 (by assumption)).symm | exact (orI_none (fun j hj => i2 j (by omega))).symm))))) All2.nil)
end Go.Proofs.Ytfpmgnkbklnkaaa.Eng
end
section
set_option linter.unusedSimpArgs false
set_option linter.unusedVariables false
set_option maxRecDepth 100000
namespace Go.Proofs.Ytfpmgnkbklnkaaa.Eng
open Go Go.Proofs
abbrev uturn (v : Int) : List U := [.c (.d (.v (turnK (quarter v))))]
abbrev z95_0 (v : Int) : Nat × T := (5, I (bitsAnd .i64 v (3 : Int)))
/-- headgate/fold.turn. -/
theorem ok_turn (v : Int) (hv_ : R64 v) :
 FnOk Try.prog 95 [.c (.d (dI v))] (fun r_ => r_ = tD (.v (turnK (quarter v)))) := by
 have hq := quarter_and v hv_
 have hq4 := quarter_lt v
 refine FnOk.go Try.func95 rfl 12 ?_
 intro w0 m0
 show AC _ _ ⟨[(0, I v)], []⟩ _
 refine AC.q ⟨[(0, I v)], []⟩ ?_
 refine AC.q ⟨[(0, I v), (3, tD (.v (turnK 0)))], []⟩ ?_
 refine AC.seq ?_
 refine AC.q ⟨[(3, tD (.v (turnK 0))), (z95_0 v), (6, I 0)], []⟩ ?_
 refine AC.block ?_
 refine AC.loop (ι := Nat) (fun i => ⟨[(3, tD (.v (turnK i))), (z95_0 v), (6, I (i : Int))], []⟩) (fun i => (i ≤ quarter v)) (fun i => quarter v - i) (0) (by omega) (Le.of (lk rfl (lk rfl (LeS.cons rfl (TLe.i (by rfl)) LeS.nil))) LeE.nil (by kernel_rfl)) ?_
 intro i hi_
 have i1 : i ≤ quarter v := hi_; clear hi_
 show AC _ _ ⟨[(3, tD (.v (turnK i))), (z95_0 v), (6, I (i : Int))], []⟩ _
 refine AC.q ⟨[(3, tD (.v (turnK i))), (z95_0 v), (6, I (i : Int)), (7, B (decide ((i : Int) < (bitsAnd .i64 v (3 : Int)))))], []⟩ ?_
 refine AC.seq ?_
 refine AC.cd (b := decide ((i : Int) < (bitsAnd .i64 v (3 : Int)))) (fun h_ => ?_) (fun h_ => ?_)
 have h1 := h_; have r1 := h_; clear h_; try simp only [bb] at h1
 refine AC.skip ?_
 refine AC.seq ?_
 refine AC.block ?_
 have hk_ : i = 0 ∨ i = 1 ∨ i = 2 := by omega
 rcases hk_ with hk4_0 | hk4_1 | hk4_2
 refine AC.le (st' := ⟨[(3, tD (.v (turnK 0))), (z95_0 v), (6, I 0)], []⟩) (Le.of (LeS.cons rfl (TLe.one (ULe.c (CLe.d (DLe.eq (congrArg D.v ?_))))) (lk rfl (LeS.cons rfl (TLe.i ?_) LeS.nil))) LeE.nil (by kernel_rfl)) ?_
 iterate 2 (· first | omega | (simp only [hk4_0]; done) | (rw [hk4_0]) | (simp only [hk4_0]; rfl))
 refine AC.qR ⟨[(3, tD (.v (turnK 1))), (z95_0 v), (6, I 0)], []⟩ ?_
 refine AC.rR [0, 1] ?_
 refine AOps.m [0, 1] ⟨[(3, tD (.v (turnK 1))), (z95_0 v), (6, I (IntKind.i64.wrap ((0 : Int) + 1)))], []⟩ ?_
 refine AOps.le (st' := ⟨[(3, tD (.v (turnK 1))), (z95_0 v), (6, I ((0 + 1 : Nat) : Int))], []⟩) (Le.of (lk rfl (lk rfl (LeS.cons rfl (TLe.i (by rw [wrap_in (n := ((0 : Int) + 1)) (by omega) (by omega)] <;> omega)) LeS.nil))) LeE.nil (by kernel_rfl)) ?_
 refine AOps.done ?_
 try refine blockA_n ?_
 refine roundA_n (i + 1) (by omega) (by show quarter v - (i + 1) < quarter v - i; omega) (Le.of (LeS.cons rfl (TLe.one (ULe.c (CLe.d (DLe.eq (congrArg D.v ?_))))) (lk rfl (LeS.cons rfl (TLe.i ?_) LeS.nil))) LeE.nil (by kernel_rfl))
 iterate 2 (· first | omega | (simp only [hq]; omega) | (rw [hk4_0]) | (rw [hk4_1]) | (rw [hk4_2]))
 refine AC.le (st' := ⟨[(3, tD (.v (turnK 1))), (z95_0 v), (6, I 1)], []⟩) (Le.of (LeS.cons rfl (TLe.one (ULe.c (CLe.d (DLe.eq (congrArg D.v ?_))))) (lk rfl (LeS.cons rfl (TLe.i ?_) LeS.nil))) LeE.nil (by kernel_rfl)) ?_
 iterate 2 (· first | omega | (simp only [hk4_1]; done) | (rw [hk4_1]) | (simp only [hk4_1]; rfl))
 refine AC.qR ⟨[(3, tD (.v (turnK 2))), (z95_0 v), (6, I 1)], []⟩ ?_
 refine AC.rR [0, 1] ?_
 refine AOps.m [0, 1] ⟨[(3, tD (.v (turnK 2))), (z95_0 v), (6, I (IntKind.i64.wrap ((1 : Int) + 1)))], []⟩ ?_
 refine AOps.le (st' := ⟨[(3, tD (.v (turnK 2))), (z95_0 v), (6, I ((1 + 1 : Nat) : Int))], []⟩) (Le.of (lk rfl (lk rfl (LeS.cons rfl (TLe.i (by rw [wrap_in (n := ((1 : Int) + 1)) (by omega) (by omega)] <;> omega)) LeS.nil))) LeE.nil (by kernel_rfl)) ?_
 refine AOps.done ?_
 try refine blockA_n ?_
 refine roundA_n (i + 1) (by omega) (by show quarter v - (i + 1) < quarter v - i; omega) (Le.of (LeS.cons rfl (TLe.one (ULe.c (CLe.d (DLe.eq (congrArg D.v ?_))))) (lk rfl (LeS.cons rfl (TLe.i ?_) LeS.nil))) LeE.nil (by kernel_rfl))
 iterate 2 (· first | omega | (simp only [hq]; omega) | (rw [hk4_0]) | (rw [hk4_1]) | (rw [hk4_2]))
 refine AC.le (st' := ⟨[(3, tD (.v (turnK 2))), (z95_0 v), (6, I 2)], []⟩) (Le.of (LeS.cons rfl (TLe.one (ULe.c (CLe.d (DLe.eq (congrArg D.v ?_))))) (lk rfl (LeS.cons rfl (TLe.i ?_) LeS.nil))) LeE.nil (by kernel_rfl)) ?_
 iterate 2 (· first | omega | (simp only [hk4_2]; done) | (rw [hk4_2]) | (simp only [hk4_2]; rfl))
 refine AC.qR ⟨[(3, tD (.v (turnK 3))), (z95_0 v), (6, I 2)], []⟩ ?_
 refine AC.rR [0, 1] ?_
 refine AOps.m [0, 1] ⟨[(3, tD (.v (turnK 3))), (z95_0 v), (6, I (IntKind.i64.wrap ((2 : Int) + 1)))], []⟩ ?_
 refine AOps.le (st' := ⟨[(3, tD (.v (turnK 3))), (z95_0 v), (6, I ((2 + 1 : Nat) : Int))], []⟩) (Le.of (lk rfl (lk rfl (LeS.cons rfl (TLe.i (by rw [wrap_in (n := ((2 : Int) + 1)) (by omega) (by omega)] <;> omega)) LeS.nil))) LeE.nil (by kernel_rfl)) ?_
 refine AOps.done ?_
 try refine blockA_n ?_
 refine roundA_n (i + 1) (by omega) (by show quarter v - (i + 1) < quarter v - i; omega) (Le.of (LeS.cons rfl (TLe.one (ULe.c (CLe.d (DLe.eq (congrArg D.v ?_))))) (lk rfl (LeS.cons rfl (TLe.i ?_) LeS.nil))) LeE.nil (by kernel_rfl))
 iterate 2 (· first | omega | (simp only [hq]; omega) | (rw [hk4_0]) | (rw [hk4_1]) | (rw [hk4_2]))
 have h1 := h_; have r1 := h_; clear h_; try simp only [bb] at h1
 refine AC.exit ?_
 repeat (first | refine thenA_x ?_ | refine roundA_x ?_ | refine joinA_x ?_ | refine blockA_hit ?_ | refine blockA_miss (by decide) ?_)
 refine AC.q ⟨[(2, tD (.v (turnK i)))], []⟩ ?_
 refine AC.ret ?_
 exact rqr (uturn v) (All2.cons (ULe.c (CLe.d (DLe.eq (congrArg D.v (show (turnK i) = (turnK (quarter v)) by congr 1; omega))))) All2.nil)
end Go.Proofs.Ytfpmgnkbklnkaaa.Eng
end
