/- Part 7 of the engine that steps through the program, of the plain words and of what the program's functions come to; no condition. -/
import Derived.Test.YtfpmgnkbklnkaaaProg
import Derived.Test.YtfpmgnkbklnkaaaK6
section
set_option linter.unusedSimpArgs false
set_option linter.unusedVariables false
set_option maxRecDepth 100000
set_option maxHeartbeats 4000000
namespace Go.Proofs.Ytfpmgnkbklnkaaa.Eng
open Go Go.Proofs
abbrev uin06 (n : Int) : List U := [.c (.d (dB (inN n)))]
/-- headgate/headgateref06.In. -/
theorem ok_in06 (n : Int) :
 FnOk Try.prog 50 [.c (.d (dI n))] (fun r_ => r_ = B (inN n)) := by
 refine FnOk.go Try.func50 rfl 9 ?_
 intro w0 m0
 show AC _ _ ⟨[(0, I n)], []⟩ _
 refine AC.q ⟨[(0, I n)], []⟩ ?_
 refine AC.rS [0, 1, 2, 3, 4, 5, 6] ?_
 refine AOps.m [0, 1, 2] ⟨[(0, I n), (5, B (decide (n ≥ 0)))], []⟩ ?_
 refine AOps.s [3, 4] 5 5 7 8 true (decide (n ≥ 0)) (decide (n ≤ 1099511627776)) [] (fun h_ => ?_) ?_
 clear h_
 refine AOps.m [3, 4] ⟨[(5, B true), (7, B (decide (n ≤ 1099511627776)))], []⟩ ?_
 exact scd
 refine AOps.e ⟨[(2, B ((decide (n ≥ 0)) && (decide (n ≤ 1099511627776))))], []⟩ ?_
 refine AC.ret ?_
 exact rqr (uin06 n) (All2.cons (ULe.c (CLe.d (DLe.eq (congrArg dB (show ((decide (n ≥ 0)) && (decide (n ≤ 1099511627776))) = (inN n) by rfl))))) All2.nil)
end Go.Proofs.Ytfpmgnkbklnkaaa.Eng
end
section
set_option linter.unusedSimpArgs false
set_option linter.unusedVariables false
set_option maxRecDepth 100000
set_option maxHeartbeats 4000000
namespace Go.Proofs.Ytfpmgnkbklnkaaa.Eng
open Go Go.Proofs
abbrev umayrecord (r : Rec) : List U := [.c (.d (dB (((decide (r.Key ≥ 0) && decide (r.Key ≤ 1048576)) && inN r.Time) && decide ((r.Text.size : Int) ≤ 512))))]
abbrev z26_0 (r : Rec) : Nat × Blk := (1, .var ((eRec r).map .d))
/-- headgate/headgateref06.MayRecord. -/
theorem ok_mayrecord (r : Rec) :
 FnOk Try.prog 26 [.agg ((eRec r).map .d)] (fun r_ => r_ = B (((decide (r.Key ≥ 0) && decide (r.Key ≤ 1048576)) && inN r.Time) && decide ((r.Text.size : Int) ≤ 512))) := by
 refine FnOk.go Try.func26 rfl 22 ?_
 intro w0 m0
 show AC _ _ ⟨[(0, tA ((eRec r).map .d))], []⟩ _
 refine AC.q ⟨[sp 1], [(z26_0 r)]⟩ ?_
 refine AC.rS [0, 1, 2, 3, 4, 5, 6, 7, 8, 9, 10, 11, 12, 13, 14, 15, 16, 17, 18, 19] ?_
 refine AOps.m [0, 1, 2, 3] ⟨[sp 1, (6, B (decide (r.Key ≥ 0)))], [(z26_0 r)]⟩ ?_
 refine AOps.s [4, 5, 6] 7 6 9 10 true (decide (r.Key ≥ 0)) (decide (r.Key ≤ 1048576)) [1] (fun h_ => ?_) ?_
 clear h_
 refine AOps.m [4, 5, 6] ⟨[sp 1, (6, B true), (9, B (decide (r.Key ≤ 1048576)))], [(z26_0 r)]⟩ ?_
 exact scd
 refine AOps.m [8] ⟨[sp 1, (11, B ((decide (r.Key ≥ 0)) && (decide (r.Key ≤ 1048576))))], [(z26_0 r)]⟩ ?_
 refine AOps.s [9, 10, 11] 12 11 14 15 true ((decide (r.Key ≥ 0)) && (decide (r.Key ≤ 1048576))) (inN r.Time) [1] (fun h_ => ?_) ?_
 clear h_
 refine AOps.m [9, 10] ⟨[sp 1, (11, B true), (13, I r.Time)], [(z26_0 r)]⟩ ?_
 refine AOps.ca (ok_in06 r.Time) ?_
 rintro _ rfl
 exact scd
 refine AOps.m [13] ⟨[sp 1, (16, B (((decide (r.Key ≥ 0)) && (decide (r.Key ≤ 1048576))) && (inN r.Time)))], [(z26_0 r)]⟩ ?_
 refine AOps.s [14, 15, 16, 17] 18 16 20 21 true (((decide (r.Key ≥ 0)) && (decide (r.Key ≤ 1048576))) && (inN r.Time)) (decide ((r.Text.size : Int) ≤ 512)) [] (fun h_ => ?_) ?_
 clear h_
 refine AOps.m [14, 15, 16, 17] ⟨[(16, B true), (20, B (decide ((r.Text.size : Int) ≤ 512)))], [(z26_0 r)]⟩ ?_
 exact scd
 refine AOps.e ⟨[(2, B ((((decide (r.Key ≥ 0)) && (decide (r.Key ≤ 1048576))) && (inN r.Time)) && (decide ((r.Text.size : Int) ≤ 512))))], []⟩ ?_
 refine AC.ret ?_
 exact rqr (umayrecord r) (All2.cons (ULe.c (CLe.d (DLe.eq (congrArg dB (show ((((decide (r.Key ≥ 0)) && (decide (r.Key ≤ 1048576))) && (inN r.Time)) && (decide ((r.Text.size : Int) ≤ 512))) = (((decide (r.Key ≥ 0) && decide (r.Key ≤ 1048576)) && inN r.Time) && decide ((r.Text.size : Int) ≤ 512)) by rfl))))) All2.nil)
end Go.Proofs.Ytfpmgnkbklnkaaa.Eng
end
section
set_option linter.unusedSimpArgs false
set_option linter.unusedVariables false
namespace Go.Proofs.Ytfpmgnkbklnkaaa.Eng
open Go
/-! #### a number more -/
theorem quart_abs (v : Int) : ((quartRe v).natAbs : Int) + (quartIm v).natAbs = 1 := by
  unfold quartRe quartIm
  have := quarter_lt v
  rcases (show quarter v = 0 ∨ quarter v = 1 ∨ quarter v = 2 ∨ quarter v = 3 by omega) with e | e | e | e <;> rw [e] <;> decide
theorem satAdd_mid {a b : Int} (h : -9223372036854775808 ≤ a + b) (k : a + b ≤ 9223372036854775807) : satAdd a b = a + b := by unfold satAdd; rw [if_neg (by omega), if_neg (by omega)]
/-- A fold that may be, or none. -/
def aggOk (a : Agg) : Prop := a = zAgg ∨ aggMay a = true
theorem agg_step {a : Agg} {v : Int} (h : aggOk a) (hn : a.Count ≤ 1000000) : aggMay (aggAdd a v) = true ∧ (aggAdd a v).Count = a.Count + 1 := by
  have q := quart_abs v
  have hm : 0 ≤ a.Count ∧ (a.Count = 0 ∨ a.Min ≤ a.Max) ∧ 0 ≤ a.Hist.h0 ∧ 0 ≤ a.Hist.h1 ∧ 0 ≤ a.Hist.h2 ∧ 0 ≤ a.Hist.h3 ∧ a.Hist.h0 + a.Hist.h1 + a.Hist.h2 + a.Hist.h3 = a.Count ∧ (a.Re.natAbs : Int) + a.Im.natAbs ≤ a.Count := by
    rcases h with rfl | h
    · decide
    · have := aggMay_spec h; exact ⟨by omega, .inr this.2.2.1, this.2.2.2.1, this.2.2.2.2.1, this.2.2.2.2.2.1, this.2.2.2.2.2.2.1, this.2.2.2.2.2.2.2.1, this.2.2.2.2.2.2.2.2⟩
  obtain ⟨h0, h1, h2, h3, h4, h5, h6, h7⟩ := hm
  have e : (aggAdd a v).Count = a.Count + 1 := by show satAdd a.Count 1 = _; exact satAdd_mid (by omega) (by omega)
  refine ⟨?_, e⟩
  have e1 : (aggAdd a v).Re = a.Re + quartRe v := by show satAdd _ _ = _; exact satAdd_mid (by omega) (by omega)
  have e2 : (aggAdd a v).Im = a.Im + quartIm v := by show satAdd _ _ = _; exact satAdd_mid (by omega) (by omega)
  simp only [aggMay, decide_eq_true_eq, e, e1, e2]
  have hmm : (aggAdd a v).Min ≤ (aggAdd a v).Max := by
    show (if a.Count = 0 then v else min a.Min v) ≤ (if a.Count = 0 then v else max a.Max v)
    split <;> omega
  have hh : 0 ≤ (aggAdd a v).Hist.h0 ∧ 0 ≤ (aggAdd a v).Hist.h1 ∧ 0 ≤ (aggAdd a v).Hist.h2 ∧ 0 ≤ (aggAdd a v).Hist.h3 ∧ (aggAdd a v).Hist.h0 + (aggAdd a v).Hist.h1 + (aggAdd a v).Hist.h2 + (aggAdd a v).Hist.h3 = a.Count + 1 := by
    simp only [aggAdd]
    rcases sortOf_cases v with c | c | c | c <;> rw [c] <;> simp only [hset, hget] <;> rw [satAdd_mid (by omega) (by omega)] <;> omega
  exact ⟨by omega, by omega, hmm, hh.1, hh.2.1, hh.2.2.1, hh.2.2.2.1, hh.2.2.2.2, by omega⟩
/-! #### windows -/
theorem putC_mem' {key start v : Int} : ∀ {l : List Cell} {c : Cell}, c ∈ putC key start v l → c ∈ l ∨ c = ⟨key, start, aggAdd zAgg v⟩ ∨ ∃ d ∈ l, d.Key = key ∧ d.Start = start ∧ c = ⟨key, start, aggAdd d.A v⟩
  | [], c, h => by simp only [putC, List.mem_singleton] at h; exact .inr (.inl h)
  | d :: r, c, h => by
    rw [putC] at h
    split at h
    · rcases List.mem_cons.1 h with rfl | h
      · exact .inl (by simp)
      · rcases putC_mem' h with h1 | h1 | ⟨e, he, h1⟩
        · exact .inl (by simp [h1])
        · exact .inr (.inl h1)
        · exact .inr (.inr ⟨e, by simp [he], h1⟩)
    · rename_i h1
      split at h
      · rcases List.mem_cons.1 h with rfl | h
        · exact .inr (.inl rfl)
        · exact .inl h
      · rename_i h2
        have e := ahead_neither (a := d) (b := newCell key start) (by simpa using h1) (by simpa using h2)
        have e1 : d.Start = start := e.1
        have e2 : d.Key = key := e.2
        rcases List.mem_cons.1 h with rfl | h
        · exact .inr (.inr ⟨d, by simp, e2, e1, by rw [e1, e2]⟩)
        · exact .inl (by simp [h])
/-- What a window is like when n records have come. -/
structure CellOk (g : Grid) (mark : Int) (n : Nat) (c : Cell) : Prop where
  key : inN c.Key = true ∧ c.Key ≤ 1048576
  start : inN c.Start = true ∧ Int.tmod c.Start g.Hop = 0 ∧ c.Start ≤ mark
  may : aggMay c.A = true
  cnt : c.A.Count ≤ n
theorem CellOk.up {g : Grid} {m m' : Int} {n n' : Nat} {c : Cell} (h : CellOk g m n c) (hm : m ≤ m') (hn : n ≤ n') : CellOk g m' n' c := ⟨h.key, ⟨h.start.1, h.start.2.1, by have := h.start.2.2; omega⟩, h.may, by have := h.cnt; omega⟩
theorem stF_b {g : Grid} (hg : gridMay g = true) {t : Int} (h0 : 0 ≤ t) {k : Nat} (hk : k < (Int.tdiv g.Size g.Hop).toNat) : stF g t k ≤ t ∧ t < stF g t k + g.Size ∧ (0 ≤ stF g t k → Int.tmod (stF g t k) g.Hop = 0) := by
  obtain ⟨K, k1, k2, k3, k4⟩ := gridK hg
  have hs := gridMay_spec hg
  rw [k3] at hk
  have hb := tmod_b h0 hs.2.2.1
  have e1 : ((k : Int) + 1) * g.Hop ≤ (K : Int) * g.Hop := Int.mul_le_mul_of_nonneg_right (by omega) (by omega)
  have e2 : g.Hop ≤ ((k : Int) + 1) * g.Hop := by
    have := Int.mul_le_mul_of_nonneg_right (show (1 : Int) ≤ (k : Int) + 1 by omega) (show 0 ≤ g.Hop by omega)
    omega
  have e3 : g.Hop * ((k : Int) + 1) = ((k : Int) + 1) * g.Hop := Int.mul_comm _ _
  refine ⟨by unfold stF; omega, by unfold stF; omega, fun hp => ?_⟩
  have hd : g.Hop ∣ stF g t k := by
    unfold stF
    rw [k4]
    have h1 : g.Hop ∣ t - Int.tmod t g.Hop := by
      have := Int.tmod_add_mul_tdiv t g.Hop
      exact ⟨Int.tdiv t g.Hop, by omega⟩
    exact Int.dvd_add (Int.dvd_sub h1 ⟨K, Int.mul_comm _ _⟩) ⟨_, rfl⟩
  exact Int.tmod_eq_zero_of_dvd hd
theorem starts_mem {g : Grid} {t x : Int} (h : x ∈ gridStarts g t) : timeOk g t = true ∧ 0 ≤ x ∧ x ≤ t ∧ t < x + g.Size ∧ Int.tmod x g.Hop = 0 := by
  unfold gridStarts at h
  split at h
  · rename_i ht
    have ht' := ht
    simp only [timeOk, Bool.and_eq_true, decide_eq_true_eq] at ht'
    simp only [startsTo, List.mem_filter, List.mem_map, List.mem_range, decide_eq_true_eq] at h
    obtain ⟨⟨k, hk, rfl⟩, hp⟩ := h
    have := stF_b ht'.1.1 ht'.1.2 hk
    exact ⟨ht, hp, this.1, this.2.1, this.2.2 hp⟩
  · cases h
theorem takeTo_ok {g : Grid} {mark key v : Int} {n : Nat} (hn : n ≤ 1000) (hk : inN key = true ∧ key ≤ 1048576) : ∀ (starts : List Int) {l : List Cell}, starts.Nodup → l.Pairwise (fun a b => ahead a b = true) →
    (∀ c ∈ l, CellOk g mark (if c.Key = key ∧ c.Start ∈ starts then n else n + 1) c) → (∀ x ∈ starts, inN x = true ∧ Int.tmod x g.Hop = 0 ∧ x ≤ mark) →
    ∀ c ∈ starts.foldl (fun a at_ => putC key at_ v a) l, CellOk g mark (n + 1) c
  | [], l, _, _, h, _, c, hc => by have := h c hc; simpa using this
  | x :: r, l, hnd, hpw, h, hx, c, hc => by
    obtain ⟨hnd1, hnd2⟩ := List.nodup_cons.1 hnd
    refine takeTo_ok hn hk r hnd2 (putC_pw hpw) (fun d hd => ?_) (fun y hy => hx y (by simp [hy])) c hc
    have hx0 := hx x (by simp)
    rcases putC_mem' hd with hd | rfl | ⟨e, he, e1, e2, rfl⟩
    · refine (h d hd).up (Int.le_refl _) ?_
      by_cases e : d.Key = key ∧ d.Start ∈ r
      · rw [if_pos e, if_pos ⟨e.1, by simp [e.2]⟩]; exact Nat.le_refl _
      · rw [if_neg e]; split <;> omega
    · have hs := agg_step (a := zAgg) (v := v) (.inl rfl) (by decide)
      refine ⟨hk, hx0, hs.1, ?_⟩
      have h0 : zAgg.Count = 0 := rfl
      show (aggAdd zAgg v).Count ≤ _
      rw [hs.2, h0, if_neg (fun hh => hnd1 hh.2)]
      omega
    · have h1 := h e he
      rw [if_pos ⟨e1, by simp [e2]⟩] at h1
      have hs := agg_step (a := e.A) (v := v) (.inr h1.may) (by have := h1.cnt; omega)
      refine ⟨hk, hx0, hs.1, ?_⟩
      show (aggAdd e.A v).Count ≤ _
      rw [hs.2, if_neg (fun hh => hnd1 hh.2)]
      have := h1.cnt; omega
theorem stF_inj {g : Grid} (hg : gridMay g = true) {t : Int} {j k : Nat} (h : stF g t j = stF g t k) : j = k := by
  have hs := gridMay_spec hg
  unfold stF at h
  have h1 : g.Hop * ((j : Int) + 1) = g.Hop * ((k : Int) + 1) := by omega
  have := Int.eq_of_mul_eq_mul_left (by omega) h1
  omega
theorem starts_nodup (g : Grid) (t : Int) : (gridStarts g t).Nodup := by
  unfold gridStarts
  split
  · rename_i h
    simp only [timeOk, Bool.and_eq_true] at h
    refine List.Pairwise.filter _ ?_
    rw [List.pairwise_map]
    exact List.pairwise_iff_getElem.2 fun i j hi hj hij e => by
      have := stF_inj h.1.1 e
      simp at this; omega
  · exact List.nodup_nil
theorem closed_up {g : Grid} {x m m' : Int} (h : gridClosed g x m = true) (hm : m ≤ m') : gridClosed g x m' = true := by
  simp only [gridClosed, Bool.and_eq_true, decide_eq_true_eq] at *
  exact ⟨⟨h.1.1, by omega⟩, by omega⟩
/-! #### a state that n records have left -/
structure StOk (g : Grid) (n : Nat) (s : State) : Prop where
  grid : gridMay g = true
  mark : s.Mark = -1 ∨ inN s.Mark = true
  late : 0 ≤ s.Late
  bad : 0 ≤ s.Bad
  cnt : s.N = n
  sum : s.Late + s.Bad ≤ s.N
  len : s.L.length ≤ 64
  cells : ∀ c ∈ s.L, CellOk g s.Mark n c ∧ gridClosed g c.Start s.Mark = false
  srt : s.L.Pairwise fun a b => ahead a b = true
theorem StOk.may {g : Grid} {n : Nat} {s : State} (h : StOk g n s) (hn : n ≤ 1000) : stateMay g s = true := by
  have h1 := h.grid; have h2 := h.mark; have h3 := h.late; have h4 := h.bad; have h5 := h.cnt; have h6 := h.sum; have h7 := h.len; have h8 := h.cells; have h9 := h.srt
  refine stateMay_iff.2 ⟨?_, fun j hj => ⟨?_, ?_⟩⟩
  · simp only [headMay, Bool.and_eq_true, Bool.or_eq_true, beq_iff_eq, decide_eq_true_eq, inN, ge_iff_le]
    refine ⟨⟨⟨⟨⟨⟨h1, ?_⟩, ?_⟩, ?_⟩, ?_⟩, by omega⟩, by omega⟩
    · rcases h2 with h2 | h2
      · exact .inl h2
      · exact .inr (by simpa [inN] using h2)
    all_goals omega
  · obtain ⟨hc, hcl⟩ := h8 _ (getD_mem zCell hj)
    simp only [mayCell, Bool.and_eq_true, decide_eq_true_eq, beq_iff_eq, Bool.not_eq_true']
    exact ⟨⟨⟨⟨⟨⟨hc.key.1, hc.key.2⟩, hc.start.1⟩, hc.start.2.1⟩, hc.start.2.2⟩, hcl⟩, hc.may⟩
  · simp only [aheadAt, Bool.or_eq_true, beq_iff_eq]
    by_cases e : j = 0
    · exact .inl e
    · exact .inr (srt_pw.2 h9 (j - 1) j (by omega) hj)
theorem StOk.zero {g : Grid} (hg : gridMay g = true) : StOk g 0 zeroState := ⟨hg, .inl rfl, by decide, by decide, rfl, by decide, by decide, (by intro c hc; cases hc), List.Pairwise.nil⟩
theorem mark_le (s : State) (r : Rec) : s.Mark ≤ feedMark s r ∧ r.Time ≤ feedMark s r := by unfold feedMark; split <;> omega
theorem openS_mem {g : Grid} {s : State} {r : Rec} {x : Int} (h : x ∈ openS g s r) : x ∈ gridStarts g r.Time ∧ gridClosed g x s.Mark = false := by
  simp only [openS, List.mem_filter, cloI, Bool.not_eq_true'] at h; exact h
theorem feedL_eq (g : Grid) (s : State) (r : Rec) : feedL g s r = if feedDrop g s r then s.L else (openS g s r).foldl (fun a at_ => putC r.Key at_ (valN r) a) s.L := by
  unfold feedL; rw [putOpen_eq]; simp only [takeTo, List.take_length]
theorem putF_pw {key v : Int} : ∀ (st : List Int) {l : List Cell}, l.Pairwise (fun a b => ahead a b = true) → (st.foldl (fun a at_ => putC key at_ v a) l).Pairwise (fun a b => ahead a b = true)
  | [], _, h => h
  | _ :: r, _, h => putF_pw r (putC_pw h)
theorem putF_mem {key v : Int} : ∀ (st : List Int) {l : List Cell} {c : Cell}, c ∈ st.foldl (fun a at_ => putC key at_ v a) l → (c.Start ∈ st ∧ c.Key = key) ∨ ∃ d ∈ l, c.Start = d.Start ∧ c.Key = d.Key
  | [], _, c, h => .inr ⟨c, h, rfl, rfl⟩
  | x :: r, l, c, h => by
    rcases putF_mem r h with h | ⟨d, hd, e1, e2⟩
    · exact .inl ⟨by simp [h.1], h.2⟩
    · rcases putC_mem hd with ⟨e3, e4⟩ | ⟨e, he, e3, e4⟩
      · exact .inl ⟨by rw [e1, e3]; simp, e2.trans e4⟩
      · exact .inr ⟨e, he, e1.trans e3, e2.trans e4⟩
/-- What stands behind a record that is taken, ahead of what is told. -/
theorem feedL_ok {g : Grid} {n : Nat} {s : State} {r : Rec} (h : StOk g n s) (hn : n ≤ 1000) (hr : recMay r = true) :
    (∀ c ∈ feedL g s r, CellOk g (feedMark s r) (n + 1) c) ∧ (feedL g s r).Pairwise (fun a b => ahead a b = true) ∧ (feedL g s r).length ≤ 64 ∧
    ∀ c ∈ feedL g s r, gridClosed g c.Start s.Mark = false := by
  have hm := mark_le s r
  simp only [recMay, Bool.and_eq_true, decide_eq_true_eq] at hr
  rw [feedL_eq]
  cases hd : feedDrop g s r with
  | true =>
    rw [if_pos rfl]
    exact ⟨fun c hc => (h.cells c hc).1.up hm.1 (by omega), h.srt, h.len, fun c hc => (h.cells c hc).2⟩
  | false =>
    rw [if_neg (by decide)]
    refine ⟨?_, putF_pw _ h.srt, ?_, ?_⟩
    · refine takeTo_ok hn hr.1 _ (List.Pairwise.filter _ (starts_nodup g r.Time)) h.srt (fun c hc => (h.cells c hc).1.up hm.1 (by split <;> omega)) (fun x hx => ?_)
      have hx' := starts_mem (openS_mem hx).1
      have := inN_b hr.2
      exact ⟨by simp only [inN, Bool.and_eq_true, decide_eq_true_eq]; omega, hx'.2.2.2.2, by omega⟩
    · have hf : feedDrop g s r = false := hd
      unfold feedDrop at hf
      rw [putOpen_eq] at hf
      simp only [Bool.or_eq_false_iff, decide_eq_false_iff_not, takeTo, List.take_length] at hf
      omega
    · intro c hc
      rcases putF_mem _ hc with ⟨hx, _⟩ | ⟨d, hd2, e1, _⟩
      · exact (openS_mem hx).2
      · rw [e1]; exact (h.cells d hd2).2
theorem drop_late {g : Grid} {n : Nat} {s : State} {r : Rec} (h : StOk g n s) : (0 : Int) ≤ (if feedDrop g s r then s.Late + 1 else s.Late) ∧ (if feedDrop g s r then s.Late + 1 else s.Late) ≤ s.Late + 1 := by
  have := h.late
  split <;> omega
theorem StOk.feed {g : Grid} {n : Nat} {s : State} {r : Rec} (h : StOk g n s) (hn : n ≤ 1000) (he : feedErr g s r = 0) : StOk g (n + 1) (feedSt g s r) := by
  have hr : recMay r = true := by have := feedErr_may he; simp only [feedMay, Bool.and_eq_true] at this; exact this.2
  have hF := feedL_ok h hn hr
  have hm := mark_le s r
  have hs := h.sum; have hc := h.cnt; have hb := h.bad; have hl := h.late
  unfold feedSt
  rw [if_pos he]
  split
  · have hd := drop_late (r := r) h
    refine ⟨h.grid, ?_, hd.1, hb, by simp only; omega, by simp only; omega, Nat.le_trans (List.length_filter_le _ _) hF.2.2.1, fun c hc => ?_, hF.2.1.filter _⟩
    · simp only [recMay, Bool.and_eq_true] at hr
      show feedMark s r = -1 ∨ inN (feedMark s r) = true
      unfold feedMark; split
      · exact .inr hr.2
      · exact h.mark
    · obtain ⟨h1, h2⟩ := List.mem_filter.1 hc
      exact ⟨hF.1 c h1, by simpa using h2⟩
  · exact ⟨h.grid, h.mark, hl, by simp only; omega, by simp only; omega, by simp only; omega, h.len, fun c hc => ⟨(h.cells c hc).1.up (Int.le_refl _) (by omega), (h.cells c hc).2⟩, h.srt⟩
theorem zero_may (g : Grid) : stateMay g zeroState = gridMay g := by
  rw [Bool.eq_iff_iff]
  constructor
  · intro h; exact (headMay_spec (stateMay_iff.1 h).1).1
  · intro h; exact (StOk.zero h).may (by omega)
/-! #### records from nothing on -/
/-- ToldOk once, and closed. -/
structure ToldOk (g : Grid) (s : State) (x : List Cell) : Prop where
  shut : ∀ c ∈ x, gridClosed g c.Start s.Mark = true
  once : (x ++ s.L).Pairwise fun a b => ¬ (a.Start = b.Start ∧ a.Key = b.Key)
theorem ahead_ne {a b : Cell} (h : ahead a b = true) : ¬ (a.Start = b.Start ∧ a.Key = b.Key) := by
  rw [ahead_iff] at h; omega
theorem ToldOk.feed {g : Grid} {n : Nat} {s : State} {r : Rec} {x : List Cell} (h : StOk g n s) (hn : n ≤ 1000) (he : feedErr g s r = 0) (ht : ToldOk g s x) : ToldOk g (feedSt g s r) (x ++ feedOver g s r) := by
  have hr : recMay r = true := by have := feedErr_may he; simp only [feedMay, Bool.and_eq_true] at this; exact this.2
  have hF := feedL_ok h hn hr
  have hm := mark_le s r
  unfold feedSt feedOver
  rw [if_pos he, if_pos he]
  by_cases hv : valOk r = true
  · rw [if_pos hv, if_pos hv]
    refine ⟨fun c hc => ?_, ?_⟩
    · rcases List.mem_append.1 hc with hc | hc
      · exact closed_up (ht.shut c hc) hm.1
      · exact (List.mem_filter.1 hc).2
    · have hp : (feedL g s r).Pairwise fun a b => ¬ (a.Start = b.Start ∧ a.Key = b.Key) := hF.2.1.imp ahead_ne
      have ho : ∀ a ∈ x, ∀ b ∈ feedL g s r, ¬ (a.Start = b.Start ∧ a.Key = b.Key) := fun a ha b hb e => by
        have h1 := ht.shut a ha
        rw [e.1, hF.2.2.2 b hb] at h1; cases h1
      rw [List.append_assoc, List.pairwise_append]
      refine ⟨(List.pairwise_append.1 ht.once).1, ?_, fun a ha b hb => ?_⟩
      · rw [List.pairwise_append]
        refine ⟨hp.filter _, hp.filter _, fun a ha b hb e => ?_⟩
        have h1 := (List.mem_filter.1 ha).2
        have h2 := (List.mem_filter.1 hb).2
        rw [e.1] at h1
        rw [h1] at h2; cases h2
      · refine ho a ha b ?_
        rcases List.mem_append.1 hb with hb | hb <;> exact (List.mem_filter.1 hb).1
  · rw [if_neg hv, if_neg hv, List.append_nil]
    exact ⟨ht.shut, ht.once⟩
theorem run_ok {g : Grid} {l : List Rec} (hg : gridMay g = true) (hl : l.length ≤ 150) : ∀ i, i ≤ l.length → (runTo g zeroState l i).2.2 = 0 → StOk g i (runTo g zeroState l i).1 ∧ ToldOk g (runTo g zeroState l i).1 (runTo g zeroState l i).2.1
  | 0, _, _ => ⟨StOk.zero hg, ⟨(by intro c hc; cases hc), List.Pairwise.nil⟩⟩
  | i + 1, hi, h0 => by
    have e := runTo_succ (g := g) (s := zeroState) (l := l) (i := i) (by omega)
    rw [e] at h0
    unfold runStep at h0
    split at h0
    · exact absurd h0 (by assumption)
    · rename_i h1
      have h1 : (runTo g zeroState l i).2.2 = 0 := Decidable.not_not.1 h1
      split at h0
      · exact absurd h0 (by assumption)
      · rename_i h2
        have h2 : feedErr g (runTo g zeroState l i).1 (l.getD i zRec) = 0 := Decidable.not_not.1 h2
        have ih := run_ok hg hl i (by omega) h1
        rw [runTo_ok (by omega) h1 h2]
        exact ⟨ih.1.feed (by omega) h2, ih.2.feed ih.1 (by omega) h2⟩
theorem runAll_ok {g : Grid} {l : List Rec} (hl : l.length ≤ 150) (h : (runAll g zeroState l).2.2 = 0) : gridMay g = true ∧ StOk g l.length (runAll g zeroState l).1 ∧ ToldOk g (runAll g zeroState l).1 (runAll g zeroState l).2.1 := by
  cases hg : gridMay g with
  | false => rw [runAll_no ((zero_may g).trans hg)] at h; cases h
  | true =>
    rw [runAll_to ((zero_may g).trans hg)] at h ⊢
    exact ⟨rfl, run_ok hg hl _ (Nat.le_refl _) h⟩
theorem runAll_err {g : Grid} {s : State} {l : List Rec} (h : ¬ (runAll g s l).2.2 = 0) : (runAll g s l).2.1 = [] := by
  unfold runAll at *
  split at h
  · rename_i hs
    rw [if_pos hs]
    have : ∀ (l : List Rec) (a : State × List Cell × Int), (a.2.2 ≠ 0 → a.2.1 = []) → (l.foldl (runStep g) a).2.2 ≠ 0 → (l.foldl (runStep g) a).2.1 = [] := by
      intro l
      induction l with
      | nil => intro a ha hh; exact ha hh
      | cons r l ih =>
        intro a ha hh
        refine ih _ (fun h2 => ?_) hh
        unfold runStep at h2 ⊢
        split
        · rename_i h3; exact ha h3
        · split
          · rfl
          · rename_i h3 h4; rw [if_neg h3, if_neg h4] at h2; exact absurd rfl h2
    exact this l _ (fun hh => absurd rfl hh) h
  · rename_i hs
    rw [if_neg hs]
end Go.Proofs.Ytfpmgnkbklnkaaa.Eng
end
section
set_option linter.unusedSimpArgs false
set_option linter.unusedVariables false
namespace Go.Proofs.Ytfpmgnkbklnkaaa.Eng
open Go
theorem run_acc {g : Grid} : ∀ (l : List Rec) (s : State) (o : List Cell), l.foldl (runStep g) (s, o, 0) =
    if (l.foldl (runStep g) (s, [], 0)).2.2 = 0 then ((l.foldl (runStep g) (s, [], 0)).1, o ++ (l.foldl (runStep g) (s, [], 0)).2.1, 0) else l.foldl (runStep g) (s, [], 0)
  | [], s, o => by simp
  | r :: l, s, o => by
    by_cases he : feedErr g s r = 0
    · have e1 : ∀ o : List Cell, (r :: l).foldl (runStep g) (s, o, 0) = l.foldl (runStep g) (feedSt g s r, o ++ feedOver g s r, 0) := fun o => by rw [List.foldl_cons]; simp [runStep, he]
      rw [e1, e1, run_acc l _ (o ++ feedOver g s r), run_acc l _ ([] ++ feedOver g s r)]
      by_cases h : (l.foldl (runStep g) (feedSt g s r, [], 0)).2.2 = 0
      · simp [h]
      · simp [h]
    · have e1 : ∀ o : List Cell, (r :: l).foldl (runStep g) (s, o, 0) = (zState, [], feedErr g s r) := fun o => by
        rw [List.foldl_cons, show runStep g (s, o, 0) r = (zState, [], feedErr g s r) by simp [runStep, he], run_stays _ he]
      rw [e1, e1, if_neg he]
/-- Records in two parts. -/
theorem parts {g : Grid} {l : List Rec} {k : Nat} (hl : l.length ≤ 150) (h : (runAll g zeroState l).2.2 = 0) :
    (runAll g zeroState (l.take k)).2.2 = 0 ∧ (runAll g (runAll g zeroState (l.take k)).1 (l.drop k)).2.2 = 0 ∧ (runAll g (runAll g zeroState (l.take k)).1 (l.drop k)).1 = (runAll g zeroState l).1 ∧
    (runAll g zeroState (l.take k)).2.1 ++ (runAll g (runAll g zeroState (l.take k)).1 (l.drop k)).2.1 = (runAll g zeroState l).2.1 ∧ stateCheck g (runAll g zeroState l).1 = 0 ∧ stateCheck g (runAll g zeroState (l.take k)).1 = 0 := by
  have hA := runAll_ok hl h
  have hz : stateMay g zeroState = true := (zero_may g).trans hA.1
  have e0 : l.foldl (runStep g) (zeroState, [], 0) = (l.drop k).foldl (runStep g) ((l.take k).foldl (runStep g) (zeroState, [], 0)) := by rw [← List.foldl_append, List.take_append_drop]
  have hB0 : (runAll g zeroState (l.take k)).2.2 = 0 := by
    rw [runAll, if_pos hz] at h ⊢
    rw [e0] at h
    by_cases hb : ((l.take k).foldl (runStep g) (zeroState, [], 0)).2.2 = 0
    · exact hb
    · rw [run_stays _ hb] at h; exact h
  have hB := runAll_ok (l := l.take k) (by simp; omega) hB0
  have hBm : stateMay g (runAll g zeroState (l.take k)).1 = true := hB.2.1.may (by simp; omega)
  have e1 : runAll g zeroState l = (l.drop k).foldl (runStep g) (runAll g zeroState (l.take k)) := by rw [runAll, if_pos hz, e0, runAll, if_pos hz]
  have e2 : runAll g (runAll g zeroState (l.take k)).1 (l.drop k) = (l.drop k).foldl (runStep g) ((runAll g zeroState (l.take k)).1, [], 0) := by rw [runAll, if_pos hBm]
  have e3 : runAll g zeroState (l.take k) = ((runAll g zeroState (l.take k)).1, (runAll g zeroState (l.take k)).2.1, 0) := by
    conv => lhs; rw [show runAll g zeroState (l.take k) = ((runAll g zeroState (l.take k)).1, (runAll g zeroState (l.take k)).2.1, (runAll g zeroState (l.take k)).2.2) from rfl, hB0]
  have e4 : runAll g zeroState l = if (runAll g (runAll g zeroState (l.take k)).1 (l.drop k)).2.2 = 0 then ((runAll g (runAll g zeroState (l.take k)).1 (l.drop k)).1, (runAll g zeroState (l.take k)).2.1 ++ (runAll g (runAll g zeroState (l.take k)).1 (l.drop k)).2.1, 0) else runAll g (runAll g zeroState (l.take k)).1 (l.drop k) := by
    rw [e2, ← run_acc, ← e3, e1]
  have hC0 : (runAll g (runAll g zeroState (l.take k)).1 (l.drop k)).2.2 = 0 := by
    by_cases hc : (runAll g (runAll g zeroState (l.take k)).1 (l.drop k)).2.2 = 0
    · exact hc
    · rw [e4, if_neg hc] at h; exact h
  have ck : ∀ {s : State}, stateMay g s = true → stateCheck g s = 0 := fun hs => by unfold stateCheck; rw [if_pos hs]
  rw [if_pos hC0] at e4
  refine ⟨hB0, hC0, (congrArg Prod.fst e4).symm, (congrArg (fun x => x.2.1) e4).symm, ck (hA.2.1.may (by omega)), ck hBm⟩
/-- Where the records are parted. -/
def kOf (cut : Int) (n : Nat) : Nat := (Int.tmod (Int.tmod cut ((n : Int) + 1) + n + 1) ((n : Int) + 1)).toNat
theorem kOf_b (cut : Int) (n : Nat) : kOf cut n ≤ n := by
  unfold kOf
  have h1 := Int.lt_tmod_of_pos cut (b := (n : Int) + 1) (by omega)
  have h2 := tmod_b (t := Int.tmod cut ((n : Int) + 1) + n + 1) (h := (n : Int) + 1) (by omega) (by omega)
  omega
theorem kOf_eq (cut : Int) {n : Nat} (hn : n ≤ 1000) :
    Int.tmod (IntKind.i64.wrap ((IntKind.i64.wrap ((Int.tmod cut (IntKind.i64.wrap ((n : Int) + 1))) + (n : Int))) + 1)) (IntKind.i64.wrap ((n : Int) + 1)) = (kOf cut n : Int) := by
  have e0 : IntKind.i64.wrap ((n : Int) + 1) = (n : Int) + 1 := wrap_in (by omega) (by omega)
  rw [e0]
  have h1 := Int.lt_tmod_of_pos cut (b := (n : Int) + 1) (by omega)
  have h2 := Int.tmod_lt_of_pos cut (b := (n : Int) + 1) (by omega)
  have e1 : IntKind.i64.wrap (Int.tmod cut ((n : Int) + 1) + (n : Int)) = Int.tmod cut ((n : Int) + 1) + (n : Int) := wrap_in (by omega) (by omega)
  rw [e1]
  have e2 : IntKind.i64.wrap (Int.tmod cut ((n : Int) + 1) + (n : Int) + 1) = Int.tmod cut ((n : Int) + 1) + (n : Int) + 1 := wrap_in (by omega) (by omega)
  rw [e2]
  have h3 := tmod_b (t := Int.tmod cut ((n : Int) + 1) + n + 1) (h := (n : Int) + 1) (by omega) (by omega)
  unfold kOf; omega
theorem kOf_nz {n : Nat} (hn : n ≤ 1000) : IntKind.i64.wrap ((n : Int) + 1) ≠ 0 := by rw [wrap_in (by omega) (by omega)]; omega
theorem run_errN {g : Grid} {s : State} {l : List Rec} (h : ¬ (runAll g s l).2.2 = 0) : ((runAll g s l).2.1.length : Int) = 0 := by rw [runAll_err h]; rfl
theorem fin_err4 {g : Grid} {s : State} {l : List Rec} (h : ¬ (runAll g s l).2.2 = 0) : ((((runAll g s l).2.1.length : Int) == 0) && true) = true := by rw [runAll_err h]; rfl
theorem fin4 {g : Grid} {l : List Rec} {k : Nat} (hl : l.length ≤ 150) (h : (runAll g zeroState l).2.2 = 0) :
    (((((((((runAll g zeroState (l.take k)).2.2) == 0) && (((runAll g ((runAll g zeroState (l.take k)).1) (l.drop k)).2.2) == 0)) && (sameState ((runAll g zeroState l).1) ((runAll g ((runAll g zeroState (l.take k)).1) (l.drop k)).1))) && (sameCells ((runAll g zeroState l).2.1) ((([] : List Cell) ++ (runAll g zeroState (l.take k)).2.1) ++ (runAll g ((runAll g zeroState (l.take k)).1) (l.drop k)).2.1))) && ((stateCheck g ((runAll g zeroState l).1)) == 0)) && ((stateCheck g ((runAll g zeroState (l.take k)).1)) == 0)) && true) = true := by
  obtain ⟨h1, h2, h3, h4, h5, h6⟩ := parts (k := k) hl h
  rw [h1, h2, h3, h5, h6, List.nil_append, h4, same_refl, sameC_refl]; rfl
/-! #### a record behind them -/
/-- Is one of a record's windows open? -/
def anyOpen (g : Grid) (s : State) (r : Rec) : Bool := (gridStarts g r.Time).any fun x => !gridClosed g x s.Mark
theorem open_len {g : Grid} {s : State} {r : Rec} : (openS g s r).length = 0 ↔ anyOpen g s r = false := by
  unfold anyOpen openS cloI
  rw [List.length_eq_zero_iff, List.filter_eq_nil_iff, List.any_eq_false]
theorem starts_has {g : Grid} {t : Int} (h : timeOk g t = true) : ∃ x, x ∈ gridStarts g t := by
  have h' := h
  simp only [timeOk, Bool.and_eq_true, decide_eq_true_eq] at h'
  obtain ⟨K, k1, k2, k3, k4⟩ := gridK h'.1.1
  have hs := gridMay_spec h'.1.1
  have hb := tmod_b h'.1.2 hs.2.2.1
  have hb2 := base_b h'.1.2 hs.2.2.1
  refine ⟨stF g t (K - 1), ?_⟩
  unfold gridStarts
  rw [if_pos h, k3]
  simp only [startsTo, List.mem_filter, List.mem_map, List.mem_range, decide_eq_true_eq]
  refine ⟨⟨K - 1, by omega, rfl⟩, ?_⟩
  unfold stF
  have e : ((K - 1 : Nat) : Int) + 1 = K := by omega
  rw [e, k4, Int.mul_comm]; omega
theorem late_le {g : Grid} {s : State} {r : Rec} (ht : timeOk g r.Time = true) (h : anyOpen g s r = false) : r.Time ≤ s.Mark := by
  obtain ⟨x, hx⟩ := starts_has ht
  have h1 : gridClosed g x s.Mark = true := by
    unfold anyOpen at h
    rw [List.any_eq_false] at h
    have := h x hx; simpa using this
  have h2 := starts_mem hx
  simp only [gridClosed, Bool.and_eq_true, decide_eq_true_eq] at h1
  have := gridMay_spec h1.1.1
  omega
theorem late_feed {g : Grid} {n : Nat} {s : State} {r : Rec} (h : StOk g n s) (hn : n ≤ 1000) (hr : recMay r = true) :
    feedErr g s r = 0 ∧ (feedSt g s r).N = s.N + 1 ∧ (valOk r = true → (feedSt g s r).Bad = s.Bad ∧ (anyOpen g s r = false → feedSt g s r = ⟨s.Mark, s.Late + 1, s.Bad, s.N + 1, s.L⟩ ∧ feedOver g s r = [])) ∧
    (valOk r = false → feedSt g s r = ⟨s.Mark, s.Late, s.Bad + 1, s.N + 1, s.L⟩ ∧ feedOver g s r = []) := by
  have hm := h.may hn
  have hc := h.cnt
  have hr' := hr
  simp only [recMay, Bool.and_eq_true] at hr'
  have hb := inN_b hr'.2
  have he : feedErr g s r = 0 := by
    unfold feedErr feedMay
    rw [if_pos (by rw [hm, hr]; rfl), if_neg (by omega)]
  refine ⟨he, ?_, fun hv => ⟨?_, fun ho => ?_⟩, fun hv => ?_⟩
  · unfold feedSt; rw [if_pos he]; split <;> rfl
  · unfold feedSt; rw [if_pos he, if_pos hv]
  · have hd : feedDrop g s r = true := drop_0 (open_len.2 ho)
    have hmk : feedMark s r = s.Mark := by
      have := late_le (g := g) (s := s) (r := r) (by simp only [timeOk, Bool.and_eq_true, decide_eq_true_eq]; exact ⟨⟨h.grid, hb.1⟩, hb.2⟩) ho
      unfold feedMark; rw [if_neg (by omega)]
    have hL : feedL g s r = s.L := by rw [feedL, if_pos hd]
    have h1 : (s.L.filter fun c => !gridClosed g c.Start s.Mark) = s.L := List.filter_eq_self.2 fun c hc => by rw [(h.cells c hc).2]; rfl
    have h2 : (s.L.filter fun c => gridClosed g c.Start s.Mark) = [] := List.filter_eq_nil_iff.2 fun c hc => by rw [(h.cells c hc).2]; decide
    unfold feedSt feedOver
    rw [if_pos he, if_pos he, if_pos hv, if_pos hv, if_pos hd, hmk, hL, h1, h2]
    exact ⟨rfl, rfl⟩
  · unfold feedSt feedOver
    rw [if_pos he, if_pos he, if_neg (by rw [hv]; decide), if_neg (by rw [hv]; decide)]
    exact ⟨rfl, rfl⟩
end Go.Proofs.Ytfpmgnkbklnkaaa.Eng
end
section
set_option linter.unusedSimpArgs false
set_option linter.unusedVariables false
namespace Go.Proofs.Ytfpmgnkbklnkaaa.Eng
open Go
/-- What is told, and what is open. -/
def onceAll (g : Grid) (l : List Rec) : List Cell := ([] ++ (runAll g zeroState l).2.1) ++ (runAll g zeroState l).1.L
theorem pw_getD {α : Type} {R : α → α → Prop} {L : List α} (d : α) (h : L.Pairwise R) {i j : Nat} (hij : i < j) (hj : j < L.length) : R (L.getD i d) (L.getD j d) := by
  have := List.pairwise_iff_getElem.1 h i j (by omega) hj hij
  simpa [List.getD, List.getElem?_eq_getElem hj, List.getElem?_eq_getElem (show i < L.length by omega)] using this
theorem once_law {g : Grid} {l : List Rec} (hl : l.length ≤ 150) (h : (runAll g zeroState l).2.2 = 0) :
    (∀ i, i < (onceAll g l).length → gridClosed g ((onceAll g l).getD i zCell).Start (runAll g zeroState l).1.Mark = decide ((i : Int) < ((runAll g zeroState l).2.1.length : Int))) ∧
    (∀ i, i < (onceAll g l).length → ∀ k, k < i → ¬ (((onceAll g l).getD k zCell).Start = ((onceAll g l).getD i zCell).Start ∧ ((onceAll g l).getD k zCell).Key = ((onceAll g l).getD i zCell).Key)) ∧
    (runAll g zeroState l).1.Mark ≤ 1099511627776 := by
  obtain ⟨hg, hs, ht⟩ := runAll_ok hl h
  have e : onceAll g l = (runAll g zeroState l).2.1 ++ (runAll g zeroState l).1.L := by simp [onceAll]
  refine ⟨fun i hi => ?_, fun i hi k hk => ?_, ?_⟩
  · rw [e] at hi ⊢
    by_cases hx : i < (runAll g zeroState l).2.1.length
    · have e1 : ((runAll g zeroState l).2.1 ++ (runAll g zeroState l).1.L).getD i zCell = (runAll g zeroState l).2.1.getD i zCell := by simp [List.getD, List.getElem?_append_left hx]
      rw [e1, ht.shut _ (getD_mem zCell hx), decide_eq_true (by omega)]
    · rw [List.length_append] at hi
      have e1 : ((runAll g zeroState l).2.1 ++ (runAll g zeroState l).1.L).getD i zCell = (runAll g zeroState l).1.L.getD (i - (runAll g zeroState l).2.1.length) zCell := by simp [List.getD, List.getElem?_append_right (Nat.le_of_not_lt hx)]
      rw [e1, (hs.cells _ (getD_mem zCell (by omega))).2, decide_eq_false (by omega)]
  · rw [e] at hi ⊢
    exact pw_getD zCell ht.once hk hi
  · rcases hs.mark with h1 | h1
    · omega
    · exact (inN_b h1).2
theorem once_len {g : Grid} {l : List Rec} (hl : l.length ≤ 150) : (onceAll g l).length ≤ 20000 := by
  have h1 := runAll_L (g := g) (l := l) zero_R
  have h2 := runAll_over (g := g) (l := l) zero_R
  simp only [onceAll, List.nil_append, List.length_append]; omega
/-- Is one of a record's first i windows open? -/
def anyTo (g : Grid) (s : State) (r : Rec) (i : Nat) : Bool := ((gridStarts g r.Time).take i).any fun x => !gridClosed g x s.Mark
theorem anyTo_succ {g : Grid} {s : State} {r : Rec} {i : Nat} (h : i < (gridStarts g r.Time).length) : anyTo g s r (i + 1) = (anyTo g s r i || !gridClosed g ((gridStarts g r.Time).getD i 0) s.Mark) := by
  unfold anyTo; rw [take_snoc 0 h, List.any_append]; simp
theorem anyTo_t {g : Grid} {s : State} {r : Rec} {i : Nat} (h : i < (gridStarts g r.Time).length) (ha : anyTo g s r i = true) : true = anyTo g s r (i + 1) := by rw [anyTo_succ h, ha]; rfl
theorem anyTo_f {g : Grid} {s : State} {r : Rec} {i : Nat} (h : i < (gridStarts g r.Time).length) (ha : anyTo g s r i = false) : (!gridClosed g ((gridStarts g r.Time).getD i 0) s.Mark) = anyTo g s r (i + 1) := by rw [anyTo_succ h, ha]; rfl
theorem anyTo_all {g : Grid} {s : State} {r : Rec} {i : Nat} (h : (gridStarts g r.Time).length ≤ i) : anyTo g s r i = anyOpen g s r := by unfold anyTo anyOpen; rw [List.take_of_length_le h]
theorem late_two {e : Int} {r : Rec} (h : ((e != 0) || !(((decide (r.Key ≥ 0) && decide (r.Key ≤ 1048576)) && inN r.Time) && decide ((r.Text.size : Int) ≤ 512))) = false) : e = 0 ∧ recMay r = true := by
  simp only [Bool.or_eq_false_iff, bne_eq_false_iff_eq, Bool.not_eq_false', Bool.and_eq_true, decide_eq_true_eq] at h
  refine ⟨h.1, ?_⟩
  simp only [recMay, inN, Bool.and_eq_true, decide_eq_true_eq]
  have h1 := inN_b h.2.1.2
  exact ⟨⟨⟨h.2.1.1.1, by omega⟩, h.2.1.1.2⟩, by omega, h1.2⟩
theorem both_t {a b : Bool} (h : (a && b) = true) : a = true ∧ b = true := by cases a <;> cases b <;> simp_all
theorem both_f {a b : Bool} (h : (a && b) = false) (ha : a = true) : b = false := by cases a <;> cases b <;> simp_all
theorem late_b {g : Grid} {l : List Rec} (hl : l.length ≤ 150) (h : (runAll g zeroState l).2.2 = 0) : (runAll g zeroState l).1.Mark ≤ 1099511627776 ∧ 0 ≤ (runAll g zeroState l).1.Late ∧ (runAll g zeroState l).1.Late ≤ 150 ∧ 0 ≤ (runAll g zeroState l).1.Bad ∧ (runAll g zeroState l).1.Bad ≤ 150 ∧ 0 ≤ (runAll g zeroState l).1.N ∧ (runAll g zeroState l).1.N ≤ 150 := by
  obtain ⟨hg, hs, ht⟩ := runAll_ok hl h
  have h1 := hs.late; have h2 := hs.bad; have h3 := hs.cnt; have h4 := hs.sum
  refine ⟨?_, by omega, by omega, by omega, by omega, by omega, by omega⟩
  rcases hs.mark with h1 | h1
  · omega
  · exact (inN_b h1).2
theorem late_err {g : Grid} {l : List Rec} {r : Rec} (hl : l.length ≤ 150) (h : (runAll g zeroState l).2.2 = 0) (hr : recMay r = true) : feedErr g (runAll g zeroState l).1 r = 0 := (late_feed (runAll_ok hl h).2.1 (by omega) hr).1
theorem late_open {g : Grid} {l : List Rec} {r : Rec} (hl : l.length ≤ 150) (h : (runAll g zeroState l).2.2 = 0) (hr : recMay r = true) (hv : valOk r = true) :
    ((((feedSt g (runAll g zeroState l).1 r).Bad == (runAll g zeroState l).1.Bad) && ((feedSt g (runAll g zeroState l).1 r).N == (runAll g zeroState l).1.N + 1)) && true) = true := by
  obtain ⟨h1, h2, h3, h4⟩ := late_feed (runAll_ok hl h).2.1 (by omega) hr
  rw [(h3 hv).1, h2]; simp
theorem late_shut {g : Grid} {l : List Rec} {r : Rec} (hl : l.length ≤ 150) (h : (runAll g zeroState l).2.2 = 0) (hr : recMay r = true) (hv : valOk r = true) (ho : anyOpen g (runAll g zeroState l).1 r = false) :
    (((sameState (feedSt g (runAll g zeroState l).1 r) ⟨(runAll g zeroState l).1.Mark, (runAll g zeroState l).1.Late + 1, (runAll g zeroState l).1.Bad, (runAll g zeroState l).1.N + 1, (runAll g zeroState l).1.L⟩) && (((feedOver g (runAll g zeroState l).1 r).length : Int) == 0)) && true) = true := by
  obtain ⟨h1, h2, h3, h4⟩ := late_feed (runAll_ok hl h).2.1 (by omega) hr
  obtain ⟨h5, h6⟩ := (h3 hv).2 ho
  rw [h5, h6, same_refl]; rfl
theorem late_bad {g : Grid} {l : List Rec} {r : Rec} (hl : l.length ≤ 150) (h : (runAll g zeroState l).2.2 = 0) (hr : recMay r = true) (hv : valOk r = false) :
    (((sameState (feedSt g (runAll g zeroState l).1 r) ⟨(runAll g zeroState l).1.Mark, (runAll g zeroState l).1.Late, (runAll g zeroState l).1.Bad + 1, (runAll g zeroState l).1.N + 1, (runAll g zeroState l).1.L⟩) && (((feedOver g (runAll g zeroState l).1 r).length : Int) == 0)) && true) = true := by
  obtain ⟨h1, h2, h3, h4⟩ := late_feed (runAll_ok hl h).2.1 (by omega) hr
  obtain ⟨h5, h6⟩ := h4 hv
  rw [h5, h6, same_refl]; rfl
end Go.Proofs.Ytfpmgnkbklnkaaa.Eng
end
section
set_option linter.unusedSimpArgs false
set_option linter.unusedVariables false
set_option maxRecDepth 100000
set_option maxHeartbeats 4000000
namespace Go.Proofs.Ytfpmgnkbklnkaaa.Eng
open Go Go.Proofs
abbrev uEngineLate : List U := [.c (.d (dB true))]
abbrev z7_0 (g : Grid) : Nat × Blk := (3, .var ((eGrid g).map .d))
abbrev z7_1 (r : Rec) : Nat × Blk := (5, .var ((eRec r).map .d))
abbrev z7_2 (l : List Rec) : Nat × T := (1, tD (row 3 eRec zRec (someRecs l)))
abbrev z7_3 (g : Grid) (l : List Rec) : Nat × T := (22, .tup [.agg ((eState ((runAll g zeroState (someRecs l)).1)).map .d), .c (.d (row 12 eCell zCell ((runAll g zeroState (someRecs l)).2.1))), .c (.d (dI ((runAll g zeroState (someRecs l)).2.2)))])
abbrev z7_4 (g : Grid) (l : List Rec) : Nat × T := (26, .tup [.agg ((eState ((runAll g zeroState (someRecs l)).1)).map .d), .c (.d (row 12 eCell zCell ((runAll g zeroState (someRecs l)).2.1))), .c (.d (dI ((runAll g zeroState (someRecs l)).2.2)))])
abbrev z7_5 (g : Grid) (l : List Rec) : Nat × Blk := (7, .var ((eState ((runAll g zeroState (someRecs l)).1)).map .d))
abbrev z7_6 (g : Grid) (l : List Rec) (r : Rec) : Nat × T := (11, tD (row 12 eCell zCell (feedOver g ((runAll g zeroState (someRecs l)).1) r)))
abbrev z7_7 (g : Grid) (l : List Rec) (r : Rec) : Nat × Blk := (10, .var ((eState (feedSt g ((runAll g zeroState (someRecs l)).1) r)).map .d))
abbrev z7_8 (g : Grid) (r : Rec) : Nat × T := (15, tD (row 1 eI 0 (gridStarts g r.Time)))
abbrev z7_9 (g : Grid) (l : List Rec) (r : Rec) (i : Nat) : Nat × T := (17, B (anyTo g (runAll g zeroState (someRecs l)).1 r i))
abbrev z7_10 (g : Grid) : Nat × T := (68, tA ((eGrid g).map .d))
abbrev z7_11 (g : Grid) (r : Rec) : Nat × T := (69, tD (row 1 eI 0 (gridStarts g r.Time)))
abbrev z7_12 (g : Grid) (r : Rec) (i : Nat) : Nat × T := (71, .one (.c (.ip 1 (fun j_ => nth (eI ((gridStarts g r.Time).getD i 0)) j_))))
abbrev z7_13 (g : Grid) (r : Rec) (i : Nat) : Nat × T := (72, I ((gridStarts g r.Time).getD i 0))
abbrev z7_14 (g : Grid) (l : List Rec) : Nat × T := (74, I (((runAll g zeroState (someRecs l)).1).Mark))
abbrev z7_15 (g : Grid) (l : List Rec) (r : Rec) (i : Nat) : Nat × T := (17, B (!(gridClosed g ((gridStarts g r.Time).getD i 0) (((runAll g zeroState (someRecs l)).1).Mark))))
abbrev z7_16 (g : Grid) (l : List Rec) (r : Rec) (i : Nat) : Nat × T := (75, B (gridClosed g ((gridStarts g r.Time).getD i 0) (((runAll g zeroState (someRecs l)).1).Mark)))
abbrev z7_17 (g : Grid) (l : List Rec) (r : Rec) (i : Nat) : Nat × T := (76, B (!(gridClosed g ((gridStarts g r.Time).getD i 0) (((runAll g zeroState (someRecs l)).1).Mark))))
abbrev z7_18 (g : Grid) (l : List Rec) : Nat × Blk := (19, .var ([.d (dI (((runAll g zeroState (someRecs l)).1).Mark)), .d (dI (((runAll g zeroState (someRecs l)).1).Late)), .d (dI (((runAll g zeroState (someRecs l)).1).Bad)), .d (dI ((((runAll g zeroState (someRecs l)).1).N) + 1)), .d (row 12 eCell zCell (((runAll g zeroState (someRecs l)).1).L))]))
abbrev y7_0 (g : Grid) (l : List Rec) (r : Rec) : List (Nat × Blk) := [(z7_0 g), (z7_1 r), (z7_5 g l)]
abbrev y7_1 (g : Grid) (l : List Rec) (r : Rec) : List (Nat × Blk) := [(z7_0 g), (z7_1 r), (z7_5 g l), (z7_7 g l r)]
abbrev y7_2 (g : Grid) (l : List Rec) (r : Rec) : List (Nat × Blk) := [(z7_0 g), (z7_5 g l), (z7_7 g l r)]
/-- headgate/headgatelaw16.EngineLate. -/
theorem ok_EngineLate (g : Grid) (l : List Rec) (r : Rec) :
 FnOk Try.prog 7 [.agg ((eGrid g).map .d), .c (.d (row 3 eRec zRec l)), .agg ((eRec r).map .d)] (fun r_ => r_ = B true) := by
 have hL1 := runAll_L (g := g) (l := someRecs l) zero_R
 have hO1 := runAll_over (g := g) (l := someRecs l) zero_R
 have h150 := some_len150 l
 have hRR := runAll_LR (g := g) (l := someRecs l) zero_R
 refine FnOk.go Try.func7 rfl 123 ?_
 intro w0 m0
 show AC _ _ ⟨[(0, tA ((eGrid g).map .d)), (1, tD (row 3 eRec zRec l)), (2, tA ((eRec r).map .d))], []⟩ _
 refine AC.q ⟨[(1, tD (row 3 eRec zRec l)), sp 3, sp 5], [(z7_0 g), (z7_1 r)]⟩ ?_
 refine AC.rS [0, 1, 2] ?_
 refine AOps.m [0] ⟨[sp 3, sp 5, (20, tD (row 3 eRec zRec l))], [(z7_0 g), (z7_1 r)]⟩ ?_
 refine AOps.ca (ok_some l) ?_
 rintro _ rfl
 refine AOps.e ⟨[(z7_2 l), sp 3, sp 5], [(z7_0 g), (z7_1 r)]⟩ ?_
 refine AC.drawXS (by kernel_rfl) 11 9 [(8, 7)] ⟨[(z7_2 l), sp 3, sp 5, sp 7, (8, tD (row 12 eCell zCell ((runAll g zeroState (someRecs l)).2.1))), (z7_3 g l), (23, tA ((eGrid g).map .d)), (24, tA ((eState zeroState).map .d)), (25, tD (row 3 eRec zRec (someRecs l))), (z7_4 g l), (27, tA ((eState ((runAll g zeroState (someRecs l)).1)).map .d)), (28, tD (row 12 eCell zCell ((runAll g zeroState (someRecs l)).2.1))), (29, I ((runAll g zeroState (someRecs l)).2.2))], [(z7_0 g), (z7_1 r), (7, .var ([.d (dI 0), .d (dI 0), .d (dI 0), .d (dI 0), .d (.v (.slice none 0 0))]))]⟩ ⟨[(z7_2 l), sp 3, sp 5, sp 7, (8, tD (row 12 eCell zCell ((runAll g zeroState (someRecs l)).2.1))), (z7_3 g l), (23, tA ((eGrid g).map .d)), (24, tA ((eState zeroState).map .d)), (25, tD (row 3 eRec zRec (someRecs l))), (z7_4 g l), (27, tA ((eState ((runAll g zeroState (someRecs l)).1)).map .d)), (28, tD (row 12 eCell zCell ((runAll g zeroState (someRecs l)).2.1))), (29, I ((runAll g zeroState (someRecs l)).2.2))], y7_0 g l r⟩ (l := [(z7_2 l), sp 3, sp 5]) (e := [(z7_0 g), (z7_1 r)]) (by kernel_rfl) (by kernel_rfl) (by kernel_rfl) (by kernel_rfl) (by kernel_rfl) (by kernel_rfl) (StoreAt.mk' rfl (by kernel_rfl) rfl (n := 7) (off := 0) (by kernel_rfl) (l := [.d (dI 0), .d (dI 0), .d (dI 0), .d (dI 0), .d (.v (.slice none 0 0))]) (c := (eState ((runAll g zeroState (someRecs l)).1)).map .d) (by kernel_rfl) (by kernel_rfl) (by kernel_rfl) (by kernel_rfl) rfl (by kernel_rfl) rfl (env_but (A := [(3, .var ((eGrid g).map .d)), (5, .var ((eRec r).map .d))]) (B := []) (b0 := .var ([.d (dI 0), .d (dI 0), .d (dI 0), .d (dI 0), .d (.v (.slice none 0 0))])) (b1 := .var ((eState ((runAll g zeroState (someRecs l)).1)).map .d))) (by kernel_rfl) (by kernel_rfl)) (.inr ⟨8, 7, rfl, by decide, by kernel_rfl, by kernel_rfl⟩) ?_ (r := [11]) (by kernel_rfl) (by kernel_rfl) ?_
 · exact (au (au (au (au (au (au (au (au (au (au (au AllUpTo.zero (.inr ⟨.inl ot, .inr (by kernel_rfl)⟩)) (.inr ⟨.inl (oc (ok_zero)), .inr (by kernel_rfl)⟩)) (.inr ⟨.inl ot, .inr (by kernel_rfl)⟩)) (.inr ⟨.inl (oc (ok_run g zeroState (someRecs l) (by first | decide | exact zero_R | omega) (by first | decide | exact zero_R | omega) (by first | decide | exact zero_R | omega))), .inr (by kernel_rfl)⟩)) (.inr ⟨.inl ot, .inr (by kernel_rfl)⟩)) (.inr ⟨.inl ot, .inr (by kernel_rfl)⟩)) (.inr ⟨.inl ot, .inl ot⟩)) (.inr ⟨.inl ot, .inl ot⟩)) (.inr ⟨.inl (OpAt.alloc rfl (by kernel_rfl) rfl (z := [.d (dI 0), .d (dI 0), .d (dI 0), .d (dI 0), .d (.v (.slice none 0 0))]) (by kernel_rfl) rfl (by kernel_rfl) (by kernel_rfl) rfl (by kernel_rfl) (by kernel_rfl)), .inr (by kernel_rfl)⟩)) (.inl rfl)) (.inr ⟨.inr (by kernel_rfl), .inl ot⟩))
 refine AOps.e ⟨[sp 3, sp 5, sp 7, (9, I ((runAll g zeroState (someRecs l)).2.2))], y7_0 g l r⟩ ?_
 refine AC.seq ?_
 refine AC.rS [0, 1, 2, 3, 4, 5, 6] ?_
 refine AOps.m [0, 1, 2] ⟨[sp 3, sp 5, sp 7, (32, B (((runAll g zeroState (someRecs l)).2.2) != 0))], y7_0 g l r⟩ ?_
 refine AOps.s [3, 4, 5] 6 32 35 36 false (((runAll g zeroState (someRecs l)).2.2) != 0) (!(((decide (r.Key ≥ 0) && decide (r.Key ≤ 1048576)) && inN r.Time) && decide ((r.Text.size : Int) ≤ 512))) [3, 5, 7] (fun h_ => ?_) ?_
 clear h_
 refine AOps.m [3] ⟨[sp 3, sp 5, sp 7, (32, B false), (33, tA ((eRec r).map .d))], y7_0 g l r⟩ ?_
 refine AOps.ca (ok_mayrecord r) ?_
 rintro _ rfl
 refine AOps.m [5] ⟨[sp 3, sp 5, sp 7, (32, B false), (35, B (!(((decide (r.Key ≥ 0) && decide (r.Key ≤ 1048576)) && inN r.Time) && decide ((r.Text.size : Int) ≤ 512))))], y7_0 g l r⟩ ?_
 exact scd
 refine AOps.done ?_
 refine AC.cd (b := (((runAll g zeroState (someRecs l)).2.2) != 0) || (!(((decide (r.Key ≥ 0) && decide (r.Key ≤ 1048576)) && inN r.Time) && decide ((r.Text.size : Int) ≤ 512)))) (fun h_ => ?_) (fun h_ => ?_)
 have h1 := h_; have r1 := h_; clear h_; try simp only [bb] at h1
 refine AC.rS [0, 1] ?_
 refine AOps.ca (ok_awake) ?_
 rintro _ rfl
 refine AOps.e ⟨[(6, B true)], []⟩ ?_
 refine AC.ret ?_
 exact rqr uEngineLate (All2.cons (ULe.refl _) All2.nil)
 have h1 := h_; have r1 := h_; clear h_; try simp only [bb] at h1
 refine AC.skip ?_
 obtain ⟨hE, hR⟩ := late_two (r := r) (e := (runAll g zeroState (someRecs l)).2.2) (by assumption)
 have hB := late_b (g := g) h150 (by assumption)
 have hg8 := gridStarts_len g r.Time
 have hfl := feedSt_len (g := g) (r := r) hRR
 refine AC.rS [0, 1, 2, 3, 4, 5, 6, 7, 8, 9, 10, 11] ?_
 refine AOps.m [0, 1, 2] ⟨[sp 3, sp 5, sp 7, (39, tA ((eGrid g).map .d)), (40, tA ((eState ((runAll g zeroState (someRecs l)).1)).map .d)), (41, tA ((eRec r).map .d))], y7_0 g l r⟩ ?_
 refine AOps.ca (ok_feed g ((runAll g zeroState (someRecs l)).1) r ?_ ?_) ?_
 iterate 2 (· first | exact hRR | omega)
 rintro _ rfl
 refine AOps.e ⟨[sp 3, sp 5, sp 7, sp 10, (z7_6 g l r), (12, I (feedErr g ((runAll g zeroState (someRecs l)).1) r))], y7_1 g l r⟩ ?_
 refine AC.seq ?_
 refine AC.q ⟨[sp 3, sp 5, sp 7, sp 10, (z7_6 g l r), (47, B ((feedErr g ((runAll g zeroState (someRecs l)).1) r) != 0))], y7_1 g l r⟩ ?_
 refine AC.cd (b := (feedErr g ((runAll g zeroState (someRecs l)).1) r) != 0) (fun h_ => ?_) (fun h_ => ?_)
 have h2 := h_; have r2 := h_; clear h_; try simp only [bb] at h2
 refine AC.q ⟨[(6, B false)], []⟩ ?_
 refine AC.ret ?_
 exact rqr uEngineLate (All2.cons (ULe.c (CLe.d (DLe.eq (congrArg dB (show (false) = (true) by first | rfl | exact absurd (late_err h150 hE hR) (by assumption) | exact late_shut h150 hE hR hv hno | exact late_open h150 hE hR hv | exact late_bad h150 hE hR (by assumption)))))) All2.nil)
 have h2 := h_; have r2 := h_; clear h_; try simp only [bb] at h2
 refine AC.skip ?_
 refine AC.rS [0, 1, 2, 3, 4, 5, 6] ?_
 refine AOps.m [0] ⟨[sp 3, sp 5, sp 7, sp 10, (z7_6 g l r), (49, tA ((eRec r).map .d))], y7_1 g l r⟩ ?_
 refine AOps.ca (ok_value16 r) ?_
 rintro _ rfl
 refine AOps.e ⟨[sp 3, sp 5, sp 7, sp 10, (z7_6 g l r), (14, B (valOk r))], y7_1 g l r⟩ ?_
 refine AC.rS [0, 1, 2, 3, 4, 5, 6, 7, 8] ?_
 refine AOps.m [0, 1, 2] ⟨[sp 3, sp 7, sp 10, (z7_6 g l r), (14, B (valOk r)), (54, tA ((eGrid g).map .d)), (56, I r.Time)], y7_2 g l r⟩ ?_
 refine AOps.ca (ok_starts14 g r.Time) ?_
 rintro _ rfl
 refine AOps.e ⟨[sp 3, sp 7, sp 10, (z7_6 g l r), (14, B (valOk r)), (z7_8 g r)], y7_2 g l r⟩ ?_
 refine AC.q ⟨[sp 3, sp 7, sp 10, (z7_6 g l r), (14, B (valOk r)), (z7_8 g r), (17, B false)], y7_2 g l r⟩ ?_
 refine AC.seq ?_
 refine AC.q ⟨[sp 3, sp 7, sp 10, (z7_6 g l r), (14, B (valOk r)), (z7_8 g r), (17, B false), (18, I 0)], y7_2 g l r⟩ ?_
 refine AC.block ?_
 refine AC.loop (ι := Nat) (fun i => ⟨[sp 3, sp 7, sp 10, (z7_6 g l r), (14, B (valOk r)), (z7_8 g r), (z7_9 g l r i), (18, I (i : Int))], y7_2 g l r⟩) (fun i => (i ≤ (gridStarts g r.Time).length)) (fun i => (gridStarts g r.Time).length - i) (0) (by omega) (Le.of (lk rfl (lk rfl (lk rfl (lk rfl (lk rfl (lk rfl (LeS.cons rfl (TLe.b (by first | rfl | exact anyTo_t (by omega) (by assumption) | exact anyTo_f (by omega) (by assumption))) (LeS.cons rfl (TLe.i (by omega)) LeS.nil)))))))) (ek rfl (ek rfl (ek rfl LeE.nil))) (by kernel_rfl)) ?_
 intro i hi_
 have i1 : i ≤ (gridStarts g r.Time).length := hi_; clear hi_
 show AC _ _ ⟨[sp 3, sp 7, sp 10, (z7_6 g l r), (14, B (valOk r)), (z7_8 g r), (z7_9 g l r i), (18, I (i : Int))], y7_2 g l r⟩ _
 refine AC.seq ?_
 refine AC.q ⟨[sp 3, sp 7, sp 10, (z7_6 g l r), (14, B (valOk r)), (z7_8 g r), (z7_9 g l r i), (18, I (i : Int)), (63, B (decide ((i : Int) < ((gridStarts g r.Time).length : Int))))], y7_2 g l r⟩ ?_
 refine AC.cd (b := decide ((i : Int) < ((gridStarts g r.Time).length : Int))) (fun h_ => ?_) (fun h_ => ?_)
 have h3 := h_; have r3 := h_; clear h_; try simp only [bb] at h3
 refine AC.skip ?_
 refine AC.seq ?_
 refine AC.block ?_
 refine AC.split (anyTo g (runAll g zeroState (someRecs l)).1 r i) (fun h_ => ?_) (fun h_ => ?_)
 have hs1 := h_
 have h4 := h_; have r4 := h_; clear h_; try simp only [bb] at h4
 refine AC.dL 9 [] ⟨[sp 3, sp 7, sp 10, (z7_6 g l r), (14, B (valOk r)), (z7_8 g r), (z7_9 g l r i), (18, I (i : Int)), (66, B true), (67, B true), (68, tD (.v (undef))), (69, tD (.v (undef))), (70, tD (.v (undef))), (71, tD (.v (undef))), (72, tD (.v (undef))), (73, tD (.v (undef))), (74, tD (.v (undef)))], y7_2 g l r⟩ [9, 10, 11, 12] (.inl rfl) ?_ ?_
 · exact (ar 8 (au AllUpTo.zero (OpAt.val rfl (by kernel_rfl) (C' := True) (x := B (anyTo g (runAll g zeroState (someRecs l)).1 r i)) (by kernel_rfl) (trivial) rfl (by kernel_rfl) (x' := B true) (by kernel_rfl) (TLe.b hs1) (by kernel_rfl) (by kernel_rfl) (by kernel_rfl))))
 refine AOps.e ⟨[sp 3, sp 7, sp 10, (z7_6 g l r), (14, B (valOk r)), (z7_8 g r), (17, B true), (18, I (i : Int)), (68, tD (.v (undef))), (69, tD (.v (undef))), (70, tD (.v (undef))), (71, tD (.v (undef))), (72, tD (.v (undef))), (73, tD (.v (undef))), (74, tD (.v (undef))), (75, tD (.v (undef))), (76, tD (.v (undef)))], y7_2 g l r⟩ ?_
 refine AC.rR [0, 1, 2] ?_
 refine AOps.m [0, 1, 2] ⟨[sp 3, sp 7, sp 10, (z7_6 g l r), (14, B (valOk r)), (z7_8 g r), (17, B true), (18, I (IntKind.i64.wrap ((i : Int) + 1))), (68, tD (.v (undef))), (69, tD (.v (undef))), (70, tD (.v (undef))), (71, tD (.v (undef))), (72, tD (.v (undef))), (73, tD (.v (undef))), (74, tD (.v (undef))), (75, tD (.v (undef))), (76, tD (.v (undef)))], y7_2 g l r⟩ ?_
 refine AOps.le (st' := ⟨[sp 3, sp 7, sp 10, (z7_6 g l r), (14, B (valOk r)), (z7_8 g r), (17, B true), (18, I ((i + 1 : Nat) : Int)), (68, tD (.v (undef))), (69, tD (.v (undef))), (70, tD (.v (undef))), (71, tD (.v (undef))), (72, tD (.v (undef))), (73, tD (.v (undef))), (74, tD (.v (undef))), (75, tD (.v (undef))), (76, tD (.v (undef)))], y7_2 g l r⟩) (Le.of (lk rfl (lk rfl (lk rfl (lk rfl (lk rfl (lk rfl (lk rfl (LeS.cons rfl (TLe.i (by rw [wrap_in (n := ((i : Int) + 1)) (by omega) (by omega)] <;> omega)) (lk rfl (lk rfl (lk rfl (lk rfl (lk rfl (lk rfl (lk rfl (lk rfl (lk rfl LeS.nil))))))))))))))))) (ek rfl (ek rfl (ek rfl LeE.nil))) (by kernel_rfl)) ?_
 refine AOps.done ?_
 try refine blockA_n ?_
 exact roundA_n (i + 1) (by omega) (by show (gridStarts g r.Time).length - (i + 1) < (gridStarts g r.Time).length - i; omega) (Le.of (lk rfl (lk rfl (lk rfl (lk rfl (lk rfl (lk rfl (LeS.cons rfl (TLe.b (by first | rfl | exact anyTo_t (by omega) (by assumption) | exact anyTo_f (by omega) (by assumption))) (LeS.cons rfl (TLe.i (by omega)) LeS.nil)))))))) (ek rfl (ek rfl (ek rfl LeE.nil))) (by kernel_rfl))
 have hs1 := h_
 have h4 := h_; have r4 := h_; clear h_; try simp only [bb] at h4
 refine AC.dL 9 [] ⟨[sp 3, sp 7, sp 10, (z7_6 g l r), (14, B (valOk r)), (z7_8 g r), (z7_9 g l r i), (18, I (i : Int)), (66, B false), (67, B false), (z7_10 g), (z7_11 g r), (70, I (i : Int)), (z7_12 g r i), (z7_13 g r i), (73, tP 7 0), (z7_14 g l)], y7_2 g l r⟩ [9, 10, 11, 12] (.inl rfl) ?_ ?_
 · exact (ar 3 (au (au (ar 3 (au AllUpTo.zero (OpAt.val rfl (by kernel_rfl) (C' := True) (x := B (anyTo g (runAll g zeroState (someRecs l)).1 r i)) (by kernel_rfl) (trivial) rfl (by kernel_rfl) (x' := B false) (by kernel_rfl) (TLe.b hs1) (by kernel_rfl) (by kernel_rfl) (by kernel_rfl)))) ot) (OpAt.val rfl (by kernel_rfl) (C' := 0 ≤ (i : Int) ∧ (i : Int) < ((gridStarts g r.Time).length : Int)) (x := .one (.c (.ip 1 (fun j_ => nth (eI ((gridStarts g r.Time).getD i 0)) j_)))) (by kernel_rfl) (by omega) rfl (by kernel_rfl) (by kernel_rfl) (TLe.refl _) (by kernel_rfl) (by kernel_rfl) (by kernel_rfl))))
 refine AOps.ca (ok_closed14 g ((gridStarts g r.Time).getD i 0) (((runAll g zeroState (someRecs l)).1).Mark) (by omega)) ?_
 rintro _ rfl
 refine AOps.e ⟨[sp 3, sp 7, sp 10, (z7_6 g l r), (14, B (valOk r)), (z7_8 g r), (z7_15 g l r i), (18, I (i : Int)), (z7_10 g), (z7_11 g r), (70, I (i : Int)), (z7_12 g r i), (z7_13 g r i), (73, tP 7 0), (z7_14 g l), (z7_16 g l r i), (z7_17 g l r i)], y7_2 g l r⟩ ?_
 refine AC.rR [0, 1, 2] ?_
 refine AOps.m [0, 1, 2] ⟨[sp 3, sp 7, sp 10, (z7_6 g l r), (14, B (valOk r)), (z7_8 g r), (z7_15 g l r i), (18, I (IntKind.i64.wrap ((i : Int) + 1))), (z7_10 g), (z7_11 g r), (70, I (i : Int)), (z7_12 g r i), (z7_13 g r i), (73, tP 7 0), (z7_14 g l), (z7_16 g l r i), (z7_17 g l r i)], y7_2 g l r⟩ ?_
 refine AOps.le (st' := ⟨[sp 3, sp 7, sp 10, (z7_6 g l r), (14, B (valOk r)), (z7_8 g r), (z7_15 g l r i), (18, I ((i + 1 : Nat) : Int)), (z7_10 g), (z7_11 g r), (70, I (i : Int)), (z7_12 g r i), (z7_13 g r i), (73, tP 7 0), (z7_14 g l), (z7_16 g l r i), (z7_17 g l r i)], y7_2 g l r⟩) (Le.of (lk rfl (lk rfl (lk rfl (lk rfl (lk rfl (lk rfl (lk rfl (LeS.cons rfl (TLe.i (by rw [wrap_in (n := ((i : Int) + 1)) (by omega) (by omega)] <;> omega)) (lk rfl (lk rfl (lk rfl (lk rfl (lk rfl (lk rfl (lk rfl (lk rfl (lk rfl LeS.nil))))))))))))))))) (ek rfl (ek rfl (ek rfl LeE.nil))) (by kernel_rfl)) ?_
 refine AOps.done ?_
 try refine blockA_n ?_
 exact roundA_n (i + 1) (by omega) (by show (gridStarts g r.Time).length - (i + 1) < (gridStarts g r.Time).length - i; omega) (Le.of (lk rfl (lk rfl (lk rfl (lk rfl (lk rfl (lk rfl (LeS.cons rfl (TLe.b (by first | rfl | exact anyTo_t (by omega) (by assumption) | exact anyTo_f (by omega) (by assumption))) (LeS.cons rfl (TLe.i (by omega)) LeS.nil)))))))) (ek rfl (ek rfl (ek rfl LeE.nil))) (by kernel_rfl))
 have h3 := h_; have r3 := h_; clear h_; try simp only [bb] at h3
 refine AC.exit ?_
 repeat (first | refine thenA_x ?_ | refine roundA_x ?_ | refine joinA_x ?_ | refine blockA_hit ?_ | refine blockA_miss (by decide) ?_)
 refine AC.seq ?_
 have hA : anyTo g (runAll g zeroState (someRecs l)).1 r i = anyOpen g (runAll g zeroState (someRecs l)).1 r := anyTo_all (by omega)
 refine AC.rS [0, 1, 2, 3] ?_
 refine AOps.m [0, 1] ⟨[sp 7, sp 10, (z7_6 g l r), (14, B (valOk r)), (z7_9 g l r i), (79, B (valOk r))], [(z7_5 g l), (z7_7 g l r)]⟩ ?_
 refine AOps.s [2] 3 79 80 81 true (valOk r) (anyTo g (runAll g zeroState (someRecs l)).1 r i) [7, 10, 11, 14] (fun h_ => ?_) ?_
 clear h_
 refine AOps.m [2] ⟨[sp 7, sp 10, (z7_6 g l r), (14, B (valOk r)), (79, B true), (80, B (anyTo g (runAll g zeroState (someRecs l)).1 r i))], [(z7_5 g l), (z7_7 g l r)]⟩ ?_
 exact scd
 refine AOps.done ?_
 refine AC.cd (b := (valOk r) && (anyTo g (runAll g zeroState (someRecs l)).1 r i)) (fun h_ => ?_) (fun h_ => ?_)
 have h4 := h_; have r4 := h_; clear h_; try simp only [bb] at h4
 have hv := (both_t (a := valOk r) (b := anyTo g (runAll g zeroState (someRecs l)).1 r i) (by assumption)).1
 refine AC.rS [0, 1, 2, 3, 4, 5, 6, 7, 8, 9, 10, 11, 12, 13, 14, 15, 16] ?_
 refine AOps.m [0, 1, 2, 3, 4, 5] ⟨[sp 7, sp 10, (87, B (((feedSt g ((runAll g zeroState (someRecs l)).1) r).Bad) == (((runAll g zeroState (someRecs l)).1).Bad)))], [(z7_5 g l), (z7_7 g l r)]⟩ ?_
 refine AOps.s [6, 7, 8, 9, 10, 11] 12 87 93 94 true (((feedSt g ((runAll g zeroState (someRecs l)).1) r).Bad) == (((runAll g zeroState (someRecs l)).1).Bad)) (((feedSt g ((runAll g zeroState (someRecs l)).1) r).N) == (IntKind.i64.wrap ((((runAll g zeroState (someRecs l)).1).N) + 1))) [] (fun h_ => ?_) ?_
 clear h_
 refine AOps.m [6, 7, 8, 9, 10, 11] ⟨[(87, B true), (93, B (((feedSt g ((runAll g zeroState (someRecs l)).1) r).N) == (IntKind.i64.wrap ((((runAll g zeroState (someRecs l)).1).N) + 1))))], [(z7_5 g l), (z7_7 g l r)]⟩ ?_
 exact scd
 refine AOps.m [13] ⟨[(95, B ((((feedSt g ((runAll g zeroState (someRecs l)).1) r).Bad) == (((runAll g zeroState (someRecs l)).1).Bad)) && (((feedSt g ((runAll g zeroState (someRecs l)).1) r).N) == (IntKind.i64.wrap ((((runAll g zeroState (someRecs l)).1).N) + 1)))))], []⟩ ?_
 refine AOps.s [14] 15 95 96 97 true ((((feedSt g ((runAll g zeroState (someRecs l)).1) r).Bad) == (((runAll g zeroState (someRecs l)).1).Bad)) && (((feedSt g ((runAll g zeroState (someRecs l)).1) r).N) == (IntKind.i64.wrap ((((runAll g zeroState (someRecs l)).1).N) + 1)))) (true) [] (fun h_ => ?_) ?_
 clear h_
 refine AOps.ca (ok_awake) ?_
 rintro _ rfl
 exact scd
 refine AOps.m [16] ⟨[(6, B (((((feedSt g ((runAll g zeroState (someRecs l)).1) r).Bad) == (((runAll g zeroState (someRecs l)).1).Bad)) && (((feedSt g ((runAll g zeroState (someRecs l)).1) r).N) == (IntKind.i64.wrap ((((runAll g zeroState (someRecs l)).1).N) + 1)))) && true))], []⟩ ?_
 refine AOps.le (st' := ⟨[(6, B (((((feedSt g ((runAll g zeroState (someRecs l)).1) r).Bad) == (((runAll g zeroState (someRecs l)).1).Bad)) && (((feedSt g ((runAll g zeroState (someRecs l)).1) r).N) == ((((runAll g zeroState (someRecs l)).1).N) + 1))) && true))], []⟩) (Le.of (LeS.cons rfl (TLe.b (by rw [wrap_in (n := ((((runAll g zeroState (someRecs l)).1).N) + 1)) (by omega) (by omega)] <;> rfl)) LeS.nil) LeE.nil (by kernel_rfl)) ?_
 refine AOps.done ?_
 refine AC.ret ?_
 exact rqr uEngineLate (All2.cons (ULe.c (CLe.d (DLe.eq (congrArg dB (show (((((feedSt g ((runAll g zeroState (someRecs l)).1) r).Bad) == (((runAll g zeroState (someRecs l)).1).Bad)) && (((feedSt g ((runAll g zeroState (someRecs l)).1) r).N) == ((((runAll g zeroState (someRecs l)).1).N) + 1))) && true) = (true) by first | rfl | exact absurd (late_err h150 hE hR) (by assumption) | exact late_shut h150 hE hR hv hno | exact late_open h150 hE hR hv | exact late_bad h150 hE hR (by assumption)))))) All2.nil)
 have h4 := h_; have r4 := h_; clear h_; try simp only [bb] at h4
 refine AC.skip ?_
 refine AC.q ⟨[sp 7, sp 10, (z7_6 g l r), (14, B (valOk r)), sp 19], [(z7_5 g l), (z7_7 g l r), (19, .var ((eState ((runAll g zeroState (someRecs l)).1)).map .d))]⟩ ?_
 refine AC.rS [0, 1, 2, 3, 4] ?_
 refine AOps.m [0, 1, 2, 3, 4] ⟨[sp 7, sp 10, (z7_6 g l r), (14, B (valOk r)), sp 19], [(z7_5 g l), (z7_7 g l r), (19, .var ([.d (dI (((runAll g zeroState (someRecs l)).1).Mark)), .d (dI (((runAll g zeroState (someRecs l)).1).Late)), .d (dI (((runAll g zeroState (someRecs l)).1).Bad)), .d (dI (IntKind.i64.wrap ((((runAll g zeroState (someRecs l)).1).N) + 1))), .d (row 12 eCell zCell (((runAll g zeroState (someRecs l)).1).L))]))]⟩ ?_
 refine AOps.le (st' := ⟨[sp 7, sp 10, (z7_6 g l r), (14, B (valOk r)), sp 19], [(z7_5 g l), (z7_7 g l r), (z7_18 g l)]⟩) (Le.of (lk rfl (lk rfl (lk rfl (lk rfl (lk rfl LeS.nil))))) (ek rfl (ek rfl (LeE.cons rfl (BLe.eq (by rw [wrap_in (n := ((((runAll g zeroState (someRecs l)).1).N) + 1)) (by omega) (by omega)] <;> simp)) LeE.nil))) (by kernel_rfl)) ?_
 refine AOps.done ?_
 refine AC.seq ?_
 refine AC.q ⟨[sp 7, sp 10, (z7_6 g l r), sp 19, (103, B (valOk r))], [(z7_5 g l), (z7_7 g l r), (z7_18 g l)]⟩ ?_
 refine AC.cd (b := valOk r) (fun h_ => ?_) (fun h_ => ?_)
 have h5 := h_; have r5 := h_; clear h_; try simp only [bb] at h5
 have hv : valOk r = true := by assumption
 have hno := hA.symm.trans (both_f (a := valOk r) (b := anyTo g (runAll g zeroState (someRecs l)).1 r i) (by assumption) hv)
 refine AC.rR [0, 1, 2, 3, 4] ?_
 refine AOps.m [0, 1, 2, 3, 4] ⟨[sp 10, (z7_6 g l r), sp 19], [(z7_7 g l r), (19, .var ([.d (dI (((runAll g zeroState (someRecs l)).1).Mark)), .d (dI (IntKind.i64.wrap ((((runAll g zeroState (someRecs l)).1).Late) + 1))), .d (dI (((runAll g zeroState (someRecs l)).1).Bad)), .d (dI ((((runAll g zeroState (someRecs l)).1).N) + 1)), .d (row 12 eCell zCell (((runAll g zeroState (someRecs l)).1).L))]))]⟩ ?_
 refine AOps.le (st' := ⟨[sp 10, (z7_6 g l r), sp 19], [(z7_7 g l r), (19, .var ([.d (dI (((runAll g zeroState (someRecs l)).1).Mark)), .d (dI ((((runAll g zeroState (someRecs l)).1).Late) + 1)), .d (dI (((runAll g zeroState (someRecs l)).1).Bad)), .d (dI ((((runAll g zeroState (someRecs l)).1).N) + 1)), .d (row 12 eCell zCell (((runAll g zeroState (someRecs l)).1).L))]))]⟩) (Le.of (lk rfl (lk rfl (lk rfl LeS.nil))) (ek rfl (LeE.cons rfl (BLe.eq (by rw [wrap_in (n := ((((runAll g zeroState (someRecs l)).1).Late) + 1)) (by omega) (by omega)] <;> simp)) LeE.nil)) (by kernel_rfl)) ?_
 refine AOps.done ?_
 refine AC.rS [0, 1, 2, 3, 4, 5, 6, 7, 8, 9, 10, 11] ?_
 refine AOps.m [0, 1] ⟨[(z7_6 g l r), (112, tA ((eState (feedSt g ((runAll g zeroState (someRecs l)).1) r)).map .d)), (113, tA [.d (dI (((runAll g zeroState (someRecs l)).1).Mark)), .d (dI ((((runAll g zeroState (someRecs l)).1).Late) + 1)), .d (dI (((runAll g zeroState (someRecs l)).1).Bad)), .d (dI ((((runAll g zeroState (someRecs l)).1).N) + 1)), .d (row 12 eCell zCell (((runAll g zeroState (someRecs l)).1).L))])], []⟩ ?_
 refine AOps.ca (ok_same (feedSt g ((runAll g zeroState (someRecs l)).1) r) (⟨((runAll g zeroState (someRecs l)).1).Mark, ((((runAll g zeroState (someRecs l)).1).Late) + 1), ((runAll g zeroState (someRecs l)).1).Bad, ((((runAll g zeroState (someRecs l)).1).N) + 1), ((runAll g zeroState (someRecs l)).1).L⟩ : State) (by first | assumption | omega)) ?_
 rintro _ rfl
 refine AOps.m [3] ⟨[(z7_6 g l r), (115, B (sameState (feedSt g ((runAll g zeroState (someRecs l)).1) r) (⟨((runAll g zeroState (someRecs l)).1).Mark, ((((runAll g zeroState (someRecs l)).1).Late) + 1), ((runAll g zeroState (someRecs l)).1).Bad, ((((runAll g zeroState (someRecs l)).1).N) + 1), ((runAll g zeroState (someRecs l)).1).L⟩ : State)))], []⟩ ?_
 refine AOps.s [4, 5, 6] 7 115 118 119 true (sameState (feedSt g ((runAll g zeroState (someRecs l)).1) r) (⟨((runAll g zeroState (someRecs l)).1).Mark, ((((runAll g zeroState (someRecs l)).1).Late) + 1), ((runAll g zeroState (someRecs l)).1).Bad, ((((runAll g zeroState (someRecs l)).1).N) + 1), ((runAll g zeroState (someRecs l)).1).L⟩ : State)) (((feedOver g ((runAll g zeroState (someRecs l)).1) r).length : Int) == 0) [] (fun h_ => ?_) ?_
 clear h_
 refine AOps.m [4, 5, 6] ⟨[(115, B true), (118, B (((feedOver g ((runAll g zeroState (someRecs l)).1) r).length : Int) == 0))], []⟩ ?_
 exact scd
 refine AOps.m [8] ⟨[(120, B ((sameState (feedSt g ((runAll g zeroState (someRecs l)).1) r) (⟨((runAll g zeroState (someRecs l)).1).Mark, ((((runAll g zeroState (someRecs l)).1).Late) + 1), ((runAll g zeroState (someRecs l)).1).Bad, ((((runAll g zeroState (someRecs l)).1).N) + 1), ((runAll g zeroState (someRecs l)).1).L⟩ : State)) && (((feedOver g ((runAll g zeroState (someRecs l)).1) r).length : Int) == 0)))], []⟩ ?_
 refine AOps.s [9] 10 120 121 122 true ((sameState (feedSt g ((runAll g zeroState (someRecs l)).1) r) (⟨((runAll g zeroState (someRecs l)).1).Mark, ((((runAll g zeroState (someRecs l)).1).Late) + 1), ((runAll g zeroState (someRecs l)).1).Bad, ((((runAll g zeroState (someRecs l)).1).N) + 1), ((runAll g zeroState (someRecs l)).1).L⟩ : State)) && (((feedOver g ((runAll g zeroState (someRecs l)).1) r).length : Int) == 0)) (true) [] (fun h_ => ?_) ?_
 clear h_
 refine AOps.ca (ok_awake) ?_
 rintro _ rfl
 exact scd
 refine AOps.e ⟨[(6, B (((sameState (feedSt g ((runAll g zeroState (someRecs l)).1) r) (⟨((runAll g zeroState (someRecs l)).1).Mark, ((((runAll g zeroState (someRecs l)).1).Late) + 1), ((runAll g zeroState (someRecs l)).1).Bad, ((((runAll g zeroState (someRecs l)).1).N) + 1), ((runAll g zeroState (someRecs l)).1).L⟩ : State)) && (((feedOver g ((runAll g zeroState (someRecs l)).1) r).length : Int) == 0)) && true))], []⟩ ?_
 refine AC.ret ?_
 exact rqr uEngineLate (All2.cons (ULe.c (CLe.d (DLe.eq (congrArg dB (show (((sameState (feedSt g ((runAll g zeroState (someRecs l)).1) r) (⟨((runAll g zeroState (someRecs l)).1).Mark, ((((runAll g zeroState (someRecs l)).1).Late) + 1), ((runAll g zeroState (someRecs l)).1).Bad, ((((runAll g zeroState (someRecs l)).1).N) + 1), ((runAll g zeroState (someRecs l)).1).L⟩ : State)) && (((feedOver g ((runAll g zeroState (someRecs l)).1) r).length : Int) == 0)) && true) = (true) by first | rfl | exact absurd (late_err h150 hE hR) (by assumption) | exact late_shut h150 hE hR hv hno | exact late_open h150 hE hR hv | exact late_bad h150 hE hR (by assumption)))))) All2.nil)
 have h5 := h_; have r5 := h_; clear h_; try simp only [bb] at h5
 refine AC.rR [0, 1, 2, 3, 4] ?_
 refine AOps.m [0, 1, 2, 3, 4] ⟨[sp 10, (z7_6 g l r), sp 19], [(z7_7 g l r), (19, .var ([.d (dI (((runAll g zeroState (someRecs l)).1).Mark)), .d (dI (((runAll g zeroState (someRecs l)).1).Late)), .d (dI (IntKind.i64.wrap ((((runAll g zeroState (someRecs l)).1).Bad) + 1))), .d (dI ((((runAll g zeroState (someRecs l)).1).N) + 1)), .d (row 12 eCell zCell (((runAll g zeroState (someRecs l)).1).L))]))]⟩ ?_
 refine AOps.le (st' := ⟨[sp 10, (z7_6 g l r), sp 19], [(z7_7 g l r), (19, .var ([.d (dI (((runAll g zeroState (someRecs l)).1).Mark)), .d (dI (((runAll g zeroState (someRecs l)).1).Late)), .d (dI ((((runAll g zeroState (someRecs l)).1).Bad) + 1)), .d (dI ((((runAll g zeroState (someRecs l)).1).N) + 1)), .d (row 12 eCell zCell (((runAll g zeroState (someRecs l)).1).L))]))]⟩) (Le.of (lk rfl (lk rfl (lk rfl LeS.nil))) (ek rfl (LeE.cons rfl (BLe.eq (by rw [wrap_in (n := ((((runAll g zeroState (someRecs l)).1).Bad) + 1)) (by omega) (by omega)] <;> simp)) LeE.nil)) (by kernel_rfl)) ?_
 refine AOps.done ?_
 refine AC.rS [0, 1, 2, 3, 4, 5, 6, 7, 8, 9, 10, 11] ?_
 refine AOps.m [0, 1] ⟨[(z7_6 g l r), (112, tA ((eState (feedSt g ((runAll g zeroState (someRecs l)).1) r)).map .d)), (113, tA [.d (dI (((runAll g zeroState (someRecs l)).1).Mark)), .d (dI (((runAll g zeroState (someRecs l)).1).Late)), .d (dI ((((runAll g zeroState (someRecs l)).1).Bad) + 1)), .d (dI ((((runAll g zeroState (someRecs l)).1).N) + 1)), .d (row 12 eCell zCell (((runAll g zeroState (someRecs l)).1).L))])], []⟩ ?_
 refine AOps.ca (ok_same (feedSt g ((runAll g zeroState (someRecs l)).1) r) (⟨((runAll g zeroState (someRecs l)).1).Mark, ((runAll g zeroState (someRecs l)).1).Late, ((((runAll g zeroState (someRecs l)).1).Bad) + 1), ((((runAll g zeroState (someRecs l)).1).N) + 1), ((runAll g zeroState (someRecs l)).1).L⟩ : State) (by first | assumption | omega)) ?_
 rintro _ rfl
 refine AOps.m [3] ⟨[(z7_6 g l r), (115, B (sameState (feedSt g ((runAll g zeroState (someRecs l)).1) r) (⟨((runAll g zeroState (someRecs l)).1).Mark, ((runAll g zeroState (someRecs l)).1).Late, ((((runAll g zeroState (someRecs l)).1).Bad) + 1), ((((runAll g zeroState (someRecs l)).1).N) + 1), ((runAll g zeroState (someRecs l)).1).L⟩ : State)))], []⟩ ?_
 refine AOps.s [4, 5, 6] 7 115 118 119 true (sameState (feedSt g ((runAll g zeroState (someRecs l)).1) r) (⟨((runAll g zeroState (someRecs l)).1).Mark, ((runAll g zeroState (someRecs l)).1).Late, ((((runAll g zeroState (someRecs l)).1).Bad) + 1), ((((runAll g zeroState (someRecs l)).1).N) + 1), ((runAll g zeroState (someRecs l)).1).L⟩ : State)) (((feedOver g ((runAll g zeroState (someRecs l)).1) r).length : Int) == 0) [] (fun h_ => ?_) ?_
 clear h_
 refine AOps.m [4, 5, 6] ⟨[(115, B true), (118, B (((feedOver g ((runAll g zeroState (someRecs l)).1) r).length : Int) == 0))], []⟩ ?_
 exact scd
 refine AOps.m [8] ⟨[(120, B ((sameState (feedSt g ((runAll g zeroState (someRecs l)).1) r) (⟨((runAll g zeroState (someRecs l)).1).Mark, ((runAll g zeroState (someRecs l)).1).Late, ((((runAll g zeroState (someRecs l)).1).Bad) + 1), ((((runAll g zeroState (someRecs l)).1).N) + 1), ((runAll g zeroState (someRecs l)).1).L⟩ : State)) && (((feedOver g ((runAll g zeroState (someRecs l)).1) r).length : Int) == 0)))], []⟩ ?_
 refine AOps.s [9] 10 120 121 122 true ((sameState (feedSt g ((runAll g zeroState (someRecs l)).1) r) (⟨((runAll g zeroState (someRecs l)).1).Mark, ((runAll g zeroState (someRecs l)).1).Late, ((((runAll g zeroState (someRecs l)).1).Bad) + 1), ((((runAll g zeroState (someRecs l)).1).N) + 1), ((runAll g zeroState (someRecs l)).1).L⟩ : State)) && (((feedOver g ((runAll g zeroState (someRecs l)).1) r).length : Int) == 0)) (true) [] (fun h_ => ?_) ?_
 clear h_
 refine AOps.ca (ok_awake) ?_
 rintro _ rfl
 exact scd
 refine AOps.e ⟨[(6, B (((sameState (feedSt g ((runAll g zeroState (someRecs l)).1) r) (⟨((runAll g zeroState (someRecs l)).1).Mark, ((runAll g zeroState (someRecs l)).1).Late, ((((runAll g zeroState (someRecs l)).1).Bad) + 1), ((((runAll g zeroState (someRecs l)).1).N) + 1), ((runAll g zeroState (someRecs l)).1).L⟩ : State)) && (((feedOver g ((runAll g zeroState (someRecs l)).1) r).length : Int) == 0)) && true))], []⟩ ?_
 refine AC.ret ?_
 exact rqr uEngineLate (All2.cons (ULe.c (CLe.d (DLe.eq (congrArg dB (show (((sameState (feedSt g ((runAll g zeroState (someRecs l)).1) r) (⟨((runAll g zeroState (someRecs l)).1).Mark, ((runAll g zeroState (someRecs l)).1).Late, ((((runAll g zeroState (someRecs l)).1).Bad) + 1), ((((runAll g zeroState (someRecs l)).1).N) + 1), ((runAll g zeroState (someRecs l)).1).L⟩ : State)) && (((feedOver g ((runAll g zeroState (someRecs l)).1) r).length : Int) == 0)) && true) = (true) by first | rfl | exact absurd (late_err h150 hE hR) (by assumption) | exact late_shut h150 hE hR hv hno | exact late_open h150 hE hR hv | exact late_bad h150 hE hR (by assumption)))))) All2.nil)
end Go.Proofs.Ytfpmgnkbklnkaaa.Eng
end
