/- Part 3 of the engine that steps through the program, of the plain words and of what the program's functions come to; no condition. -/
import Derived.Test.YtfpmgnkbklnkaaaProg
import Derived.Test.YtfpmgnkbklnkaaaK2
section
set_option linter.unusedSimpArgs false
set_option linter.unusedVariables false
set_option maxRecDepth 100000
set_option maxHeartbeats 4000000
namespace Go.Proofs.Ytfpmgnkbklnkaaa.Eng
open Go Go.Proofs
abbrev uadd (a : Agg) (v : Int) : List U := [.agg ((eAgg (aggAdd a v)).map .d)]
abbrev z85_0 : Nat × Blk := (4, .var ([.d (dI 0), .d (dI 0), .d (dI 0), .d (dI 0), .d (dI 0), .d (dI 0), .d (dI 0), .d (dI 0), .d (dI 0), .d (dI 0)]))
abbrev z85_1 (a : Agg) (v : Int) : Nat × Blk := (2, .var ([.d (dI a.Count), .d (dI a.Sum), .d (dI (bif a.Count == 0 then v else a.Min)), .d (dI (bif a.Count == 0 then v else a.Max)), .d (dI a.Hist.h0), .d (dI a.Hist.h1), .d (dI a.Hist.h2), .d (dI a.Hist.h3), .d (dI a.Re), .d (dI a.Im)]))
abbrev z85_2 (a : Agg) (v : Int) : Nat × Blk := (2, .var ([.d (dI (satAdd a.Count 1)), .d (dI a.Sum), .d (dI (bif a.Count == 0 then v else a.Min)), .d (dI (bif a.Count == 0 then v else a.Max)), .d (dI a.Hist.h0), .d (dI a.Hist.h1), .d (dI a.Hist.h2), .d (dI a.Hist.h3), .d (dI a.Re), .d (dI a.Im)]))
abbrev z85_3 (a : Agg) (v : Int) : Nat × Blk := (2, .var ([.d (dI (satAdd a.Count 1)), .d (dI (satAdd a.Sum v)), .d (dI (if v < (bif a.Count == 0 then v else a.Min) then v else (bif a.Count == 0 then v else a.Min))), .d (dI (if v > (bif a.Count == 0 then v else a.Max) then v else (bif a.Count == 0 then v else a.Max))), .d (dI (satAdd a.Hist.h0 1)), .d (dI a.Hist.h1), .d (dI a.Hist.h2), .d (dI a.Hist.h3), .d (dI a.Re), .d (dI a.Im)]))
abbrev z85_4 (v : Int) : Nat × T := (5, tD (.v (turnK (quarter v))))
abbrev z85_5 (a : Agg) : Nat × T := (49, I (satAdd a.Re (-1)))
abbrev z85_6 (a : Agg) : Nat × T := (55, I (satAdd a.Im (-1)))
abbrev z85_7 (a : Agg) (v : Int) : Nat × Blk := (2, .var ([.d (dI (satAdd a.Count 1)), .d (dI (satAdd a.Sum v)), .d (dI (if v < (bif a.Count == 0 then v else a.Min) then v else (bif a.Count == 0 then v else a.Min))), .d (dI (if v > (bif a.Count == 0 then v else a.Max) then v else (bif a.Count == 0 then v else a.Max))), .d (dI a.Hist.h0), .d (dI (satAdd a.Hist.h1 1)), .d (dI a.Hist.h2), .d (dI a.Hist.h3), .d (dI a.Re), .d (dI a.Im)]))
abbrev z85_8 (a : Agg) (v : Int) : Nat × Blk := (2, .var ([.d (dI (satAdd a.Count 1)), .d (dI (satAdd a.Sum v)), .d (dI (if v < (bif a.Count == 0 then v else a.Min) then v else (bif a.Count == 0 then v else a.Min))), .d (dI (if v > (bif a.Count == 0 then v else a.Max) then v else (bif a.Count == 0 then v else a.Max))), .d (dI a.Hist.h0), .d (dI a.Hist.h1), .d (dI (satAdd a.Hist.h2 1)), .d (dI a.Hist.h3), .d (dI a.Re), .d (dI a.Im)]))
abbrev z85_9 (a : Agg) (v : Int) : Nat × Blk := (2, .var ([.d (dI (satAdd a.Count 1)), .d (dI (satAdd a.Sum v)), .d (dI (if v < (bif a.Count == 0 then v else a.Min) then v else (bif a.Count == 0 then v else a.Min))), .d (dI (if v > (bif a.Count == 0 then v else a.Max) then v else (bif a.Count == 0 then v else a.Max))), .d (dI a.Hist.h0), .d (dI a.Hist.h1), .d (dI a.Hist.h2), .d (dI (satAdd a.Hist.h3 1)), .d (dI a.Re), .d (dI a.Im)]))
abbrev y85_0 (a : Agg) (v : Int) : List (Nat × Blk) := [(2, .var ([.d (dI (satAdd a.Count 1)), .d (dI (satAdd a.Sum v)), .d (dI (if v < (bif a.Count == 0 then v else a.Min) then v else (bif a.Count == 0 then v else a.Min))), .d (dI (if v > (bif a.Count == 0 then v else a.Max) then v else (bif a.Count == 0 then v else a.Max))), .d (dI a.Hist.h0), .d (dI a.Hist.h1), .d (dI a.Hist.h2), .d (dI a.Hist.h3), .d (dI a.Re), .d (dI a.Im)])), (z85_0)]
abbrev y85_1 (a : Agg) (v : Int) : List (Nat × Blk) := [(z85_3 a v), (z85_0)]
abbrev y85_2 (a : Agg) (v : Int) : List (Nat × Blk) := [(z85_7 a v), (z85_0)]
abbrev y85_3 (a : Agg) (v : Int) : List (Nat × Blk) := [(z85_8 a v), (z85_0)]
abbrev y85_4 (a : Agg) (v : Int) : List (Nat × Blk) := [(z85_9 a v), (z85_0)]
/-- headgate/fold.Add. -/
theorem ok_add (a : Agg) (v : Int) (har : AggR a) (hv_ : R64 v) :
 FnOk Try.prog 85 [.agg ((eAgg a).map .d), .c (.d (dI v))] (fun r_ => r_ = tA ((eAgg (aggAdd a v)).map .d)) := by
 obtain ⟨r1, r2, r3, r4, r5, r6, r7, r8, r9, r10⟩ := har
 refine FnOk.go Try.func85 rfl 59 ?_
 intro w0 m0
 show AC _ _ ⟨[(0, tA ((eAgg a).map .d)), (1, I v)], []⟩ _
 refine AC.q ⟨[(1, I v), sp 2, sp 4], [(2, .var ((eAgg a).map .d)), (z85_0)]⟩ ?_
 refine AC.join (ι := Unit) (fun _ => ⟨[(1, I v), sp 2, sp 4], [(z85_1 a v), (z85_0)]⟩) (fun _ => True) ?_ ?_
 refine AC.q ⟨[(1, I v), sp 2, sp 4, (8, B (a.Count == 0))], [(2, .var ((eAgg a).map .d)), (z85_0)]⟩ ?_
 refine AC.cd (b := a.Count == 0) (fun h_ => ?_) (fun h_ => ?_)
 have h1 := h_; have r1 := h_; clear h_; try simp only [bb] at h1
 refine AC.qR ⟨[(1, I v), sp 2, sp 4], [(2, .var ([.d (dI a.Count), .d (dI a.Sum), .d (dI v), .d (dI v), .d (dI a.Hist.h0), .d (dI a.Hist.h1), .d (dI a.Hist.h2), .d (dI a.Hist.h3), .d (dI a.Re), .d (dI a.Im)])), (z85_0)]⟩ ?_
 refine joinA_n () trivial (Le.of (lk rfl (lk rfl (lk rfl LeS.nil))) (LeE.cons rfl (BLe.var (ck (ck (All2.cons (CLe.d (DLe.eq (congrArg dI ?_))) (All2.cons (CLe.d (DLe.eq (congrArg dI ?_))) (ck (ck (ck (ck (ck (ck All2.nil))))))))))) (ek rfl LeE.nil)) (by kernel_rfl))
 iterate 2 (· first | rfl | exact jt (by assumption) | exact jf (by assumption))
 have h1 := h_; have r1 := h_; clear h_; try simp only [bb] at h1
 refine AC.skip ?_
 refine joinA_n () trivial (Le.of (lk rfl (lk rfl (lk rfl LeS.nil))) (LeE.cons rfl (BLe.var (ck (ck (All2.cons (CLe.d (DLe.eq (congrArg dI ?_))) (All2.cons (CLe.d (DLe.eq (congrArg dI ?_))) (ck (ck (ck (ck (ck (ck All2.nil))))))))))) (ek rfl LeE.nil)) (by kernel_rfl))
 iterate 2 (· first | rfl | exact jt (by assumption) | exact jf (by assumption))
 intro _ _
 refine AC.rS [0, 1, 2, 3, 4] ?_
 refine AOps.m [0, 1] ⟨[(1, I v), sp 2, sp 4, (14, I a.Count)], [(z85_1 a v), (z85_0)]⟩ ?_
 refine AOps.ca (ok_plus a.Count 1 ?_ ?_) ?_
 iterate 2 (· first | assumption | omega)
 rintro _ rfl
 refine AOps.e ⟨[(1, I v), sp 2, sp 4], [(z85_2 a v), (z85_0)]⟩ ?_
 refine AC.rS [0, 1, 2, 3, 4, 5] ?_
 refine AOps.m [0, 1, 2] ⟨[(1, I v), sp 2, sp 4, (18, I a.Sum), (19, I v)], [(z85_2 a v), (z85_0)]⟩ ?_
 refine AOps.ca (ok_plus a.Sum v ?_ ?_) ?_
 iterate 2 (· first | assumption | omega)
 rintro _ rfl
 refine AOps.e ⟨[(1, I v), sp 2, sp 4], [(2, .var ([.d (dI (satAdd a.Count 1)), .d (dI (satAdd a.Sum v)), .d (dI (bif a.Count == 0 then v else a.Min)), .d (dI (bif a.Count == 0 then v else a.Max)), .d (dI a.Hist.h0), .d (dI a.Hist.h1), .d (dI a.Hist.h2), .d (dI a.Hist.h3), .d (dI a.Re), .d (dI a.Im)])), (z85_0)]⟩ ?_
 refine AC.q ⟨[(1, I v), sp 2, sp 4], y85_0 a v⟩ ?_
 have hk_ : sortOf v = 0 ∨ sortOf v = 1 ∨ sortOf v = 2 ∨ sortOf v = 3 := by exact sortOf_cases v
 rcases hk_ with hsort | hsort | hsort | hsort
 refine AC.le (st' := ⟨[(1, I v), sp 2, sp 4], y85_0 a v⟩) (Le.of (lk rfl (lk rfl (lk rfl LeS.nil))) (ek rfl (ek rfl LeE.nil)) (by kernel_rfl)) ?_
 refine AC.rS [0, 1, 2, 3, 4, 5, 6, 7, 8, 9, 10] ?_
 refine AOps.m [0] ⟨[(1, I v), sp 2, sp 4, (32, I v)], y85_0 a v⟩ ?_
 refine AOps.ca (ok_sort v) ?_
 rintro _ rfl
 refine AOps.le (st' := ⟨[(1, I v), sp 2, sp 4, (32, I v), (33, I 0)], y85_0 a v⟩) (Le.of (lk rfl (lk rfl (lk rfl (lk rfl (LeS.cons rfl (TLe.i (by exact hsort)) LeS.nil))))) (ek rfl (ek rfl LeE.nil)) (by kernel_rfl)) ?_
 refine AOps.m [2] ⟨[(1, I v), sp 2, sp 4, (33, I 0), (34, I v)], y85_0 a v⟩ ?_
 refine AOps.ca (ok_sort v) ?_
 rintro _ rfl
 refine AOps.le (st' := ⟨[(1, I v), sp 2, sp 4, (33, I 0), (34, I v), (35, I 0)], y85_0 a v⟩) (Le.of (lk rfl (lk rfl (lk rfl (lk rfl (lk rfl (LeS.cons rfl (TLe.i (by exact hsort)) LeS.nil)))))) (ek rfl (ek rfl LeE.nil)) (by kernel_rfl)) ?_
 refine AOps.mc [4, 5, 6] (C' := (0 ≤ (0 : Int) ∧ (0 : Int) < ((4 : Nat) : Int)) ∧ True) ⟨[(1, I v), sp 2, sp 4, (33, I 0), (38, I a.Hist.h0)], y85_0 a v⟩ (⟨by omega, trivial⟩) ?_
 refine AOps.ca (ok_plus a.Hist.h0 1 ?_ ?_) ?_
 iterate 2 (· first | assumption | omega)
 rintro _ rfl
 refine AOps.ec (C' := (0 ≤ (0 : Int) ∧ (0 : Int) < ((4 : Nat) : Int)) ∧ True) ⟨[(1, I v), sp 2, sp 4], y85_1 a v⟩ (⟨by omega, trivial⟩) ?_
 refine AC.rS [0, 1, 2] ?_
 refine AOps.m [0] ⟨[sp 2, sp 4, (42, I v)], y85_1 a v⟩ ?_
 refine AOps.ca (ok_turn v (by first | assumption | omega)) ?_
 rintro _ rfl
 refine AOps.e ⟨[sp 2, sp 4, (z85_4 v)], y85_1 a v⟩ ?_
 have hk_ : quarter v = 0 ∨ quarter v = 1 ∨ quarter v = 2 ∨ quarter v = 3 := by have := quarter_lt v; omega
 rcases hk_ with hquart | hquart | hquart | hquart
 refine AC.le (st' := ⟨[sp 2, sp 4, (5, tD (.v (turnK 0)))], y85_1 a v⟩) (Le.of (lk rfl (lk rfl (LeS.cons rfl (TLe.one (ULe.c (CLe.d (DLe.eq (congrArg D.v (by first | omega | (simp only [hquart]; done) | (rw [hquart]) | (simp only [hquart]; rfl))))))) LeS.nil))) (ek rfl (ek rfl LeE.nil)) (by kernel_rfl)) ?_
 refine AC.dS 13 [] ⟨[sp 2, sp 4, (5, tD (.v (turnK 0))), (44, tP 2 8), (45, I a.Re), (46, tD (.v (turnK 0))), (47, tD (.v (turnRe 0))), (48, I 1), (49, I (satAdd a.Re 1)), (50, tP 2 9), (51, I a.Im), (52, tD (.v (turnK 0))), (53, tD (.v (turnIm 0))), (54, I 0), (55, I (satAdd a.Im 0)), (56, tP 2 8)], y85_1 a v⟩ [13, 14, 15] (.inl rfl) ?_ ?_
 · exact (au (au (ar 5 (au (au (ar 4 AllUpTo.zero) ot) (oc (ok_plus a.Re 1 (by first | assumption | omega) (by first | assumption | omega))))) (oc (ok_plus a.Im 0 (by first | assumption | omega) (by first | assumption | omega)))) ot)
 refine AOps.e ⟨[sp 2, sp 4], [(2, .var ([.d (dI (satAdd a.Count 1)), .d (dI (satAdd a.Sum v)), .d (dI (if v < (bif a.Count == 0 then v else a.Min) then v else (bif a.Count == 0 then v else a.Min))), .d (dI (if v > (bif a.Count == 0 then v else a.Max) then v else (bif a.Count == 0 then v else a.Max))), .d (dI (satAdd a.Hist.h0 1)), .d (dI a.Hist.h1), .d (dI a.Hist.h2), .d (dI a.Hist.h3), .d (dI (satAdd a.Re 1)), .d (dI (satAdd a.Im 0))])), (z85_0)]⟩ ?_
 refine AC.q ⟨[sp 4], [(4, .var ([.d (dI (satAdd a.Count 1)), .d (dI (satAdd a.Sum v)), .d (dI (if v < (bif a.Count == 0 then v else a.Min) then v else (bif a.Count == 0 then v else a.Min))), .d (dI (if v > (bif a.Count == 0 then v else a.Max) then v else (bif a.Count == 0 then v else a.Max))), .d (dI (satAdd a.Hist.h0 1)), .d (dI a.Hist.h1), .d (dI a.Hist.h2), .d (dI a.Hist.h3), .d (dI (satAdd a.Re 1)), .d (dI (satAdd a.Im 0))]))]⟩ ?_
 refine AC.ret ?_
 exact rqr (uadd a v) (All2.cons (ULe.eq (congrArg (fun x => U.agg ((eAgg x).map .d)) (show ((⟨satAdd a.Count 1, satAdd a.Sum v, (if v < (bif a.Count == 0 then v else a.Min) then v else (bif a.Count == 0 then v else a.Min)), (if v > (bif a.Count == 0 then v else a.Max) then v else (bif a.Count == 0 then v else a.Max)), (⟨satAdd a.Hist.h0 1, a.Hist.h1, a.Hist.h2, a.Hist.h3⟩ : H4), satAdd a.Re 1, satAdd a.Im 0⟩ : Agg)) = (aggAdd a v) by simp only [aggAdd, hsort, hquart, hget, hset, quartRe, quartIm]; congr 1 <;> first | rfl | omega | (by_cases hc_ : a.Count = 0 <;> simp [Bool.cond_eq_ite, Int.min_def, Int.max_def, hc_] <;> (repeat' split) <;> omega)))) All2.nil)
 refine AC.le (st' := ⟨[sp 2, sp 4, (5, tD (.v (turnK 1)))], y85_1 a v⟩) (Le.of (lk rfl (lk rfl (LeS.cons rfl (TLe.one (ULe.c (CLe.d (DLe.eq (congrArg D.v (by first | omega | (simp only [hquart]; done) | (rw [hquart]) | (simp only [hquart]; rfl))))))) LeS.nil))) (ek rfl (ek rfl LeE.nil)) (by kernel_rfl)) ?_
 refine AC.dS 13 [] ⟨[sp 2, sp 4, (5, tD (.v (turnK 1))), (44, tP 2 8), (45, I a.Re), (46, tD (.v (turnK 1))), (47, tD (.v (turnRe 1))), (48, I 0), (49, I (satAdd a.Re 0)), (50, tP 2 9), (51, I a.Im), (52, tD (.v (turnK 1))), (53, tD (.v (turnIm 1))), (54, I 1), (55, I (satAdd a.Im 1)), (56, tP 2 8)], y85_1 a v⟩ [13, 14, 15] (.inl rfl) ?_ ?_
 · exact (au (au (ar 5 (au (au (ar 4 AllUpTo.zero) ot) (oc (ok_plus a.Re 0 (by first | assumption | omega) (by first | assumption | omega))))) (oc (ok_plus a.Im 1 (by first | assumption | omega) (by first | assumption | omega)))) ot)
 refine AOps.e ⟨[sp 2, sp 4], [(2, .var ([.d (dI (satAdd a.Count 1)), .d (dI (satAdd a.Sum v)), .d (dI (if v < (bif a.Count == 0 then v else a.Min) then v else (bif a.Count == 0 then v else a.Min))), .d (dI (if v > (bif a.Count == 0 then v else a.Max) then v else (bif a.Count == 0 then v else a.Max))), .d (dI (satAdd a.Hist.h0 1)), .d (dI a.Hist.h1), .d (dI a.Hist.h2), .d (dI a.Hist.h3), .d (dI (satAdd a.Re 0)), .d (dI (satAdd a.Im 1))])), (z85_0)]⟩ ?_
 refine AC.q ⟨[sp 4], [(4, .var ([.d (dI (satAdd a.Count 1)), .d (dI (satAdd a.Sum v)), .d (dI (if v < (bif a.Count == 0 then v else a.Min) then v else (bif a.Count == 0 then v else a.Min))), .d (dI (if v > (bif a.Count == 0 then v else a.Max) then v else (bif a.Count == 0 then v else a.Max))), .d (dI (satAdd a.Hist.h0 1)), .d (dI a.Hist.h1), .d (dI a.Hist.h2), .d (dI a.Hist.h3), .d (dI (satAdd a.Re 0)), .d (dI (satAdd a.Im 1))]))]⟩ ?_
 refine AC.ret ?_
 exact rqr (uadd a v) (All2.cons (ULe.eq (congrArg (fun x => U.agg ((eAgg x).map .d)) (show ((⟨satAdd a.Count 1, satAdd a.Sum v, (if v < (bif a.Count == 0 then v else a.Min) then v else (bif a.Count == 0 then v else a.Min)), (if v > (bif a.Count == 0 then v else a.Max) then v else (bif a.Count == 0 then v else a.Max)), (⟨satAdd a.Hist.h0 1, a.Hist.h1, a.Hist.h2, a.Hist.h3⟩ : H4), satAdd a.Re 0, satAdd a.Im 1⟩ : Agg)) = (aggAdd a v) by simp only [aggAdd, hsort, hquart, hget, hset, quartRe, quartIm]; congr 1 <;> first | rfl | omega | (by_cases hc_ : a.Count = 0 <;> simp [Bool.cond_eq_ite, Int.min_def, Int.max_def, hc_] <;> (repeat' split) <;> omega)))) All2.nil)
 refine AC.le (st' := ⟨[sp 2, sp 4, (5, tD (.v (turnK 2)))], y85_1 a v⟩) (Le.of (lk rfl (lk rfl (LeS.cons rfl (TLe.one (ULe.c (CLe.d (DLe.eq (congrArg D.v (by first | omega | (simp only [hquart]; done) | (rw [hquart]) | (simp only [hquart]; rfl))))))) LeS.nil))) (ek rfl (ek rfl LeE.nil)) (by kernel_rfl)) ?_
 refine AC.dS 13 [] ⟨[sp 2, sp 4, (5, tD (.v (turnK 2))), (44, tP 2 8), (45, I a.Re), (46, tD (.v (turnK 2))), (47, tD (.v (turnRe 2))), (48, I (-1)), (z85_5 a), (50, tP 2 9), (51, I a.Im), (52, tD (.v (turnK 2))), (53, tD (.v (turnIm 2))), (54, I 0), (55, I (satAdd a.Im 0)), (56, tP 2 8)], y85_1 a v⟩ [13, 14, 15] (.inl rfl) ?_ ?_
 · exact (au (au (ar 5 (au (au (ar 4 AllUpTo.zero) ot) (oc (ok_plus a.Re (-1) (by first | assumption | omega) (by first | assumption | omega))))) (oc (ok_plus a.Im 0 (by first | assumption | omega) (by first | assumption | omega)))) ot)
 refine AOps.e ⟨[sp 2, sp 4], [(2, .var ([.d (dI (satAdd a.Count 1)), .d (dI (satAdd a.Sum v)), .d (dI (if v < (bif a.Count == 0 then v else a.Min) then v else (bif a.Count == 0 then v else a.Min))), .d (dI (if v > (bif a.Count == 0 then v else a.Max) then v else (bif a.Count == 0 then v else a.Max))), .d (dI (satAdd a.Hist.h0 1)), .d (dI a.Hist.h1), .d (dI a.Hist.h2), .d (dI a.Hist.h3), .d (dI (satAdd a.Re (-1))), .d (dI (satAdd a.Im 0))])), (z85_0)]⟩ ?_
 refine AC.q ⟨[sp 4], [(4, .var ([.d (dI (satAdd a.Count 1)), .d (dI (satAdd a.Sum v)), .d (dI (if v < (bif a.Count == 0 then v else a.Min) then v else (bif a.Count == 0 then v else a.Min))), .d (dI (if v > (bif a.Count == 0 then v else a.Max) then v else (bif a.Count == 0 then v else a.Max))), .d (dI (satAdd a.Hist.h0 1)), .d (dI a.Hist.h1), .d (dI a.Hist.h2), .d (dI a.Hist.h3), .d (dI (satAdd a.Re (-1))), .d (dI (satAdd a.Im 0))]))]⟩ ?_
 refine AC.ret ?_
 exact rqr (uadd a v) (All2.cons (ULe.eq (congrArg (fun x => U.agg ((eAgg x).map .d)) (show ((⟨satAdd a.Count 1, satAdd a.Sum v, (if v < (bif a.Count == 0 then v else a.Min) then v else (bif a.Count == 0 then v else a.Min)), (if v > (bif a.Count == 0 then v else a.Max) then v else (bif a.Count == 0 then v else a.Max)), (⟨satAdd a.Hist.h0 1, a.Hist.h1, a.Hist.h2, a.Hist.h3⟩ : H4), satAdd a.Re (-1), satAdd a.Im 0⟩ : Agg)) = (aggAdd a v) by simp only [aggAdd, hsort, hquart, hget, hset, quartRe, quartIm]; congr 1 <;> first | rfl | omega | (by_cases hc_ : a.Count = 0 <;> simp [Bool.cond_eq_ite, Int.min_def, Int.max_def, hc_] <;> (repeat' split) <;> omega)))) All2.nil)
 refine AC.le (st' := ⟨[sp 2, sp 4, (5, tD (.v (turnK 3)))], y85_1 a v⟩) (Le.of (lk rfl (lk rfl (LeS.cons rfl (TLe.one (ULe.c (CLe.d (DLe.eq (congrArg D.v (by first | omega | (simp only [hquart]; done) | (rw [hquart]) | (simp only [hquart]; rfl))))))) LeS.nil))) (ek rfl (ek rfl LeE.nil)) (by kernel_rfl)) ?_
 refine AC.dS 13 [] ⟨[sp 2, sp 4, (5, tD (.v (turnK 3))), (44, tP 2 8), (45, I a.Re), (46, tD (.v (turnK 3))), (47, tD (.v (turnRe 3))), (48, I 0), (49, I (satAdd a.Re 0)), (50, tP 2 9), (51, I a.Im), (52, tD (.v (turnK 3))), (53, tD (.v (turnIm 3))), (54, I (-1)), (z85_6 a), (56, tP 2 8)], y85_1 a v⟩ [13, 14, 15] (.inl rfl) ?_ ?_
 · exact (au (au (ar 5 (au (au (ar 4 AllUpTo.zero) ot) (oc (ok_plus a.Re 0 (by first | assumption | omega) (by first | assumption | omega))))) (oc (ok_plus a.Im (-1) (by first | assumption | omega) (by first | assumption | omega)))) ot)
 refine AOps.e ⟨[sp 2, sp 4], [(2, .var ([.d (dI (satAdd a.Count 1)), .d (dI (satAdd a.Sum v)), .d (dI (if v < (bif a.Count == 0 then v else a.Min) then v else (bif a.Count == 0 then v else a.Min))), .d (dI (if v > (bif a.Count == 0 then v else a.Max) then v else (bif a.Count == 0 then v else a.Max))), .d (dI (satAdd a.Hist.h0 1)), .d (dI a.Hist.h1), .d (dI a.Hist.h2), .d (dI a.Hist.h3), .d (dI (satAdd a.Re 0)), .d (dI (satAdd a.Im (-1)))])), (z85_0)]⟩ ?_
 refine AC.q ⟨[sp 4], [(4, .var ([.d (dI (satAdd a.Count 1)), .d (dI (satAdd a.Sum v)), .d (dI (if v < (bif a.Count == 0 then v else a.Min) then v else (bif a.Count == 0 then v else a.Min))), .d (dI (if v > (bif a.Count == 0 then v else a.Max) then v else (bif a.Count == 0 then v else a.Max))), .d (dI (satAdd a.Hist.h0 1)), .d (dI a.Hist.h1), .d (dI a.Hist.h2), .d (dI a.Hist.h3), .d (dI (satAdd a.Re 0)), .d (dI (satAdd a.Im (-1)))]))]⟩ ?_
 refine AC.ret ?_
 exact rqr (uadd a v) (All2.cons (ULe.eq (congrArg (fun x => U.agg ((eAgg x).map .d)) (show ((⟨satAdd a.Count 1, satAdd a.Sum v, (if v < (bif a.Count == 0 then v else a.Min) then v else (bif a.Count == 0 then v else a.Min)), (if v > (bif a.Count == 0 then v else a.Max) then v else (bif a.Count == 0 then v else a.Max)), (⟨satAdd a.Hist.h0 1, a.Hist.h1, a.Hist.h2, a.Hist.h3⟩ : H4), satAdd a.Re 0, satAdd a.Im (-1)⟩ : Agg)) = (aggAdd a v) by simp only [aggAdd, hsort, hquart, hget, hset, quartRe, quartIm]; congr 1 <;> first | rfl | omega | (by_cases hc_ : a.Count = 0 <;> simp [Bool.cond_eq_ite, Int.min_def, Int.max_def, hc_] <;> (repeat' split) <;> omega)))) All2.nil)
 refine AC.le (st' := ⟨[(1, I v), sp 2, sp 4], y85_0 a v⟩) (Le.of (lk rfl (lk rfl (lk rfl LeS.nil))) (ek rfl (ek rfl LeE.nil)) (by kernel_rfl)) ?_
 refine AC.rS [0, 1, 2, 3, 4, 5, 6, 7, 8, 9, 10] ?_
 refine AOps.m [0] ⟨[(1, I v), sp 2, sp 4, (32, I v)], y85_0 a v⟩ ?_
 refine AOps.ca (ok_sort v) ?_
 rintro _ rfl
 refine AOps.le (st' := ⟨[(1, I v), sp 2, sp 4, (32, I v), (33, I 1)], y85_0 a v⟩) (Le.of (lk rfl (lk rfl (lk rfl (lk rfl (LeS.cons rfl (TLe.i (by exact hsort)) LeS.nil))))) (ek rfl (ek rfl LeE.nil)) (by kernel_rfl)) ?_
 refine AOps.m [2] ⟨[(1, I v), sp 2, sp 4, (33, I 1), (34, I v)], y85_0 a v⟩ ?_
 refine AOps.ca (ok_sort v) ?_
 rintro _ rfl
 refine AOps.le (st' := ⟨[(1, I v), sp 2, sp 4, (33, I 1), (34, I v), (35, I 1)], y85_0 a v⟩) (Le.of (lk rfl (lk rfl (lk rfl (lk rfl (lk rfl (LeS.cons rfl (TLe.i (by exact hsort)) LeS.nil)))))) (ek rfl (ek rfl LeE.nil)) (by kernel_rfl)) ?_
 refine AOps.mc [4, 5, 6] (C' := (0 ≤ (1 : Int) ∧ (1 : Int) < ((4 : Nat) : Int)) ∧ True) ⟨[(1, I v), sp 2, sp 4, (33, I 1), (38, I a.Hist.h1)], y85_0 a v⟩ (⟨by omega, trivial⟩) ?_
 refine AOps.ca (ok_plus a.Hist.h1 1 ?_ ?_) ?_
 iterate 2 (· first | assumption | omega)
 rintro _ rfl
 refine AOps.ec (C' := (0 ≤ (1 : Int) ∧ (1 : Int) < ((4 : Nat) : Int)) ∧ True) ⟨[(1, I v), sp 2, sp 4], y85_2 a v⟩ (⟨by omega, trivial⟩) ?_
 refine AC.rS [0, 1, 2] ?_
 refine AOps.m [0] ⟨[sp 2, sp 4, (42, I v)], y85_2 a v⟩ ?_
 refine AOps.ca (ok_turn v (by first | assumption | omega)) ?_
 rintro _ rfl
 refine AOps.e ⟨[sp 2, sp 4, (z85_4 v)], y85_2 a v⟩ ?_
 have hk_ : quarter v = 0 ∨ quarter v = 1 ∨ quarter v = 2 ∨ quarter v = 3 := by have := quarter_lt v; omega
 rcases hk_ with hquart | hquart | hquart | hquart
 refine AC.le (st' := ⟨[sp 2, sp 4, (5, tD (.v (turnK 0)))], y85_2 a v⟩) (Le.of (lk rfl (lk rfl (LeS.cons rfl (TLe.one (ULe.c (CLe.d (DLe.eq (congrArg D.v (by first | omega | (simp only [hquart]; done) | (rw [hquart]) | (simp only [hquart]; rfl))))))) LeS.nil))) (ek rfl (ek rfl LeE.nil)) (by kernel_rfl)) ?_
 refine AC.dS 13 [] ⟨[sp 2, sp 4, (5, tD (.v (turnK 0))), (44, tP 2 8), (45, I a.Re), (46, tD (.v (turnK 0))), (47, tD (.v (turnRe 0))), (48, I 1), (49, I (satAdd a.Re 1)), (50, tP 2 9), (51, I a.Im), (52, tD (.v (turnK 0))), (53, tD (.v (turnIm 0))), (54, I 0), (55, I (satAdd a.Im 0)), (56, tP 2 8)], y85_2 a v⟩ [13, 14, 15] (.inl rfl) ?_ ?_
 · exact (au (au (ar 5 (au (au (ar 4 AllUpTo.zero) ot) (oc (ok_plus a.Re 1 (by first | assumption | omega) (by first | assumption | omega))))) (oc (ok_plus a.Im 0 (by first | assumption | omega) (by first | assumption | omega)))) ot)
 refine AOps.e ⟨[sp 2, sp 4], [(2, .var ([.d (dI (satAdd a.Count 1)), .d (dI (satAdd a.Sum v)), .d (dI (if v < (bif a.Count == 0 then v else a.Min) then v else (bif a.Count == 0 then v else a.Min))), .d (dI (if v > (bif a.Count == 0 then v else a.Max) then v else (bif a.Count == 0 then v else a.Max))), .d (dI a.Hist.h0), .d (dI (satAdd a.Hist.h1 1)), .d (dI a.Hist.h2), .d (dI a.Hist.h3), .d (dI (satAdd a.Re 1)), .d (dI (satAdd a.Im 0))])), (z85_0)]⟩ ?_
 refine AC.q ⟨[sp 4], [(4, .var ([.d (dI (satAdd a.Count 1)), .d (dI (satAdd a.Sum v)), .d (dI (if v < (bif a.Count == 0 then v else a.Min) then v else (bif a.Count == 0 then v else a.Min))), .d (dI (if v > (bif a.Count == 0 then v else a.Max) then v else (bif a.Count == 0 then v else a.Max))), .d (dI a.Hist.h0), .d (dI (satAdd a.Hist.h1 1)), .d (dI a.Hist.h2), .d (dI a.Hist.h3), .d (dI (satAdd a.Re 1)), .d (dI (satAdd a.Im 0))]))]⟩ ?_
 refine AC.ret ?_
 exact rqr (uadd a v) (All2.cons (ULe.eq (congrArg (fun x => U.agg ((eAgg x).map .d)) (show ((⟨satAdd a.Count 1, satAdd a.Sum v, (if v < (bif a.Count == 0 then v else a.Min) then v else (bif a.Count == 0 then v else a.Min)), (if v > (bif a.Count == 0 then v else a.Max) then v else (bif a.Count == 0 then v else a.Max)), (⟨a.Hist.h0, satAdd a.Hist.h1 1, a.Hist.h2, a.Hist.h3⟩ : H4), satAdd a.Re 1, satAdd a.Im 0⟩ : Agg)) = (aggAdd a v) by simp only [aggAdd, hsort, hquart, hget, hset, quartRe, quartIm]; congr 1 <;> first | rfl | omega | (by_cases hc_ : a.Count = 0 <;> simp [Bool.cond_eq_ite, Int.min_def, Int.max_def, hc_] <;> (repeat' split) <;> omega)))) All2.nil)
 refine AC.le (st' := ⟨[sp 2, sp 4, (5, tD (.v (turnK 1)))], y85_2 a v⟩) (Le.of (lk rfl (lk rfl (LeS.cons rfl (TLe.one (ULe.c (CLe.d (DLe.eq (congrArg D.v (by first | omega | (simp only [hquart]; done) | (rw [hquart]) | (simp only [hquart]; rfl))))))) LeS.nil))) (ek rfl (ek rfl LeE.nil)) (by kernel_rfl)) ?_
 refine AC.dS 13 [] ⟨[sp 2, sp 4, (5, tD (.v (turnK 1))), (44, tP 2 8), (45, I a.Re), (46, tD (.v (turnK 1))), (47, tD (.v (turnRe 1))), (48, I 0), (49, I (satAdd a.Re 0)), (50, tP 2 9), (51, I a.Im), (52, tD (.v (turnK 1))), (53, tD (.v (turnIm 1))), (54, I 1), (55, I (satAdd a.Im 1)), (56, tP 2 8)], y85_2 a v⟩ [13, 14, 15] (.inl rfl) ?_ ?_
 · exact (au (au (ar 5 (au (au (ar 4 AllUpTo.zero) ot) (oc (ok_plus a.Re 0 (by first | assumption | omega) (by first | assumption | omega))))) (oc (ok_plus a.Im 1 (by first | assumption | omega) (by first | assumption | omega)))) ot)
 refine AOps.e ⟨[sp 2, sp 4], [(2, .var ([.d (dI (satAdd a.Count 1)), .d (dI (satAdd a.Sum v)), .d (dI (if v < (bif a.Count == 0 then v else a.Min) then v else (bif a.Count == 0 then v else a.Min))), .d (dI (if v > (bif a.Count == 0 then v else a.Max) then v else (bif a.Count == 0 then v else a.Max))), .d (dI a.Hist.h0), .d (dI (satAdd a.Hist.h1 1)), .d (dI a.Hist.h2), .d (dI a.Hist.h3), .d (dI (satAdd a.Re 0)), .d (dI (satAdd a.Im 1))])), (z85_0)]⟩ ?_
 refine AC.q ⟨[sp 4], [(4, .var ([.d (dI (satAdd a.Count 1)), .d (dI (satAdd a.Sum v)), .d (dI (if v < (bif a.Count == 0 then v else a.Min) then v else (bif a.Count == 0 then v else a.Min))), .d (dI (if v > (bif a.Count == 0 then v else a.Max) then v else (bif a.Count == 0 then v else a.Max))), .d (dI a.Hist.h0), .d (dI (satAdd a.Hist.h1 1)), .d (dI a.Hist.h2), .d (dI a.Hist.h3), .d (dI (satAdd a.Re 0)), .d (dI (satAdd a.Im 1))]))]⟩ ?_
 refine AC.ret ?_
 exact rqr (uadd a v) (All2.cons (ULe.eq (congrArg (fun x => U.agg ((eAgg x).map .d)) (show ((⟨satAdd a.Count 1, satAdd a.Sum v, (if v < (bif a.Count == 0 then v else a.Min) then v else (bif a.Count == 0 then v else a.Min)), (if v > (bif a.Count == 0 then v else a.Max) then v else (bif a.Count == 0 then v else a.Max)), (⟨a.Hist.h0, satAdd a.Hist.h1 1, a.Hist.h2, a.Hist.h3⟩ : H4), satAdd a.Re 0, satAdd a.Im 1⟩ : Agg)) = (aggAdd a v) by simp only [aggAdd, hsort, hquart, hget, hset, quartRe, quartIm]; congr 1 <;> first | rfl | omega | (by_cases hc_ : a.Count = 0 <;> simp [Bool.cond_eq_ite, Int.min_def, Int.max_def, hc_] <;> (repeat' split) <;> omega)))) All2.nil)
 refine AC.le (st' := ⟨[sp 2, sp 4, (5, tD (.v (turnK 2)))], y85_2 a v⟩) (Le.of (lk rfl (lk rfl (LeS.cons rfl (TLe.one (ULe.c (CLe.d (DLe.eq (congrArg D.v (by first | omega | (simp only [hquart]; done) | (rw [hquart]) | (simp only [hquart]; rfl))))))) LeS.nil))) (ek rfl (ek rfl LeE.nil)) (by kernel_rfl)) ?_
 refine AC.dS 13 [] ⟨[sp 2, sp 4, (5, tD (.v (turnK 2))), (44, tP 2 8), (45, I a.Re), (46, tD (.v (turnK 2))), (47, tD (.v (turnRe 2))), (48, I (-1)), (z85_5 a), (50, tP 2 9), (51, I a.Im), (52, tD (.v (turnK 2))), (53, tD (.v (turnIm 2))), (54, I 0), (55, I (satAdd a.Im 0)), (56, tP 2 8)], y85_2 a v⟩ [13, 14, 15] (.inl rfl) ?_ ?_
 · exact (au (au (ar 5 (au (au (ar 4 AllUpTo.zero) ot) (oc (ok_plus a.Re (-1) (by first | assumption | omega) (by first | assumption | omega))))) (oc (ok_plus a.Im 0 (by first | assumption | omega) (by first | assumption | omega)))) ot)
 refine AOps.e ⟨[sp 2, sp 4], [(2, .var ([.d (dI (satAdd a.Count 1)), .d (dI (satAdd a.Sum v)), .d (dI (if v < (bif a.Count == 0 then v else a.Min) then v else (bif a.Count == 0 then v else a.Min))), .d (dI (if v > (bif a.Count == 0 then v else a.Max) then v else (bif a.Count == 0 then v else a.Max))), .d (dI a.Hist.h0), .d (dI (satAdd a.Hist.h1 1)), .d (dI a.Hist.h2), .d (dI a.Hist.h3), .d (dI (satAdd a.Re (-1))), .d (dI (satAdd a.Im 0))])), (z85_0)]⟩ ?_
 refine AC.q ⟨[sp 4], [(4, .var ([.d (dI (satAdd a.Count 1)), .d (dI (satAdd a.Sum v)), .d (dI (if v < (bif a.Count == 0 then v else a.Min) then v else (bif a.Count == 0 then v else a.Min))), .d (dI (if v > (bif a.Count == 0 then v else a.Max) then v else (bif a.Count == 0 then v else a.Max))), .d (dI a.Hist.h0), .d (dI (satAdd a.Hist.h1 1)), .d (dI a.Hist.h2), .d (dI a.Hist.h3), .d (dI (satAdd a.Re (-1))), .d (dI (satAdd a.Im 0))]))]⟩ ?_
 refine AC.ret ?_
 exact rqr (uadd a v) (All2.cons (ULe.eq (congrArg (fun x => U.agg ((eAgg x).map .d)) (show ((⟨satAdd a.Count 1, satAdd a.Sum v, (if v < (bif a.Count == 0 then v else a.Min) then v else (bif a.Count == 0 then v else a.Min)), (if v > (bif a.Count == 0 then v else a.Max) then v else (bif a.Count == 0 then v else a.Max)), (⟨a.Hist.h0, satAdd a.Hist.h1 1, a.Hist.h2, a.Hist.h3⟩ : H4), satAdd a.Re (-1), satAdd a.Im 0⟩ : Agg)) = (aggAdd a v) by simp only [aggAdd, hsort, hquart, hget, hset, quartRe, quartIm]; congr 1 <;> first | rfl | omega | (by_cases hc_ : a.Count = 0 <;> simp [Bool.cond_eq_ite, Int.min_def, Int.max_def, hc_] <;> (repeat' split) <;> omega)))) All2.nil)
 refine AC.le (st' := ⟨[sp 2, sp 4, (5, tD (.v (turnK 3)))], y85_2 a v⟩) (Le.of (lk rfl (lk rfl (LeS.cons rfl (TLe.one (ULe.c (CLe.d (DLe.eq (congrArg D.v (by first | omega | (simp only [hquart]; done) | (rw [hquart]) | (simp only [hquart]; rfl))))))) LeS.nil))) (ek rfl (ek rfl LeE.nil)) (by kernel_rfl)) ?_
 refine AC.dS 13 [] ⟨[sp 2, sp 4, (5, tD (.v (turnK 3))), (44, tP 2 8), (45, I a.Re), (46, tD (.v (turnK 3))), (47, tD (.v (turnRe 3))), (48, I 0), (49, I (satAdd a.Re 0)), (50, tP 2 9), (51, I a.Im), (52, tD (.v (turnK 3))), (53, tD (.v (turnIm 3))), (54, I (-1)), (z85_6 a), (56, tP 2 8)], y85_2 a v⟩ [13, 14, 15] (.inl rfl) ?_ ?_
 · exact (au (au (ar 5 (au (au (ar 4 AllUpTo.zero) ot) (oc (ok_plus a.Re 0 (by first | assumption | omega) (by first | assumption | omega))))) (oc (ok_plus a.Im (-1) (by first | assumption | omega) (by first | assumption | omega)))) ot)
 refine AOps.e ⟨[sp 2, sp 4], [(2, .var ([.d (dI (satAdd a.Count 1)), .d (dI (satAdd a.Sum v)), .d (dI (if v < (bif a.Count == 0 then v else a.Min) then v else (bif a.Count == 0 then v else a.Min))), .d (dI (if v > (bif a.Count == 0 then v else a.Max) then v else (bif a.Count == 0 then v else a.Max))), .d (dI a.Hist.h0), .d (dI (satAdd a.Hist.h1 1)), .d (dI a.Hist.h2), .d (dI a.Hist.h3), .d (dI (satAdd a.Re 0)), .d (dI (satAdd a.Im (-1)))])), (z85_0)]⟩ ?_
 refine AC.q ⟨[sp 4], [(4, .var ([.d (dI (satAdd a.Count 1)), .d (dI (satAdd a.Sum v)), .d (dI (if v < (bif a.Count == 0 then v else a.Min) then v else (bif a.Count == 0 then v else a.Min))), .d (dI (if v > (bif a.Count == 0 then v else a.Max) then v else (bif a.Count == 0 then v else a.Max))), .d (dI a.Hist.h0), .d (dI (satAdd a.Hist.h1 1)), .d (dI a.Hist.h2), .d (dI a.Hist.h3), .d (dI (satAdd a.Re 0)), .d (dI (satAdd a.Im (-1)))]))]⟩ ?_
 refine AC.ret ?_
 exact rqr (uadd a v) (All2.cons (ULe.eq (congrArg (fun x => U.agg ((eAgg x).map .d)) (show ((⟨satAdd a.Count 1, satAdd a.Sum v, (if v < (bif a.Count == 0 then v else a.Min) then v else (bif a.Count == 0 then v else a.Min)), (if v > (bif a.Count == 0 then v else a.Max) then v else (bif a.Count == 0 then v else a.Max)), (⟨a.Hist.h0, satAdd a.Hist.h1 1, a.Hist.h2, a.Hist.h3⟩ : H4), satAdd a.Re 0, satAdd a.Im (-1)⟩ : Agg)) = (aggAdd a v) by simp only [aggAdd, hsort, hquart, hget, hset, quartRe, quartIm]; congr 1 <;> first | rfl | omega | (by_cases hc_ : a.Count = 0 <;> simp [Bool.cond_eq_ite, Int.min_def, Int.max_def, hc_] <;> (repeat' split) <;> omega)))) All2.nil)
 refine AC.le (st' := ⟨[(1, I v), sp 2, sp 4], y85_0 a v⟩) (Le.of (lk rfl (lk rfl (lk rfl LeS.nil))) (ek rfl (ek rfl LeE.nil)) (by kernel_rfl)) ?_
 refine AC.rS [0, 1, 2, 3, 4, 5, 6, 7, 8, 9, 10] ?_
 refine AOps.m [0] ⟨[(1, I v), sp 2, sp 4, (32, I v)], y85_0 a v⟩ ?_
 refine AOps.ca (ok_sort v) ?_
 rintro _ rfl
 refine AOps.le (st' := ⟨[(1, I v), sp 2, sp 4, (32, I v), (33, I 2)], y85_0 a v⟩) (Le.of (lk rfl (lk rfl (lk rfl (lk rfl (LeS.cons rfl (TLe.i (by exact hsort)) LeS.nil))))) (ek rfl (ek rfl LeE.nil)) (by kernel_rfl)) ?_
 refine AOps.m [2] ⟨[(1, I v), sp 2, sp 4, (33, I 2), (34, I v)], y85_0 a v⟩ ?_
 refine AOps.ca (ok_sort v) ?_
 rintro _ rfl
 refine AOps.le (st' := ⟨[(1, I v), sp 2, sp 4, (33, I 2), (34, I v), (35, I 2)], y85_0 a v⟩) (Le.of (lk rfl (lk rfl (lk rfl (lk rfl (lk rfl (LeS.cons rfl (TLe.i (by exact hsort)) LeS.nil)))))) (ek rfl (ek rfl LeE.nil)) (by kernel_rfl)) ?_
 refine AOps.mc [4, 5, 6] (C' := (0 ≤ (2 : Int) ∧ (2 : Int) < ((4 : Nat) : Int)) ∧ True) ⟨[(1, I v), sp 2, sp 4, (33, I 2), (38, I a.Hist.h2)], y85_0 a v⟩ (⟨by omega, trivial⟩) ?_
 refine AOps.ca (ok_plus a.Hist.h2 1 ?_ ?_) ?_
 iterate 2 (· first | assumption | omega)
 rintro _ rfl
 refine AOps.ec (C' := (0 ≤ (2 : Int) ∧ (2 : Int) < ((4 : Nat) : Int)) ∧ True) ⟨[(1, I v), sp 2, sp 4], y85_3 a v⟩ (⟨by omega, trivial⟩) ?_
 refine AC.rS [0, 1, 2] ?_
 refine AOps.m [0] ⟨[sp 2, sp 4, (42, I v)], y85_3 a v⟩ ?_
 refine AOps.ca (ok_turn v (by first | assumption | omega)) ?_
 rintro _ rfl
 refine AOps.e ⟨[sp 2, sp 4, (z85_4 v)], y85_3 a v⟩ ?_
 have hk_ : quarter v = 0 ∨ quarter v = 1 ∨ quarter v = 2 ∨ quarter v = 3 := by have := quarter_lt v; omega
 rcases hk_ with hquart | hquart | hquart | hquart
 refine AC.le (st' := ⟨[sp 2, sp 4, (5, tD (.v (turnK 0)))], y85_3 a v⟩) (Le.of (lk rfl (lk rfl (LeS.cons rfl (TLe.one (ULe.c (CLe.d (DLe.eq (congrArg D.v (by first | omega | (simp only [hquart]; done) | (rw [hquart]) | (simp only [hquart]; rfl))))))) LeS.nil))) (ek rfl (ek rfl LeE.nil)) (by kernel_rfl)) ?_
 refine AC.dS 13 [] ⟨[sp 2, sp 4, (5, tD (.v (turnK 0))), (44, tP 2 8), (45, I a.Re), (46, tD (.v (turnK 0))), (47, tD (.v (turnRe 0))), (48, I 1), (49, I (satAdd a.Re 1)), (50, tP 2 9), (51, I a.Im), (52, tD (.v (turnK 0))), (53, tD (.v (turnIm 0))), (54, I 0), (55, I (satAdd a.Im 0)), (56, tP 2 8)], y85_3 a v⟩ [13, 14, 15] (.inl rfl) ?_ ?_
 · exact (au (au (ar 5 (au (au (ar 4 AllUpTo.zero) ot) (oc (ok_plus a.Re 1 (by first | assumption | omega) (by first | assumption | omega))))) (oc (ok_plus a.Im 0 (by first | assumption | omega) (by first | assumption | omega)))) ot)
 refine AOps.e ⟨[sp 2, sp 4], [(2, .var ([.d (dI (satAdd a.Count 1)), .d (dI (satAdd a.Sum v)), .d (dI (if v < (bif a.Count == 0 then v else a.Min) then v else (bif a.Count == 0 then v else a.Min))), .d (dI (if v > (bif a.Count == 0 then v else a.Max) then v else (bif a.Count == 0 then v else a.Max))), .d (dI a.Hist.h0), .d (dI a.Hist.h1), .d (dI (satAdd a.Hist.h2 1)), .d (dI a.Hist.h3), .d (dI (satAdd a.Re 1)), .d (dI (satAdd a.Im 0))])), (z85_0)]⟩ ?_
 refine AC.q ⟨[sp 4], [(4, .var ([.d (dI (satAdd a.Count 1)), .d (dI (satAdd a.Sum v)), .d (dI (if v < (bif a.Count == 0 then v else a.Min) then v else (bif a.Count == 0 then v else a.Min))), .d (dI (if v > (bif a.Count == 0 then v else a.Max) then v else (bif a.Count == 0 then v else a.Max))), .d (dI a.Hist.h0), .d (dI a.Hist.h1), .d (dI (satAdd a.Hist.h2 1)), .d (dI a.Hist.h3), .d (dI (satAdd a.Re 1)), .d (dI (satAdd a.Im 0))]))]⟩ ?_
 refine AC.ret ?_
 exact rqr (uadd a v) (All2.cons (ULe.eq (congrArg (fun x => U.agg ((eAgg x).map .d)) (show ((⟨satAdd a.Count 1, satAdd a.Sum v, (if v < (bif a.Count == 0 then v else a.Min) then v else (bif a.Count == 0 then v else a.Min)), (if v > (bif a.Count == 0 then v else a.Max) then v else (bif a.Count == 0 then v else a.Max)), (⟨a.Hist.h0, a.Hist.h1, satAdd a.Hist.h2 1, a.Hist.h3⟩ : H4), satAdd a.Re 1, satAdd a.Im 0⟩ : Agg)) = (aggAdd a v) by simp only [aggAdd, hsort, hquart, hget, hset, quartRe, quartIm]; congr 1 <;> first | rfl | omega | (by_cases hc_ : a.Count = 0 <;> simp [Bool.cond_eq_ite, Int.min_def, Int.max_def, hc_] <;> (repeat' split) <;> omega)))) All2.nil)
 refine AC.le (st' := ⟨[sp 2, sp 4, (5, tD (.v (turnK 1)))], y85_3 a v⟩) (Le.of (lk rfl (lk rfl (LeS.cons rfl (TLe.one (ULe.c (CLe.d (DLe.eq (congrArg D.v (by first | omega | (simp only [hquart]; done) | (rw [hquart]) | (simp only [hquart]; rfl))))))) LeS.nil))) (ek rfl (ek rfl LeE.nil)) (by kernel_rfl)) ?_
 refine AC.dS 13 [] ⟨[sp 2, sp 4, (5, tD (.v (turnK 1))), (44, tP 2 8), (45, I a.Re), (46, tD (.v (turnK 1))), (47, tD (.v (turnRe 1))), (48, I 0), (49, I (satAdd a.Re 0)), (50, tP 2 9), (51, I a.Im), (52, tD (.v (turnK 1))), (53, tD (.v (turnIm 1))), (54, I 1), (55, I (satAdd a.Im 1)), (56, tP 2 8)], y85_3 a v⟩ [13, 14, 15] (.inl rfl) ?_ ?_
 · exact (au (au (ar 5 (au (au (ar 4 AllUpTo.zero) ot) (oc (ok_plus a.Re 0 (by first | assumption | omega) (by first | assumption | omega))))) (oc (ok_plus a.Im 1 (by first | assumption | omega) (by first | assumption | omega)))) ot)
 refine AOps.e ⟨[sp 2, sp 4], [(2, .var ([.d (dI (satAdd a.Count 1)), .d (dI (satAdd a.Sum v)), .d (dI (if v < (bif a.Count == 0 then v else a.Min) then v else (bif a.Count == 0 then v else a.Min))), .d (dI (if v > (bif a.Count == 0 then v else a.Max) then v else (bif a.Count == 0 then v else a.Max))), .d (dI a.Hist.h0), .d (dI a.Hist.h1), .d (dI (satAdd a.Hist.h2 1)), .d (dI a.Hist.h3), .d (dI (satAdd a.Re 0)), .d (dI (satAdd a.Im 1))])), (z85_0)]⟩ ?_
 refine AC.q ⟨[sp 4], [(4, .var ([.d (dI (satAdd a.Count 1)), .d (dI (satAdd a.Sum v)), .d (dI (if v < (bif a.Count == 0 then v else a.Min) then v else (bif a.Count == 0 then v else a.Min))), .d (dI (if v > (bif a.Count == 0 then v else a.Max) then v else (bif a.Count == 0 then v else a.Max))), .d (dI a.Hist.h0), .d (dI a.Hist.h1), .d (dI (satAdd a.Hist.h2 1)), .d (dI a.Hist.h3), .d (dI (satAdd a.Re 0)), .d (dI (satAdd a.Im 1))]))]⟩ ?_
 refine AC.ret ?_
 exact rqr (uadd a v) (All2.cons (ULe.eq (congrArg (fun x => U.agg ((eAgg x).map .d)) (show ((⟨satAdd a.Count 1, satAdd a.Sum v, (if v < (bif a.Count == 0 then v else a.Min) then v else (bif a.Count == 0 then v else a.Min)), (if v > (bif a.Count == 0 then v else a.Max) then v else (bif a.Count == 0 then v else a.Max)), (⟨a.Hist.h0, a.Hist.h1, satAdd a.Hist.h2 1, a.Hist.h3⟩ : H4), satAdd a.Re 0, satAdd a.Im 1⟩ : Agg)) = (aggAdd a v) by simp only [aggAdd, hsort, hquart, hget, hset, quartRe, quartIm]; congr 1 <;> first | rfl | omega | (by_cases hc_ : a.Count = 0 <;> simp [Bool.cond_eq_ite, Int.min_def, Int.max_def, hc_] <;> (repeat' split) <;> omega)))) All2.nil)
 refine AC.le (st' := ⟨[sp 2, sp 4, (5, tD (.v (turnK 2)))], y85_3 a v⟩) (Le.of (lk rfl (lk rfl (LeS.cons rfl (TLe.one (ULe.c (CLe.d (DLe.eq (congrArg D.v (by first | omega | (simp only [hquart]; done) | (rw [hquart]) | (simp only [hquart]; rfl))))))) LeS.nil))) (ek rfl (ek rfl LeE.nil)) (by kernel_rfl)) ?_
 refine AC.dS 13 [] ⟨[sp 2, sp 4, (5, tD (.v (turnK 2))), (44, tP 2 8), (45, I a.Re), (46, tD (.v (turnK 2))), (47, tD (.v (turnRe 2))), (48, I (-1)), (z85_5 a), (50, tP 2 9), (51, I a.Im), (52, tD (.v (turnK 2))), (53, tD (.v (turnIm 2))), (54, I 0), (55, I (satAdd a.Im 0)), (56, tP 2 8)], y85_3 a v⟩ [13, 14, 15] (.inl rfl) ?_ ?_
 · exact (au (au (ar 5 (au (au (ar 4 AllUpTo.zero) ot) (oc (ok_plus a.Re (-1) (by first | assumption | omega) (by first | assumption | omega))))) (oc (ok_plus a.Im 0 (by first | assumption | omega) (by first | assumption | omega)))) ot)
 refine AOps.e ⟨[sp 2, sp 4], [(2, .var ([.d (dI (satAdd a.Count 1)), .d (dI (satAdd a.Sum v)), .d (dI (if v < (bif a.Count == 0 then v else a.Min) then v else (bif a.Count == 0 then v else a.Min))), .d (dI (if v > (bif a.Count == 0 then v else a.Max) then v else (bif a.Count == 0 then v else a.Max))), .d (dI a.Hist.h0), .d (dI a.Hist.h1), .d (dI (satAdd a.Hist.h2 1)), .d (dI a.Hist.h3), .d (dI (satAdd a.Re (-1))), .d (dI (satAdd a.Im 0))])), (z85_0)]⟩ ?_
 refine AC.q ⟨[sp 4], [(4, .var ([.d (dI (satAdd a.Count 1)), .d (dI (satAdd a.Sum v)), .d (dI (if v < (bif a.Count == 0 then v else a.Min) then v else (bif a.Count == 0 then v else a.Min))), .d (dI (if v > (bif a.Count == 0 then v else a.Max) then v else (bif a.Count == 0 then v else a.Max))), .d (dI a.Hist.h0), .d (dI a.Hist.h1), .d (dI (satAdd a.Hist.h2 1)), .d (dI a.Hist.h3), .d (dI (satAdd a.Re (-1))), .d (dI (satAdd a.Im 0))]))]⟩ ?_
 refine AC.ret ?_
 exact rqr (uadd a v) (All2.cons (ULe.eq (congrArg (fun x => U.agg ((eAgg x).map .d)) (show ((⟨satAdd a.Count 1, satAdd a.Sum v, (if v < (bif a.Count == 0 then v else a.Min) then v else (bif a.Count == 0 then v else a.Min)), (if v > (bif a.Count == 0 then v else a.Max) then v else (bif a.Count == 0 then v else a.Max)), (⟨a.Hist.h0, a.Hist.h1, satAdd a.Hist.h2 1, a.Hist.h3⟩ : H4), satAdd a.Re (-1), satAdd a.Im 0⟩ : Agg)) = (aggAdd a v) by simp only [aggAdd, hsort, hquart, hget, hset, quartRe, quartIm]; congr 1 <;> first | rfl | omega | (by_cases hc_ : a.Count = 0 <;> simp [Bool.cond_eq_ite, Int.min_def, Int.max_def, hc_] <;> (repeat' split) <;> omega)))) All2.nil)
 refine AC.le (st' := ⟨[sp 2, sp 4, (5, tD (.v (turnK 3)))], y85_3 a v⟩) (Le.of (lk rfl (lk rfl (LeS.cons rfl (TLe.one (ULe.c (CLe.d (DLe.eq (congrArg D.v (by first | omega | (simp only [hquart]; done) | (rw [hquart]) | (simp only [hquart]; rfl))))))) LeS.nil))) (ek rfl (ek rfl LeE.nil)) (by kernel_rfl)) ?_
 refine AC.dS 13 [] ⟨[sp 2, sp 4, (5, tD (.v (turnK 3))), (44, tP 2 8), (45, I a.Re), (46, tD (.v (turnK 3))), (47, tD (.v (turnRe 3))), (48, I 0), (49, I (satAdd a.Re 0)), (50, tP 2 9), (51, I a.Im), (52, tD (.v (turnK 3))), (53, tD (.v (turnIm 3))), (54, I (-1)), (z85_6 a), (56, tP 2 8)], y85_3 a v⟩ [13, 14, 15] (.inl rfl) ?_ ?_
 · exact (au (au (ar 5 (au (au (ar 4 AllUpTo.zero) ot) (oc (ok_plus a.Re 0 (by first | assumption | omega) (by first | assumption | omega))))) (oc (ok_plus a.Im (-1) (by first | assumption | omega) (by first | assumption | omega)))) ot)
 refine AOps.e ⟨[sp 2, sp 4], [(2, .var ([.d (dI (satAdd a.Count 1)), .d (dI (satAdd a.Sum v)), .d (dI (if v < (bif a.Count == 0 then v else a.Min) then v else (bif a.Count == 0 then v else a.Min))), .d (dI (if v > (bif a.Count == 0 then v else a.Max) then v else (bif a.Count == 0 then v else a.Max))), .d (dI a.Hist.h0), .d (dI a.Hist.h1), .d (dI (satAdd a.Hist.h2 1)), .d (dI a.Hist.h3), .d (dI (satAdd a.Re 0)), .d (dI (satAdd a.Im (-1)))])), (z85_0)]⟩ ?_
 refine AC.q ⟨[sp 4], [(4, .var ([.d (dI (satAdd a.Count 1)), .d (dI (satAdd a.Sum v)), .d (dI (if v < (bif a.Count == 0 then v else a.Min) then v else (bif a.Count == 0 then v else a.Min))), .d (dI (if v > (bif a.Count == 0 then v else a.Max) then v else (bif a.Count == 0 then v else a.Max))), .d (dI a.Hist.h0), .d (dI a.Hist.h1), .d (dI (satAdd a.Hist.h2 1)), .d (dI a.Hist.h3), .d (dI (satAdd a.Re 0)), .d (dI (satAdd a.Im (-1)))]))]⟩ ?_
 refine AC.ret ?_
 exact rqr (uadd a v) (All2.cons (ULe.eq (congrArg (fun x => U.agg ((eAgg x).map .d)) (show ((⟨satAdd a.Count 1, satAdd a.Sum v, (if v < (bif a.Count == 0 then v else a.Min) then v else (bif a.Count == 0 then v else a.Min)), (if v > (bif a.Count == 0 then v else a.Max) then v else (bif a.Count == 0 then v else a.Max)), (⟨a.Hist.h0, a.Hist.h1, satAdd a.Hist.h2 1, a.Hist.h3⟩ : H4), satAdd a.Re 0, satAdd a.Im (-1)⟩ : Agg)) = (aggAdd a v) by simp only [aggAdd, hsort, hquart, hget, hset, quartRe, quartIm]; congr 1 <;> first | rfl | omega | (by_cases hc_ : a.Count = 0 <;> simp [Bool.cond_eq_ite, Int.min_def, Int.max_def, hc_] <;> (repeat' split) <;> omega)))) All2.nil)
 refine AC.le (st' := ⟨[(1, I v), sp 2, sp 4], y85_0 a v⟩) (Le.of (lk rfl (lk rfl (lk rfl LeS.nil))) (ek rfl (ek rfl LeE.nil)) (by kernel_rfl)) ?_
 refine AC.rS [0, 1, 2, 3, 4, 5, 6, 7, 8, 9, 10] ?_
 refine AOps.m [0] ⟨[(1, I v), sp 2, sp 4, (32, I v)], y85_0 a v⟩ ?_
 refine AOps.ca (ok_sort v) ?_
 rintro _ rfl
 refine AOps.le (st' := ⟨[(1, I v), sp 2, sp 4, (32, I v), (33, I 3)], y85_0 a v⟩) (Le.of (lk rfl (lk rfl (lk rfl (lk rfl (LeS.cons rfl (TLe.i (by exact hsort)) LeS.nil))))) (ek rfl (ek rfl LeE.nil)) (by kernel_rfl)) ?_
 refine AOps.m [2] ⟨[(1, I v), sp 2, sp 4, (33, I 3), (34, I v)], y85_0 a v⟩ ?_
 refine AOps.ca (ok_sort v) ?_
 rintro _ rfl
 refine AOps.le (st' := ⟨[(1, I v), sp 2, sp 4, (33, I 3), (34, I v), (35, I 3)], y85_0 a v⟩) (Le.of (lk rfl (lk rfl (lk rfl (lk rfl (lk rfl (LeS.cons rfl (TLe.i (by exact hsort)) LeS.nil)))))) (ek rfl (ek rfl LeE.nil)) (by kernel_rfl)) ?_
 refine AOps.mc [4, 5, 6] (C' := (0 ≤ (3 : Int) ∧ (3 : Int) < ((4 : Nat) : Int)) ∧ True) ⟨[(1, I v), sp 2, sp 4, (33, I 3), (38, I a.Hist.h3)], y85_0 a v⟩ (⟨by omega, trivial⟩) ?_
 refine AOps.ca (ok_plus a.Hist.h3 1 ?_ ?_) ?_
 iterate 2 (· first | assumption | omega)
 rintro _ rfl
 refine AOps.ec (C' := (0 ≤ (3 : Int) ∧ (3 : Int) < ((4 : Nat) : Int)) ∧ True) ⟨[(1, I v), sp 2, sp 4], y85_4 a v⟩ (⟨by omega, trivial⟩) ?_
 refine AC.rS [0, 1, 2] ?_
 refine AOps.m [0] ⟨[sp 2, sp 4, (42, I v)], y85_4 a v⟩ ?_
 refine AOps.ca (ok_turn v (by first | assumption | omega)) ?_
 rintro _ rfl
 refine AOps.e ⟨[sp 2, sp 4, (z85_4 v)], y85_4 a v⟩ ?_
 have hk_ : quarter v = 0 ∨ quarter v = 1 ∨ quarter v = 2 ∨ quarter v = 3 := by have := quarter_lt v; omega
 rcases hk_ with hquart | hquart | hquart | hquart
 refine AC.le (st' := ⟨[sp 2, sp 4, (5, tD (.v (turnK 0)))], y85_4 a v⟩) (Le.of (lk rfl (lk rfl (LeS.cons rfl (TLe.one (ULe.c (CLe.d (DLe.eq (congrArg D.v (by first | omega | (simp only [hquart]; done) | (rw [hquart]) | (simp only [hquart]; rfl))))))) LeS.nil))) (ek rfl (ek rfl LeE.nil)) (by kernel_rfl)) ?_
 refine AC.dS 13 [] ⟨[sp 2, sp 4, (5, tD (.v (turnK 0))), (44, tP 2 8), (45, I a.Re), (46, tD (.v (turnK 0))), (47, tD (.v (turnRe 0))), (48, I 1), (49, I (satAdd a.Re 1)), (50, tP 2 9), (51, I a.Im), (52, tD (.v (turnK 0))), (53, tD (.v (turnIm 0))), (54, I 0), (55, I (satAdd a.Im 0)), (56, tP 2 8)], y85_4 a v⟩ [13, 14, 15] (.inl rfl) ?_ ?_
 · exact (au (au (ar 5 (au (au (ar 4 AllUpTo.zero) ot) (oc (ok_plus a.Re 1 (by first | assumption | omega) (by first | assumption | omega))))) (oc (ok_plus a.Im 0 (by first | assumption | omega) (by first | assumption | omega)))) ot)
 refine AOps.e ⟨[sp 2, sp 4], [(2, .var ([.d (dI (satAdd a.Count 1)), .d (dI (satAdd a.Sum v)), .d (dI (if v < (bif a.Count == 0 then v else a.Min) then v else (bif a.Count == 0 then v else a.Min))), .d (dI (if v > (bif a.Count == 0 then v else a.Max) then v else (bif a.Count == 0 then v else a.Max))), .d (dI a.Hist.h0), .d (dI a.Hist.h1), .d (dI a.Hist.h2), .d (dI (satAdd a.Hist.h3 1)), .d (dI (satAdd a.Re 1)), .d (dI (satAdd a.Im 0))])), (z85_0)]⟩ ?_
 refine AC.q ⟨[sp 4], [(4, .var ([.d (dI (satAdd a.Count 1)), .d (dI (satAdd a.Sum v)), .d (dI (if v < (bif a.Count == 0 then v else a.Min) then v else (bif a.Count == 0 then v else a.Min))), .d (dI (if v > (bif a.Count == 0 then v else a.Max) then v else (bif a.Count == 0 then v else a.Max))), .d (dI a.Hist.h0), .d (dI a.Hist.h1), .d (dI a.Hist.h2), .d (dI (satAdd a.Hist.h3 1)), .d (dI (satAdd a.Re 1)), .d (dI (satAdd a.Im 0))]))]⟩ ?_
 refine AC.ret ?_
 exact rqr (uadd a v) (All2.cons (ULe.eq (congrArg (fun x => U.agg ((eAgg x).map .d)) (show ((⟨satAdd a.Count 1, satAdd a.Sum v, (if v < (bif a.Count == 0 then v else a.Min) then v else (bif a.Count == 0 then v else a.Min)), (if v > (bif a.Count == 0 then v else a.Max) then v else (bif a.Count == 0 then v else a.Max)), (⟨a.Hist.h0, a.Hist.h1, a.Hist.h2, satAdd a.Hist.h3 1⟩ : H4), satAdd a.Re 1, satAdd a.Im 0⟩ : Agg)) = (aggAdd a v) by simp only [aggAdd, hsort, hquart, hget, hset, quartRe, quartIm]; congr 1 <;> first | rfl | omega | (by_cases hc_ : a.Count = 0 <;> simp [Bool.cond_eq_ite, Int.min_def, Int.max_def, hc_] <;> (repeat' split) <;> omega)))) All2.nil)
 refine AC.le (st' := ⟨[sp 2, sp 4, (5, tD (.v (turnK 1)))], y85_4 a v⟩) (Le.of (lk rfl (lk rfl (LeS.cons rfl (TLe.one (ULe.c (CLe.d (DLe.eq (congrArg D.v (by first | omega | (simp only [hquart]; done) | (rw [hquart]) | (simp only [hquart]; rfl))))))) LeS.nil))) (ek rfl (ek rfl LeE.nil)) (by kernel_rfl)) ?_
 refine AC.dS 13 [] ⟨[sp 2, sp 4, (5, tD (.v (turnK 1))), (44, tP 2 8), (45, I a.Re), (46, tD (.v (turnK 1))), (47, tD (.v (turnRe 1))), (48, I 0), (49, I (satAdd a.Re 0)), (50, tP 2 9), (51, I a.Im), (52, tD (.v (turnK 1))), (53, tD (.v (turnIm 1))), (54, I 1), (55, I (satAdd a.Im 1)), (56, tP 2 8)], y85_4 a v⟩ [13, 14, 15] (.inl rfl) ?_ ?_
 · exact (au (au (ar 5 (au (au (ar 4 AllUpTo.zero) ot) (oc (ok_plus a.Re 0 (by first | assumption | omega) (by first | assumption | omega))))) (oc (ok_plus a.Im 1 (by first | assumption | omega) (by first | assumption | omega)))) ot)
 refine AOps.e ⟨[sp 2, sp 4], [(2, .var ([.d (dI (satAdd a.Count 1)), .d (dI (satAdd a.Sum v)), .d (dI (if v < (bif a.Count == 0 then v else a.Min) then v else (bif a.Count == 0 then v else a.Min))), .d (dI (if v > (bif a.Count == 0 then v else a.Max) then v else (bif a.Count == 0 then v else a.Max))), .d (dI a.Hist.h0), .d (dI a.Hist.h1), .d (dI a.Hist.h2), .d (dI (satAdd a.Hist.h3 1)), .d (dI (satAdd a.Re 0)), .d (dI (satAdd a.Im 1))])), (z85_0)]⟩ ?_
 refine AC.q ⟨[sp 4], [(4, .var ([.d (dI (satAdd a.Count 1)), .d (dI (satAdd a.Sum v)), .d (dI (if v < (bif a.Count == 0 then v else a.Min) then v else (bif a.Count == 0 then v else a.Min))), .d (dI (if v > (bif a.Count == 0 then v else a.Max) then v else (bif a.Count == 0 then v else a.Max))), .d (dI a.Hist.h0), .d (dI a.Hist.h1), .d (dI a.Hist.h2), .d (dI (satAdd a.Hist.h3 1)), .d (dI (satAdd a.Re 0)), .d (dI (satAdd a.Im 1))]))]⟩ ?_
 refine AC.ret ?_
 exact rqr (uadd a v) (All2.cons (ULe.eq (congrArg (fun x => U.agg ((eAgg x).map .d)) (show ((⟨satAdd a.Count 1, satAdd a.Sum v, (if v < (bif a.Count == 0 then v else a.Min) then v else (bif a.Count == 0 then v else a.Min)), (if v > (bif a.Count == 0 then v else a.Max) then v else (bif a.Count == 0 then v else a.Max)), (⟨a.Hist.h0, a.Hist.h1, a.Hist.h2, satAdd a.Hist.h3 1⟩ : H4), satAdd a.Re 0, satAdd a.Im 1⟩ : Agg)) = (aggAdd a v) by simp only [aggAdd, hsort, hquart, hget, hset, quartRe, quartIm]; congr 1 <;> first | rfl | omega | (by_cases hc_ : a.Count = 0 <;> simp [Bool.cond_eq_ite, Int.min_def, Int.max_def, hc_] <;> (repeat' split) <;> omega)))) All2.nil)
 refine AC.le (st' := ⟨[sp 2, sp 4, (5, tD (.v (turnK 2)))], y85_4 a v⟩) (Le.of (lk rfl (lk rfl (LeS.cons rfl (TLe.one (ULe.c (CLe.d (DLe.eq (congrArg D.v (by first | omega | (simp only [hquart]; done) | (rw [hquart]) | (simp only [hquart]; rfl))))))) LeS.nil))) (ek rfl (ek rfl LeE.nil)) (by kernel_rfl)) ?_
 refine AC.dS 13 [] ⟨[sp 2, sp 4, (5, tD (.v (turnK 2))), (44, tP 2 8), (45, I a.Re), (46, tD (.v (turnK 2))), (47, tD (.v (turnRe 2))), (48, I (-1)), (z85_5 a), (50, tP 2 9), (51, I a.Im), (52, tD (.v (turnK 2))), (53, tD (.v (turnIm 2))), (54, I 0), (55, I (satAdd a.Im 0)), (56, tP 2 8)], y85_4 a v⟩ [13, 14, 15] (.inl rfl) ?_ ?_
 · exact (au (au (ar 5 (au (au (ar 4 AllUpTo.zero) ot) (oc (ok_plus a.Re (-1) (by first | assumption | omega) (by first | assumption | omega))))) (oc (ok_plus a.Im 0 (by first | assumption | omega) (by first | assumption | omega)))) ot)
 refine AOps.e ⟨[sp 2, sp 4], [(2, .var ([.d (dI (satAdd a.Count 1)), .d (dI (satAdd a.Sum v)), .d (dI (if v < (bif a.Count == 0 then v else a.Min) then v else (bif a.Count == 0 then v else a.Min))), .d (dI (if v > (bif a.Count == 0 then v else a.Max) then v else (bif a.Count == 0 then v else a.Max))), .d (dI a.Hist.h0), .d (dI a.Hist.h1), .d (dI a.Hist.h2), .d (dI (satAdd a.Hist.h3 1)), .d (dI (satAdd a.Re (-1))), .d (dI (satAdd a.Im 0))])), (z85_0)]⟩ ?_
 refine AC.q ⟨[sp 4], [(4, .var ([.d (dI (satAdd a.Count 1)), .d (dI (satAdd a.Sum v)), .d (dI (if v < (bif a.Count == 0 then v else a.Min) then v else (bif a.Count == 0 then v else a.Min))), .d (dI (if v > (bif a.Count == 0 then v else a.Max) then v else (bif a.Count == 0 then v else a.Max))), .d (dI a.Hist.h0), .d (dI a.Hist.h1), .d (dI a.Hist.h2), .d (dI (satAdd a.Hist.h3 1)), .d (dI (satAdd a.Re (-1))), .d (dI (satAdd a.Im 0))]))]⟩ ?_
 refine AC.ret ?_
 exact rqr (uadd a v) (All2.cons (ULe.eq (congrArg (fun x => U.agg ((eAgg x).map .d)) (show ((⟨satAdd a.Count 1, satAdd a.Sum v, (if v < (bif a.Count == 0 then v else a.Min) then v else (bif a.Count == 0 then v else a.Min)), (if v > (bif a.Count == 0 then v else a.Max) then v else (bif a.Count == 0 then v else a.Max)), (⟨a.Hist.h0, a.Hist.h1, a.Hist.h2, satAdd a.Hist.h3 1⟩ : H4), satAdd a.Re (-1), satAdd a.Im 0⟩ : Agg)) = (aggAdd a v) by simp only [aggAdd, hsort, hquart, hget, hset, quartRe, quartIm]; congr 1 <;> first | rfl | omega | (by_cases hc_ : a.Count = 0 <;> simp [Bool.cond_eq_ite, Int.min_def, Int.max_def, hc_] <;> (repeat' split) <;> omega)))) All2.nil)
 refine AC.le (st' := ⟨[sp 2, sp 4, (5, tD (.v (turnK 3)))], y85_4 a v⟩) (Le.of (lk rfl (lk rfl (LeS.cons rfl (TLe.one (ULe.c (CLe.d (DLe.eq (congrArg D.v (by first | omega | (simp only [hquart]; done) | (rw [hquart]) | (simp only [hquart]; rfl))))))) LeS.nil))) (ek rfl (ek rfl LeE.nil)) (by kernel_rfl)) ?_
 refine AC.dS 13 [] ⟨[sp 2, sp 4, (5, tD (.v (turnK 3))), (44, tP 2 8), (45, I a.Re), (46, tD (.v (turnK 3))), (47, tD (.v (turnRe 3))), (48, I 0), (49, I (satAdd a.Re 0)), (50, tP 2 9), (51, I a.Im), (52, tD (.v (turnK 3))), (53, tD (.v (turnIm 3))), (54, I (-1)), (z85_6 a), (56, tP 2 8)], y85_4 a v⟩ [13, 14, 15] (.inl rfl) ?_ ?_
 · exact (au (au (ar 5 (au (au (ar 4 AllUpTo.zero) ot) (oc (ok_plus a.Re 0 (by first | assumption | omega) (by first | assumption | omega))))) (oc (ok_plus a.Im (-1) (by first | assumption | omega) (by first | assumption | omega)))) ot)
 refine AOps.e ⟨[sp 2, sp 4], [(2, .var ([.d (dI (satAdd a.Count 1)), .d (dI (satAdd a.Sum v)), .d (dI (if v < (bif a.Count == 0 then v else a.Min) then v else (bif a.Count == 0 then v else a.Min))), .d (dI (if v > (bif a.Count == 0 then v else a.Max) then v else (bif a.Count == 0 then v else a.Max))), .d (dI a.Hist.h0), .d (dI a.Hist.h1), .d (dI a.Hist.h2), .d (dI (satAdd a.Hist.h3 1)), .d (dI (satAdd a.Re 0)), .d (dI (satAdd a.Im (-1)))])), (z85_0)]⟩ ?_
 refine AC.q ⟨[sp 4], [(4, .var ([.d (dI (satAdd a.Count 1)), .d (dI (satAdd a.Sum v)), .d (dI (if v < (bif a.Count == 0 then v else a.Min) then v else (bif a.Count == 0 then v else a.Min))), .d (dI (if v > (bif a.Count == 0 then v else a.Max) then v else (bif a.Count == 0 then v else a.Max))), .d (dI a.Hist.h0), .d (dI a.Hist.h1), .d (dI a.Hist.h2), .d (dI (satAdd a.Hist.h3 1)), .d (dI (satAdd a.Re 0)), .d (dI (satAdd a.Im (-1)))]))]⟩ ?_
 refine AC.ret ?_
 exact rqr (uadd a v) (All2.cons (ULe.eq (congrArg (fun x => U.agg ((eAgg x).map .d)) (show ((⟨satAdd a.Count 1, satAdd a.Sum v, (if v < (bif a.Count == 0 then v else a.Min) then v else (bif a.Count == 0 then v else a.Min)), (if v > (bif a.Count == 0 then v else a.Max) then v else (bif a.Count == 0 then v else a.Max)), (⟨a.Hist.h0, a.Hist.h1, a.Hist.h2, satAdd a.Hist.h3 1⟩ : H4), satAdd a.Re 0, satAdd a.Im (-1)⟩ : Agg)) = (aggAdd a v) by simp only [aggAdd, hsort, hquart, hget, hset, quartRe, quartIm]; congr 1 <;> first | rfl | omega | (by_cases hc_ : a.Count = 0 <;> simp [Bool.cond_eq_ite, Int.min_def, Int.max_def, hc_] <;> (repeat' split) <;> omega)))) All2.nil)
end Go.Proofs.Ytfpmgnkbklnkaaa.Eng
end
section
set_option linter.unusedSimpArgs false
set_option linter.unusedVariables false
set_option maxRecDepth 100000
set_option maxHeartbeats 4000000
namespace Go.Proofs.Ytfpmgnkbklnkaaa.Eng
open Go Go.Proofs
abbrev uadd15 (a : Agg) (v : Int) : List U := [.agg ((eAgg (aggAdd a v)).map .d)]
abbrev z49_0 (a : Agg) : Nat × Blk := (2, .var ((eAgg a).map .d))
abbrev z49_1 : Nat × Blk := (4, .var ([.d (dI 0), .d (dI 0), .d (dI 0), .d (dI 0), .d (dI 0), .d (dI 0), .d (dI 0), .d (dI 0), .d (dI 0), .d (dI 0)]))
abbrev z49_2 (a : Agg) (v : Int) : Nat × Blk := (5, .var ([.d (dI a.Count), .d (dI a.Sum), .d (dI (bif (a.Count == 0) || (decide (v < a.Min)) then v else a.Min)), .d (dI a.Max), .d (dI a.Hist.h0), .d (dI a.Hist.h1), .d (dI a.Hist.h2), .d (dI a.Hist.h3), .d (dI a.Re), .d (dI a.Im)]))
abbrev z49_3 (a : Agg) (v : Int) : Nat × Blk := (5, .var ([.d (dI a.Count), .d (dI a.Sum), .d (dI (bif (a.Count == 0) || (decide (v < a.Min)) then v else a.Min)), .d (dI (bif (a.Count == 0) || (decide (v > a.Max)) then v else a.Max)), .d (dI a.Hist.h0), .d (dI a.Hist.h1), .d (dI a.Hist.h2), .d (dI a.Hist.h3), .d (dI a.Re), .d (dI a.Im)]))
abbrev z49_4 (a : Agg) (v : Int) : Nat × Blk := (5, .var ([.d (dI (satAdd a.Count 1)), .d (dI a.Sum), .d (dI (bif (a.Count == 0) || (decide (v < a.Min)) then v else a.Min)), .d (dI (bif (a.Count == 0) || (decide (v > a.Max)) then v else a.Max)), .d (dI a.Hist.h0), .d (dI a.Hist.h1), .d (dI a.Hist.h2), .d (dI a.Hist.h3), .d (dI a.Re), .d (dI a.Im)]))
abbrev z49_5 (a : Agg) (v : Int) : Nat × Blk := (5, .var ([.d (dI (satAdd a.Count 1)), .d (dI (satAdd a.Sum v)), .d (dI (bif (a.Count == 0) || (decide (v < a.Min)) then v else a.Min)), .d (dI (bif (a.Count == 0) || (decide (v > a.Max)) then v else a.Max)), .d (dI (satAdd a.Hist.h0 1)), .d (dI a.Hist.h1), .d (dI a.Hist.h2), .d (dI a.Hist.h3), .d (dI a.Re), .d (dI a.Im)]))
abbrev z49_6 (v : Int) : Nat × T := (7, I (Int.tmod (IntKind.i64.wrap ((Int.tmod v (4 : Int)) + 4)) (4 : Int)))
abbrev z49_7 (a : Agg) (v : Int) : Nat × Blk := (5, .var ([.d (dI (satAdd a.Count 1)), .d (dI (satAdd a.Sum v)), .d (dI (bif (a.Count == 0) || (decide (v < a.Min)) then v else a.Min)), .d (dI (bif (a.Count == 0) || (decide (v > a.Max)) then v else a.Max)), .d (dI (satAdd a.Hist.h0 1)), .d (dI a.Hist.h1), .d (dI a.Hist.h2), .d (dI a.Hist.h3), .d (dI a.Re), .d (dI (satAdd a.Im 1))]))
abbrev z49_8 (a : Agg) (v : Int) : Nat × Blk := (5, .var ([.d (dI (satAdd a.Count 1)), .d (dI (satAdd a.Sum v)), .d (dI (bif (a.Count == 0) || (decide (v < a.Min)) then v else a.Min)), .d (dI (bif (a.Count == 0) || (decide (v > a.Max)) then v else a.Max)), .d (dI (satAdd a.Hist.h0 1)), .d (dI a.Hist.h1), .d (dI a.Hist.h2), .d (dI a.Hist.h3), .d (dI (satAdd a.Re (-1))), .d (dI a.Im)]))
abbrev z49_9 (a : Agg) (v : Int) : Nat × Blk := (5, .var ([.d (dI (satAdd a.Count 1)), .d (dI (satAdd a.Sum v)), .d (dI (bif (a.Count == 0) || (decide (v < a.Min)) then v else a.Min)), .d (dI (bif (a.Count == 0) || (decide (v > a.Max)) then v else a.Max)), .d (dI a.Hist.h0), .d (dI (satAdd a.Hist.h1 1)), .d (dI a.Hist.h2), .d (dI a.Hist.h3), .d (dI a.Re), .d (dI a.Im)]))
abbrev z49_10 (a : Agg) (v : Int) : Nat × Blk := (5, .var ([.d (dI (satAdd a.Count 1)), .d (dI (satAdd a.Sum v)), .d (dI (bif (a.Count == 0) || (decide (v < a.Min)) then v else a.Min)), .d (dI (bif (a.Count == 0) || (decide (v > a.Max)) then v else a.Max)), .d (dI a.Hist.h0), .d (dI (satAdd a.Hist.h1 1)), .d (dI a.Hist.h2), .d (dI a.Hist.h3), .d (dI a.Re), .d (dI (satAdd a.Im 1))]))
abbrev z49_11 (a : Agg) (v : Int) : Nat × Blk := (5, .var ([.d (dI (satAdd a.Count 1)), .d (dI (satAdd a.Sum v)), .d (dI (bif (a.Count == 0) || (decide (v < a.Min)) then v else a.Min)), .d (dI (bif (a.Count == 0) || (decide (v > a.Max)) then v else a.Max)), .d (dI a.Hist.h0), .d (dI (satAdd a.Hist.h1 1)), .d (dI a.Hist.h2), .d (dI a.Hist.h3), .d (dI (satAdd a.Re (-1))), .d (dI a.Im)]))
abbrev z49_12 (a : Agg) (v : Int) : Nat × Blk := (5, .var ([.d (dI (satAdd a.Count 1)), .d (dI (satAdd a.Sum v)), .d (dI (bif (a.Count == 0) || (decide (v < a.Min)) then v else a.Min)), .d (dI (bif (a.Count == 0) || (decide (v > a.Max)) then v else a.Max)), .d (dI a.Hist.h0), .d (dI a.Hist.h1), .d (dI (satAdd a.Hist.h2 1)), .d (dI a.Hist.h3), .d (dI a.Re), .d (dI a.Im)]))
abbrev z49_13 (a : Agg) (v : Int) : Nat × Blk := (5, .var ([.d (dI (satAdd a.Count 1)), .d (dI (satAdd a.Sum v)), .d (dI (bif (a.Count == 0) || (decide (v < a.Min)) then v else a.Min)), .d (dI (bif (a.Count == 0) || (decide (v > a.Max)) then v else a.Max)), .d (dI a.Hist.h0), .d (dI a.Hist.h1), .d (dI (satAdd a.Hist.h2 1)), .d (dI a.Hist.h3), .d (dI a.Re), .d (dI (satAdd a.Im 1))]))
abbrev z49_14 (a : Agg) (v : Int) : Nat × Blk := (5, .var ([.d (dI (satAdd a.Count 1)), .d (dI (satAdd a.Sum v)), .d (dI (bif (a.Count == 0) || (decide (v < a.Min)) then v else a.Min)), .d (dI (bif (a.Count == 0) || (decide (v > a.Max)) then v else a.Max)), .d (dI a.Hist.h0), .d (dI a.Hist.h1), .d (dI (satAdd a.Hist.h2 1)), .d (dI a.Hist.h3), .d (dI (satAdd a.Re (-1))), .d (dI a.Im)]))
abbrev z49_15 (a : Agg) (v : Int) : Nat × Blk := (5, .var ([.d (dI (satAdd a.Count 1)), .d (dI (satAdd a.Sum v)), .d (dI (bif (a.Count == 0) || (decide (v < a.Min)) then v else a.Min)), .d (dI (bif (a.Count == 0) || (decide (v > a.Max)) then v else a.Max)), .d (dI a.Hist.h0), .d (dI a.Hist.h1), .d (dI a.Hist.h2), .d (dI (satAdd a.Hist.h3 1)), .d (dI a.Re), .d (dI a.Im)]))
abbrev z49_16 (a : Agg) (v : Int) : Nat × Blk := (5, .var ([.d (dI (satAdd a.Count 1)), .d (dI (satAdd a.Sum v)), .d (dI (bif (a.Count == 0) || (decide (v < a.Min)) then v else a.Min)), .d (dI (bif (a.Count == 0) || (decide (v > a.Max)) then v else a.Max)), .d (dI a.Hist.h0), .d (dI a.Hist.h1), .d (dI a.Hist.h2), .d (dI (satAdd a.Hist.h3 1)), .d (dI a.Re), .d (dI (satAdd a.Im 1))]))
abbrev z49_17 (a : Agg) (v : Int) : Nat × Blk := (5, .var ([.d (dI (satAdd a.Count 1)), .d (dI (satAdd a.Sum v)), .d (dI (bif (a.Count == 0) || (decide (v < a.Min)) then v else a.Min)), .d (dI (bif (a.Count == 0) || (decide (v > a.Max)) then v else a.Max)), .d (dI a.Hist.h0), .d (dI a.Hist.h1), .d (dI a.Hist.h2), .d (dI (satAdd a.Hist.h3 1)), .d (dI (satAdd a.Re (-1))), .d (dI a.Im)]))
abbrev y49_0 (a : Agg) : List (Nat × Blk) := [(z49_0 a), (z49_1), (5, .var ((eAgg a).map .d))]
abbrev y49_1 (a : Agg) (v : Int) : List (Nat × Blk) := [(z49_0 a), (z49_1), (5, .var ([.d (dI (satAdd a.Count 1)), .d (dI (satAdd a.Sum v)), .d (dI (bif (a.Count == 0) || (decide (v < a.Min)) then v else a.Min)), .d (dI (bif (a.Count == 0) || (decide (v > a.Max)) then v else a.Max)), .d (dI a.Hist.h0), .d (dI a.Hist.h1), .d (dI a.Hist.h2), .d (dI a.Hist.h3), .d (dI a.Re), .d (dI a.Im)]))]
abbrev y49_2 (a : Agg) (v : Int) : List (Nat × Blk) := [(z49_0 a), (z49_1), (z49_5 a v)]
abbrev y49_3 (a : Agg) (v : Int) : List (Nat × Blk) := [(z49_0 a), (z49_1), (5, .var ([.d (dI (satAdd a.Count 1)), .d (dI (satAdd a.Sum v)), .d (dI (bif (a.Count == 0) || (decide (v < a.Min)) then v else a.Min)), .d (dI (bif (a.Count == 0) || (decide (v > a.Max)) then v else a.Max)), .d (dI (satAdd a.Hist.h0 1)), .d (dI a.Hist.h1), .d (dI a.Hist.h2), .d (dI a.Hist.h3), .d (dI (satAdd a.Re 1)), .d (dI a.Im)]))]
abbrev y49_4 (a : Agg) (v : Int) : List (Nat × Blk) := [(z49_0 a), (z49_1), (z49_9 a v)]
abbrev y49_5 (a : Agg) (v : Int) : List (Nat × Blk) := [(z49_0 a), (z49_1), (5, .var ([.d (dI (satAdd a.Count 1)), .d (dI (satAdd a.Sum v)), .d (dI (bif (a.Count == 0) || (decide (v < a.Min)) then v else a.Min)), .d (dI (bif (a.Count == 0) || (decide (v > a.Max)) then v else a.Max)), .d (dI a.Hist.h0), .d (dI (satAdd a.Hist.h1 1)), .d (dI a.Hist.h2), .d (dI a.Hist.h3), .d (dI (satAdd a.Re 1)), .d (dI a.Im)]))]
abbrev y49_6 (a : Agg) (v : Int) : List (Nat × Blk) := [(z49_0 a), (z49_1), (z49_12 a v)]
abbrev y49_7 (a : Agg) (v : Int) : List (Nat × Blk) := [(z49_0 a), (z49_1), (5, .var ([.d (dI (satAdd a.Count 1)), .d (dI (satAdd a.Sum v)), .d (dI (bif (a.Count == 0) || (decide (v < a.Min)) then v else a.Min)), .d (dI (bif (a.Count == 0) || (decide (v > a.Max)) then v else a.Max)), .d (dI a.Hist.h0), .d (dI a.Hist.h1), .d (dI (satAdd a.Hist.h2 1)), .d (dI a.Hist.h3), .d (dI (satAdd a.Re 1)), .d (dI a.Im)]))]
abbrev y49_8 (a : Agg) (v : Int) : List (Nat × Blk) := [(z49_0 a), (z49_1), (z49_15 a v)]
abbrev y49_9 (a : Agg) (v : Int) : List (Nat × Blk) := [(z49_0 a), (z49_1), (5, .var ([.d (dI (satAdd a.Count 1)), .d (dI (satAdd a.Sum v)), .d (dI (bif (a.Count == 0) || (decide (v < a.Min)) then v else a.Min)), .d (dI (bif (a.Count == 0) || (decide (v > a.Max)) then v else a.Max)), .d (dI a.Hist.h0), .d (dI a.Hist.h1), .d (dI a.Hist.h2), .d (dI (satAdd a.Hist.h3 1)), .d (dI (satAdd a.Re 1)), .d (dI a.Im)]))]
/-- headgate/headgateref15.Add. -/
theorem ok_add15 (a : Agg) (v : Int) (har : AggR a) (hv_ : R64 v) :
 FnOk Try.prog 49 [.agg ((eAgg a).map .d), .c (.d (dI v))] (fun r_ => r_ = tA ((eAgg (aggAdd a v)).map .d)) := by
 obtain ⟨r1, r2, r3, r4, r5, r6, r7, r8, r9, r10⟩ := har
 refine FnOk.go Try.func49 rfl 79 ?_
 intro w0 m0
 show AC _ _ ⟨[(0, tA ((eAgg a).map .d)), (1, I v)], []⟩ _
 refine AC.q ⟨[(1, I v), sp 2, sp 4], [(z49_0 a), (z49_1)]⟩ ?_
 refine AC.q ⟨[(1, I v), sp 2, sp 4, sp 5], y49_0 a⟩ ?_
 refine AC.join (ι := Unit) (fun _ => ⟨[(1, I v), sp 2, sp 4, sp 5], [(z49_0 a), (z49_1), (z49_2 a v)]⟩) (fun _ => True) ?_ ?_
 refine AC.rS [0, 1, 2, 3, 4, 5, 6, 7, 8] ?_
 refine AOps.m [0, 1, 2, 3] ⟨[(1, I v), sp 2, sp 4, sp 5, (12, B (a.Count == 0))], y49_0 a⟩ ?_
 refine AOps.s [4, 5, 6, 7] 8 12 16 17 false (a.Count == 0) (decide (v < a.Min)) [1, 2, 4, 5] (fun h_ => ?_) ?_
 clear h_
 refine AOps.m [4, 5, 6, 7] ⟨[(1, I v), sp 2, sp 4, sp 5, (12, B false), (16, B (decide (v < a.Min)))], y49_0 a⟩ ?_
 exact scd
 refine AOps.done ?_
 refine AC.cd (b := (a.Count == 0) || (decide (v < a.Min))) (fun h_ => ?_) (fun h_ => ?_)
 have h1 := h_; have r1 := h_; clear h_; try simp only [bb] at h1
 refine AC.qR ⟨[(1, I v), sp 2, sp 4, sp 5], [(z49_0 a), (z49_1), (5, .var ([.d (dI a.Count), .d (dI a.Sum), .d (dI v), .d (dI a.Max), .d (dI a.Hist.h0), .d (dI a.Hist.h1), .d (dI a.Hist.h2), .d (dI a.Hist.h3), .d (dI a.Re), .d (dI a.Im)]))]⟩ ?_
 refine joinA_n () trivial (Le.of (lk rfl (lk rfl (lk rfl (lk rfl LeS.nil)))) (ek rfl (ek rfl (LeE.cons rfl (BLe.var (ck (ck (All2.cons (CLe.d (DLe.eq (congrArg dI (by first | rfl | exact jt (by assumption) | exact jf (by assumption))))) (ck (ck (ck (ck (ck (ck (ck All2.nil))))))))))) LeE.nil))) (by kernel_rfl))
 have h1 := h_; have r1 := h_; clear h_; try simp only [bb] at h1
 refine AC.skip ?_
 refine joinA_n () trivial (Le.of (lk rfl (lk rfl (lk rfl (lk rfl LeS.nil)))) (ek rfl (ek rfl (LeE.cons rfl (BLe.var (ck (ck (All2.cons (CLe.d (DLe.eq (congrArg dI (by first | rfl | exact jt (by assumption) | exact jf (by assumption))))) (ck (ck (ck (ck (ck (ck (ck All2.nil))))))))))) LeE.nil))) (by kernel_rfl))
 intro _ _
 refine AC.join (ι := Unit) (fun _ => ⟨[(1, I v), sp 2, sp 4, sp 5], [(z49_0 a), (z49_1), (z49_3 a v)]⟩) (fun _ => True) ?_ ?_
 refine AC.rS [0, 1, 2, 3, 4, 5, 6, 7, 8] ?_
 refine AOps.m [0, 1, 2, 3] ⟨[(1, I v), sp 2, sp 4, sp 5, (23, B (a.Count == 0))], [(z49_0 a), (z49_1), (z49_2 a v)]⟩ ?_
 refine AOps.s [4, 5, 6, 7] 8 23 27 28 false (a.Count == 0) (decide (v > a.Max)) [1, 2, 4, 5] (fun h_ => ?_) ?_
 clear h_
 refine AOps.m [4, 5, 6, 7] ⟨[(1, I v), sp 2, sp 4, sp 5, (23, B false), (27, B (decide (v > a.Max)))], [(z49_0 a), (z49_1), (z49_2 a v)]⟩ ?_
 exact scd
 refine AOps.done ?_
 refine AC.cd (b := (a.Count == 0) || (decide (v > a.Max))) (fun h_ => ?_) (fun h_ => ?_)
 have h1 := h_; have r1 := h_; clear h_; try simp only [bb] at h1
 refine AC.qR ⟨[(1, I v), sp 2, sp 4, sp 5], [(z49_0 a), (z49_1), (5, .var ([.d (dI a.Count), .d (dI a.Sum), .d (dI (bif (a.Count == 0) || (decide (v < a.Min)) then v else a.Min)), .d (dI v), .d (dI a.Hist.h0), .d (dI a.Hist.h1), .d (dI a.Hist.h2), .d (dI a.Hist.h3), .d (dI a.Re), .d (dI a.Im)]))]⟩ ?_
 refine joinA_n () trivial (Le.of (lk rfl (lk rfl (lk rfl (lk rfl LeS.nil)))) (ek rfl (ek rfl (LeE.cons rfl (BLe.var (ck (ck (ck (All2.cons (CLe.d (DLe.eq (congrArg dI (by first | rfl | exact jt (by assumption) | exact jf (by assumption))))) (ck (ck (ck (ck (ck (ck All2.nil))))))))))) LeE.nil))) (by kernel_rfl))
 have h1 := h_; have r1 := h_; clear h_; try simp only [bb] at h1
 refine AC.skip ?_
 refine joinA_n () trivial (Le.of (lk rfl (lk rfl (lk rfl (lk rfl LeS.nil)))) (ek rfl (ek rfl (LeE.cons rfl (BLe.var (ck (ck (ck (All2.cons (CLe.d (DLe.eq (congrArg dI (by first | rfl | exact jt (by assumption) | exact jf (by assumption))))) (ck (ck (ck (ck (ck (ck All2.nil))))))))))) LeE.nil))) (by kernel_rfl))
 intro _ _
 refine AC.rS [0, 1, 2, 3, 4] ?_
 refine AOps.m [0, 1] ⟨[(1, I v), sp 2, sp 4, sp 5, (32, I a.Count)], [(z49_0 a), (z49_1), (z49_3 a v)]⟩ ?_
 refine AOps.ca (ok_plus15 a.Count 1 ?_ ?_) ?_
 iterate 2 (· first | assumption | omega)
 rintro _ rfl
 refine AOps.e ⟨[(1, I v), sp 2, sp 4, sp 5], [(z49_0 a), (z49_1), (z49_4 a v)]⟩ ?_
 refine AC.rS [0, 1, 2, 3, 4, 5] ?_
 refine AOps.m [0, 1, 2] ⟨[(1, I v), sp 2, sp 4, sp 5, (36, I a.Sum), (37, I v)], [(z49_0 a), (z49_1), (z49_4 a v)]⟩ ?_
 refine AOps.ca (ok_plus15 a.Sum v ?_ ?_) ?_
 iterate 2 (· first | assumption | omega)
 rintro _ rfl
 refine AOps.e ⟨[(1, I v), sp 2, sp 4, sp 5], y49_1 a v⟩ ?_
 refine AC.rS [0, 1, 2] ?_
 refine AOps.m [0] ⟨[(1, I v), sp 2, sp 4, sp 5, (40, I v)], y49_1 a v⟩ ?_
 refine AOps.ca (ok_sort15 v) ?_
 rintro _ rfl
 refine AOps.e ⟨[(1, I v), sp 2, sp 4, sp 5, (6, I (sortOf v))], y49_1 a v⟩ ?_
 have hk_ : sortOf v = 0 ∨ sortOf v = 1 ∨ sortOf v = 2 ∨ sortOf v = 3 := by exact sortOf_cases v
 rcases hk_ with hsort | hsort | hsort | hsort
 refine AC.le (st' := ⟨[(1, I v), sp 2, sp 4, sp 5, (6, I 0)], y49_1 a v⟩) (Le.of (lk rfl (lk rfl (lk rfl (lk rfl (LeS.cons rfl (TLe.i (by first | omega | (simp only [hsort]; done) | (rw [hsort]) | (simp only [hsort]; rfl))) LeS.nil))))) (ek rfl (ek rfl (ek rfl LeE.nil))) (by kernel_rfl)) ?_
 refine AC.rS [0, 1, 2, 3, 4, 5, 6, 7, 8] ?_
 refine AOps.mc [0, 1, 2, 3, 4] (C' := (0 ≤ (0 : Int) ∧ (0 : Int) < ((4 : Nat) : Int)) ∧ True) ⟨[(1, I v), sp 2, sp 4, sp 5, (42, I 0), (46, I a.Hist.h0)], y49_1 a v⟩ (⟨by omega, trivial⟩) ?_
 refine AOps.ca (ok_plus15 a.Hist.h0 1 ?_ ?_) ?_
 iterate 2 (· first | assumption | omega)
 rintro _ rfl
 refine AOps.ec (C' := (0 ≤ (0 : Int) ∧ (0 : Int) < ((4 : Nat) : Int)) ∧ True) ⟨[(1, I v), sp 2, sp 4, sp 5], y49_2 a v⟩ (⟨by omega, trivial⟩) ?_
 refine AC.rS [0, 1, 2, 3, 4] ?_
 refine AOps.ec (C' := ((4 : Int) ≠ 0) ∧ ((4 : Int) ≠ 0) ∧ True) ⟨[sp 2, sp 4, sp 5, (z49_6 v)], y49_2 a v⟩ (⟨by omega, by omega, trivial⟩) ?_
 refine AC.seq ?_
 refine AC.le (st' := ⟨[sp 2, sp 4, sp 5, (7, I (quarter v : Int))], y49_2 a v⟩) (Le.of (lk rfl (lk rfl (lk rfl (LeS.cons rfl (TLe.i (by exact quarter_tmod)) LeS.nil)))) (ek rfl (ek rfl (ek rfl LeE.nil))) (by kernel_rfl)) ?_
 have hk_ : quarter v = 0 ∨ quarter v = 1 ∨ quarter v = 2 ∨ quarter v = 3 := by have := quarter_lt v; omega
 rcases hk_ with hquart | hquart | hquart | hquart
 refine AC.le (st' := ⟨[sp 2, sp 4, sp 5, (7, I 0)], y49_2 a v⟩) (Le.of (lk rfl (lk rfl (lk rfl (LeS.cons rfl (TLe.i (by first | omega | (simp only [hquart]; done) | (rw [hquart]) | (simp only [hquart]; rfl))) LeS.nil)))) (ek rfl (ek rfl (ek rfl LeE.nil))) (by kernel_rfl)) ?_
 refine AC.q ⟨[sp 2, sp 4, sp 5, (7, I 0), (55, B true)], y49_2 a v⟩ ?_
 refine AC.cd (b := true) (fun h_ => ?_) (fun h_ => ?_)
 clear h_
 refine AC.rR [0, 1, 2, 3, 4] ?_
 refine AOps.m [0, 1] ⟨[sp 2, sp 4, sp 5, (7, I 0), (57, I a.Re)], y49_2 a v⟩ ?_
 refine AOps.ca (ok_plus15 a.Re 1 ?_ ?_) ?_
 iterate 2 (· first | assumption | omega)
 rintro _ rfl
 refine AOps.e ⟨[sp 2, sp 4, sp 5, (7, I 0)], y49_3 a v⟩ ?_
 refine AC.seq ?_
 refine AC.q ⟨[sp 2, sp 4, sp 5, (7, I 0), (61, B false)], y49_3 a v⟩ ?_
 refine AC.cd (b := false) (fun h_ => ?_) (fun h_ => ?_)
 cases h_
 clear h_
 refine AC.skip ?_
 refine AC.seq ?_
 refine AC.q ⟨[sp 2, sp 4, sp 5, (7, I 0), (67, B false)], y49_3 a v⟩ ?_
 refine AC.cd (b := false) (fun h_ => ?_) (fun h_ => ?_)
 cases h_
 clear h_
 refine AC.skip ?_
 refine AC.seq ?_
 refine AC.q ⟨[sp 2, sp 4, sp 5, (73, B false)], y49_3 a v⟩ ?_
 refine AC.cd (b := false) (fun h_ => ?_) (fun h_ => ?_)
 cases h_
 clear h_
 refine AC.skip ?_
 refine AC.q ⟨[sp 4], [(4, .var ([.d (dI (satAdd a.Count 1)), .d (dI (satAdd a.Sum v)), .d (dI (bif (a.Count == 0) || (decide (v < a.Min)) then v else a.Min)), .d (dI (bif (a.Count == 0) || (decide (v > a.Max)) then v else a.Max)), .d (dI (satAdd a.Hist.h0 1)), .d (dI a.Hist.h1), .d (dI a.Hist.h2), .d (dI a.Hist.h3), .d (dI (satAdd a.Re 1)), .d (dI a.Im)]))]⟩ ?_
 refine AC.ret ?_
 exact rqr (uadd15 a v) (All2.cons (ULe.eq (congrArg (fun x => U.agg ((eAgg x).map .d)) (show ((⟨satAdd a.Count 1, satAdd a.Sum v, (bif (a.Count == 0) || (decide (v < a.Min)) then v else a.Min), (bif (a.Count == 0) || (decide (v > a.Max)) then v else a.Max), (⟨satAdd a.Hist.h0 1, a.Hist.h1, a.Hist.h2, a.Hist.h3⟩ : H4), satAdd a.Re 1, a.Im⟩ : Agg)) = (aggAdd a v) by simp only [aggAdd, hsort, hquart, hget, hset, quartRe, quartIm, satAdd_zero r9, satAdd_zero r10]; congr 1 <;> first | rfl | omega | (by_cases hc_ : a.Count = 0 <;> by_cases hm_ : v < a.Min <;> by_cases hx_ : v > a.Max <;> simp [Bool.cond_eq_ite, Int.min_def, Int.max_def, hc_, hm_, hx_] <;> (try split) <;> omega)))) All2.nil)
 cases h_
 refine AC.le (st' := ⟨[sp 2, sp 4, sp 5, (7, I 1)], y49_2 a v⟩) (Le.of (lk rfl (lk rfl (lk rfl (LeS.cons rfl (TLe.i (by first | omega | (simp only [hquart]; done) | (rw [hquart]) | (simp only [hquart]; rfl))) LeS.nil)))) (ek rfl (ek rfl (ek rfl LeE.nil))) (by kernel_rfl)) ?_
 refine AC.q ⟨[sp 2, sp 4, sp 5, (7, I 1), (55, B false)], y49_2 a v⟩ ?_
 refine AC.cd (b := false) (fun h_ => ?_) (fun h_ => ?_)
 cases h_
 clear h_
 refine AC.skip ?_
 refine AC.seq ?_
 refine AC.q ⟨[sp 2, sp 4, sp 5, (7, I 1), (61, B true)], y49_2 a v⟩ ?_
 refine AC.cd (b := true) (fun h_ => ?_) (fun h_ => ?_)
 clear h_
 refine AC.rR [0, 1, 2, 3, 4] ?_
 refine AOps.m [0, 1] ⟨[sp 2, sp 4, sp 5, (7, I 1), (63, I a.Im)], y49_2 a v⟩ ?_
 refine AOps.ca (ok_plus15 a.Im 1 ?_ ?_) ?_
 iterate 2 (· first | assumption | omega)
 rintro _ rfl
 refine AOps.e ⟨[sp 2, sp 4, sp 5, (7, I 1)], [(z49_0 a), (z49_1), (z49_7 a v)]⟩ ?_
 refine AC.seq ?_
 refine AC.q ⟨[sp 2, sp 4, sp 5, (7, I 1), (67, B false)], [(z49_0 a), (z49_1), (z49_7 a v)]⟩ ?_
 refine AC.cd (b := false) (fun h_ => ?_) (fun h_ => ?_)
 cases h_
 clear h_
 refine AC.skip ?_
 refine AC.seq ?_
 refine AC.q ⟨[sp 2, sp 4, sp 5, (73, B false)], [(z49_0 a), (z49_1), (z49_7 a v)]⟩ ?_
 refine AC.cd (b := false) (fun h_ => ?_) (fun h_ => ?_)
 cases h_
 clear h_
 refine AC.skip ?_
 refine AC.q ⟨[sp 4], [(4, .var ([.d (dI (satAdd a.Count 1)), .d (dI (satAdd a.Sum v)), .d (dI (bif (a.Count == 0) || (decide (v < a.Min)) then v else a.Min)), .d (dI (bif (a.Count == 0) || (decide (v > a.Max)) then v else a.Max)), .d (dI (satAdd a.Hist.h0 1)), .d (dI a.Hist.h1), .d (dI a.Hist.h2), .d (dI a.Hist.h3), .d (dI a.Re), .d (dI (satAdd a.Im 1))]))]⟩ ?_
 refine AC.ret ?_
 exact rqr (uadd15 a v) (All2.cons (ULe.eq (congrArg (fun x => U.agg ((eAgg x).map .d)) (show ((⟨satAdd a.Count 1, satAdd a.Sum v, (bif (a.Count == 0) || (decide (v < a.Min)) then v else a.Min), (bif (a.Count == 0) || (decide (v > a.Max)) then v else a.Max), (⟨satAdd a.Hist.h0 1, a.Hist.h1, a.Hist.h2, a.Hist.h3⟩ : H4), a.Re, satAdd a.Im 1⟩ : Agg)) = (aggAdd a v) by simp only [aggAdd, hsort, hquart, hget, hset, quartRe, quartIm, satAdd_zero r9, satAdd_zero r10]; congr 1 <;> first | rfl | omega | (by_cases hc_ : a.Count = 0 <;> by_cases hm_ : v < a.Min <;> by_cases hx_ : v > a.Max <;> simp [Bool.cond_eq_ite, Int.min_def, Int.max_def, hc_, hm_, hx_] <;> (try split) <;> omega)))) All2.nil)
 cases h_
 refine AC.le (st' := ⟨[sp 2, sp 4, sp 5, (7, I 2)], y49_2 a v⟩) (Le.of (lk rfl (lk rfl (lk rfl (LeS.cons rfl (TLe.i (by first | omega | (simp only [hquart]; done) | (rw [hquart]) | (simp only [hquart]; rfl))) LeS.nil)))) (ek rfl (ek rfl (ek rfl LeE.nil))) (by kernel_rfl)) ?_
 refine AC.q ⟨[sp 2, sp 4, sp 5, (7, I 2), (55, B false)], y49_2 a v⟩ ?_
 refine AC.cd (b := false) (fun h_ => ?_) (fun h_ => ?_)
 cases h_
 clear h_
 refine AC.skip ?_
 refine AC.seq ?_
 refine AC.q ⟨[sp 2, sp 4, sp 5, (7, I 2), (61, B false)], y49_2 a v⟩ ?_
 refine AC.cd (b := false) (fun h_ => ?_) (fun h_ => ?_)
 cases h_
 clear h_
 refine AC.skip ?_
 refine AC.seq ?_
 refine AC.q ⟨[sp 2, sp 4, sp 5, (7, I 2), (67, B true)], y49_2 a v⟩ ?_
 refine AC.cd (b := true) (fun h_ => ?_) (fun h_ => ?_)
 clear h_
 refine AC.rR [0, 1, 2, 3, 4] ?_
 refine AOps.m [0, 1] ⟨[sp 2, sp 4, sp 5, (7, I 2), (69, I a.Re)], y49_2 a v⟩ ?_
 refine AOps.ca (ok_plus15 a.Re (-1) ?_ ?_) ?_
 iterate 2 (· first | assumption | omega)
 rintro _ rfl
 refine AOps.e ⟨[sp 2, sp 4, sp 5, (7, I 2)], [(z49_0 a), (z49_1), (z49_8 a v)]⟩ ?_
 refine AC.seq ?_
 refine AC.q ⟨[sp 2, sp 4, sp 5, (73, B false)], [(z49_0 a), (z49_1), (z49_8 a v)]⟩ ?_
 refine AC.cd (b := false) (fun h_ => ?_) (fun h_ => ?_)
 cases h_
 clear h_
 refine AC.skip ?_
 refine AC.q ⟨[sp 4], [(4, .var ([.d (dI (satAdd a.Count 1)), .d (dI (satAdd a.Sum v)), .d (dI (bif (a.Count == 0) || (decide (v < a.Min)) then v else a.Min)), .d (dI (bif (a.Count == 0) || (decide (v > a.Max)) then v else a.Max)), .d (dI (satAdd a.Hist.h0 1)), .d (dI a.Hist.h1), .d (dI a.Hist.h2), .d (dI a.Hist.h3), .d (dI (satAdd a.Re (-1))), .d (dI a.Im)]))]⟩ ?_
 refine AC.ret ?_
 exact rqr (uadd15 a v) (All2.cons (ULe.eq (congrArg (fun x => U.agg ((eAgg x).map .d)) (show ((⟨satAdd a.Count 1, satAdd a.Sum v, (bif (a.Count == 0) || (decide (v < a.Min)) then v else a.Min), (bif (a.Count == 0) || (decide (v > a.Max)) then v else a.Max), (⟨satAdd a.Hist.h0 1, a.Hist.h1, a.Hist.h2, a.Hist.h3⟩ : H4), satAdd a.Re (-1), a.Im⟩ : Agg)) = (aggAdd a v) by simp only [aggAdd, hsort, hquart, hget, hset, quartRe, quartIm, satAdd_zero r9, satAdd_zero r10]; congr 1 <;> first | rfl | omega | (by_cases hc_ : a.Count = 0 <;> by_cases hm_ : v < a.Min <;> by_cases hx_ : v > a.Max <;> simp [Bool.cond_eq_ite, Int.min_def, Int.max_def, hc_, hm_, hx_] <;> (try split) <;> omega)))) All2.nil)
 cases h_
 refine AC.le (st' := ⟨[sp 2, sp 4, sp 5, (7, I 3)], y49_2 a v⟩) (Le.of (lk rfl (lk rfl (lk rfl (LeS.cons rfl (TLe.i (by first | omega | (simp only [hquart]; done) | (rw [hquart]) | (simp only [hquart]; rfl))) LeS.nil)))) (ek rfl (ek rfl (ek rfl LeE.nil))) (by kernel_rfl)) ?_
 refine AC.q ⟨[sp 2, sp 4, sp 5, (7, I 3), (55, B false)], y49_2 a v⟩ ?_
 refine AC.cd (b := false) (fun h_ => ?_) (fun h_ => ?_)
 cases h_
 clear h_
 refine AC.skip ?_
 refine AC.seq ?_
 refine AC.q ⟨[sp 2, sp 4, sp 5, (7, I 3), (61, B false)], y49_2 a v⟩ ?_
 refine AC.cd (b := false) (fun h_ => ?_) (fun h_ => ?_)
 cases h_
 clear h_
 refine AC.skip ?_
 refine AC.seq ?_
 refine AC.q ⟨[sp 2, sp 4, sp 5, (7, I 3), (67, B false)], y49_2 a v⟩ ?_
 refine AC.cd (b := false) (fun h_ => ?_) (fun h_ => ?_)
 cases h_
 clear h_
 refine AC.skip ?_
 refine AC.seq ?_
 refine AC.q ⟨[sp 2, sp 4, sp 5, (73, B true)], y49_2 a v⟩ ?_
 refine AC.cd (b := true) (fun h_ => ?_) (fun h_ => ?_)
 clear h_
 refine AC.rR [0, 1, 2, 3, 4] ?_
 refine AOps.m [0, 1] ⟨[sp 4, sp 5, (75, I a.Im)], [(z49_1), (z49_5 a v)]⟩ ?_
 refine AOps.ca (ok_plus15 a.Im (-1) ?_ ?_) ?_
 iterate 2 (· first | assumption | omega)
 rintro _ rfl
 refine AOps.e ⟨[sp 4, sp 5], [(z49_1), (5, .var ([.d (dI (satAdd a.Count 1)), .d (dI (satAdd a.Sum v)), .d (dI (bif (a.Count == 0) || (decide (v < a.Min)) then v else a.Min)), .d (dI (bif (a.Count == 0) || (decide (v > a.Max)) then v else a.Max)), .d (dI (satAdd a.Hist.h0 1)), .d (dI a.Hist.h1), .d (dI a.Hist.h2), .d (dI a.Hist.h3), .d (dI a.Re), .d (dI (satAdd a.Im (-1)))]))]⟩ ?_
 refine AC.q ⟨[sp 4], [(4, .var ([.d (dI (satAdd a.Count 1)), .d (dI (satAdd a.Sum v)), .d (dI (bif (a.Count == 0) || (decide (v < a.Min)) then v else a.Min)), .d (dI (bif (a.Count == 0) || (decide (v > a.Max)) then v else a.Max)), .d (dI (satAdd a.Hist.h0 1)), .d (dI a.Hist.h1), .d (dI a.Hist.h2), .d (dI a.Hist.h3), .d (dI a.Re), .d (dI (satAdd a.Im (-1)))]))]⟩ ?_
 refine AC.ret ?_
 exact rqr (uadd15 a v) (All2.cons (ULe.eq (congrArg (fun x => U.agg ((eAgg x).map .d)) (show ((⟨satAdd a.Count 1, satAdd a.Sum v, (bif (a.Count == 0) || (decide (v < a.Min)) then v else a.Min), (bif (a.Count == 0) || (decide (v > a.Max)) then v else a.Max), (⟨satAdd a.Hist.h0 1, a.Hist.h1, a.Hist.h2, a.Hist.h3⟩ : H4), a.Re, satAdd a.Im (-1)⟩ : Agg)) = (aggAdd a v) by simp only [aggAdd, hsort, hquart, hget, hset, quartRe, quartIm, satAdd_zero r9, satAdd_zero r10]; congr 1 <;> first | rfl | omega | (by_cases hc_ : a.Count = 0 <;> by_cases hm_ : v < a.Min <;> by_cases hx_ : v > a.Max <;> simp [Bool.cond_eq_ite, Int.min_def, Int.max_def, hc_, hm_, hx_] <;> (try split) <;> omega)))) All2.nil)
 cases h_
 refine AC.le (st' := ⟨[(1, I v), sp 2, sp 4, sp 5, (6, I 1)], y49_1 a v⟩) (Le.of (lk rfl (lk rfl (lk rfl (lk rfl (LeS.cons rfl (TLe.i (by first | omega | (simp only [hsort]; done) | (rw [hsort]) | (simp only [hsort]; rfl))) LeS.nil))))) (ek rfl (ek rfl (ek rfl LeE.nil))) (by kernel_rfl)) ?_
 refine AC.rS [0, 1, 2, 3, 4, 5, 6, 7, 8] ?_
 refine AOps.mc [0, 1, 2, 3, 4] (C' := (0 ≤ (1 : Int) ∧ (1 : Int) < ((4 : Nat) : Int)) ∧ True) ⟨[(1, I v), sp 2, sp 4, sp 5, (42, I 1), (46, I a.Hist.h1)], y49_1 a v⟩ (⟨by omega, trivial⟩) ?_
 refine AOps.ca (ok_plus15 a.Hist.h1 1 ?_ ?_) ?_
 iterate 2 (· first | assumption | omega)
 rintro _ rfl
 refine AOps.ec (C' := (0 ≤ (1 : Int) ∧ (1 : Int) < ((4 : Nat) : Int)) ∧ True) ⟨[(1, I v), sp 2, sp 4, sp 5], y49_4 a v⟩ (⟨by omega, trivial⟩) ?_
 refine AC.rS [0, 1, 2, 3, 4] ?_
 refine AOps.ec (C' := ((4 : Int) ≠ 0) ∧ ((4 : Int) ≠ 0) ∧ True) ⟨[sp 2, sp 4, sp 5, (z49_6 v)], y49_4 a v⟩ (⟨by omega, by omega, trivial⟩) ?_
 refine AC.seq ?_
 refine AC.le (st' := ⟨[sp 2, sp 4, sp 5, (7, I (quarter v : Int))], y49_4 a v⟩) (Le.of (lk rfl (lk rfl (lk rfl (LeS.cons rfl (TLe.i (by exact quarter_tmod)) LeS.nil)))) (ek rfl (ek rfl (ek rfl LeE.nil))) (by kernel_rfl)) ?_
 have hk_ : quarter v = 0 ∨ quarter v = 1 ∨ quarter v = 2 ∨ quarter v = 3 := by have := quarter_lt v; omega
 rcases hk_ with hquart | hquart | hquart | hquart
 refine AC.le (st' := ⟨[sp 2, sp 4, sp 5, (7, I 0)], y49_4 a v⟩) (Le.of (lk rfl (lk rfl (lk rfl (LeS.cons rfl (TLe.i (by first | omega | (simp only [hquart]; done) | (rw [hquart]) | (simp only [hquart]; rfl))) LeS.nil)))) (ek rfl (ek rfl (ek rfl LeE.nil))) (by kernel_rfl)) ?_
 refine AC.q ⟨[sp 2, sp 4, sp 5, (7, I 0), (55, B true)], y49_4 a v⟩ ?_
 refine AC.cd (b := true) (fun h_ => ?_) (fun h_ => ?_)
 clear h_
 refine AC.rR [0, 1, 2, 3, 4] ?_
 refine AOps.m [0, 1] ⟨[sp 2, sp 4, sp 5, (7, I 0), (57, I a.Re)], y49_4 a v⟩ ?_
 refine AOps.ca (ok_plus15 a.Re 1 ?_ ?_) ?_
 iterate 2 (· first | assumption | omega)
 rintro _ rfl
 refine AOps.e ⟨[sp 2, sp 4, sp 5, (7, I 0)], y49_5 a v⟩ ?_
 refine AC.seq ?_
 refine AC.q ⟨[sp 2, sp 4, sp 5, (7, I 0), (61, B false)], y49_5 a v⟩ ?_
 refine AC.cd (b := false) (fun h_ => ?_) (fun h_ => ?_)
 cases h_
 clear h_
 refine AC.skip ?_
 refine AC.seq ?_
 refine AC.q ⟨[sp 2, sp 4, sp 5, (7, I 0), (67, B false)], y49_5 a v⟩ ?_
 refine AC.cd (b := false) (fun h_ => ?_) (fun h_ => ?_)
 cases h_
 clear h_
 refine AC.skip ?_
 refine AC.seq ?_
 refine AC.q ⟨[sp 2, sp 4, sp 5, (73, B false)], y49_5 a v⟩ ?_
 refine AC.cd (b := false) (fun h_ => ?_) (fun h_ => ?_)
 cases h_
 clear h_
 refine AC.skip ?_
 refine AC.q ⟨[sp 4], [(4, .var ([.d (dI (satAdd a.Count 1)), .d (dI (satAdd a.Sum v)), .d (dI (bif (a.Count == 0) || (decide (v < a.Min)) then v else a.Min)), .d (dI (bif (a.Count == 0) || (decide (v > a.Max)) then v else a.Max)), .d (dI a.Hist.h0), .d (dI (satAdd a.Hist.h1 1)), .d (dI a.Hist.h2), .d (dI a.Hist.h3), .d (dI (satAdd a.Re 1)), .d (dI a.Im)]))]⟩ ?_
 refine AC.ret ?_
 exact rqr (uadd15 a v) (All2.cons (ULe.eq (congrArg (fun x => U.agg ((eAgg x).map .d)) (show ((⟨satAdd a.Count 1, satAdd a.Sum v, (bif (a.Count == 0) || (decide (v < a.Min)) then v else a.Min), (bif (a.Count == 0) || (decide (v > a.Max)) then v else a.Max), (⟨a.Hist.h0, satAdd a.Hist.h1 1, a.Hist.h2, a.Hist.h3⟩ : H4), satAdd a.Re 1, a.Im⟩ : Agg)) = (aggAdd a v) by simp only [aggAdd, hsort, hquart, hget, hset, quartRe, quartIm, satAdd_zero r9, satAdd_zero r10]; congr 1 <;> first | rfl | omega | (by_cases hc_ : a.Count = 0 <;> by_cases hm_ : v < a.Min <;> by_cases hx_ : v > a.Max <;> simp [Bool.cond_eq_ite, Int.min_def, Int.max_def, hc_, hm_, hx_] <;> (try split) <;> omega)))) All2.nil)
 cases h_
 refine AC.le (st' := ⟨[sp 2, sp 4, sp 5, (7, I 1)], y49_4 a v⟩) (Le.of (lk rfl (lk rfl (lk rfl (LeS.cons rfl (TLe.i (by first | omega | (simp only [hquart]; done) | (rw [hquart]) | (simp only [hquart]; rfl))) LeS.nil)))) (ek rfl (ek rfl (ek rfl LeE.nil))) (by kernel_rfl)) ?_
 refine AC.q ⟨[sp 2, sp 4, sp 5, (7, I 1), (55, B false)], y49_4 a v⟩ ?_
 refine AC.cd (b := false) (fun h_ => ?_) (fun h_ => ?_)
 cases h_
 clear h_
 refine AC.skip ?_
 refine AC.seq ?_
 refine AC.q ⟨[sp 2, sp 4, sp 5, (7, I 1), (61, B true)], y49_4 a v⟩ ?_
 refine AC.cd (b := true) (fun h_ => ?_) (fun h_ => ?_)
 clear h_
 refine AC.rR [0, 1, 2, 3, 4] ?_
 refine AOps.m [0, 1] ⟨[sp 2, sp 4, sp 5, (7, I 1), (63, I a.Im)], y49_4 a v⟩ ?_
 refine AOps.ca (ok_plus15 a.Im 1 ?_ ?_) ?_
 iterate 2 (· first | assumption | omega)
 rintro _ rfl
 refine AOps.e ⟨[sp 2, sp 4, sp 5, (7, I 1)], [(z49_0 a), (z49_1), (z49_10 a v)]⟩ ?_
 refine AC.seq ?_
 refine AC.q ⟨[sp 2, sp 4, sp 5, (7, I 1), (67, B false)], [(z49_0 a), (z49_1), (z49_10 a v)]⟩ ?_
 refine AC.cd (b := false) (fun h_ => ?_) (fun h_ => ?_)
 cases h_
 clear h_
 refine AC.skip ?_
 refine AC.seq ?_
 refine AC.q ⟨[sp 2, sp 4, sp 5, (73, B false)], [(z49_0 a), (z49_1), (z49_10 a v)]⟩ ?_
 refine AC.cd (b := false) (fun h_ => ?_) (fun h_ => ?_)
 cases h_
 clear h_
 refine AC.skip ?_
 refine AC.q ⟨[sp 4], [(4, .var ([.d (dI (satAdd a.Count 1)), .d (dI (satAdd a.Sum v)), .d (dI (bif (a.Count == 0) || (decide (v < a.Min)) then v else a.Min)), .d (dI (bif (a.Count == 0) || (decide (v > a.Max)) then v else a.Max)), .d (dI a.Hist.h0), .d (dI (satAdd a.Hist.h1 1)), .d (dI a.Hist.h2), .d (dI a.Hist.h3), .d (dI a.Re), .d (dI (satAdd a.Im 1))]))]⟩ ?_
 refine AC.ret ?_
 exact rqr (uadd15 a v) (All2.cons (ULe.eq (congrArg (fun x => U.agg ((eAgg x).map .d)) (show ((⟨satAdd a.Count 1, satAdd a.Sum v, (bif (a.Count == 0) || (decide (v < a.Min)) then v else a.Min), (bif (a.Count == 0) || (decide (v > a.Max)) then v else a.Max), (⟨a.Hist.h0, satAdd a.Hist.h1 1, a.Hist.h2, a.Hist.h3⟩ : H4), a.Re, satAdd a.Im 1⟩ : Agg)) = (aggAdd a v) by simp only [aggAdd, hsort, hquart, hget, hset, quartRe, quartIm, satAdd_zero r9, satAdd_zero r10]; congr 1 <;> first | rfl | omega | (by_cases hc_ : a.Count = 0 <;> by_cases hm_ : v < a.Min <;> by_cases hx_ : v > a.Max <;> simp [Bool.cond_eq_ite, Int.min_def, Int.max_def, hc_, hm_, hx_] <;> (try split) <;> omega)))) All2.nil)
 cases h_
 refine AC.le (st' := ⟨[sp 2, sp 4, sp 5, (7, I 2)], y49_4 a v⟩) (Le.of (lk rfl (lk rfl (lk rfl (LeS.cons rfl (TLe.i (by first | omega | (simp only [hquart]; done) | (rw [hquart]) | (simp only [hquart]; rfl))) LeS.nil)))) (ek rfl (ek rfl (ek rfl LeE.nil))) (by kernel_rfl)) ?_
 refine AC.q ⟨[sp 2, sp 4, sp 5, (7, I 2), (55, B false)], y49_4 a v⟩ ?_
 refine AC.cd (b := false) (fun h_ => ?_) (fun h_ => ?_)
 cases h_
 clear h_
 refine AC.skip ?_
 refine AC.seq ?_
 refine AC.q ⟨[sp 2, sp 4, sp 5, (7, I 2), (61, B false)], y49_4 a v⟩ ?_
 refine AC.cd (b := false) (fun h_ => ?_) (fun h_ => ?_)
 cases h_
 clear h_
 refine AC.skip ?_
 refine AC.seq ?_
 refine AC.q ⟨[sp 2, sp 4, sp 5, (7, I 2), (67, B true)], y49_4 a v⟩ ?_
 refine AC.cd (b := true) (fun h_ => ?_) (fun h_ => ?_)
 clear h_
 refine AC.rR [0, 1, 2, 3, 4] ?_
 refine AOps.m [0, 1] ⟨[sp 2, sp 4, sp 5, (7, I 2), (69, I a.Re)], y49_4 a v⟩ ?_
 refine AOps.ca (ok_plus15 a.Re (-1) ?_ ?_) ?_
 iterate 2 (· first | assumption | omega)
 rintro _ rfl
 refine AOps.e ⟨[sp 2, sp 4, sp 5, (7, I 2)], [(z49_0 a), (z49_1), (z49_11 a v)]⟩ ?_
 refine AC.seq ?_
 refine AC.q ⟨[sp 2, sp 4, sp 5, (73, B false)], [(z49_0 a), (z49_1), (z49_11 a v)]⟩ ?_
 refine AC.cd (b := false) (fun h_ => ?_) (fun h_ => ?_)
 cases h_
 clear h_
 refine AC.skip ?_
 refine AC.q ⟨[sp 4], [(4, .var ([.d (dI (satAdd a.Count 1)), .d (dI (satAdd a.Sum v)), .d (dI (bif (a.Count == 0) || (decide (v < a.Min)) then v else a.Min)), .d (dI (bif (a.Count == 0) || (decide (v > a.Max)) then v else a.Max)), .d (dI a.Hist.h0), .d (dI (satAdd a.Hist.h1 1)), .d (dI a.Hist.h2), .d (dI a.Hist.h3), .d (dI (satAdd a.Re (-1))), .d (dI a.Im)]))]⟩ ?_
 refine AC.ret ?_
 exact rqr (uadd15 a v) (All2.cons (ULe.eq (congrArg (fun x => U.agg ((eAgg x).map .d)) (show ((⟨satAdd a.Count 1, satAdd a.Sum v, (bif (a.Count == 0) || (decide (v < a.Min)) then v else a.Min), (bif (a.Count == 0) || (decide (v > a.Max)) then v else a.Max), (⟨a.Hist.h0, satAdd a.Hist.h1 1, a.Hist.h2, a.Hist.h3⟩ : H4), satAdd a.Re (-1), a.Im⟩ : Agg)) = (aggAdd a v) by simp only [aggAdd, hsort, hquart, hget, hset, quartRe, quartIm, satAdd_zero r9, satAdd_zero r10]; congr 1 <;> first | rfl | omega | (by_cases hc_ : a.Count = 0 <;> by_cases hm_ : v < a.Min <;> by_cases hx_ : v > a.Max <;> simp [Bool.cond_eq_ite, Int.min_def, Int.max_def, hc_, hm_, hx_] <;> (try split) <;> omega)))) All2.nil)
 cases h_
 refine AC.le (st' := ⟨[sp 2, sp 4, sp 5, (7, I 3)], y49_4 a v⟩) (Le.of (lk rfl (lk rfl (lk rfl (LeS.cons rfl (TLe.i (by first | omega | (simp only [hquart]; done) | (rw [hquart]) | (simp only [hquart]; rfl))) LeS.nil)))) (ek rfl (ek rfl (ek rfl LeE.nil))) (by kernel_rfl)) ?_
 refine AC.q ⟨[sp 2, sp 4, sp 5, (7, I 3), (55, B false)], y49_4 a v⟩ ?_
 refine AC.cd (b := false) (fun h_ => ?_) (fun h_ => ?_)
 cases h_
 clear h_
 refine AC.skip ?_
 refine AC.seq ?_
 refine AC.q ⟨[sp 2, sp 4, sp 5, (7, I 3), (61, B false)], y49_4 a v⟩ ?_
 refine AC.cd (b := false) (fun h_ => ?_) (fun h_ => ?_)
 cases h_
 clear h_
 refine AC.skip ?_
 refine AC.seq ?_
 refine AC.q ⟨[sp 2, sp 4, sp 5, (7, I 3), (67, B false)], y49_4 a v⟩ ?_
 refine AC.cd (b := false) (fun h_ => ?_) (fun h_ => ?_)
 cases h_
 clear h_
 refine AC.skip ?_
 refine AC.seq ?_
 refine AC.q ⟨[sp 2, sp 4, sp 5, (73, B true)], y49_4 a v⟩ ?_
 refine AC.cd (b := true) (fun h_ => ?_) (fun h_ => ?_)
 clear h_
 refine AC.rR [0, 1, 2, 3, 4] ?_
 refine AOps.m [0, 1] ⟨[sp 4, sp 5, (75, I a.Im)], [(z49_1), (z49_9 a v)]⟩ ?_
 refine AOps.ca (ok_plus15 a.Im (-1) ?_ ?_) ?_
 iterate 2 (· first | assumption | omega)
 rintro _ rfl
 refine AOps.e ⟨[sp 4, sp 5], [(z49_1), (5, .var ([.d (dI (satAdd a.Count 1)), .d (dI (satAdd a.Sum v)), .d (dI (bif (a.Count == 0) || (decide (v < a.Min)) then v else a.Min)), .d (dI (bif (a.Count == 0) || (decide (v > a.Max)) then v else a.Max)), .d (dI a.Hist.h0), .d (dI (satAdd a.Hist.h1 1)), .d (dI a.Hist.h2), .d (dI a.Hist.h3), .d (dI a.Re), .d (dI (satAdd a.Im (-1)))]))]⟩ ?_
 refine AC.q ⟨[sp 4], [(4, .var ([.d (dI (satAdd a.Count 1)), .d (dI (satAdd a.Sum v)), .d (dI (bif (a.Count == 0) || (decide (v < a.Min)) then v else a.Min)), .d (dI (bif (a.Count == 0) || (decide (v > a.Max)) then v else a.Max)), .d (dI a.Hist.h0), .d (dI (satAdd a.Hist.h1 1)), .d (dI a.Hist.h2), .d (dI a.Hist.h3), .d (dI a.Re), .d (dI (satAdd a.Im (-1)))]))]⟩ ?_
 refine AC.ret ?_
 exact rqr (uadd15 a v) (All2.cons (ULe.eq (congrArg (fun x => U.agg ((eAgg x).map .d)) (show ((⟨satAdd a.Count 1, satAdd a.Sum v, (bif (a.Count == 0) || (decide (v < a.Min)) then v else a.Min), (bif (a.Count == 0) || (decide (v > a.Max)) then v else a.Max), (⟨a.Hist.h0, satAdd a.Hist.h1 1, a.Hist.h2, a.Hist.h3⟩ : H4), a.Re, satAdd a.Im (-1)⟩ : Agg)) = (aggAdd a v) by simp only [aggAdd, hsort, hquart, hget, hset, quartRe, quartIm, satAdd_zero r9, satAdd_zero r10]; congr 1 <;> first | rfl | omega | (by_cases hc_ : a.Count = 0 <;> by_cases hm_ : v < a.Min <;> by_cases hx_ : v > a.Max <;> simp [Bool.cond_eq_ite, Int.min_def, Int.max_def, hc_, hm_, hx_] <;> (try split) <;> omega)))) All2.nil)
 cases h_
 refine AC.le (st' := ⟨[(1, I v), sp 2, sp 4, sp 5, (6, I 2)], y49_1 a v⟩) (Le.of (lk rfl (lk rfl (lk rfl (lk rfl (LeS.cons rfl (TLe.i (by first | omega | (simp only [hsort]; done) | (rw [hsort]) | (simp only [hsort]; rfl))) LeS.nil))))) (ek rfl (ek rfl (ek rfl LeE.nil))) (by kernel_rfl)) ?_
 refine AC.rS [0, 1, 2, 3, 4, 5, 6, 7, 8] ?_
 refine AOps.mc [0, 1, 2, 3, 4] (C' := (0 ≤ (2 : Int) ∧ (2 : Int) < ((4 : Nat) : Int)) ∧ True) ⟨[(1, I v), sp 2, sp 4, sp 5, (42, I 2), (46, I a.Hist.h2)], y49_1 a v⟩ (⟨by omega, trivial⟩) ?_
 refine AOps.ca (ok_plus15 a.Hist.h2 1 ?_ ?_) ?_
 iterate 2 (· first | assumption | omega)
 rintro _ rfl
 refine AOps.ec (C' := (0 ≤ (2 : Int) ∧ (2 : Int) < ((4 : Nat) : Int)) ∧ True) ⟨[(1, I v), sp 2, sp 4, sp 5], y49_6 a v⟩ (⟨by omega, trivial⟩) ?_
 refine AC.rS [0, 1, 2, 3, 4] ?_
 refine AOps.ec (C' := ((4 : Int) ≠ 0) ∧ ((4 : Int) ≠ 0) ∧ True) ⟨[sp 2, sp 4, sp 5, (z49_6 v)], y49_6 a v⟩ (⟨by omega, by omega, trivial⟩) ?_
 refine AC.seq ?_
 refine AC.le (st' := ⟨[sp 2, sp 4, sp 5, (7, I (quarter v : Int))], y49_6 a v⟩) (Le.of (lk rfl (lk rfl (lk rfl (LeS.cons rfl (TLe.i (by exact quarter_tmod)) LeS.nil)))) (ek rfl (ek rfl (ek rfl LeE.nil))) (by kernel_rfl)) ?_
 have hk_ : quarter v = 0 ∨ quarter v = 1 ∨ quarter v = 2 ∨ quarter v = 3 := by have := quarter_lt v; omega
 rcases hk_ with hquart | hquart | hquart | hquart
 refine AC.le (st' := ⟨[sp 2, sp 4, sp 5, (7, I 0)], y49_6 a v⟩) (Le.of (lk rfl (lk rfl (lk rfl (LeS.cons rfl (TLe.i (by first | omega | (simp only [hquart]; done) | (rw [hquart]) | (simp only [hquart]; rfl))) LeS.nil)))) (ek rfl (ek rfl (ek rfl LeE.nil))) (by kernel_rfl)) ?_
 refine AC.q ⟨[sp 2, sp 4, sp 5, (7, I 0), (55, B true)], y49_6 a v⟩ ?_
 refine AC.cd (b := true) (fun h_ => ?_) (fun h_ => ?_)
 clear h_
 refine AC.rR [0, 1, 2, 3, 4] ?_
 refine AOps.m [0, 1] ⟨[sp 2, sp 4, sp 5, (7, I 0), (57, I a.Re)], y49_6 a v⟩ ?_
 refine AOps.ca (ok_plus15 a.Re 1 ?_ ?_) ?_
 iterate 2 (· first | assumption | omega)
 rintro _ rfl
 refine AOps.e ⟨[sp 2, sp 4, sp 5, (7, I 0)], y49_7 a v⟩ ?_
 refine AC.seq ?_
 refine AC.q ⟨[sp 2, sp 4, sp 5, (7, I 0), (61, B false)], y49_7 a v⟩ ?_
 refine AC.cd (b := false) (fun h_ => ?_) (fun h_ => ?_)
 cases h_
 clear h_
 refine AC.skip ?_
 refine AC.seq ?_
 refine AC.q ⟨[sp 2, sp 4, sp 5, (7, I 0), (67, B false)], y49_7 a v⟩ ?_
 refine AC.cd (b := false) (fun h_ => ?_) (fun h_ => ?_)
 cases h_
 clear h_
 refine AC.skip ?_
 refine AC.seq ?_
 refine AC.q ⟨[sp 2, sp 4, sp 5, (73, B false)], y49_7 a v⟩ ?_
 refine AC.cd (b := false) (fun h_ => ?_) (fun h_ => ?_)
 cases h_
 clear h_
 refine AC.skip ?_
 refine AC.q ⟨[sp 4], [(4, .var ([.d (dI (satAdd a.Count 1)), .d (dI (satAdd a.Sum v)), .d (dI (bif (a.Count == 0) || (decide (v < a.Min)) then v else a.Min)), .d (dI (bif (a.Count == 0) || (decide (v > a.Max)) then v else a.Max)), .d (dI a.Hist.h0), .d (dI a.Hist.h1), .d (dI (satAdd a.Hist.h2 1)), .d (dI a.Hist.h3), .d (dI (satAdd a.Re 1)), .d (dI a.Im)]))]⟩ ?_
 refine AC.ret ?_
 exact rqr (uadd15 a v) (All2.cons (ULe.eq (congrArg (fun x => U.agg ((eAgg x).map .d)) (show ((⟨satAdd a.Count 1, satAdd a.Sum v, (bif (a.Count == 0) || (decide (v < a.Min)) then v else a.Min), (bif (a.Count == 0) || (decide (v > a.Max)) then v else a.Max), (⟨a.Hist.h0, a.Hist.h1, satAdd a.Hist.h2 1, a.Hist.h3⟩ : H4), satAdd a.Re 1, a.Im⟩ : Agg)) = (aggAdd a v) by simp only [aggAdd, hsort, hquart, hget, hset, quartRe, quartIm, satAdd_zero r9, satAdd_zero r10]; congr 1 <;> first | rfl | omega | (by_cases hc_ : a.Count = 0 <;> by_cases hm_ : v < a.Min <;> by_cases hx_ : v > a.Max <;> simp [Bool.cond_eq_ite, Int.min_def, Int.max_def, hc_, hm_, hx_] <;> (try split) <;> omega)))) All2.nil)
 cases h_
 refine AC.le (st' := ⟨[sp 2, sp 4, sp 5, (7, I 1)], y49_6 a v⟩) (Le.of (lk rfl (lk rfl (lk rfl (LeS.cons rfl (TLe.i (by first | omega | (simp only [hquart]; done) | (rw [hquart]) | (simp only [hquart]; rfl))) LeS.nil)))) (ek rfl (ek rfl (ek rfl LeE.nil))) (by kernel_rfl)) ?_
 refine AC.q ⟨[sp 2, sp 4, sp 5, (7, I 1), (55, B false)], y49_6 a v⟩ ?_
 refine AC.cd (b := false) (fun h_ => ?_) (fun h_ => ?_)
 cases h_
 clear h_
 refine AC.skip ?_
 refine AC.seq ?_
 refine AC.q ⟨[sp 2, sp 4, sp 5, (7, I 1), (61, B true)], y49_6 a v⟩ ?_
 refine AC.cd (b := true) (fun h_ => ?_) (fun h_ => ?_)
 clear h_
 refine AC.rR [0, 1, 2, 3, 4] ?_
 refine AOps.m [0, 1] ⟨[sp 2, sp 4, sp 5, (7, I 1), (63, I a.Im)], y49_6 a v⟩ ?_
 refine AOps.ca (ok_plus15 a.Im 1 ?_ ?_) ?_
 iterate 2 (· first | assumption | omega)
 rintro _ rfl
 refine AOps.e ⟨[sp 2, sp 4, sp 5, (7, I 1)], [(z49_0 a), (z49_1), (z49_13 a v)]⟩ ?_
 refine AC.seq ?_
 refine AC.q ⟨[sp 2, sp 4, sp 5, (7, I 1), (67, B false)], [(z49_0 a), (z49_1), (z49_13 a v)]⟩ ?_
 refine AC.cd (b := false) (fun h_ => ?_) (fun h_ => ?_)
 cases h_
 clear h_
 refine AC.skip ?_
 refine AC.seq ?_
 refine AC.q ⟨[sp 2, sp 4, sp 5, (73, B false)], [(z49_0 a), (z49_1), (z49_13 a v)]⟩ ?_
 refine AC.cd (b := false) (fun h_ => ?_) (fun h_ => ?_)
 cases h_
 clear h_
 refine AC.skip ?_
 refine AC.q ⟨[sp 4], [(4, .var ([.d (dI (satAdd a.Count 1)), .d (dI (satAdd a.Sum v)), .d (dI (bif (a.Count == 0) || (decide (v < a.Min)) then v else a.Min)), .d (dI (bif (a.Count == 0) || (decide (v > a.Max)) then v else a.Max)), .d (dI a.Hist.h0), .d (dI a.Hist.h1), .d (dI (satAdd a.Hist.h2 1)), .d (dI a.Hist.h3), .d (dI a.Re), .d (dI (satAdd a.Im 1))]))]⟩ ?_
 refine AC.ret ?_
 exact rqr (uadd15 a v) (All2.cons (ULe.eq (congrArg (fun x => U.agg ((eAgg x).map .d)) (show ((⟨satAdd a.Count 1, satAdd a.Sum v, (bif (a.Count == 0) || (decide (v < a.Min)) then v else a.Min), (bif (a.Count == 0) || (decide (v > a.Max)) then v else a.Max), (⟨a.Hist.h0, a.Hist.h1, satAdd a.Hist.h2 1, a.Hist.h3⟩ : H4), a.Re, satAdd a.Im 1⟩ : Agg)) = (aggAdd a v) by simp only [aggAdd, hsort, hquart, hget, hset, quartRe, quartIm, satAdd_zero r9, satAdd_zero r10]; congr 1 <;> first | rfl | omega | (by_cases hc_ : a.Count = 0 <;> by_cases hm_ : v < a.Min <;> by_cases hx_ : v > a.Max <;> simp [Bool.cond_eq_ite, Int.min_def, Int.max_def, hc_, hm_, hx_] <;> (try split) <;> omega)))) All2.nil)
 cases h_
 refine AC.le (st' := ⟨[sp 2, sp 4, sp 5, (7, I 2)], y49_6 a v⟩) (Le.of (lk rfl (lk rfl (lk rfl (LeS.cons rfl (TLe.i (by first | omega | (simp only [hquart]; done) | (rw [hquart]) | (simp only [hquart]; rfl))) LeS.nil)))) (ek rfl (ek rfl (ek rfl LeE.nil))) (by kernel_rfl)) ?_
 refine AC.q ⟨[sp 2, sp 4, sp 5, (7, I 2), (55, B false)], y49_6 a v⟩ ?_
 refine AC.cd (b := false) (fun h_ => ?_) (fun h_ => ?_)
 cases h_
 clear h_
 refine AC.skip ?_
 refine AC.seq ?_
 refine AC.q ⟨[sp 2, sp 4, sp 5, (7, I 2), (61, B false)], y49_6 a v⟩ ?_
 refine AC.cd (b := false) (fun h_ => ?_) (fun h_ => ?_)
 cases h_
 clear h_
 refine AC.skip ?_
 refine AC.seq ?_
 refine AC.q ⟨[sp 2, sp 4, sp 5, (7, I 2), (67, B true)], y49_6 a v⟩ ?_
 refine AC.cd (b := true) (fun h_ => ?_) (fun h_ => ?_)
 clear h_
 refine AC.rR [0, 1, 2, 3, 4] ?_
 refine AOps.m [0, 1] ⟨[sp 2, sp 4, sp 5, (7, I 2), (69, I a.Re)], y49_6 a v⟩ ?_
 refine AOps.ca (ok_plus15 a.Re (-1) ?_ ?_) ?_
 iterate 2 (· first | assumption | omega)
 rintro _ rfl
 refine AOps.e ⟨[sp 2, sp 4, sp 5, (7, I 2)], [(z49_0 a), (z49_1), (z49_14 a v)]⟩ ?_
 refine AC.seq ?_
 refine AC.q ⟨[sp 2, sp 4, sp 5, (73, B false)], [(z49_0 a), (z49_1), (z49_14 a v)]⟩ ?_
 refine AC.cd (b := false) (fun h_ => ?_) (fun h_ => ?_)
 cases h_
 clear h_
 refine AC.skip ?_
 refine AC.q ⟨[sp 4], [(4, .var ([.d (dI (satAdd a.Count 1)), .d (dI (satAdd a.Sum v)), .d (dI (bif (a.Count == 0) || (decide (v < a.Min)) then v else a.Min)), .d (dI (bif (a.Count == 0) || (decide (v > a.Max)) then v else a.Max)), .d (dI a.Hist.h0), .d (dI a.Hist.h1), .d (dI (satAdd a.Hist.h2 1)), .d (dI a.Hist.h3), .d (dI (satAdd a.Re (-1))), .d (dI a.Im)]))]⟩ ?_
 refine AC.ret ?_
 exact rqr (uadd15 a v) (All2.cons (ULe.eq (congrArg (fun x => U.agg ((eAgg x).map .d)) (show ((⟨satAdd a.Count 1, satAdd a.Sum v, (bif (a.Count == 0) || (decide (v < a.Min)) then v else a.Min), (bif (a.Count == 0) || (decide (v > a.Max)) then v else a.Max), (⟨a.Hist.h0, a.Hist.h1, satAdd a.Hist.h2 1, a.Hist.h3⟩ : H4), satAdd a.Re (-1), a.Im⟩ : Agg)) = (aggAdd a v) by simp only [aggAdd, hsort, hquart, hget, hset, quartRe, quartIm, satAdd_zero r9, satAdd_zero r10]; congr 1 <;> first | rfl | omega | (by_cases hc_ : a.Count = 0 <;> by_cases hm_ : v < a.Min <;> by_cases hx_ : v > a.Max <;> simp [Bool.cond_eq_ite, Int.min_def, Int.max_def, hc_, hm_, hx_] <;> (try split) <;> omega)))) All2.nil)
 cases h_
 refine AC.le (st' := ⟨[sp 2, sp 4, sp 5, (7, I 3)], y49_6 a v⟩) (Le.of (lk rfl (lk rfl (lk rfl (LeS.cons rfl (TLe.i (by first | omega | (simp only [hquart]; done) | (rw [hquart]) | (simp only [hquart]; rfl))) LeS.nil)))) (ek rfl (ek rfl (ek rfl LeE.nil))) (by kernel_rfl)) ?_
 refine AC.q ⟨[sp 2, sp 4, sp 5, (7, I 3), (55, B false)], y49_6 a v⟩ ?_
 refine AC.cd (b := false) (fun h_ => ?_) (fun h_ => ?_)
 cases h_
 clear h_
 refine AC.skip ?_
 refine AC.seq ?_
 refine AC.q ⟨[sp 2, sp 4, sp 5, (7, I 3), (61, B false)], y49_6 a v⟩ ?_
 refine AC.cd (b := false) (fun h_ => ?_) (fun h_ => ?_)
 cases h_
 clear h_
 refine AC.skip ?_
 refine AC.seq ?_
 refine AC.q ⟨[sp 2, sp 4, sp 5, (7, I 3), (67, B false)], y49_6 a v⟩ ?_
 refine AC.cd (b := false) (fun h_ => ?_) (fun h_ => ?_)
 cases h_
 clear h_
 refine AC.skip ?_
 refine AC.seq ?_
 refine AC.q ⟨[sp 2, sp 4, sp 5, (73, B true)], y49_6 a v⟩ ?_
 refine AC.cd (b := true) (fun h_ => ?_) (fun h_ => ?_)
 clear h_
 refine AC.rR [0, 1, 2, 3, 4] ?_
 refine AOps.m [0, 1] ⟨[sp 4, sp 5, (75, I a.Im)], [(z49_1), (z49_12 a v)]⟩ ?_
 refine AOps.ca (ok_plus15 a.Im (-1) ?_ ?_) ?_
 iterate 2 (· first | assumption | omega)
 rintro _ rfl
 refine AOps.e ⟨[sp 4, sp 5], [(z49_1), (5, .var ([.d (dI (satAdd a.Count 1)), .d (dI (satAdd a.Sum v)), .d (dI (bif (a.Count == 0) || (decide (v < a.Min)) then v else a.Min)), .d (dI (bif (a.Count == 0) || (decide (v > a.Max)) then v else a.Max)), .d (dI a.Hist.h0), .d (dI a.Hist.h1), .d (dI (satAdd a.Hist.h2 1)), .d (dI a.Hist.h3), .d (dI a.Re), .d (dI (satAdd a.Im (-1)))]))]⟩ ?_
 refine AC.q ⟨[sp 4], [(4, .var ([.d (dI (satAdd a.Count 1)), .d (dI (satAdd a.Sum v)), .d (dI (bif (a.Count == 0) || (decide (v < a.Min)) then v else a.Min)), .d (dI (bif (a.Count == 0) || (decide (v > a.Max)) then v else a.Max)), .d (dI a.Hist.h0), .d (dI a.Hist.h1), .d (dI (satAdd a.Hist.h2 1)), .d (dI a.Hist.h3), .d (dI a.Re), .d (dI (satAdd a.Im (-1)))]))]⟩ ?_
 refine AC.ret ?_
 exact rqr (uadd15 a v) (All2.cons (ULe.eq (congrArg (fun x => U.agg ((eAgg x).map .d)) (show ((⟨satAdd a.Count 1, satAdd a.Sum v, (bif (a.Count == 0) || (decide (v < a.Min)) then v else a.Min), (bif (a.Count == 0) || (decide (v > a.Max)) then v else a.Max), (⟨a.Hist.h0, a.Hist.h1, satAdd a.Hist.h2 1, a.Hist.h3⟩ : H4), a.Re, satAdd a.Im (-1)⟩ : Agg)) = (aggAdd a v) by simp only [aggAdd, hsort, hquart, hget, hset, quartRe, quartIm, satAdd_zero r9, satAdd_zero r10]; congr 1 <;> first | rfl | omega | (by_cases hc_ : a.Count = 0 <;> by_cases hm_ : v < a.Min <;> by_cases hx_ : v > a.Max <;> simp [Bool.cond_eq_ite, Int.min_def, Int.max_def, hc_, hm_, hx_] <;> (try split) <;> omega)))) All2.nil)
 cases h_
 refine AC.le (st' := ⟨[(1, I v), sp 2, sp 4, sp 5, (6, I 3)], y49_1 a v⟩) (Le.of (lk rfl (lk rfl (lk rfl (lk rfl (LeS.cons rfl (TLe.i (by first | omega | (simp only [hsort]; done) | (rw [hsort]) | (simp only [hsort]; rfl))) LeS.nil))))) (ek rfl (ek rfl (ek rfl LeE.nil))) (by kernel_rfl)) ?_
 refine AC.rS [0, 1, 2, 3, 4, 5, 6, 7, 8] ?_
 refine AOps.mc [0, 1, 2, 3, 4] (C' := (0 ≤ (3 : Int) ∧ (3 : Int) < ((4 : Nat) : Int)) ∧ True) ⟨[(1, I v), sp 2, sp 4, sp 5, (42, I 3), (46, I a.Hist.h3)], y49_1 a v⟩ (⟨by omega, trivial⟩) ?_
 refine AOps.ca (ok_plus15 a.Hist.h3 1 ?_ ?_) ?_
 iterate 2 (· first | assumption | omega)
 rintro _ rfl
 refine AOps.ec (C' := (0 ≤ (3 : Int) ∧ (3 : Int) < ((4 : Nat) : Int)) ∧ True) ⟨[(1, I v), sp 2, sp 4, sp 5], y49_8 a v⟩ (⟨by omega, trivial⟩) ?_
 refine AC.rS [0, 1, 2, 3, 4] ?_
 refine AOps.ec (C' := ((4 : Int) ≠ 0) ∧ ((4 : Int) ≠ 0) ∧ True) ⟨[sp 2, sp 4, sp 5, (z49_6 v)], y49_8 a v⟩ (⟨by omega, by omega, trivial⟩) ?_
 refine AC.seq ?_
 refine AC.le (st' := ⟨[sp 2, sp 4, sp 5, (7, I (quarter v : Int))], y49_8 a v⟩) (Le.of (lk rfl (lk rfl (lk rfl (LeS.cons rfl (TLe.i (by exact quarter_tmod)) LeS.nil)))) (ek rfl (ek rfl (ek rfl LeE.nil))) (by kernel_rfl)) ?_
 have hk_ : quarter v = 0 ∨ quarter v = 1 ∨ quarter v = 2 ∨ quarter v = 3 := by have := quarter_lt v; omega
 rcases hk_ with hquart | hquart | hquart | hquart
 refine AC.le (st' := ⟨[sp 2, sp 4, sp 5, (7, I 0)], y49_8 a v⟩) (Le.of (lk rfl (lk rfl (lk rfl (LeS.cons rfl (TLe.i (by first | omega | (simp only [hquart]; done) | (rw [hquart]) | (simp only [hquart]; rfl))) LeS.nil)))) (ek rfl (ek rfl (ek rfl LeE.nil))) (by kernel_rfl)) ?_
 refine AC.q ⟨[sp 2, sp 4, sp 5, (7, I 0), (55, B true)], y49_8 a v⟩ ?_
 refine AC.cd (b := true) (fun h_ => ?_) (fun h_ => ?_)
 clear h_
 refine AC.rR [0, 1, 2, 3, 4] ?_
 refine AOps.m [0, 1] ⟨[sp 2, sp 4, sp 5, (7, I 0), (57, I a.Re)], y49_8 a v⟩ ?_
 refine AOps.ca (ok_plus15 a.Re 1 ?_ ?_) ?_
 iterate 2 (· first | assumption | omega)
 rintro _ rfl
 refine AOps.e ⟨[sp 2, sp 4, sp 5, (7, I 0)], y49_9 a v⟩ ?_
 refine AC.seq ?_
 refine AC.q ⟨[sp 2, sp 4, sp 5, (7, I 0), (61, B false)], y49_9 a v⟩ ?_
 refine AC.cd (b := false) (fun h_ => ?_) (fun h_ => ?_)
 cases h_
 clear h_
 refine AC.skip ?_
 refine AC.seq ?_
 refine AC.q ⟨[sp 2, sp 4, sp 5, (7, I 0), (67, B false)], y49_9 a v⟩ ?_
 refine AC.cd (b := false) (fun h_ => ?_) (fun h_ => ?_)
 cases h_
 clear h_
 refine AC.skip ?_
 refine AC.seq ?_
 refine AC.q ⟨[sp 2, sp 4, sp 5, (73, B false)], y49_9 a v⟩ ?_
 refine AC.cd (b := false) (fun h_ => ?_) (fun h_ => ?_)
 cases h_
 clear h_
 refine AC.skip ?_
 refine AC.q ⟨[sp 4], [(4, .var ([.d (dI (satAdd a.Count 1)), .d (dI (satAdd a.Sum v)), .d (dI (bif (a.Count == 0) || (decide (v < a.Min)) then v else a.Min)), .d (dI (bif (a.Count == 0) || (decide (v > a.Max)) then v else a.Max)), .d (dI a.Hist.h0), .d (dI a.Hist.h1), .d (dI a.Hist.h2), .d (dI (satAdd a.Hist.h3 1)), .d (dI (satAdd a.Re 1)), .d (dI a.Im)]))]⟩ ?_
 refine AC.ret ?_
 exact rqr (uadd15 a v) (All2.cons (ULe.eq (congrArg (fun x => U.agg ((eAgg x).map .d)) (show ((⟨satAdd a.Count 1, satAdd a.Sum v, (bif (a.Count == 0) || (decide (v < a.Min)) then v else a.Min), (bif (a.Count == 0) || (decide (v > a.Max)) then v else a.Max), (⟨a.Hist.h0, a.Hist.h1, a.Hist.h2, satAdd a.Hist.h3 1⟩ : H4), satAdd a.Re 1, a.Im⟩ : Agg)) = (aggAdd a v) by simp only [aggAdd, hsort, hquart, hget, hset, quartRe, quartIm, satAdd_zero r9, satAdd_zero r10]; congr 1 <;> first | rfl | omega | (by_cases hc_ : a.Count = 0 <;> by_cases hm_ : v < a.Min <;> by_cases hx_ : v > a.Max <;> simp [Bool.cond_eq_ite, Int.min_def, Int.max_def, hc_, hm_, hx_] <;> (try split) <;> omega)))) All2.nil)
 cases h_
 refine AC.le (st' := ⟨[sp 2, sp 4, sp 5, (7, I 1)], y49_8 a v⟩) (Le.of (lk rfl (lk rfl (lk rfl (LeS.cons rfl (TLe.i (by first | omega | (simp only [hquart]; done) | (rw [hquart]) | (simp only [hquart]; rfl))) LeS.nil)))) (ek rfl (ek rfl (ek rfl LeE.nil))) (by kernel_rfl)) ?_
 refine AC.q ⟨[sp 2, sp 4, sp 5, (7, I 1), (55, B false)], y49_8 a v⟩ ?_
 refine AC.cd (b := false) (fun h_ => ?_) (fun h_ => ?_)
 cases h_
 clear h_
 refine AC.skip ?_
 refine AC.seq ?_
 refine AC.q ⟨[sp 2, sp 4, sp 5, (7, I 1), (61, B true)], y49_8 a v⟩ ?_
 refine AC.cd (b := true) (fun h_ => ?_) (fun h_ => ?_)
 clear h_
 refine AC.rR [0, 1, 2, 3, 4] ?_
 refine AOps.m [0, 1] ⟨[sp 2, sp 4, sp 5, (7, I 1), (63, I a.Im)], y49_8 a v⟩ ?_
 refine AOps.ca (ok_plus15 a.Im 1 ?_ ?_) ?_
 iterate 2 (· first | assumption | omega)
 rintro _ rfl
 refine AOps.e ⟨[sp 2, sp 4, sp 5, (7, I 1)], [(z49_0 a), (z49_1), (z49_16 a v)]⟩ ?_
 refine AC.seq ?_
 refine AC.q ⟨[sp 2, sp 4, sp 5, (7, I 1), (67, B false)], [(z49_0 a), (z49_1), (z49_16 a v)]⟩ ?_
 refine AC.cd (b := false) (fun h_ => ?_) (fun h_ => ?_)
 cases h_
 clear h_
 refine AC.skip ?_
 refine AC.seq ?_
 refine AC.q ⟨[sp 2, sp 4, sp 5, (73, B false)], [(z49_0 a), (z49_1), (z49_16 a v)]⟩ ?_
 refine AC.cd (b := false) (fun h_ => ?_) (fun h_ => ?_)
 cases h_
 clear h_
 refine AC.skip ?_
 refine AC.q ⟨[sp 4], [(4, .var ([.d (dI (satAdd a.Count 1)), .d (dI (satAdd a.Sum v)), .d (dI (bif (a.Count == 0) || (decide (v < a.Min)) then v else a.Min)), .d (dI (bif (a.Count == 0) || (decide (v > a.Max)) then v else a.Max)), .d (dI a.Hist.h0), .d (dI a.Hist.h1), .d (dI a.Hist.h2), .d (dI (satAdd a.Hist.h3 1)), .d (dI a.Re), .d (dI (satAdd a.Im 1))]))]⟩ ?_
 refine AC.ret ?_
 exact rqr (uadd15 a v) (All2.cons (ULe.eq (congrArg (fun x => U.agg ((eAgg x).map .d)) (show ((⟨satAdd a.Count 1, satAdd a.Sum v, (bif (a.Count == 0) || (decide (v < a.Min)) then v else a.Min), (bif (a.Count == 0) || (decide (v > a.Max)) then v else a.Max), (⟨a.Hist.h0, a.Hist.h1, a.Hist.h2, satAdd a.Hist.h3 1⟩ : H4), a.Re, satAdd a.Im 1⟩ : Agg)) = (aggAdd a v) by simp only [aggAdd, hsort, hquart, hget, hset, quartRe, quartIm, satAdd_zero r9, satAdd_zero r10]; congr 1 <;> first | rfl | omega | (by_cases hc_ : a.Count = 0 <;> by_cases hm_ : v < a.Min <;> by_cases hx_ : v > a.Max <;> simp [Bool.cond_eq_ite, Int.min_def, Int.max_def, hc_, hm_, hx_] <;> (try split) <;> omega)))) All2.nil)
 cases h_
 refine AC.le (st' := ⟨[sp 2, sp 4, sp 5, (7, I 2)], y49_8 a v⟩) (Le.of (lk rfl (lk rfl (lk rfl (LeS.cons rfl (TLe.i (by first | omega | (simp only [hquart]; done) | (rw [hquart]) | (simp only [hquart]; rfl))) LeS.nil)))) (ek rfl (ek rfl (ek rfl LeE.nil))) (by kernel_rfl)) ?_
 refine AC.q ⟨[sp 2, sp 4, sp 5, (7, I 2), (55, B false)], y49_8 a v⟩ ?_
 refine AC.cd (b := false) (fun h_ => ?_) (fun h_ => ?_)
 cases h_
 clear h_
 refine AC.skip ?_
 refine AC.seq ?_
 refine AC.q ⟨[sp 2, sp 4, sp 5, (7, I 2), (61, B false)], y49_8 a v⟩ ?_
 refine AC.cd (b := false) (fun h_ => ?_) (fun h_ => ?_)
 cases h_
 clear h_
 refine AC.skip ?_
 refine AC.seq ?_
 refine AC.q ⟨[sp 2, sp 4, sp 5, (7, I 2), (67, B true)], y49_8 a v⟩ ?_
 refine AC.cd (b := true) (fun h_ => ?_) (fun h_ => ?_)
 clear h_
 refine AC.rR [0, 1, 2, 3, 4] ?_
 refine AOps.m [0, 1] ⟨[sp 2, sp 4, sp 5, (7, I 2), (69, I a.Re)], y49_8 a v⟩ ?_
 refine AOps.ca (ok_plus15 a.Re (-1) ?_ ?_) ?_
 iterate 2 (· first | assumption | omega)
 rintro _ rfl
 refine AOps.e ⟨[sp 2, sp 4, sp 5, (7, I 2)], [(z49_0 a), (z49_1), (z49_17 a v)]⟩ ?_
 refine AC.seq ?_
 refine AC.q ⟨[sp 2, sp 4, sp 5, (73, B false)], [(z49_0 a), (z49_1), (z49_17 a v)]⟩ ?_
 refine AC.cd (b := false) (fun h_ => ?_) (fun h_ => ?_)
 cases h_
 clear h_
 refine AC.skip ?_
 refine AC.q ⟨[sp 4], [(4, .var ([.d (dI (satAdd a.Count 1)), .d (dI (satAdd a.Sum v)), .d (dI (bif (a.Count == 0) || (decide (v < a.Min)) then v else a.Min)), .d (dI (bif (a.Count == 0) || (decide (v > a.Max)) then v else a.Max)), .d (dI a.Hist.h0), .d (dI a.Hist.h1), .d (dI a.Hist.h2), .d (dI (satAdd a.Hist.h3 1)), .d (dI (satAdd a.Re (-1))), .d (dI a.Im)]))]⟩ ?_
 refine AC.ret ?_
 exact rqr (uadd15 a v) (All2.cons (ULe.eq (congrArg (fun x => U.agg ((eAgg x).map .d)) (show ((⟨satAdd a.Count 1, satAdd a.Sum v, (bif (a.Count == 0) || (decide (v < a.Min)) then v else a.Min), (bif (a.Count == 0) || (decide (v > a.Max)) then v else a.Max), (⟨a.Hist.h0, a.Hist.h1, a.Hist.h2, satAdd a.Hist.h3 1⟩ : H4), satAdd a.Re (-1), a.Im⟩ : Agg)) = (aggAdd a v) by simp only [aggAdd, hsort, hquart, hget, hset, quartRe, quartIm, satAdd_zero r9, satAdd_zero r10]; congr 1 <;> first | rfl | omega | (by_cases hc_ : a.Count = 0 <;> by_cases hm_ : v < a.Min <;> by_cases hx_ : v > a.Max <;> simp [Bool.cond_eq_ite, Int.min_def, Int.max_def, hc_, hm_, hx_] <;> (try split) <;> omega)))) All2.nil)
 cases h_
 refine AC.le (st' := ⟨[sp 2, sp 4, sp 5, (7, I 3)], y49_8 a v⟩) (Le.of (lk rfl (lk rfl (lk rfl (LeS.cons rfl (TLe.i (by first | omega | (simp only [hquart]; done) | (rw [hquart]) | (simp only [hquart]; rfl))) LeS.nil)))) (ek rfl (ek rfl (ek rfl LeE.nil))) (by kernel_rfl)) ?_
 refine AC.q ⟨[sp 2, sp 4, sp 5, (7, I 3), (55, B false)], y49_8 a v⟩ ?_
 refine AC.cd (b := false) (fun h_ => ?_) (fun h_ => ?_)
 cases h_
 clear h_
 refine AC.skip ?_
 refine AC.seq ?_
 refine AC.q ⟨[sp 2, sp 4, sp 5, (7, I 3), (61, B false)], y49_8 a v⟩ ?_
 refine AC.cd (b := false) (fun h_ => ?_) (fun h_ => ?_)
 cases h_
 clear h_
 refine AC.skip ?_
 refine AC.seq ?_
 refine AC.q ⟨[sp 2, sp 4, sp 5, (7, I 3), (67, B false)], y49_8 a v⟩ ?_
 refine AC.cd (b := false) (fun h_ => ?_) (fun h_ => ?_)
 cases h_
 clear h_
 refine AC.skip ?_
 refine AC.seq ?_
 refine AC.q ⟨[sp 2, sp 4, sp 5, (73, B true)], y49_8 a v⟩ ?_
 refine AC.cd (b := true) (fun h_ => ?_) (fun h_ => ?_)
 clear h_
 refine AC.rR [0, 1, 2, 3, 4] ?_
 refine AOps.m [0, 1] ⟨[sp 4, sp 5, (75, I a.Im)], [(z49_1), (z49_15 a v)]⟩ ?_
 refine AOps.ca (ok_plus15 a.Im (-1) ?_ ?_) ?_
 iterate 2 (· first | assumption | omega)
 rintro _ rfl
 refine AOps.e ⟨[sp 4, sp 5], [(z49_1), (5, .var ([.d (dI (satAdd a.Count 1)), .d (dI (satAdd a.Sum v)), .d (dI (bif (a.Count == 0) || (decide (v < a.Min)) then v else a.Min)), .d (dI (bif (a.Count == 0) || (decide (v > a.Max)) then v else a.Max)), .d (dI a.Hist.h0), .d (dI a.Hist.h1), .d (dI a.Hist.h2), .d (dI (satAdd a.Hist.h3 1)), .d (dI a.Re), .d (dI (satAdd a.Im (-1)))]))]⟩ ?_
 refine AC.q ⟨[sp 4], [(4, .var ([.d (dI (satAdd a.Count 1)), .d (dI (satAdd a.Sum v)), .d (dI (bif (a.Count == 0) || (decide (v < a.Min)) then v else a.Min)), .d (dI (bif (a.Count == 0) || (decide (v > a.Max)) then v else a.Max)), .d (dI a.Hist.h0), .d (dI a.Hist.h1), .d (dI a.Hist.h2), .d (dI (satAdd a.Hist.h3 1)), .d (dI a.Re), .d (dI (satAdd a.Im (-1)))]))]⟩ ?_
 refine AC.ret ?_
 exact rqr (uadd15 a v) (All2.cons (ULe.eq (congrArg (fun x => U.agg ((eAgg x).map .d)) (show ((⟨satAdd a.Count 1, satAdd a.Sum v, (bif (a.Count == 0) || (decide (v < a.Min)) then v else a.Min), (bif (a.Count == 0) || (decide (v > a.Max)) then v else a.Max), (⟨a.Hist.h0, a.Hist.h1, a.Hist.h2, satAdd a.Hist.h3 1⟩ : H4), a.Re, satAdd a.Im (-1)⟩ : Agg)) = (aggAdd a v) by simp only [aggAdd, hsort, hquart, hget, hset, quartRe, quartIm, satAdd_zero r9, satAdd_zero r10]; congr 1 <;> first | rfl | omega | (by_cases hc_ : a.Count = 0 <;> by_cases hm_ : v < a.Min <;> by_cases hx_ : v > a.Max <;> simp [Bool.cond_eq_ite, Int.min_def, Int.max_def, hc_, hm_, hx_] <;> (try split) <;> omega)))) All2.nil)
 cases h_
end Go.Proofs.Ytfpmgnkbklnkaaa.Eng
end
section
set_option linter.unusedSimpArgs false
set_option linter.unusedVariables false
set_option maxRecDepth 100000
set_option maxHeartbeats 4000000
namespace Go.Proofs.Ytfpmgnkbklnkaaa.Eng
open Go Go.Proofs
abbrev umay15 (a : Agg) : List U := [.c (.d (dB (aggMay a)))]
abbrev y66_0 (a : Agg) : List (Nat × Blk) := [(1, .var ((eAgg a).map .d))]
/-- headgate/headgateref15.May. -/
theorem ok_may15 (a : Agg) :
 FnOk Try.prog 66 [.agg ((eAgg a).map .d)] (fun r_ => r_ = B (aggMay a)) := by
 refine FnOk.go Try.func66 rfl 86 ?_
 intro w0 m0
 show AC _ _ ⟨[(0, tA ((eAgg a).map .d))], []⟩ _
 refine AC.q ⟨[sp 1], y66_0 a⟩ ?_
 refine AC.seq ?_
 refine AC.rS [0, 1, 2, 3, 4, 5, 6, 7, 8, 9, 10, 11, 12, 13, 14] ?_
 refine AOps.m [0, 1, 2, 3] ⟨[sp 1, (10, B (decide (a.Count < 1)))], y66_0 a⟩ ?_
 refine AOps.s [4, 5, 6] 7 10 13 14 false (decide (a.Count < 1)) (decide (a.Count > 1099511627776)) [1] (fun h_ => ?_) ?_
 clear h_
 refine AOps.m [4, 5, 6] ⟨[sp 1, (10, B false), (13, B (decide (a.Count > 1099511627776)))], y66_0 a⟩ ?_
 exact scd
 refine AOps.m [8] ⟨[sp 1, (15, B ((decide (a.Count < 1)) || (decide (a.Count > 1099511627776))))], y66_0 a⟩ ?_
 refine AOps.s [9, 10, 11, 12, 13] 14 15 20 21 false ((decide (a.Count < 1)) || (decide (a.Count > 1099511627776))) (decide (a.Min > a.Max)) [1] (fun h_ => ?_) ?_
 clear h_
 refine AOps.m [9, 10, 11, 12, 13] ⟨[sp 1, (15, B false), (20, B (decide (a.Min > a.Max)))], y66_0 a⟩ ?_
 exact scd
 refine AOps.done ?_
 refine AC.cd (b := ((decide (a.Count < 1)) || (decide (a.Count > 1099511627776))) || (decide (a.Min > a.Max))) (fun h_ => ?_) (fun h_ => ?_)
 have h1 := h_; have r1 := h_; clear h_; try simp only [bb] at h1
 refine AC.q ⟨[(2, B false)], []⟩ ?_
 refine AC.ret ?_
 exact rqr (umay15 a) (All2.cons (ULe.c (CLe.d (DLe.eq (congrArg dB (show (false) = (aggMay a) by first | omega | (symm; simp only [aggMay, decide_eq_false_iff_not]; omega) | (rw [Bool.eq_iff_iff]; simp only [aggMay, decide_eq_true_eq]; omega)))))) All2.nil)
 have h1 := h_; have r1 := h_; clear h_; try simp only [bb] at h1
 refine AC.skip ?_
 refine AC.q ⟨[sp 1, (3, I 0)], y66_0 a⟩ ?_
 refine AC.seq ?_
 refine AC.q ⟨[sp 1, (3, I 0), (4, I 0)], y66_0 a⟩ ?_
 refine AC.block ?_
 refine AC.loop (ι := Nat × Int) (fun x_ => match x_ with | (k, n) => ⟨[sp 1, (3, I n), (4, I (k : Int))], y66_0 a⟩) (fun x_ => match x_ with | (k, n) => ((k = 0 ∧ n = 0) ∨ (k = 1 ∧ n = a.Hist.h0 ∧ 0 ≤ a.Hist.h0 ∧ a.Hist.h0 ≤ 1099511627776) ∨ (k = 2 ∧ n = a.Hist.h0 + a.Hist.h1 ∧ 0 ≤ a.Hist.h0 ∧ a.Hist.h0 ≤ 1099511627776 ∧ 0 ≤ a.Hist.h1 ∧ a.Hist.h1 ≤ 1099511627776) ∨ (k = 3 ∧ n = a.Hist.h0 + a.Hist.h1 + a.Hist.h2 ∧ 0 ≤ a.Hist.h0 ∧ a.Hist.h0 ≤ 1099511627776 ∧ 0 ≤ a.Hist.h1 ∧ a.Hist.h1 ≤ 1099511627776 ∧ 0 ≤ a.Hist.h2 ∧ a.Hist.h2 ≤ 1099511627776) ∨ (k = 4 ∧ n = a.Hist.h0 + a.Hist.h1 + a.Hist.h2 + a.Hist.h3 ∧ 0 ≤ a.Hist.h0 ∧ a.Hist.h0 ≤ 1099511627776 ∧ 0 ≤ a.Hist.h1 ∧ a.Hist.h1 ≤ 1099511627776 ∧ 0 ≤ a.Hist.h2 ∧ a.Hist.h2 ≤ 1099511627776 ∧ 0 ≤ a.Hist.h3 ∧ a.Hist.h3 ≤ 1099511627776))) (fun x_ => match x_ with | (k, n) => 4 - k) (0, 0) (by omega) (Le.of (lk rfl (lk rfl (LeS.cons rfl (TLe.i (by rfl)) LeS.nil))) (ek rfl LeE.nil) (by kernel_rfl)) ?_
 intro x_ hi_
 obtain ⟨k, n⟩ := x_
 have i1 : (k = 0 ∧ n = 0) ∨ (k = 1 ∧ n = a.Hist.h0 ∧ 0 ≤ a.Hist.h0 ∧ a.Hist.h0 ≤ 1099511627776) ∨ (k = 2 ∧ n = a.Hist.h0 + a.Hist.h1 ∧ 0 ≤ a.Hist.h0 ∧ a.Hist.h0 ≤ 1099511627776 ∧ 0 ≤ a.Hist.h1 ∧ a.Hist.h1 ≤ 1099511627776) ∨ (k = 3 ∧ n = a.Hist.h0 + a.Hist.h1 + a.Hist.h2 ∧ 0 ≤ a.Hist.h0 ∧ a.Hist.h0 ≤ 1099511627776 ∧ 0 ≤ a.Hist.h1 ∧ a.Hist.h1 ≤ 1099511627776 ∧ 0 ≤ a.Hist.h2 ∧ a.Hist.h2 ≤ 1099511627776) ∨ (k = 4 ∧ n = a.Hist.h0 + a.Hist.h1 + a.Hist.h2 + a.Hist.h3 ∧ 0 ≤ a.Hist.h0 ∧ a.Hist.h0 ≤ 1099511627776 ∧ 0 ≤ a.Hist.h1 ∧ a.Hist.h1 ≤ 1099511627776 ∧ 0 ≤ a.Hist.h2 ∧ a.Hist.h2 ≤ 1099511627776 ∧ 0 ≤ a.Hist.h3 ∧ a.Hist.h3 ≤ 1099511627776) := hi_; clear hi_
 show AC _ _ ⟨[sp 1, (3, I n), (4, I (k : Int))], y66_0 a⟩ _
 refine AC.seq ?_
 refine AC.q ⟨[sp 1, (3, I n), (4, I (k : Int)), (23, B (decide ((k : Int) < 4)))], y66_0 a⟩ ?_
 refine AC.cd (b := decide ((k : Int) < 4)) (fun h_ => ?_) (fun h_ => ?_)
 have h2 := h_; have r2 := h_; clear h_; try simp only [bb] at h2
 refine AC.skip ?_
 refine AC.seq ?_
 refine AC.block ?_
 refine AC.seq ?_
 have hk_ : k = 0 ∨ k = 1 ∨ k = 2 ∨ k = 3 := by omega
 rcases hk_ with hk7_0 | hk7_1 | hk7_2 | hk7_3
 refine AC.le (st' := ⟨[sp 1, (3, I n), (4, I 0)], y66_0 a⟩) (Le.of (lk rfl (lk rfl (LeS.cons rfl (TLe.i (by first | omega | (simp only [hk7_0]; done) | (rw [hk7_0]) | (simp only [hk7_0]; rfl))) LeS.nil))) (ek rfl LeE.nil) (by kernel_rfl)) ?_
 refine AC.rS [0, 1, 2, 3, 4, 5, 6, 7, 8, 9, 10, 11] ?_
 refine AOps.mc [0, 1, 2, 3, 4, 5] (C' := (0 ≤ (0 : Int) ∧ (0 : Int) < ((4 : Nat) : Int)) ∧ True) ⟨[sp 1, (3, I n), (4, I 0), (31, B (decide (a.Hist.h0 < 0)))], y66_0 a⟩ (⟨by omega, trivial⟩) ?_
 refine AOps.s [6, 7, 8, 9, 10] 11 31 36 37 false (decide (a.Hist.h0 < 0)) (decide (a.Hist.h0 > 1099511627776)) [1, 3, 4] (fun h_ => ?_) ?_
 have h3 := h_; have r3 := h_; clear h_; try simp only [bb] at h3
 refine AOps.mc [6, 7, 8, 9, 10] (C' := (0 ≤ (0 : Int) ∧ (0 : Int) < ((4 : Nat) : Int)) ∧ True) ⟨[sp 1, (3, I n), (4, I 0), (31, B false), (36, B (decide (a.Hist.h0 > 1099511627776)))], y66_0 a⟩ (⟨by omega, trivial⟩) ?_
 exact scd
 refine AOps.done ?_
 refine AC.cd (b := (decide (a.Hist.h0 < 0)) || (decide (a.Hist.h0 > 1099511627776))) (fun h_ => ?_) (fun h_ => ?_)
 have h4 := h_; have r4 := h_; clear h_; try simp only [bb] at h4
 refine AC.q ⟨[(2, B false)], []⟩ ?_
 refine AC.ret ?_
 exact rqr (umay15 a) (All2.cons (ULe.c (CLe.d (DLe.eq (congrArg dB (show (false) = (aggMay a) by first | omega | (symm; simp only [aggMay, decide_eq_false_iff_not]; omega) | (rw [Bool.eq_iff_iff]; simp only [aggMay, decide_eq_true_eq]; omega)))))) All2.nil)
 have h4 := h_; have r4 := h_; clear h_; try simp only [bb] at h4
 refine AC.skip ?_
 refine AC.rR [0, 1, 2, 3, 4, 5, 6] ?_
 refine AOps.mc [0, 1, 2, 3, 4, 5, 6] (C' := (0 ≤ (0 : Int) ∧ (0 : Int) < ((4 : Nat) : Int)) ∧ True) ⟨[sp 1, (3, I (IntKind.i64.wrap (n + a.Hist.h0))), (4, I 0)], y66_0 a⟩ (⟨by omega, trivial⟩) ?_
 refine AOps.le (st' := ⟨[sp 1, (3, I (n + a.Hist.h0)), (4, I 0)], y66_0 a⟩) (Le.of (lk rfl (LeS.cons rfl (TLe.i (by rw [wrap_in (n := (n + a.Hist.h0)) (by omega) (by omega)] <;> omega)) (lk rfl LeS.nil))) (ek rfl LeE.nil) (by kernel_rfl)) ?_
 refine AOps.done ?_
 refine AC.rR [0, 1, 2] ?_
 refine AOps.m [0, 1, 2] ⟨[sp 1, (3, I (n + a.Hist.h0)), (4, I (IntKind.i64.wrap ((0 : Int) + 1)))], y66_0 a⟩ ?_
 refine AOps.le (st' := ⟨[sp 1, (3, I (n + a.Hist.h0)), (4, I ((0 + 1 : Nat) : Int))], y66_0 a⟩) (Le.of (lk rfl (lk rfl (LeS.cons rfl (TLe.i (by rw [wrap_in (n := ((0 : Int) + 1)) (by omega) (by omega)] <;> omega)) LeS.nil))) (ek rfl LeE.nil) (by kernel_rfl)) ?_
 refine AOps.done ?_
 try refine blockA_n ?_
 exact roundA_n (k + 1, (n + a.Hist.h0)) (by omega) (by show 4 - (k + 1) < 4 - k; omega) (Le.of (lk rfl (lk rfl (LeS.cons rfl (TLe.i (by omega)) LeS.nil))) (ek rfl LeE.nil) (by kernel_rfl))
 refine AC.le (st' := ⟨[sp 1, (3, I n), (4, I 1)], y66_0 a⟩) (Le.of (lk rfl (lk rfl (LeS.cons rfl (TLe.i (by first | omega | (simp only [hk7_1]; done) | (rw [hk7_1]) | (simp only [hk7_1]; rfl))) LeS.nil))) (ek rfl LeE.nil) (by kernel_rfl)) ?_
 refine AC.rS [0, 1, 2, 3, 4, 5, 6, 7, 8, 9, 10, 11] ?_
 refine AOps.mc [0, 1, 2, 3, 4, 5] (C' := (0 ≤ (1 : Int) ∧ (1 : Int) < ((4 : Nat) : Int)) ∧ True) ⟨[sp 1, (3, I n), (4, I 1), (31, B (decide (a.Hist.h1 < 0)))], y66_0 a⟩ (⟨by omega, trivial⟩) ?_
 refine AOps.s [6, 7, 8, 9, 10] 11 31 36 37 false (decide (a.Hist.h1 < 0)) (decide (a.Hist.h1 > 1099511627776)) [1, 3, 4] (fun h_ => ?_) ?_
 have h3 := h_; have r3 := h_; clear h_; try simp only [bb] at h3
 refine AOps.mc [6, 7, 8, 9, 10] (C' := (0 ≤ (1 : Int) ∧ (1 : Int) < ((4 : Nat) : Int)) ∧ True) ⟨[sp 1, (3, I n), (4, I 1), (31, B false), (36, B (decide (a.Hist.h1 > 1099511627776)))], y66_0 a⟩ (⟨by omega, trivial⟩) ?_
 exact scd
 refine AOps.done ?_
 refine AC.cd (b := (decide (a.Hist.h1 < 0)) || (decide (a.Hist.h1 > 1099511627776))) (fun h_ => ?_) (fun h_ => ?_)
 have h4 := h_; have r4 := h_; clear h_; try simp only [bb] at h4
 refine AC.q ⟨[(2, B false)], []⟩ ?_
 refine AC.ret ?_
 exact rqr (umay15 a) (All2.cons (ULe.c (CLe.d (DLe.eq (congrArg dB (show (false) = (aggMay a) by first | omega | (symm; simp only [aggMay, decide_eq_false_iff_not]; omega) | (rw [Bool.eq_iff_iff]; simp only [aggMay, decide_eq_true_eq]; omega)))))) All2.nil)
 have h4 := h_; have r4 := h_; clear h_; try simp only [bb] at h4
 refine AC.skip ?_
 refine AC.rR [0, 1, 2, 3, 4, 5, 6] ?_
 refine AOps.mc [0, 1, 2, 3, 4, 5, 6] (C' := (0 ≤ (1 : Int) ∧ (1 : Int) < ((4 : Nat) : Int)) ∧ True) ⟨[sp 1, (3, I (IntKind.i64.wrap (n + a.Hist.h1))), (4, I 1)], y66_0 a⟩ (⟨by omega, trivial⟩) ?_
 refine AOps.le (st' := ⟨[sp 1, (3, I (n + a.Hist.h1)), (4, I 1)], y66_0 a⟩) (Le.of (lk rfl (LeS.cons rfl (TLe.i (by rw [wrap_in (n := (n + a.Hist.h1)) (by omega) (by omega)] <;> omega)) (lk rfl LeS.nil))) (ek rfl LeE.nil) (by kernel_rfl)) ?_
 refine AOps.done ?_
 refine AC.rR [0, 1, 2] ?_
 refine AOps.m [0, 1, 2] ⟨[sp 1, (3, I (n + a.Hist.h1)), (4, I (IntKind.i64.wrap ((1 : Int) + 1)))], y66_0 a⟩ ?_
 refine AOps.le (st' := ⟨[sp 1, (3, I (n + a.Hist.h1)), (4, I ((1 + 1 : Nat) : Int))], y66_0 a⟩) (Le.of (lk rfl (lk rfl (LeS.cons rfl (TLe.i (by rw [wrap_in (n := ((1 : Int) + 1)) (by omega) (by omega)] <;> omega)) LeS.nil))) (ek rfl LeE.nil) (by kernel_rfl)) ?_
 refine AOps.done ?_
 try refine blockA_n ?_
 exact roundA_n (k + 1, (n + a.Hist.h1)) (by omega) (by show 4 - (k + 1) < 4 - k; omega) (Le.of (lk rfl (lk rfl (LeS.cons rfl (TLe.i (by omega)) LeS.nil))) (ek rfl LeE.nil) (by kernel_rfl))
 refine AC.le (st' := ⟨[sp 1, (3, I n), (4, I 2)], y66_0 a⟩) (Le.of (lk rfl (lk rfl (LeS.cons rfl (TLe.i (by first | omega | (simp only [hk7_2]; done) | (rw [hk7_2]) | (simp only [hk7_2]; rfl))) LeS.nil))) (ek rfl LeE.nil) (by kernel_rfl)) ?_
 refine AC.rS [0, 1, 2, 3, 4, 5, 6, 7, 8, 9, 10, 11] ?_
 refine AOps.mc [0, 1, 2, 3, 4, 5] (C' := (0 ≤ (2 : Int) ∧ (2 : Int) < ((4 : Nat) : Int)) ∧ True) ⟨[sp 1, (3, I n), (4, I 2), (31, B (decide (a.Hist.h2 < 0)))], y66_0 a⟩ (⟨by omega, trivial⟩) ?_
 refine AOps.s [6, 7, 8, 9, 10] 11 31 36 37 false (decide (a.Hist.h2 < 0)) (decide (a.Hist.h2 > 1099511627776)) [1, 3, 4] (fun h_ => ?_) ?_
 have h3 := h_; have r3 := h_; clear h_; try simp only [bb] at h3
 refine AOps.mc [6, 7, 8, 9, 10] (C' := (0 ≤ (2 : Int) ∧ (2 : Int) < ((4 : Nat) : Int)) ∧ True) ⟨[sp 1, (3, I n), (4, I 2), (31, B false), (36, B (decide (a.Hist.h2 > 1099511627776)))], y66_0 a⟩ (⟨by omega, trivial⟩) ?_
 exact scd
 refine AOps.done ?_
 refine AC.cd (b := (decide (a.Hist.h2 < 0)) || (decide (a.Hist.h2 > 1099511627776))) (fun h_ => ?_) (fun h_ => ?_)
 have h4 := h_; have r4 := h_; clear h_; try simp only [bb] at h4
 refine AC.q ⟨[(2, B false)], []⟩ ?_
 refine AC.ret ?_
 exact rqr (umay15 a) (All2.cons (ULe.c (CLe.d (DLe.eq (congrArg dB (show (false) = (aggMay a) by first | omega | (symm; simp only [aggMay, decide_eq_false_iff_not]; omega) | (rw [Bool.eq_iff_iff]; simp only [aggMay, decide_eq_true_eq]; omega)))))) All2.nil)
 have h4 := h_; have r4 := h_; clear h_; try simp only [bb] at h4
 refine AC.skip ?_
 refine AC.rR [0, 1, 2, 3, 4, 5, 6] ?_
 refine AOps.mc [0, 1, 2, 3, 4, 5, 6] (C' := (0 ≤ (2 : Int) ∧ (2 : Int) < ((4 : Nat) : Int)) ∧ True) ⟨[sp 1, (3, I (IntKind.i64.wrap (n + a.Hist.h2))), (4, I 2)], y66_0 a⟩ (⟨by omega, trivial⟩) ?_
 refine AOps.le (st' := ⟨[sp 1, (3, I (n + a.Hist.h2)), (4, I 2)], y66_0 a⟩) (Le.of (lk rfl (LeS.cons rfl (TLe.i (by rw [wrap_in (n := (n + a.Hist.h2)) (by omega) (by omega)] <;> omega)) (lk rfl LeS.nil))) (ek rfl LeE.nil) (by kernel_rfl)) ?_
 refine AOps.done ?_
 refine AC.rR [0, 1, 2] ?_
 refine AOps.m [0, 1, 2] ⟨[sp 1, (3, I (n + a.Hist.h2)), (4, I (IntKind.i64.wrap ((2 : Int) + 1)))], y66_0 a⟩ ?_
 refine AOps.le (st' := ⟨[sp 1, (3, I (n + a.Hist.h2)), (4, I ((2 + 1 : Nat) : Int))], y66_0 a⟩) (Le.of (lk rfl (lk rfl (LeS.cons rfl (TLe.i (by rw [wrap_in (n := ((2 : Int) + 1)) (by omega) (by omega)] <;> omega)) LeS.nil))) (ek rfl LeE.nil) (by kernel_rfl)) ?_
 refine AOps.done ?_
 try refine blockA_n ?_
 exact roundA_n (k + 1, (n + a.Hist.h2)) (by omega) (by show 4 - (k + 1) < 4 - k; omega) (Le.of (lk rfl (lk rfl (LeS.cons rfl (TLe.i (by omega)) LeS.nil))) (ek rfl LeE.nil) (by kernel_rfl))
 refine AC.le (st' := ⟨[sp 1, (3, I n), (4, I 3)], y66_0 a⟩) (Le.of (lk rfl (lk rfl (LeS.cons rfl (TLe.i (by first | omega | (simp only [hk7_3]; done) | (rw [hk7_3]) | (simp only [hk7_3]; rfl))) LeS.nil))) (ek rfl LeE.nil) (by kernel_rfl)) ?_
 refine AC.rS [0, 1, 2, 3, 4, 5, 6, 7, 8, 9, 10, 11] ?_
 refine AOps.mc [0, 1, 2, 3, 4, 5] (C' := (0 ≤ (3 : Int) ∧ (3 : Int) < ((4 : Nat) : Int)) ∧ True) ⟨[sp 1, (3, I n), (4, I 3), (31, B (decide (a.Hist.h3 < 0)))], y66_0 a⟩ (⟨by omega, trivial⟩) ?_
 refine AOps.s [6, 7, 8, 9, 10] 11 31 36 37 false (decide (a.Hist.h3 < 0)) (decide (a.Hist.h3 > 1099511627776)) [1, 3, 4] (fun h_ => ?_) ?_
 have h3 := h_; have r3 := h_; clear h_; try simp only [bb] at h3
 refine AOps.mc [6, 7, 8, 9, 10] (C' := (0 ≤ (3 : Int) ∧ (3 : Int) < ((4 : Nat) : Int)) ∧ True) ⟨[sp 1, (3, I n), (4, I 3), (31, B false), (36, B (decide (a.Hist.h3 > 1099511627776)))], y66_0 a⟩ (⟨by omega, trivial⟩) ?_
 exact scd
 refine AOps.done ?_
 refine AC.cd (b := (decide (a.Hist.h3 < 0)) || (decide (a.Hist.h3 > 1099511627776))) (fun h_ => ?_) (fun h_ => ?_)
 have h4 := h_; have r4 := h_; clear h_; try simp only [bb] at h4
 refine AC.q ⟨[(2, B false)], []⟩ ?_
 refine AC.ret ?_
 exact rqr (umay15 a) (All2.cons (ULe.c (CLe.d (DLe.eq (congrArg dB (show (false) = (aggMay a) by first | omega | (symm; simp only [aggMay, decide_eq_false_iff_not]; omega) | (rw [Bool.eq_iff_iff]; simp only [aggMay, decide_eq_true_eq]; omega)))))) All2.nil)
 have h4 := h_; have r4 := h_; clear h_; try simp only [bb] at h4
 refine AC.skip ?_
 refine AC.rR [0, 1, 2, 3, 4, 5, 6] ?_
 refine AOps.mc [0, 1, 2, 3, 4, 5, 6] (C' := (0 ≤ (3 : Int) ∧ (3 : Int) < ((4 : Nat) : Int)) ∧ True) ⟨[sp 1, (3, I (IntKind.i64.wrap (n + a.Hist.h3))), (4, I 3)], y66_0 a⟩ (⟨by omega, trivial⟩) ?_
 refine AOps.le (st' := ⟨[sp 1, (3, I (n + a.Hist.h3)), (4, I 3)], y66_0 a⟩) (Le.of (lk rfl (LeS.cons rfl (TLe.i (by rw [wrap_in (n := (n + a.Hist.h3)) (by omega) (by omega)] <;> omega)) (lk rfl LeS.nil))) (ek rfl LeE.nil) (by kernel_rfl)) ?_
 refine AOps.done ?_
 refine AC.rR [0, 1, 2] ?_
 refine AOps.m [0, 1, 2] ⟨[sp 1, (3, I (n + a.Hist.h3)), (4, I (IntKind.i64.wrap ((3 : Int) + 1)))], y66_0 a⟩ ?_
 refine AOps.le (st' := ⟨[sp 1, (3, I (n + a.Hist.h3)), (4, I ((3 + 1 : Nat) : Int))], y66_0 a⟩) (Le.of (lk rfl (lk rfl (LeS.cons rfl (TLe.i (by rw [wrap_in (n := ((3 : Int) + 1)) (by omega) (by omega)] <;> omega)) LeS.nil))) (ek rfl LeE.nil) (by kernel_rfl)) ?_
 refine AOps.done ?_
 try refine blockA_n ?_
 exact roundA_n (k + 1, (n + a.Hist.h3)) (by omega) (by show 4 - (k + 1) < 4 - k; omega) (Le.of (lk rfl (lk rfl (LeS.cons rfl (TLe.i (by omega)) LeS.nil))) (ek rfl LeE.nil) (by kernel_rfl))
 have h2 := h_; have r2 := h_; clear h_; try simp only [bb] at h2
 refine AC.exit ?_
 repeat (first | refine thenA_x ?_ | refine roundA_x ?_ | refine joinA_x ?_ | refine blockA_hit ?_ | refine blockA_miss (by decide) ?_)
 refine AC.seq ?_
 refine AC.rS [0, 1, 2, 3, 4, 5, 6, 7, 8, 9, 10, 11, 12, 13, 14, 15, 16, 17, 18, 19, 20, 21, 22, 23] ?_
 refine AOps.m [0, 1, 2, 3, 4] ⟨[sp 1, (48, B (n != a.Count))], y66_0 a⟩ ?_
 refine AOps.s [5, 6, 7] 8 48 51 52 false (n != a.Count) (decide (a.Re < (-1099511627776))) [1] (fun h_ => ?_) ?_
 clear h_
 refine AOps.m [5, 6, 7] ⟨[sp 1, (48, B false), (51, B (decide (a.Re < (-1099511627776))))], y66_0 a⟩ ?_
 exact scd
 refine AOps.m [9] ⟨[sp 1, (53, B ((n != a.Count) || (decide (a.Re < (-1099511627776)))))], y66_0 a⟩ ?_
 refine AOps.s [10, 11, 12] 13 53 56 57 false ((n != a.Count) || (decide (a.Re < (-1099511627776)))) (decide (a.Re > 1099511627776)) [1] (fun h_ => ?_) ?_
 clear h_
 refine AOps.m [10, 11, 12] ⟨[sp 1, (53, B false), (56, B (decide (a.Re > 1099511627776)))], y66_0 a⟩ ?_
 exact scd
 refine AOps.m [14] ⟨[sp 1, (58, B (((n != a.Count) || (decide (a.Re < (-1099511627776)))) || (decide (a.Re > 1099511627776))))], y66_0 a⟩ ?_
 refine AOps.s [15, 16, 17] 18 58 61 62 false (((n != a.Count) || (decide (a.Re < (-1099511627776)))) || (decide (a.Re > 1099511627776))) (decide (a.Im < (-1099511627776))) [1] (fun h_ => ?_) ?_
 clear h_
 refine AOps.m [15, 16, 17] ⟨[sp 1, (58, B false), (61, B (decide (a.Im < (-1099511627776))))], y66_0 a⟩ ?_
 exact scd
 refine AOps.m [19] ⟨[sp 1, (63, B ((((n != a.Count) || (decide (a.Re < (-1099511627776)))) || (decide (a.Re > 1099511627776))) || (decide (a.Im < (-1099511627776)))))], y66_0 a⟩ ?_
 refine AOps.s [20, 21, 22] 23 63 66 67 false ((((n != a.Count) || (decide (a.Re < (-1099511627776)))) || (decide (a.Re > 1099511627776))) || (decide (a.Im < (-1099511627776)))) (decide (a.Im > 1099511627776)) [1] (fun h_ => ?_) ?_
 clear h_
 refine AOps.m [20, 21, 22] ⟨[sp 1, (63, B false), (66, B (decide (a.Im > 1099511627776)))], y66_0 a⟩ ?_
 exact scd
 refine AOps.done ?_
 refine AC.cd (b := ((((n != a.Count) || (decide (a.Re < (-1099511627776)))) || (decide (a.Re > 1099511627776))) || (decide (a.Im < (-1099511627776)))) || (decide (a.Im > 1099511627776))) (fun h_ => ?_) (fun h_ => ?_)
 have h3 := h_; have r3 := h_; clear h_; try simp only [bb] at h3
 refine AC.q ⟨[(2, B false)], []⟩ ?_
 refine AC.ret ?_
 exact rqr (umay15 a) (All2.cons (ULe.c (CLe.d (DLe.eq (congrArg dB (show (false) = (aggMay a) by first | omega | (symm; simp only [aggMay, decide_eq_false_iff_not]; omega) | (rw [Bool.eq_iff_iff]; simp only [aggMay, decide_eq_true_eq]; omega)))))) All2.nil)
 have h3 := h_; have r3 := h_; clear h_; try simp only [bb] at h3
 refine AC.skip ?_
 refine AC.dS 5 [] ⟨[sp 1, (5, I a.Re), (68, tP 1 8), (69, I a.Re), (70, tP 1 9), (71, I a.Im)], y66_0 a⟩ [5] (.inl rfl) ?_ ?_
 · exact (ar 5 AllUpTo.zero)
 refine AOps.e ⟨[sp 1, (5, I a.Re), (6, I a.Im)], y66_0 a⟩ ?_
 refine AC.seq ?_
 refine AC.q ⟨[sp 1, (5, I a.Re), (6, I a.Im), (73, B (decide (a.Re < 0)))], y66_0 a⟩ ?_
 refine AC.cd (b := decide (a.Re < 0)) (fun h_ => ?_) (fun h_ => ?_)
 have h4 := h_; have r4 := h_; clear h_; try simp only [bb] at h4
 refine AC.rR [0, 1, 2] ?_
 refine AOps.m [0, 1, 2] ⟨[sp 1, (5, I (IntKind.i64.wrap (0 - a.Re))), (6, I a.Im)], y66_0 a⟩ ?_
 refine AOps.le (st' := ⟨[sp 1, (5, I (0 - a.Re)), (6, I a.Im)], y66_0 a⟩) (Le.of (lk rfl (LeS.cons rfl (TLe.i (by rw [wrap_in (n := (0 - a.Re)) (by omega) (by omega)] <;> omega)) (lk rfl LeS.nil))) (ek rfl LeE.nil) (by kernel_rfl)) ?_
 refine AOps.done ?_
 refine AC.seq ?_
 refine AC.q ⟨[sp 1, (5, I (0 - a.Re)), (6, I a.Im), (77, B (decide (a.Im < 0)))], y66_0 a⟩ ?_
 refine AC.cd (b := decide (a.Im < 0)) (fun h_ => ?_) (fun h_ => ?_)
 have h5 := h_; have r5 := h_; clear h_; try simp only [bb] at h5
 refine AC.rR [0, 1, 2] ?_
 refine AOps.m [0, 1, 2] ⟨[sp 1, (5, I (0 - a.Re)), (6, I (IntKind.i64.wrap (0 - a.Im)))], y66_0 a⟩ ?_
 refine AOps.le (st' := ⟨[sp 1, (5, I (0 - a.Re)), (6, I (0 - a.Im))], y66_0 a⟩) (Le.of (lk rfl (lk rfl (LeS.cons rfl (TLe.i (by rw [wrap_in (n := (0 - a.Im)) (by omega) (by omega)] <;> omega)) LeS.nil))) (ek rfl LeE.nil) (by kernel_rfl)) ?_
 refine AOps.done ?_
 refine AC.rS [0, 1, 2, 3, 4, 5, 6] ?_
 refine AOps.m [0, 1, 2, 3, 4, 5, 6] ⟨[(2, B (decide ((IntKind.i64.wrap ((0 - a.Re) + (0 - a.Im))) ≤ a.Count)))], []⟩ ?_
 refine AOps.le (st' := ⟨[(2, B (decide (((0 - a.Re) + (0 - a.Im)) ≤ a.Count)))], []⟩) (Le.of (LeS.cons rfl (TLe.b (by rw [wrap_in (n := ((0 - a.Re) + (0 - a.Im))) (by omega) (by omega)] <;> rfl)) LeS.nil) LeE.nil (by kernel_rfl)) ?_
 refine AOps.done ?_
 refine AC.ret ?_
 exact rqr (umay15 a) (All2.cons (ULe.c (CLe.d (DLe.eq (congrArg dB (show (decide (((0 - a.Re) + (0 - a.Im)) ≤ a.Count)) = (aggMay a) by first | omega | (symm; simp only [aggMay, decide_eq_false_iff_not]; omega) | (rw [Bool.eq_iff_iff]; simp only [aggMay, decide_eq_true_eq]; omega)))))) All2.nil)
 have h5 := h_; have r5 := h_; clear h_; try simp only [bb] at h5
 refine AC.skip ?_
 refine AC.rS [0, 1, 2, 3, 4, 5, 6] ?_
 refine AOps.m [0, 1, 2, 3, 4, 5, 6] ⟨[(2, B (decide ((IntKind.i64.wrap ((0 - a.Re) + a.Im)) ≤ a.Count)))], []⟩ ?_
 refine AOps.le (st' := ⟨[(2, B (decide (((0 - a.Re) + a.Im) ≤ a.Count)))], []⟩) (Le.of (LeS.cons rfl (TLe.b (by rw [wrap_in (n := ((0 - a.Re) + a.Im)) (by omega) (by omega)] <;> rfl)) LeS.nil) LeE.nil (by kernel_rfl)) ?_
 refine AOps.done ?_
 refine AC.ret ?_
 exact rqr (umay15 a) (All2.cons (ULe.c (CLe.d (DLe.eq (congrArg dB (show (decide (((0 - a.Re) + a.Im) ≤ a.Count)) = (aggMay a) by first | omega | (symm; simp only [aggMay, decide_eq_false_iff_not]; omega) | (rw [Bool.eq_iff_iff]; simp only [aggMay, decide_eq_true_eq]; omega)))))) All2.nil)
 have h4 := h_; have r4 := h_; clear h_; try simp only [bb] at h4
 refine AC.skip ?_
 refine AC.seq ?_
 refine AC.q ⟨[sp 1, (5, I a.Re), (6, I a.Im), (77, B (decide (a.Im < 0)))], y66_0 a⟩ ?_
 refine AC.cd (b := decide (a.Im < 0)) (fun h_ => ?_) (fun h_ => ?_)
 have h5 := h_; have r5 := h_; clear h_; try simp only [bb] at h5
 refine AC.rR [0, 1, 2] ?_
 refine AOps.m [0, 1, 2] ⟨[sp 1, (5, I a.Re), (6, I (IntKind.i64.wrap (0 - a.Im)))], y66_0 a⟩ ?_
 refine AOps.le (st' := ⟨[sp 1, (5, I a.Re), (6, I (0 - a.Im))], y66_0 a⟩) (Le.of (lk rfl (lk rfl (LeS.cons rfl (TLe.i (by rw [wrap_in (n := (0 - a.Im)) (by omega) (by omega)] <;> omega)) LeS.nil))) (ek rfl LeE.nil) (by kernel_rfl)) ?_
 refine AOps.done ?_
 refine AC.rS [0, 1, 2, 3, 4, 5, 6] ?_
 refine AOps.m [0, 1, 2, 3, 4, 5, 6] ⟨[(2, B (decide ((IntKind.i64.wrap (a.Re + (0 - a.Im))) ≤ a.Count)))], []⟩ ?_
 refine AOps.le (st' := ⟨[(2, B (decide ((a.Re + (0 - a.Im)) ≤ a.Count)))], []⟩) (Le.of (LeS.cons rfl (TLe.b (by rw [wrap_in (n := (a.Re + (0 - a.Im))) (by omega) (by omega)] <;> rfl)) LeS.nil) LeE.nil (by kernel_rfl)) ?_
 refine AOps.done ?_
 refine AC.ret ?_
 exact rqr (umay15 a) (All2.cons (ULe.c (CLe.d (DLe.eq (congrArg dB (show (decide ((a.Re + (0 - a.Im)) ≤ a.Count)) = (aggMay a) by first | omega | (symm; simp only [aggMay, decide_eq_false_iff_not]; omega) | (rw [Bool.eq_iff_iff]; simp only [aggMay, decide_eq_true_eq]; omega)))))) All2.nil)
 have h5 := h_; have r5 := h_; clear h_; try simp only [bb] at h5
 refine AC.skip ?_
 refine AC.rS [0, 1, 2, 3, 4, 5, 6] ?_
 refine AOps.m [0, 1, 2, 3, 4, 5, 6] ⟨[(2, B (decide ((IntKind.i64.wrap (a.Re + a.Im)) ≤ a.Count)))], []⟩ ?_
 refine AOps.le (st' := ⟨[(2, B (decide ((a.Re + a.Im) ≤ a.Count)))], []⟩) (Le.of (LeS.cons rfl (TLe.b (by rw [wrap_in (n := (a.Re + a.Im)) (by omega) (by omega)] <;> rfl)) LeS.nil) LeE.nil (by kernel_rfl)) ?_
 refine AOps.done ?_
 refine AC.ret ?_
 exact rqr (umay15 a) (All2.cons (ULe.c (CLe.d (DLe.eq (congrArg dB (show (decide ((a.Re + a.Im) ≤ a.Count)) = (aggMay a) by first | omega | (symm; simp only [aggMay, decide_eq_false_iff_not]; omega) | (rw [Bool.eq_iff_iff]; simp only [aggMay, decide_eq_true_eq]; omega)))))) All2.nil)
end Go.Proofs.Ytfpmgnkbklnkaaa.Eng
end
section
set_option linter.unusedSimpArgs false
set_option linter.unusedVariables false
set_option maxRecDepth 100000
set_option maxHeartbeats 4000000
namespace Go.Proofs.Ytfpmgnkbklnkaaa.Eng
open Go Go.Proofs
abbrev ufoldcheck (a : Agg) : List U := [.c (.d (dI (aggCheck a)))]
abbrev z46_0 (a : Agg) : Nat × T := (4, B (((decide (a.Count ≥ 1)) && (decide (a.Count ≤ 1099511627776))) && (decide (a.Min ≤ a.Max))))
abbrev z46_1 (a : Agg) : Nat × T := (29, tA ((eH4 a.Hist).map .d))
abbrev z46_2 (a : Agg) (left : Int) (ok : Bool) : Nat × T := (4, B ((ok && (decide (a.Hist.h0 ≥ 0))) && (decide (a.Hist.h0 ≤ left))))
abbrev z46_3 (a : Agg) (left : Int) (ok : Bool) : Nat × T := (4, B ((ok && (decide (a.Hist.h1 ≥ 0))) && (decide (a.Hist.h1 ≤ left))))
abbrev z46_4 (a : Agg) (left : Int) (ok : Bool) : Nat × T := (4, B ((ok && (decide (a.Hist.h2 ≥ 0))) && (decide (a.Hist.h2 ≤ left))))
abbrev z46_5 (a : Agg) (left : Int) (ok : Bool) : Nat × T := (4, B ((ok && (decide (a.Hist.h3 ≥ 0))) && (decide (a.Hist.h3 ≤ left))))
abbrev z46_6 (a : Agg) : Nat × T := (7, I (farN a.Re a.Count))
abbrev z46_7 (a : Agg) : Nat × T := (9, I (farN a.Im a.Count))
abbrev y46_0 (a : Agg) : List (Nat × Blk) := [(1, .var ((eAgg a).map .d))]
/-- headgate/fold.Check. -/
theorem ok_foldcheck (a : Agg) :
 FnOk Try.prog 46 [.agg ((eAgg a).map .d)] (fun r_ => r_ = I (aggCheck a)) := by
 refine FnOk.go Try.func46 rfl 83 ?_
 intro w0 m0
 show AC _ _ ⟨[(0, tA ((eAgg a).map .d))], []⟩ _
 refine AC.q ⟨[sp 1], y46_0 a⟩ ?_
 refine AC.q ⟨[sp 1, (3, I a.Count)], y46_0 a⟩ ?_
 refine AC.rS [0, 1, 2, 3, 4, 5, 6, 7, 8, 9, 10, 11, 12, 13, 14, 15] ?_
 refine AOps.m [0, 1, 2, 3] ⟨[sp 1, (3, I a.Count), (16, B (decide (a.Count ≥ 1)))], y46_0 a⟩ ?_
 refine AOps.s [4, 5, 6] 7 16 19 20 true (decide (a.Count ≥ 1)) (decide (a.Count ≤ 1099511627776)) [1, 3] (fun h_ => ?_) ?_
 clear h_
 refine AOps.m [4, 5, 6] ⟨[sp 1, (3, I a.Count), (16, B true), (19, B (decide (a.Count ≤ 1099511627776)))], y46_0 a⟩ ?_
 exact scd
 refine AOps.m [8] ⟨[sp 1, (3, I a.Count), (21, B ((decide (a.Count ≥ 1)) && (decide (a.Count ≤ 1099511627776))))], y46_0 a⟩ ?_
 refine AOps.s [9, 10, 11, 12, 13] 14 21 26 27 true ((decide (a.Count ≥ 1)) && (decide (a.Count ≤ 1099511627776))) (decide (a.Min ≤ a.Max)) [1, 3] (fun h_ => ?_) ?_
 clear h_
 refine AOps.m [9, 10, 11, 12, 13] ⟨[sp 1, (3, I a.Count), (21, B true), (26, B (decide (a.Min ≤ a.Max)))], y46_0 a⟩ ?_
 exact scd
 refine AOps.e ⟨[sp 1, (3, I a.Count), (z46_0 a)], y46_0 a⟩ ?_
 refine AC.seq ?_
 refine AC.q ⟨[sp 1, (3, I a.Count), (z46_0 a), (z46_1 a), (30, I 0)], y46_0 a⟩ ?_
 refine AC.block ?_
 refine AC.loop (ι := Nat × Int × Bool) (fun x_ => match x_ with | (k, left, ok) => ⟨[sp 1, (3, I left), (4, B ok), (z46_1 a), (30, I (k : Int))], y46_0 a⟩) (fun x_ => match x_ with | (k, left, ok) => (chk a k left ok)) (fun x_ => match x_ with | (k, left, ok) => 4 - k) (0, a.Count, ((decide (a.Count ≥ 1) && decide (a.Count ≤ 1099511627776)) && decide (a.Min ≤ a.Max))) (by exact chk_begin a) (Le.of (lk rfl (lk rfl (LeS.cons rfl (TLe.b (by rfl)) (lk rfl (LeS.cons rfl (TLe.i (by rfl)) LeS.nil))))) (ek rfl LeE.nil) (by kernel_rfl)) ?_
 intro x_ hi_
 obtain ⟨k, left, ok⟩ := x_
 have i1 : chk a k left ok := hi_; clear hi_
 show AC _ _ ⟨[sp 1, (3, I left), (4, B ok), (z46_1 a), (30, I (k : Int))], y46_0 a⟩ _
 refine AC.q ⟨[sp 1, (3, I left), (4, B ok), (z46_1 a), (30, I (k : Int)), (31, B (decide ((k : Int) < 4)))], y46_0 a⟩ ?_
 refine AC.seq ?_
 refine AC.cd (b := decide ((k : Int) < 4)) (fun h_ => ?_) (fun h_ => ?_)
 have h1 := h_; have r1 := h_; clear h_; try simp only [bb] at h1
 refine AC.skip ?_
 refine AC.seq ?_
 refine AC.block ?_
 have hk_ : k = 0 ∨ k = 1 ∨ k = 2 ∨ k = 3 := by omega
 rcases hk_ with hkk | hkk | hkk | hkk
 refine AC.le (st' := ⟨[sp 1, (3, I left), (4, B ok), (z46_1 a), (30, I 0)], y46_0 a⟩) (Le.of (lk rfl (lk rfl (lk rfl (lk rfl (LeS.cons rfl (TLe.i (by first | omega | (simp only [hkk]; done) | (rw [hkk]) | (simp only [hkk]; rfl))) LeS.nil))))) (ek rfl LeE.nil) (by kernel_rfl)) ?_
 refine AC.rS [0, 1] ?_
 refine AOps.ec (C' := (0 ≤ (0 : Int) ∧ (0 : Int) < ((4 : Nat) : Int)) ∧ True) ⟨[sp 1, (3, I left), (4, B ok), (6, I a.Hist.h0), (z46_1 a), (30, I 0)], y46_0 a⟩ (⟨by omega, trivial⟩) ?_
 refine AC.rS [0, 1, 2, 3, 4, 5, 6, 7, 8, 9, 10] ?_
 refine AOps.m [0, 1] ⟨[sp 1, (3, I left), (6, I a.Hist.h0), (z46_1 a), (30, I 0), (34, B ok)], y46_0 a⟩ ?_
 refine AOps.s [2, 3] 4 34 36 37 true (ok) (decide (a.Hist.h0 ≥ 0)) [1, 3, 6, 29, 30] (fun h_ => ?_) ?_
 clear h_
 refine AOps.m [2, 3] ⟨[sp 1, (3, I left), (6, I a.Hist.h0), (z46_1 a), (30, I 0), (34, B true), (36, B (decide (a.Hist.h0 ≥ 0)))], y46_0 a⟩ ?_
 exact scd
 refine AOps.m [5] ⟨[sp 1, (3, I left), (6, I a.Hist.h0), (z46_1 a), (30, I 0), (38, B (ok && (decide (a.Hist.h0 ≥ 0))))], y46_0 a⟩ ?_
 refine AOps.s [6, 7, 8] 9 38 41 42 true (ok && (decide (a.Hist.h0 ≥ 0))) (decide (a.Hist.h0 ≤ left)) [1, 3, 6, 29, 30] (fun h_ => ?_) ?_
 clear h_
 refine AOps.m [6, 7, 8] ⟨[sp 1, (3, I left), (6, I a.Hist.h0), (z46_1 a), (30, I 0), (38, B true), (41, B (decide (a.Hist.h0 ≤ left)))], y46_0 a⟩ ?_
 exact scd
 refine AOps.e ⟨[sp 1, (3, I left), (z46_2 a left ok), (6, I a.Hist.h0), (z46_1 a), (30, I 0)], y46_0 a⟩ ?_
 refine AC.qR ⟨[sp 1, (3, I (IntKind.i64.wrap (left - a.Hist.h0))), (z46_2 a left ok), (z46_1 a), (30, I 0)], y46_0 a⟩ ?_
 refine AC.qR ⟨[sp 1, (3, I (IntKind.i64.wrap (left - a.Hist.h0))), (z46_2 a left ok), (z46_1 a), (30, I (IntKind.i64.wrap ((0 : Int) + 1)))], y46_0 a⟩ ?_
 try refine blockA_n ?_
 exact roundA_n (k + 1, IntKind.i64.wrap (left - a.Hist.h0), (ok && (decide (a.Hist.h0 ≥ 0))) && (decide (a.Hist.h0 ≤ left))) (by subst hkk; exact chk_step (by omega) i1) (by show 4 - (k + 1) < 4 - k; omega) (Le.of (lk rfl (lk rfl (lk rfl (lk rfl (LeS.cons rfl (TLe.i (by first | omega | (rw [wrap_in (by omega) (by omega)]; omega))) LeS.nil))))) (ek rfl LeE.nil) (by kernel_rfl))
 refine AC.le (st' := ⟨[sp 1, (3, I left), (4, B ok), (z46_1 a), (30, I 1)], y46_0 a⟩) (Le.of (lk rfl (lk rfl (lk rfl (lk rfl (LeS.cons rfl (TLe.i (by first | omega | (simp only [hkk]; done) | (rw [hkk]) | (simp only [hkk]; rfl))) LeS.nil))))) (ek rfl LeE.nil) (by kernel_rfl)) ?_
 refine AC.rS [0, 1] ?_
 refine AOps.ec (C' := (0 ≤ (1 : Int) ∧ (1 : Int) < ((4 : Nat) : Int)) ∧ True) ⟨[sp 1, (3, I left), (4, B ok), (6, I a.Hist.h1), (z46_1 a), (30, I 1)], y46_0 a⟩ (⟨by omega, trivial⟩) ?_
 refine AC.rS [0, 1, 2, 3, 4, 5, 6, 7, 8, 9, 10] ?_
 refine AOps.m [0, 1] ⟨[sp 1, (3, I left), (6, I a.Hist.h1), (z46_1 a), (30, I 1), (34, B ok)], y46_0 a⟩ ?_
 refine AOps.s [2, 3] 4 34 36 37 true (ok) (decide (a.Hist.h1 ≥ 0)) [1, 3, 6, 29, 30] (fun h_ => ?_) ?_
 clear h_
 refine AOps.m [2, 3] ⟨[sp 1, (3, I left), (6, I a.Hist.h1), (z46_1 a), (30, I 1), (34, B true), (36, B (decide (a.Hist.h1 ≥ 0)))], y46_0 a⟩ ?_
 exact scd
 refine AOps.m [5] ⟨[sp 1, (3, I left), (6, I a.Hist.h1), (z46_1 a), (30, I 1), (38, B (ok && (decide (a.Hist.h1 ≥ 0))))], y46_0 a⟩ ?_
 refine AOps.s [6, 7, 8] 9 38 41 42 true (ok && (decide (a.Hist.h1 ≥ 0))) (decide (a.Hist.h1 ≤ left)) [1, 3, 6, 29, 30] (fun h_ => ?_) ?_
 clear h_
 refine AOps.m [6, 7, 8] ⟨[sp 1, (3, I left), (6, I a.Hist.h1), (z46_1 a), (30, I 1), (38, B true), (41, B (decide (a.Hist.h1 ≤ left)))], y46_0 a⟩ ?_
 exact scd
 refine AOps.e ⟨[sp 1, (3, I left), (z46_3 a left ok), (6, I a.Hist.h1), (z46_1 a), (30, I 1)], y46_0 a⟩ ?_
 refine AC.qR ⟨[sp 1, (3, I (IntKind.i64.wrap (left - a.Hist.h1))), (z46_3 a left ok), (z46_1 a), (30, I 1)], y46_0 a⟩ ?_
 refine AC.qR ⟨[sp 1, (3, I (IntKind.i64.wrap (left - a.Hist.h1))), (z46_3 a left ok), (z46_1 a), (30, I (IntKind.i64.wrap ((1 : Int) + 1)))], y46_0 a⟩ ?_
 try refine blockA_n ?_
 exact roundA_n (k + 1, IntKind.i64.wrap (left - a.Hist.h1), (ok && (decide (a.Hist.h1 ≥ 0))) && (decide (a.Hist.h1 ≤ left))) (by subst hkk; exact chk_step (by omega) i1) (by show 4 - (k + 1) < 4 - k; omega) (Le.of (lk rfl (lk rfl (lk rfl (lk rfl (LeS.cons rfl (TLe.i (by first | omega | (rw [wrap_in (by omega) (by omega)]; omega))) LeS.nil))))) (ek rfl LeE.nil) (by kernel_rfl))
 refine AC.le (st' := ⟨[sp 1, (3, I left), (4, B ok), (z46_1 a), (30, I 2)], y46_0 a⟩) (Le.of (lk rfl (lk rfl (lk rfl (lk rfl (LeS.cons rfl (TLe.i (by first | omega | (simp only [hkk]; done) | (rw [hkk]) | (simp only [hkk]; rfl))) LeS.nil))))) (ek rfl LeE.nil) (by kernel_rfl)) ?_
 refine AC.rS [0, 1] ?_
 refine AOps.ec (C' := (0 ≤ (2 : Int) ∧ (2 : Int) < ((4 : Nat) : Int)) ∧ True) ⟨[sp 1, (3, I left), (4, B ok), (6, I a.Hist.h2), (z46_1 a), (30, I 2)], y46_0 a⟩ (⟨by omega, trivial⟩) ?_
 refine AC.rS [0, 1, 2, 3, 4, 5, 6, 7, 8, 9, 10] ?_
 refine AOps.m [0, 1] ⟨[sp 1, (3, I left), (6, I a.Hist.h2), (z46_1 a), (30, I 2), (34, B ok)], y46_0 a⟩ ?_
 refine AOps.s [2, 3] 4 34 36 37 true (ok) (decide (a.Hist.h2 ≥ 0)) [1, 3, 6, 29, 30] (fun h_ => ?_) ?_
 clear h_
 refine AOps.m [2, 3] ⟨[sp 1, (3, I left), (6, I a.Hist.h2), (z46_1 a), (30, I 2), (34, B true), (36, B (decide (a.Hist.h2 ≥ 0)))], y46_0 a⟩ ?_
 exact scd
 refine AOps.m [5] ⟨[sp 1, (3, I left), (6, I a.Hist.h2), (z46_1 a), (30, I 2), (38, B (ok && (decide (a.Hist.h2 ≥ 0))))], y46_0 a⟩ ?_
 refine AOps.s [6, 7, 8] 9 38 41 42 true (ok && (decide (a.Hist.h2 ≥ 0))) (decide (a.Hist.h2 ≤ left)) [1, 3, 6, 29, 30] (fun h_ => ?_) ?_
 clear h_
 refine AOps.m [6, 7, 8] ⟨[sp 1, (3, I left), (6, I a.Hist.h2), (z46_1 a), (30, I 2), (38, B true), (41, B (decide (a.Hist.h2 ≤ left)))], y46_0 a⟩ ?_
 exact scd
 refine AOps.e ⟨[sp 1, (3, I left), (z46_4 a left ok), (6, I a.Hist.h2), (z46_1 a), (30, I 2)], y46_0 a⟩ ?_
 refine AC.qR ⟨[sp 1, (3, I (IntKind.i64.wrap (left - a.Hist.h2))), (z46_4 a left ok), (z46_1 a), (30, I 2)], y46_0 a⟩ ?_
 refine AC.qR ⟨[sp 1, (3, I (IntKind.i64.wrap (left - a.Hist.h2))), (z46_4 a left ok), (z46_1 a), (30, I (IntKind.i64.wrap ((2 : Int) + 1)))], y46_0 a⟩ ?_
 try refine blockA_n ?_
 exact roundA_n (k + 1, IntKind.i64.wrap (left - a.Hist.h2), (ok && (decide (a.Hist.h2 ≥ 0))) && (decide (a.Hist.h2 ≤ left))) (by subst hkk; exact chk_step (by omega) i1) (by show 4 - (k + 1) < 4 - k; omega) (Le.of (lk rfl (lk rfl (lk rfl (lk rfl (LeS.cons rfl (TLe.i (by first | omega | (rw [wrap_in (by omega) (by omega)]; omega))) LeS.nil))))) (ek rfl LeE.nil) (by kernel_rfl))
 refine AC.le (st' := ⟨[sp 1, (3, I left), (4, B ok), (z46_1 a), (30, I 3)], y46_0 a⟩) (Le.of (lk rfl (lk rfl (lk rfl (lk rfl (LeS.cons rfl (TLe.i (by first | omega | (simp only [hkk]; done) | (rw [hkk]) | (simp only [hkk]; rfl))) LeS.nil))))) (ek rfl LeE.nil) (by kernel_rfl)) ?_
 refine AC.rS [0, 1] ?_
 refine AOps.ec (C' := (0 ≤ (3 : Int) ∧ (3 : Int) < ((4 : Nat) : Int)) ∧ True) ⟨[sp 1, (3, I left), (4, B ok), (6, I a.Hist.h3), (z46_1 a), (30, I 3)], y46_0 a⟩ (⟨by omega, trivial⟩) ?_
 refine AC.rS [0, 1, 2, 3, 4, 5, 6, 7, 8, 9, 10] ?_
 refine AOps.m [0, 1] ⟨[sp 1, (3, I left), (6, I a.Hist.h3), (z46_1 a), (30, I 3), (34, B ok)], y46_0 a⟩ ?_
 refine AOps.s [2, 3] 4 34 36 37 true (ok) (decide (a.Hist.h3 ≥ 0)) [1, 3, 6, 29, 30] (fun h_ => ?_) ?_
 clear h_
 refine AOps.m [2, 3] ⟨[sp 1, (3, I left), (6, I a.Hist.h3), (z46_1 a), (30, I 3), (34, B true), (36, B (decide (a.Hist.h3 ≥ 0)))], y46_0 a⟩ ?_
 exact scd
 refine AOps.m [5] ⟨[sp 1, (3, I left), (6, I a.Hist.h3), (z46_1 a), (30, I 3), (38, B (ok && (decide (a.Hist.h3 ≥ 0))))], y46_0 a⟩ ?_
 refine AOps.s [6, 7, 8] 9 38 41 42 true (ok && (decide (a.Hist.h3 ≥ 0))) (decide (a.Hist.h3 ≤ left)) [1, 3, 6, 29, 30] (fun h_ => ?_) ?_
 clear h_
 refine AOps.m [6, 7, 8] ⟨[sp 1, (3, I left), (6, I a.Hist.h3), (z46_1 a), (30, I 3), (38, B true), (41, B (decide (a.Hist.h3 ≤ left)))], y46_0 a⟩ ?_
 exact scd
 refine AOps.e ⟨[sp 1, (3, I left), (z46_5 a left ok), (6, I a.Hist.h3), (z46_1 a), (30, I 3)], y46_0 a⟩ ?_
 refine AC.qR ⟨[sp 1, (3, I (IntKind.i64.wrap (left - a.Hist.h3))), (z46_5 a left ok), (z46_1 a), (30, I 3)], y46_0 a⟩ ?_
 refine AC.qR ⟨[sp 1, (3, I (IntKind.i64.wrap (left - a.Hist.h3))), (z46_5 a left ok), (z46_1 a), (30, I (IntKind.i64.wrap ((3 : Int) + 1)))], y46_0 a⟩ ?_
 try refine blockA_n ?_
 exact roundA_n (k + 1, IntKind.i64.wrap (left - a.Hist.h3), (ok && (decide (a.Hist.h3 ≥ 0))) && (decide (a.Hist.h3 ≤ left))) (by subst hkk; exact chk_step (by omega) i1) (by show 4 - (k + 1) < 4 - k; omega) (Le.of (lk rfl (lk rfl (lk rfl (lk rfl (LeS.cons rfl (TLe.i (by first | omega | (rw [wrap_in (by omega) (by omega)]; omega))) LeS.nil))))) (ek rfl LeE.nil) (by kernel_rfl))
 have h1 := h_; have r1 := h_; clear h_; try simp only [bb] at h1
 refine AC.exit ?_
 repeat (first | refine thenA_x ?_ | refine roundA_x ?_ | refine joinA_x ?_ | refine blockA_hit ?_ | refine blockA_miss (by decide) ?_)
 refine AC.seq ?_
 refine AC.rS [0, 1, 2, 3, 4, 5] ?_
 refine AOps.m [0, 1, 2] ⟨[sp 1, (3, I left), (49, B (!ok))], y46_0 a⟩ ?_
 refine AOps.s [3, 4] 5 49 51 52 false (!ok) (left != 0) [1] (fun h_ => ?_) ?_
 clear h_
 refine AOps.m [3, 4] ⟨[sp 1, (49, B false), (51, B (left != 0))], y46_0 a⟩ ?_
 exact scd
 refine AOps.done ?_
 refine AC.cd (b := (!ok) || (left != 0)) (fun h_ => ?_) (fun h_ => ?_)
 have h2 := h_; have r2 := h_; clear h_; try simp only [bb] at h2
 refine AC.q ⟨[(2, I 1)], []⟩ ?_
 refine AC.ret ?_
 exact rqr (ufoldcheck a) (All2.cons (ULe.c (CLe.d (DLe.eq (congrArg dI (show (1) = (aggCheck a) by unfold aggCheck; first | (rw [if_neg (by rw [chk_bad (by omega) i1 (by assumption)]; simp)]) | (have f1 := farN_in a.Re a.Count (by omega); have f2 := farN_in a.Im a.Count (by omega); have e := wrap_in (n := farN a.Re a.Count + farN a.Im a.Count) (by omega) (by omega); simp only [e] at *; rw [hG.2.2]; clear i1; simp_all; done) | (have f1 := farN_in a.Re a.Count (by omega); have f2 := farN_in a.Im a.Count (by omega); have e := wrap_in (n := farN a.Re a.Count + farN a.Im a.Count) (by omega) (by omega); simp only [e] at *; rw [hG.2.2]; clear i1; rcases h3 with (h3 | h3) | h3 <;> simp_all)))))) All2.nil)
 have h2 := h_; have r2 := h_; clear h_; try simp only [bb] at h2
 refine AC.skip ?_
 have hG := chk_good (by omega) i1 (by simp_all) (by simp_all)
 refine AC.rS [0, 1, 2, 3, 4, 5, 6, 7, 8, 9] ?_
 refine AOps.m [0, 1, 2, 3] ⟨[sp 1, (55, I a.Re), (57, I a.Count)], y46_0 a⟩ ?_
 refine AOps.ca (ok_far a.Re a.Count (by omega) (by omega)) ?_
 rintro _ rfl
 refine AOps.e ⟨[sp 1, (z46_6 a), (8, B (farOk a.Re a.Count))], y46_0 a⟩ ?_
 refine AC.rS [0, 1, 2, 3, 4, 5, 6, 7, 8, 9] ?_
 refine AOps.m [0, 1, 2, 3] ⟨[sp 1, (z46_6 a), (8, B (farOk a.Re a.Count)), (63, I a.Im), (65, I a.Count)], y46_0 a⟩ ?_
 refine AOps.ca (ok_far a.Im a.Count (by omega) (by omega)) ?_
 rintro _ rfl
 refine AOps.e ⟨[sp 1, (z46_6 a), (8, B (farOk a.Re a.Count)), (z46_7 a), (10, B (farOk a.Im a.Count))], y46_0 a⟩ ?_
 refine AC.seq ?_
 refine AC.rS [0, 1, 2, 3, 4, 5, 6, 7, 8, 9, 10, 11, 12, 13] ?_
 refine AOps.m [0, 1, 2] ⟨[sp 1, (z46_6 a), (z46_7 a), (10, B (farOk a.Im a.Count)), (71, B (!(farOk a.Re a.Count)))], y46_0 a⟩ ?_
 refine AOps.s [3, 4] 5 71 73 74 false (!(farOk a.Re a.Count)) (!(farOk a.Im a.Count)) [1, 7, 9] (fun h_ => ?_) ?_
 clear h_
 refine AOps.m [3, 4] ⟨[sp 1, (z46_6 a), (z46_7 a), (71, B false), (73, B (!(farOk a.Im a.Count)))], y46_0 a⟩ ?_
 exact scd
 refine AOps.m [6] ⟨[sp 1, (z46_6 a), (z46_7 a), (75, B ((!(farOk a.Re a.Count)) || (!(farOk a.Im a.Count))))], y46_0 a⟩ ?_
 refine AOps.s [7, 8, 9, 10, 11, 12] 13 75 81 82 false ((!(farOk a.Re a.Count)) || (!(farOk a.Im a.Count))) (decide ((IntKind.i64.wrap ((farN a.Re a.Count) + (farN a.Im a.Count))) > a.Count)) [] (fun h_ => ?_) ?_
 clear h_
 refine AOps.m [7, 8, 9, 10, 11, 12] ⟨[(75, B false), (81, B (decide ((IntKind.i64.wrap ((farN a.Re a.Count) + (farN a.Im a.Count))) > a.Count)))], y46_0 a⟩ ?_
 exact scd
 refine AOps.done ?_
 refine AC.cd (b := ((!(farOk a.Re a.Count)) || (!(farOk a.Im a.Count))) || (decide ((IntKind.i64.wrap ((farN a.Re a.Count) + (farN a.Im a.Count))) > a.Count))) (fun h_ => ?_) (fun h_ => ?_)
 have h3 := h_; have r3 := h_; clear h_; try simp only [bb] at h3
 refine AC.q ⟨[(2, I 1)], []⟩ ?_
 refine AC.ret ?_
 exact rqr (ufoldcheck a) (All2.cons (ULe.c (CLe.d (DLe.eq (congrArg dI (show (1) = (aggCheck a) by unfold aggCheck; first | (rw [if_neg (by rw [chk_bad (by omega) i1 (by assumption)]; simp)]) | (have f1 := farN_in a.Re a.Count (by omega); have f2 := farN_in a.Im a.Count (by omega); have e := wrap_in (n := farN a.Re a.Count + farN a.Im a.Count) (by omega) (by omega); simp only [e] at *; rw [hG.2.2]; clear i1; simp_all; done) | (have f1 := farN_in a.Re a.Count (by omega); have f2 := farN_in a.Im a.Count (by omega); have e := wrap_in (n := farN a.Re a.Count + farN a.Im a.Count) (by omega) (by omega); simp only [e] at *; rw [hG.2.2]; clear i1; rcases h3 with (h3 | h3) | h3 <;> simp_all)))))) All2.nil)
 have h3 := h_; have r3 := h_; clear h_; try simp only [bb] at h3
 refine AC.skip ?_
 refine AC.q ⟨[(2, I 0)], []⟩ ?_
 refine AC.ret ?_
 exact rqr (ufoldcheck a) (All2.cons (ULe.c (CLe.d (DLe.eq (congrArg dI (show (0) = (aggCheck a) by unfold aggCheck; first | (rw [if_neg (by rw [chk_bad (by omega) i1 (by assumption)]; simp)]) | (have f1 := farN_in a.Re a.Count (by omega); have f2 := farN_in a.Im a.Count (by omega); have e := wrap_in (n := farN a.Re a.Count + farN a.Im a.Count) (by omega) (by omega); simp only [e] at *; rw [hG.2.2]; clear i1; simp_all; done) | (have f1 := farN_in a.Re a.Count (by omega); have f2 := farN_in a.Im a.Count (by omega); have e := wrap_in (n := farN a.Re a.Count + farN a.Im a.Count) (by omega) (by omega); simp only [e] at *; rw [hG.2.2]; clear i1; rcases h3 with (h3 | h3) | h3 <;> simp_all)))))) All2.nil)
end Go.Proofs.Ytfpmgnkbklnkaaa.Eng
end
section
set_option linter.unusedSimpArgs false
set_option linter.unusedVariables false
set_option maxRecDepth 100000
set_option maxHeartbeats 4000000
namespace Go.Proofs.Ytfpmgnkbklnkaaa.Eng
open Go Go.Proofs
abbrev uwithin1 (n : Int) : List U := [.c (.d (dB (outN n)))]
/-- headgate/engine.within$1. -/
theorem ok_within1 (n : Int) :
 FnOk Try.prog 77 [.c (.d (dI n))] (fun r_ => r_ = B (outN n)) := by
 refine FnOk.go Try.func77 rfl 9 ?_
 intro w0 m0
 show AC _ _ ⟨[(0, I n)], []⟩ _
 refine AC.q ⟨[(0, I n)], []⟩ ?_
 refine AC.rS [0, 1, 2, 3, 4, 5, 6] ?_
 refine AOps.m [0, 1, 2] ⟨[(0, I n), (5, B (decide (n < 0)))], []⟩ ?_
 refine AOps.s [3, 4] 5 5 7 8 false (decide (n < 0)) (decide (n > 1099511627776)) [] (fun h_ => ?_) ?_
 clear h_
 refine AOps.m [3, 4] ⟨[(5, B false), (7, B (decide (n > 1099511627776)))], []⟩ ?_
 exact scd
 refine AOps.e ⟨[(2, B ((decide (n < 0)) || (decide (n > 1099511627776))))], []⟩ ?_
 refine AC.ret ?_
 exact rqr (uwithin1 n) (All2.cons (ULe.c (CLe.d (DLe.eq (congrArg dB (show ((decide (n < 0)) || (decide (n > 1099511627776))) = (outN n) by rfl))))) All2.nil)
end Go.Proofs.Ytfpmgnkbklnkaaa.Eng
end
section
set_option linter.unusedSimpArgs false
set_option linter.unusedVariables false
set_option maxRecDepth 100000
set_option maxHeartbeats 4000000
namespace Go.Proofs.Ytfpmgnkbklnkaaa.Eng
open Go Go.Proofs
/-- slices.IndexFunc[[]int,int]. -/
theorem ok_indexfunc (l : List Int) (f : Nat) (p : Int → Bool) (hf : ∀ x, FnOk Try.prog f [uD (dI x)] (fun r => r = B (p x))) (hll : l.length ≤ 1000000) :
 FnOk Try.prog 83 [.c (.d (row 1 eI 0 l)), .c (.fn f [])] (fun r_ => r_ = I (idxF p l)) := by
 refine FnOk.go Try.func83 rfl 19 ?_
 intro w0 m0
 show AC _ _ ⟨[(0, tD (row 1 eI 0 l)), (1, .one (.c (.fn f [])))], []⟩ _
 refine AC.q ⟨[(0, tD (row 1 eI 0 l)), (1, .one (.c (.fn f [])))], []⟩ ?_
 refine AC.seq ?_
 refine AC.q ⟨[(0, tD (row 1 eI 0 l)), (1, .one (.c (.fn f []))), (7, I (l.length : Int)), (8, I 0)], []⟩ ?_
 refine AC.block ?_
 refine AC.loop (ι := Nat) (fun i => ⟨[(0, tD (row 1 eI 0 l)), (1, .one (.c (.fn f []))), (7, I (l.length : Int)), (8, I (i : Int))], []⟩) (fun i => (i ≤ l.length ∧ ∀ j, j < i → p (l.getD j 0) = false)) (fun i => l.length - i) (0) (by refine ⟨by omega, fun j hj => ?_⟩; omega) (Le.of (lk rfl (lk rfl (lk rfl (LeS.cons rfl (TLe.i (by rfl)) LeS.nil)))) LeE.nil (by kernel_rfl)) ?_
 intro i hi_
 obtain ⟨i1, i2⟩ := hi_
 show AC _ _ ⟨[(0, tD (row 1 eI 0 l)), (1, .one (.c (.fn f []))), (7, I (l.length : Int)), (8, I (i : Int))], []⟩ _
 refine AC.q ⟨[(0, tD (row 1 eI 0 l)), (1, .one (.c (.fn f []))), (7, I (l.length : Int)), (8, I (i : Int)), (9, B (decide ((i : Int) < (l.length : Int))))], []⟩ ?_
 refine AC.seq ?_
 refine AC.cd (b := decide ((i : Int) < (l.length : Int))) (fun h_ => ?_) (fun h_ => ?_)
 have h1 := h_; have r1 := h_; clear h_; try simp only [bb] at h1
 refine AC.skip ?_
 refine AC.seq ?_
 refine AC.block ?_
 refine AC.q ⟨[(0, tD (row 1 eI 0 l)), (1, .one (.c (.fn f []))), (5, I (i : Int)), (7, I (l.length : Int)), (8, I (i : Int))], []⟩ ?_
 refine AC.rS [0, 1, 2, 3, 4, 5] ?_
 refine AOps.mc [0, 1, 2, 3, 4] (C' := (0 ≤ (i : Int) ∧ (i : Int) < (l.length : Int)) ∧ True) ⟨[(0, tD (row 1 eI 0 l)), (1, .one (.c (.fn f []))), (5, I (i : Int)), (7, I (l.length : Int)), (8, I (i : Int)), (11, .one (.c (.fn f []))), (15, I (l.getD i 0))], []⟩ (⟨by omega, trivial⟩) ?_
 refine AOps.call rfl rfl rfl rfl (f := f) (by kernel_rfl) rfl (by kernel_rfl) (by kernel_rfl) (hf (l.getD i 0)) ?_
 rintro _ rfl
 refine AOps.done ?_
 refine AC.cd (b := p (l.getD i 0)) (fun h_ => ?_) (fun h_ => ?_)
 have h2 := h_; have r2 := h_; clear h_; try simp only [bb] at h2
 refine AC.q ⟨[(4, I (i : Int))], []⟩ ?_
 refine AC.ret ?_
 exact rqr [.c (.d (dI (idxF p l)))] (All2.cons (ULe.c (CLe.d (DLe.eq (congrArg dI (show ((i : Int)) = (idxF p l) by first | exact (idxF_hit (by omega) i2 (by assumption)).symm | exact (idxF_none (fun j hj => i2 j (by omega))).symm))))) All2.nil)
 have h2 := h_; have r2 := h_; clear h_; try simp only [bb] at h2
 refine AC.skip ?_
 refine AC.rR [0, 1] ?_
 refine AOps.m [0, 1] ⟨[(0, tD (row 1 eI 0 l)), (1, .one (.c (.fn f []))), (7, I (l.length : Int)), (8, I (IntKind.i64.wrap ((i : Int) + 1)))], []⟩ ?_
 refine AOps.le (st' := ⟨[(0, tD (row 1 eI 0 l)), (1, .one (.c (.fn f []))), (7, I (l.length : Int)), (8, I ((i + 1 : Nat) : Int))], []⟩) (Le.of (lk rfl (lk rfl (lk rfl (LeS.cons rfl (TLe.i (by rw [wrap_in (n := ((i : Int) + 1)) (by omega) (by omega)] <;> omega)) LeS.nil)))) LeE.nil (by kernel_rfl)) ?_
 refine AOps.done ?_
 try refine blockA_n ?_
 exact roundA_n (i + 1) (by refine ⟨by omega, fun j hj => ?_⟩; by_cases e : j = i; (subst e; assumption); exact i2 j (by omega)) (by show l.length - (i + 1) < l.length - i; omega) (Le.of (lk rfl (lk rfl (lk rfl (LeS.cons rfl (TLe.i (by omega)) LeS.nil)))) LeE.nil (by kernel_rfl))
 have h1 := h_; have r1 := h_; clear h_; try simp only [bb] at h1
 refine AC.exit ?_
 repeat (first | refine thenA_x ?_ | refine roundA_x ?_ | refine joinA_x ?_ | refine blockA_hit ?_ | refine blockA_miss (by decide) ?_)
 refine AC.q ⟨[(4, I (-1))], []⟩ ?_
 refine AC.ret ?_
 exact rqr [.c (.d (dI (idxF p l)))] (All2.cons (ULe.c (CLe.d (DLe.eq (congrArg dI (show ((-1)) = (idxF p l) by first | exact (idxF_hit (by omega) i2 (by assumption)).symm | exact (idxF_none (fun j hj => i2 j (by omega))).symm))))) All2.nil)
end Go.Proofs.Ytfpmgnkbklnkaaa.Eng
end
section
set_option linter.unusedSimpArgs false
set_option linter.unusedVariables false
set_option maxRecDepth 100000
set_option maxHeartbeats 4000000
namespace Go.Proofs.Ytfpmgnkbklnkaaa.Eng
open Go Go.Proofs
/-- slices.ContainsFunc[[]int,int]. -/
theorem ok_containsfunc (l : List Int) (f : Nat) (p : Int → Bool) (hf : ∀ x, FnOk Try.prog f [uD (dI x)] (fun r => r = B (p x))) (hll : l.length ≤ 1000000) :
 FnOk Try.prog 76 [.c (.d (row 1 eI 0 l)), .c (.fn f [])] (fun r_ => r_ = B (List.any l p)) := by
 refine FnOk.go Try.func76 rfl 9 ?_
 intro w0 m0
 show AC _ _ ⟨[(0, tD (row 1 eI 0 l)), (1, .one (.c (.fn f [])))], []⟩ _
 refine AC.q ⟨[(0, tD (row 1 eI 0 l)), (1, .one (.c (.fn f [])))], []⟩ ?_
 refine AC.rS [0, 1, 2, 3, 4] ?_
 refine AOps.m [0, 1] ⟨[(5, tD (row 1 eI 0 l)), (6, .one (.c (.fn f [])))], []⟩ ?_
 refine AOps.ca (ok_indexfunc l f p hf (by assumption)) ?_
 rintro _ rfl
 refine AOps.e ⟨[(4, B (decide ((idxF p l) ≥ 0)))], []⟩ ?_
 refine AC.ret ?_
 exact rqr [.c (.d (dB (List.any l p)))] (All2.cons (ULe.c (CLe.d (DLe.eq (congrArg dB (show (decide ((idxF p l) ≥ 0)) = (List.any l p) by exact idxF_any p l))))) All2.nil)
end Go.Proofs.Ytfpmgnkbklnkaaa.Eng
end
section
set_option linter.unusedSimpArgs false
set_option linter.unusedVariables false
set_option maxRecDepth 100000
set_option maxHeartbeats 4000000
namespace Go.Proofs.Ytfpmgnkbklnkaaa.Eng
open Go Go.Proofs
abbrev uwithin (l : List Int) : List U := [.c (.d (dB (allIn l)))]
/-- headgate/engine.within. -/
theorem ok_within (l : List Int) (hll : l.length ≤ 1000000) :
 FnOk Try.prog 44 [.c (.d (row 1 eI 0 l))] (fun r_ => r_ = B (allIn l)) := by
 refine FnOk.go Try.func44 rfl 6 ?_
 intro w0 m0
 show AC _ _ ⟨[(0, tD (row 1 eI 0 l))], []⟩ _
 refine AC.q ⟨[(0, tD (row 1 eI 0 l))], []⟩ ?_
 refine AC.rS [0, 1, 2, 3] ?_
 refine AOps.m [0] ⟨[(3, tD (row 1 eI 0 l))], []⟩ ?_
 refine AOps.ca (ok_containsfunc l 77 outN ok_within1 (by assumption)) ?_
 rintro _ rfl
 refine AOps.e ⟨[(2, B (!(List.any l outN)))], []⟩ ?_
 refine AC.ret ?_
 exact rqr (uwithin l) (All2.cons (ULe.c (CLe.d (DLe.eq (congrArg dB (show (!(List.any l outN)) = (allIn l) by exact allIn_any l))))) All2.nil)
end Go.Proofs.Ytfpmgnkbklnkaaa.Eng
end
section
set_option linter.unusedSimpArgs false
set_option linter.unusedVariables false
set_option maxRecDepth 100000
set_option maxHeartbeats 4000000
namespace Go.Proofs.Ytfpmgnkbklnkaaa.Eng
open Go Go.Proofs
abbrev usamecells (a : List Cell) (b : List Cell) : List U := [.c (.d (dB (sameCells a b)))]
abbrev z18_0 (a : List Cell) : Nat × T := (0, tD (row 12 eCell zCell a))
abbrev z18_1 (b : List Cell) : Nat × T := (1, tD (row 12 eCell zCell b))
/-- headgate/headgateref16.SameCells. -/
theorem ok_samecells (a : List Cell) (b : List Cell) (hla : a.length ≤ 1000000) :
 FnOk Try.prog 18 [.c (.d (row 12 eCell zCell a)), .c (.d (row 12 eCell zCell b))] (fun r_ => r_ = B (sameCells a b)) := by
 refine FnOk.go Try.func18 rfl 26 ?_
 intro w0 m0
 show AC _ _ ⟨[(z18_0 a), (z18_1 b)], []⟩ _
 refine AC.q ⟨[(z18_0 a), (z18_1 b)], []⟩ ?_
 refine AC.seq ?_
 refine AC.q ⟨[(z18_0 a), (z18_1 b), (10, B ((a.length : Int) != (b.length : Int)))], []⟩ ?_
 refine AC.cd (b := (a.length : Int) != (b.length : Int)) (fun h_ => ?_) (fun h_ => ?_)
 have h1 := h_; have r1 := h_; clear h_; try simp only [bb] at h1
 refine AC.q ⟨[(4, B false)], []⟩ ?_
 refine AC.ret ?_
 exact rqr (usamecells a b) (All2.cons (ULe.c (CLe.d (DLe.eq (congrArg dB (show (false) = (sameCells a b) by first | exact sameCells_len (by omega) | exact sameCells_at (d := zCell) (i := i) (by assumption) | exact sameCells_yes (d := zCell) (by omega) (fun j hj => i2 j (by omega))))))) All2.nil)
 have h1 := h_; have r1 := h_; clear h_; try simp only [bb] at h1
 refine AC.skip ?_
 refine AC.seq ?_
 refine AC.q ⟨[(z18_0 a), (z18_1 b), (5, I 0)], []⟩ ?_
 refine AC.block ?_
 refine AC.loop (ι := Nat) (fun i => ⟨[(z18_0 a), (z18_1 b), (5, I (i : Int))], []⟩) (fun i => (i ≤ a.length ∧ ∀ j, j < i → a.getD j zCell = b.getD j zCell)) (fun i => a.length - i) (0) (by refine ⟨by omega, fun j hj => ?_⟩; omega) (Le.of (lk rfl (lk rfl (LeS.cons rfl (TLe.i (by rfl)) LeS.nil))) LeE.nil (by kernel_rfl)) ?_
 intro i hi_
 obtain ⟨i1, i2⟩ := hi_
 show AC _ _ ⟨[(z18_0 a), (z18_1 b), (5, I (i : Int))], []⟩ _
 refine AC.seq ?_
 refine AC.q ⟨[(z18_0 a), (z18_1 b), (5, I (i : Int)), (14, B (decide ((i : Int) < (a.length : Int))))], []⟩ ?_
 refine AC.cd (b := decide ((i : Int) < (a.length : Int))) (fun h_ => ?_) (fun h_ => ?_)
 have h2 := h_; have r2 := h_; clear h_; try simp only [bb] at h2
 refine AC.skip ?_
 refine AC.seq ?_
 refine AC.block ?_
 refine AC.dS 8 [] ⟨[(z18_0 a), (z18_1 b), (5, I (i : Int)), (17, tD (row 12 eCell zCell a)), (18, I (i : Int)), (19, .one (.c (.ip 12 (fun j_ => nth (eCell (a.getD i zCell)) j_)))), (20, tA ((eCell (a.getD i zCell)).map .d)), (21, tD (row 12 eCell zCell b)), (22, I (i : Int)), (23, .one (.c (.ip 12 (fun j_ => nth (eCell (b.getD i zCell)) j_)))), (24, tA ((eCell (b.getD i zCell)).map .d))], []⟩ [8] (.inl rfl) ?_ ?_
 · exact (au (au (ar 3 (au (au (au AllUpTo.zero ot) ot) (OpAt.val rfl (by kernel_rfl) (C' := 0 ≤ (i : Int) ∧ (i : Int) < (a.length : Int)) (x := .one (.c (.ip 12 (fun j_ => nth (eCell (a.getD i zCell)) j_)))) (by kernel_rfl) (by omega) rfl (by kernel_rfl) (by kernel_rfl) (TLe.refl _) (by kernel_rfl) (by kernel_rfl) (by kernel_rfl)))) (OpAt.val rfl (by kernel_rfl) (C' := 0 ≤ (i : Int) ∧ (i : Int) < (b.length : Int)) (x := .one (.c (.ip 12 (fun j_ => nth (eCell (b.getD i zCell)) j_)))) (by kernel_rfl) (by omega) rfl (by kernel_rfl) (by kernel_rfl) (TLe.refl _) (by kernel_rfl) (by kernel_rfl) (by kernel_rfl))) ot)
 refine AOps.cons (step_eqv rfl (by kernel_rfl) rfl eq_Cell true rfl (a.getD i zCell) (b.getD i zCell) (by kernel_rfl) (by kernel_rfl) (by kernel_rfl) (by kernel_rfl) rfl (by kernel_rfl)) ?_
 refine AOps.n ⟨[(z18_0 a), (z18_1 b), (5, I (i : Int)), (25, B (!decide ((a.getD i zCell) = (b.getD i zCell))))], []⟩ ?_
 refine AOps.done ?_
 refine AC.cd (b := !decide ((a.getD i zCell) = (b.getD i zCell))) (fun h_ => ?_) (fun h_ => ?_)
 have h3 := h_; have r3 := h_; clear h_; try simp only [bb] at h3
 refine AC.q ⟨[(4, B false)], []⟩ ?_
 refine AC.ret ?_
 exact rqr (usamecells a b) (All2.cons (ULe.c (CLe.d (DLe.eq (congrArg dB (show (false) = (sameCells a b) by first | exact sameCells_len (by omega) | exact sameCells_at (d := zCell) (i := i) (by assumption) | exact sameCells_yes (d := zCell) (by omega) (fun j hj => i2 j (by omega))))))) All2.nil)
 have h3 := h_; have r3 := h_; clear h_; try simp only [bb] at h3
 refine AC.skip ?_
 refine AC.rR [0, 1, 2] ?_
 refine AOps.m [0, 1, 2] ⟨[(z18_0 a), (z18_1 b), (5, I (IntKind.i64.wrap ((i : Int) + 1)))], []⟩ ?_
 refine AOps.le (st' := ⟨[(z18_0 a), (z18_1 b), (5, I ((i + 1 : Nat) : Int))], []⟩) (Le.of (lk rfl (lk rfl (LeS.cons rfl (TLe.i (by rw [wrap_in (n := ((i : Int) + 1)) (by omega) (by omega)] <;> omega)) LeS.nil))) LeE.nil (by kernel_rfl)) ?_
 refine AOps.done ?_
 try refine blockA_n ?_
 exact roundA_n (i + 1) (by refine ⟨by omega, fun j hj => ?_⟩; by_cases e : j = i; (subst e; assumption); exact i2 j (by omega)) (by show a.length - (i + 1) < a.length - i; omega) (Le.of (lk rfl (lk rfl (LeS.cons rfl (TLe.i (by omega)) LeS.nil))) LeE.nil (by kernel_rfl))
 have h2 := h_; have r2 := h_; clear h_; try simp only [bb] at h2
 refine AC.exit ?_
 repeat (first | refine thenA_x ?_ | refine roundA_x ?_ | refine joinA_x ?_ | refine blockA_hit ?_ | refine blockA_miss (by decide) ?_)
 refine AC.q ⟨[(4, B true)], []⟩ ?_
 refine AC.ret ?_
 exact rqr (usamecells a b) (All2.cons (ULe.c (CLe.d (DLe.eq (congrArg dB (show (true) = (sameCells a b) by first | exact sameCells_len (by omega) | exact sameCells_at (d := zCell) (i := i) (by assumption) | exact sameCells_yes (d := zCell) (by omega) (fun j hj => i2 j (by omega))))))) All2.nil)
end Go.Proofs.Ytfpmgnkbklnkaaa.Eng
end
section
set_option linter.unusedSimpArgs false
set_option linter.unusedVariables false
set_option maxRecDepth 100000
set_option maxHeartbeats 4000000
namespace Go.Proofs.Ytfpmgnkbklnkaaa.Eng
open Go Go.Proofs
abbrev usame (a : State) (b : State) : List U := [.c (.d (dB (sameState a b)))]
abbrev y17_0 (a : State) (b : State) : List (Nat × Blk) := [(2, .var ((eState a).map .d)), (3, .var ((eState b).map .d))]
/-- headgate/headgateref16.Same. -/
theorem ok_same (a : State) (b : State) (hla : a.L.length ≤ 1000000) :
 FnOk Try.prog 17 [.agg ((eState a).map .d), .agg ((eState b).map .d)] (fun r_ => r_ = B (sameState a b)) := by
 refine FnOk.go Try.func17 rfl 38 ?_
 intro w0 m0
 show AC _ _ ⟨[(0, tA ((eState a).map .d)), (1, tA ((eState b).map .d))], []⟩ _
 refine AC.q ⟨[sp 2, sp 3], y17_0 a b⟩ ?_
 refine AC.rS [0, 1, 2, 3, 4, 5, 6, 7, 8, 9, 10, 11, 12, 13, 14, 15, 16, 17, 18, 19, 20, 21, 22, 23, 24, 25, 26, 27, 28, 29, 30, 31, 32, 33] ?_
 refine AOps.m [0, 1, 2, 3, 4, 5] ⟨[sp 2, sp 3, (10, B (a.Mark == b.Mark))], y17_0 a b⟩ ?_
 refine AOps.s [6, 7, 8, 9, 10] 11 10 15 16 true (a.Mark == b.Mark) (a.Late == b.Late) [2, 3] (fun h_ => ?_) ?_
 clear h_
 refine AOps.m [6, 7, 8, 9, 10] ⟨[sp 2, sp 3, (10, B true), (15, B (a.Late == b.Late))], y17_0 a b⟩ ?_
 exact scd
 refine AOps.m [12] ⟨[sp 2, sp 3, (17, B ((a.Mark == b.Mark) && (a.Late == b.Late)))], y17_0 a b⟩ ?_
 refine AOps.s [13, 14, 15, 16, 17] 18 17 22 23 true ((a.Mark == b.Mark) && (a.Late == b.Late)) (a.Bad == b.Bad) [2, 3] (fun h_ => ?_) ?_
 clear h_
 refine AOps.m [13, 14, 15, 16, 17] ⟨[sp 2, sp 3, (17, B true), (22, B (a.Bad == b.Bad))], y17_0 a b⟩ ?_
 exact scd
 refine AOps.m [19] ⟨[sp 2, sp 3, (24, B (((a.Mark == b.Mark) && (a.Late == b.Late)) && (a.Bad == b.Bad)))], y17_0 a b⟩ ?_
 refine AOps.s [20, 21, 22, 23, 24] 25 24 29 30 true (((a.Mark == b.Mark) && (a.Late == b.Late)) && (a.Bad == b.Bad)) (a.N == b.N) [2, 3] (fun h_ => ?_) ?_
 clear h_
 refine AOps.m [20, 21, 22, 23, 24] ⟨[sp 2, sp 3, (24, B true), (29, B (a.N == b.N))], y17_0 a b⟩ ?_
 exact scd
 refine AOps.m [26] ⟨[sp 2, sp 3, (31, B ((((a.Mark == b.Mark) && (a.Late == b.Late)) && (a.Bad == b.Bad)) && (a.N == b.N)))], y17_0 a b⟩ ?_
 refine AOps.s [27, 28, 29, 30, 31] 32 31 36 37 true ((((a.Mark == b.Mark) && (a.Late == b.Late)) && (a.Bad == b.Bad)) && (a.N == b.N)) (sameCells a.L b.L) [] (fun h_ => ?_) ?_
 have h1 := h_; have r1 := h_; clear h_; try simp only [bb] at h1
 refine AOps.m [27, 28, 29, 30] ⟨[(31, B true), (33, tD (row 12 eCell zCell a.L)), (35, tD (row 12 eCell zCell b.L))], y17_0 a b⟩ ?_
 refine AOps.ca (ok_samecells a.L b.L (by assumption)) ?_
 rintro _ rfl
 exact scd
 refine AOps.e ⟨[(4, B (((((a.Mark == b.Mark) && (a.Late == b.Late)) && (a.Bad == b.Bad)) && (a.N == b.N)) && (sameCells a.L b.L)))], []⟩ ?_
 refine AC.ret ?_
 exact rqr (usame a b) (All2.cons (ULe.c (CLe.d (DLe.eq (congrArg dB (show (((((a.Mark == b.Mark) && (a.Late == b.Late)) && (a.Bad == b.Bad)) && (a.N == b.N)) && (sameCells a.L b.L)) = (sameState a b) by exact sameState_eq a b))))) All2.nil)
end Go.Proofs.Ytfpmgnkbklnkaaa.Eng
end
section
set_option linter.unusedSimpArgs false
set_option linter.unusedVariables false
set_option maxRecDepth 100000
set_option maxHeartbeats 4000000
namespace Go.Proofs.Ytfpmgnkbklnkaaa.Eng
open Go Go.Proofs
abbrev uall15 (l : List Int) : List U := [.agg ((eAgg (aggAll l)).map .d)]
abbrev z24_0 : Nat × Blk := (2, .var ([.d (dI 0), .d (dI 0), .d (dI 0), .d (dI 0), .d (dI 0), .d (dI 0), .d (dI 0), .d (dI 0), .d (dI 0), .d (dI 0)]))
abbrev z24_1 : Nat × Blk := (3, .var ([.d (dI 0), .d (dI 0), .d (dI 0), .d (dI 0), .d (dI 0), .d (dI 0), .d (dI 0), .d (dI 0), .d (dI 0), .d (dI 0)]))
abbrev z24_2 (l : List Int) (i : Nat) : Nat × Blk := (3, .var ((eAgg (aggAll (l.take i))).map .d))
abbrev z24_3 (l : List Int) (i : Nat) : Nat × Blk := (3, .var ((eAgg (aggAdd (aggAll (l.take i)) (l.getD i 0))).map .d))
/-- headgate/headgateref15.All. -/
theorem ok_all15 (l : List Int) (hll : l.length ≤ 1000000) (hr : ∀ x ∈ l, R64 x) :
 FnOk Try.prog 24 [.c (.d (row 1 eI 0 l))] (fun r_ => r_ = tA ((eAgg (aggAll l)).map .d)) := by
 refine FnOk.go Try.func24 rfl 19 ?_
 intro w0 m0
 show AC _ _ ⟨[(0, tD (row 1 eI 0 l))], []⟩ _
 refine AC.q ⟨[(0, tD (row 1 eI 0 l)), sp 2], [(z24_0)]⟩ ?_
 refine AC.q ⟨[(0, tD (row 1 eI 0 l)), sp 2, sp 3], [(z24_0), (z24_1)]⟩ ?_
 refine AC.seq ?_
 refine AC.q ⟨[(0, tD (row 1 eI 0 l)), sp 2, sp 3, (4, I 0)], [(z24_0), (z24_1)]⟩ ?_
 refine AC.block ?_
 refine AC.loop (ι := Nat) (fun i => ⟨[(0, tD (row 1 eI 0 l)), sp 2, sp 3, (4, I (i : Int))], [(z24_0), (z24_2 l i)]⟩) (fun i => (i ≤ l.length)) (fun i => l.length - i) (0) (by omega) (Le.of (lk rfl (lk rfl (lk rfl (LeS.cons rfl (TLe.i (by omega)) LeS.nil)))) (ek rfl (LeE.cons rfl (BLe.eq (congrArg (fun x => Blk.var ((eAgg x).map .d)) (show ((⟨0, 0, 0, 0, (⟨0, 0, 0, 0⟩ : H4), 0, 0⟩ : Agg)) = (aggAll (l.take 0)) by first | rfl | (simp only [aggAll, take_snoc (0 : Int) (show i < l.length by omega), List.foldl_append]; rfl)))) LeE.nil)) (by kernel_rfl)) ?_
 intro i hi_
 have i1 : i ≤ l.length := hi_; clear hi_
 show AC _ _ ⟨[(0, tD (row 1 eI 0 l)), sp 2, sp 3, (4, I (i : Int))], [(z24_0), (z24_2 l i)]⟩ _
 refine AC.seq ?_
 refine AC.q ⟨[(0, tD (row 1 eI 0 l)), sp 2, sp 3, (4, I (i : Int)), (9, B (decide ((i : Int) < (l.length : Int))))], [(z24_0), (z24_2 l i)]⟩ ?_
 refine AC.cd (b := decide ((i : Int) < (l.length : Int))) (fun h_ => ?_) (fun h_ => ?_)
 have h1 := h_; have r1 := h_; clear h_; try simp only [bb] at h1
 refine AC.skip ?_
 refine AC.seq ?_
 refine AC.block ?_
 refine AC.dL 5 [] ⟨[(0, tD (row 1 eI 0 l)), sp 2, sp 3, (4, I (i : Int)), (12, tA ((eAgg (aggAll (l.take i))).map .d)), (13, tD (row 1 eI 0 l)), (14, I (i : Int)), (15, .one (.c (.ip 1 (fun j_ => nth (eI (l.getD i 0)) j_)))), (16, I (l.getD i 0))], [(z24_0), (z24_2 l i)]⟩ [5, 6] (.inl rfl) ?_ ?_
 · exact (au (au (ar 3 AllUpTo.zero) (OpAt.val rfl (by kernel_rfl) (C' := 0 ≤ (i : Int) ∧ (i : Int) < (l.length : Int)) (x := .one (.c (.ip 1 (fun j_ => nth (eI (l.getD i 0)) j_)))) (by kernel_rfl) (by omega) rfl (by kernel_rfl) (by kernel_rfl) (TLe.refl _) (by kernel_rfl) (by kernel_rfl) (by kernel_rfl))) ot)
 refine AOps.ca (ok_add15 (aggAll (l.take i)) (l.getD i 0) ?_ ?_) ?_
 iterate 2 (· first | (exact AggR_foldl zAgg_R (fun x hx => hr x (List.mem_of_mem_take hx))) | (exact hr _ (getD_mem 0 (by omega))))
 rintro _ rfl
 refine AOps.e ⟨[(0, tD (row 1 eI 0 l)), sp 2, sp 3, (4, I (i : Int))], [(z24_0), (z24_3 l i)]⟩ ?_
 refine AC.rR [0, 1, 2] ?_
 refine AOps.m [0, 1, 2] ⟨[(0, tD (row 1 eI 0 l)), sp 2, sp 3, (4, I (IntKind.i64.wrap ((i : Int) + 1)))], [(z24_0), (z24_3 l i)]⟩ ?_
 refine AOps.le (st' := ⟨[(0, tD (row 1 eI 0 l)), sp 2, sp 3, (4, I ((i + 1 : Nat) : Int))], [(z24_0), (z24_3 l i)]⟩) (Le.of (lk rfl (lk rfl (lk rfl (LeS.cons rfl (TLe.i (by rw [wrap_in (n := ((i : Int) + 1)) (by omega) (by omega)] <;> omega)) LeS.nil)))) (ek rfl (ek rfl LeE.nil)) (by kernel_rfl)) ?_
 refine AOps.done ?_
 try refine blockA_n ?_
 exact roundA_n (i + 1) (by omega) (by show l.length - (i + 1) < l.length - i; omega) (Le.of (lk rfl (lk rfl (lk rfl (LeS.cons rfl (TLe.i (by omega)) LeS.nil)))) (ek rfl (LeE.cons rfl (BLe.eq (congrArg (fun x => Blk.var ((eAgg x).map .d)) (show (aggAdd (aggAll (l.take i)) (l.getD i 0)) = (aggAll (l.take (i + 1))) by first | rfl | (simp only [aggAll, take_snoc (0 : Int) (show i < l.length by omega), List.foldl_append]; rfl)))) LeE.nil)) (by kernel_rfl))
 have h1 := h_; have r1 := h_; clear h_; try simp only [bb] at h1
 refine AC.exit ?_
 repeat (first | refine thenA_x ?_ | refine roundA_x ?_ | refine joinA_x ?_ | refine blockA_hit ?_ | refine blockA_miss (by decide) ?_)
 refine AC.q ⟨[sp 2], [(2, .var ((eAgg (aggAll (l.take i))).map .d))]⟩ ?_
 refine AC.ret ?_
 exact rqr (uall15 l) (All2.cons (ULe.eq (congrArg (fun x => U.agg ((eAgg x).map .d)) (show (aggAll (l.take i)) = (aggAll l) by first | (have e : i = l.length := by omega) ; subst e; rw [List.take_length]))) All2.nil)
end Go.Proofs.Ytfpmgnkbklnkaaa.Eng
end
section
set_option linter.unusedSimpArgs false
set_option linter.unusedVariables false
set_option maxRecDepth 100000
set_option maxHeartbeats 4000000
namespace Go.Proofs.Ytfpmgnkbklnkaaa.Eng
open Go Go.Proofs
abbrev uorder (a : Cell) (b : Cell) : List U := [.c (.d (dI (orI [cmpI a.Start b.Start, cmpI a.Key b.Key])))]
/-- headgate/engine.order. -/
theorem ok_order (a : Cell) (b : Cell) :
 FnOk Try.prog 47 [.agg ((eCell a).map .d), .agg ((eCell b).map .d)] (fun r_ => r_ = I (orI [cmpI a.Start b.Start, cmpI a.Key b.Key])) := by
 refine FnOk.go Try.func47 rfl 17 ?_
 intro w0 m0
 show AC _ _ ⟨[(0, tA ((eCell a).map .d)), (1, tA ((eCell b).map .d))], []⟩ _
 refine AC.q ⟨[sp 2, sp 3], [(2, .var ((eCell a).map .d)), (3, .var ((eCell b).map .d))]⟩ ?_
 refine AC.dS 9 [] ⟨[sp 2, sp 3, (5, tP 2 1), (6, I a.Start), (7, tP 3 1), (8, I b.Start), (9, I (cmpI a.Start b.Start)), (10, tP 2 0), (11, I a.Key), (12, tP 3 0), (13, I b.Key)], [(2, .var ((eCell a).map .d)), (3, .var ((eCell b).map .d))]⟩ [9, 10, 11, 12] (.inl rfl) ?_ ?_
 · exact (ar 4 (au (au (ar 3 AllUpTo.zero) ot) (oc (ok_compare a.Start b.Start))))
 refine AOps.ca (ok_compare a.Key b.Key) ?_
 rintro _ rfl
 refine AOps.m [10] ⟨[(15, tD (.sl 1 2 (fun i_ j_ => nth [dI (cmpI a.Start b.Start), dI (cmpI a.Key b.Key)] (i_ * 1 + j_))))], []⟩ ?_
 refine AOps.le (st' := ⟨[(15, tD (row 1 eI 0 [cmpI a.Start b.Start, cmpI a.Key b.Key]))], []⟩) (Le.of (LeS.cons rfl (TLe.one (ULe.c (CLe.d (DLe.sl rfl (fun i_ hi_ j_ hj_ => by rcases (show i_ = 0 ∨ i_ = 1 by omega) with rfl | rfl <;> (obtain rfl : j_ = 0 := by omega) <;> rfl))))) LeS.nil) LeE.nil (by kernel_rfl)) ?_
 refine AOps.ca (ok_or [cmpI a.Start b.Start, cmpI a.Key b.Key] (by simp)) ?_
 rintro _ rfl
 refine AOps.e ⟨[(4, I (orI [cmpI a.Start b.Start, cmpI a.Key b.Key]))], []⟩ ?_
 refine AC.ret ?_
 exact rqr (uorder a b) (All2.cons (ULe.refl _) All2.nil)
end Go.Proofs.Ytfpmgnkbklnkaaa.Eng
end
section
set_option linter.unusedSimpArgs false
set_option linter.unusedVariables false
set_option maxRecDepth 100000
set_option maxHeartbeats 4000000
namespace Go.Proofs.Ytfpmgnkbklnkaaa.Eng
open Go Go.Proofs
abbrev ustatecheck (g : Grid) (s : State) : List U := [.c (.d (dI (stateCheck g s)))]
abbrev z20_0 (g : Grid) : Nat × Blk := (2, .var ((eGrid g).map .d))
abbrev z20_1 (s : State) : Nat × Blk := (3, .var ((eState s).map .d))
abbrev z20_2 (g : Grid) (s : State) : Nat × T := (5, B ((((((gridCheck g) == 0) && ((s.Mark == (-1)) || (allIn [s.Mark]))) && (allIn [s.Late, s.Bad, s.N])) && (decide (s.Late ≤ (IntKind.i64.wrap (s.N - s.Bad))))) && (decide ((s.L.length : Int) ≤ 64))))
abbrev z20_3 (s : State) : Nat × T := (49, tD (row 12 eCell zCell s.L))
abbrev z20_4 (s : State) : Nat × T := (50, I (s.L.length : Int))
abbrev z20_5 (s : State) (i : Nat) : Nat × Blk := (7, .var ((eCell (s.L.getD i zCell)).map .d))
abbrev z20_6 (s : State) (i : Nat) : Nat × T := (59, I ((s.L.getD i zCell).Key))
abbrev z20_7 (s : State) (i : Nat) : Nat × T := (61, I ((s.L.getD i zCell).Start))
abbrev z20_8 (s : State) (i : Nat) : Nat × T := (62, tD (row 1 eI 0 [(s.L.getD i zCell).Key, (s.L.getD i zCell).Start]))
abbrev z20_9 (s : State) (i : Nat) : Nat × T := (66, I ((s.L.getD i zCell).Key))
abbrev z20_10 (s : State) (i : Nat) : Nat × T := (71, I ((s.L.getD i zCell).Start))
abbrev z20_11 (g : Grid) (s : State) (i : Nat) : Nat × T := (74, I (Int.tmod ((s.L.getD i zCell).Start) g.Hop))
abbrev z20_12 (s : State) (i : Nat) : Nat × T := (79, I ((s.L.getD i zCell).Start))
abbrev z20_13 (g : Grid) : Nat × T := (85, tA ((eGrid g).map .d))
abbrev z20_14 (s : State) (i : Nat) : Nat × T := (87, I ((s.L.getD i zCell).Start))
abbrev z20_15 (g : Grid) (s : State) (i : Nat) : Nat × T := (90, B (gridClosed g ((s.L.getD i zCell).Start) s.Mark))
abbrev z20_16 (s : State) (i : Nat) : Nat × T := (95, tA ((eAgg ((s.L.getD i zCell).A)).map .d))
abbrev z20_17 (s : State) (i : Nat) : Nat × T := (96, I (aggCheck ((s.L.getD i zCell).A)))
abbrev z20_18 (i : Nat) : Nat × T := (51, I (IntKind.i64.wrap ((i : Int) + 1)))
abbrev z20_19 (i : Nat) : Nat × T := (106, I (IntKind.i64.wrap ((i : Int) - 1)))
abbrev z20_20 (s : State) (i : Nat) : Nat × T := (107, .one (.c (.ip 12 (fun j_ => nth (eCell (s.L.getD ((IntKind.i64.wrap ((i : Int) - 1)).toNat) zCell)) j_))))
abbrev z20_21 (s : State) (i : Nat) : Nat × T := (108, tA ((eCell (s.L.getD ((IntKind.i64.wrap ((i : Int) - 1)).toNat) zCell)).map .d))
abbrev z20_22 (s : State) (i : Nat) : Nat × T := (109, tA ((eCell (s.L.getD i zCell)).map .d))
abbrev z20_23 (s : State) (i : Nat) : Nat × T := (5, B (decide ((orI [cmpI (s.L.getD ((IntKind.i64.wrap ((i : Int) - 1)).toNat) zCell).Start (s.L.getD i zCell).Start, cmpI (s.L.getD ((IntKind.i64.wrap ((i : Int) - 1)).toNat) zCell).Key (s.L.getD i zCell).Key]) < 0)))
abbrev z20_24 (s : State) (i : Nat) : Nat × T := (110, I (orI [cmpI (s.L.getD ((IntKind.i64.wrap ((i : Int) - 1)).toNat) zCell).Start (s.L.getD i zCell).Start, cmpI (s.L.getD ((IntKind.i64.wrap ((i : Int) - 1)).toNat) zCell).Key (s.L.getD i zCell).Key]))
abbrev z20_25 (s : State) (i : Nat) : Nat × T := (111, B (decide ((orI [cmpI (s.L.getD ((IntKind.i64.wrap ((i : Int) - 1)).toNat) zCell).Start (s.L.getD i zCell).Start, cmpI (s.L.getD ((IntKind.i64.wrap ((i : Int) - 1)).toNat) zCell).Key (s.L.getD i zCell).Key]) < 0)))
abbrev z20_26 (s : State) (i : Nat) : Nat × T := (112, B (decide ((orI [cmpI (s.L.getD ((IntKind.i64.wrap ((i : Int) - 1)).toNat) zCell).Start (s.L.getD i zCell).Start, cmpI (s.L.getD ((IntKind.i64.wrap ((i : Int) - 1)).toNat) zCell).Key (s.L.getD i zCell).Key]) < 0)))
abbrev y20_0 (g : Grid) (s : State) : List (Nat × Blk) := [(z20_0 g), (z20_1 s)]
abbrev y20_1 (g : Grid) (s : State) (i : Nat) : List (Nat × Blk) := [(z20_0 g), (z20_1 s), (z20_5 s i)]
/-- headgate/engine.Check. -/
theorem ok_statecheck (g : Grid) (s : State) (hls : s.L.length ≤ 1000000) :
 FnOk Try.prog 20 [.agg ((eGrid g).map .d), .agg ((eState s).map .d)] (fun r_ => r_ = I (stateCheck g s)) := by
 refine FnOk.go Try.func20 rfl 117 ?_
 intro w0 m0
 show AC _ _ ⟨[(0, tA ((eGrid g).map .d)), (1, tA ((eState s).map .d))], []⟩ _
 refine AC.q ⟨[sp 2, sp 3], y20_0 g s⟩ ?_
 refine AC.rS [0, 1, 2, 3, 4, 5, 6, 7, 8, 9, 10, 11, 12, 13, 14, 15, 16, 17, 18, 19, 20, 21, 22, 23, 24, 25, 26, 27, 28, 29, 30, 31, 32, 33, 34, 35, 36, 37, 38, 39, 40] ?_
 refine AOps.m [0] ⟨[sp 2, sp 3, (8, tA ((eGrid g).map .d))], y20_0 g s⟩ ?_
 refine AOps.ca (ok_check g) ?_
 rintro _ rfl
 refine AOps.m [2, 3] ⟨[sp 2, sp 3, (11, B ((gridCheck g) == 0))], y20_0 g s⟩ ?_
 refine AOps.s [4, 5, 6, 7, 8, 9, 10, 11, 12] 13 11 20 21 true ((gridCheck g) == 0) ((s.Mark == (-1)) || (allIn [s.Mark])) [2, 3] (fun h_ => ?_) ?_
 have h1 := h_; have r1 := h_; clear h_; try simp only [bb] at h1
 refine AOps.m [4, 5, 6, 7] ⟨[sp 2, sp 3, (11, B true), (15, B (s.Mark == (-1)))], y20_0 g s⟩ ?_
 refine AOps.s [8, 9, 10, 11] 12 15 19 20 false (s.Mark == (-1)) (allIn [s.Mark]) [2, 3, 11] (fun h_ => ?_) ?_
 have h2 := h_; have r2 := h_; clear h_; try simp only [bb] at h2
 refine AOps.m [8, 9, 10] ⟨[sp 2, sp 3, (11, B true), (15, B false), (18, tD (.sl 1 1 (fun i_ j_ => nth [dI s.Mark] (i_ * 1 + j_))))], y20_0 g s⟩ ?_
 refine AOps.le (st' := ⟨[sp 2, sp 3, (11, B true), (15, B false), (18, tD (row 1 eI 0 [s.Mark]))], y20_0 g s⟩) (Le.of (lk rfl (lk rfl (lk rfl (lk rfl (LeS.cons rfl (TLe.one (ULe.c (CLe.d (DLe.sl rfl (fun i_ hi_ j_ hj_ => by obtain rfl : i_ = 0 := (by omega); simp only [Nat.zero_mul, Nat.zero_add] <;> rfl))))) LeS.nil))))) (ek rfl (ek rfl LeE.nil)) (by kernel_rfl)) ?_
 refine AOps.ca (ok_within [s.Mark] (by first | assumption | simp)) ?_
 rintro _ rfl
 exact scd
 exact scd
 refine AOps.m [14] ⟨[sp 2, sp 3, (22, B (((gridCheck g) == 0) && ((s.Mark == (-1)) || (allIn [s.Mark]))))], y20_0 g s⟩ ?_
 refine AOps.s [15, 16, 17, 18, 19, 20, 21, 22] 23 22 30 31 true (((gridCheck g) == 0) && ((s.Mark == (-1)) || (allIn [s.Mark]))) (allIn [s.Late, s.Bad, s.N]) [2, 3] (fun h_ => ?_) ?_
 have h3 := h_; have r3 := h_; clear h_; try simp only [bb] at h3
 refine AOps.m [15, 16, 17, 18, 19, 20, 21] ⟨[sp 2, sp 3, (22, B true), (29, tD (.sl 1 3 (fun i_ j_ => nth [dI s.Late, dI s.Bad, dI s.N] (i_ * 1 + j_))))], y20_0 g s⟩ ?_
 refine AOps.le (st' := ⟨[sp 2, sp 3, (22, B true), (29, tD (row 1 eI 0 [s.Late, s.Bad, s.N]))], y20_0 g s⟩) (Le.of (lk rfl (lk rfl (lk rfl (LeS.cons rfl (TLe.one (ULe.c (CLe.d (DLe.sl rfl (fun i_ hi_ j_ hj_ => by rcases (show i_ = 0 ∨ i_ = 1 ∨ i_ = 2 by omega) with rfl | rfl | rfl <;> (obtain rfl : j_ = 0 := by omega) <;> rfl))))) LeS.nil)))) (ek rfl (ek rfl LeE.nil)) (by kernel_rfl)) ?_
 refine AOps.ca (ok_within [s.Late, s.Bad, s.N] (by first | assumption | simp)) ?_
 rintro _ rfl
 exact scd
 refine AOps.m [24] ⟨[sp 2, sp 3, (32, B ((((gridCheck g) == 0) && ((s.Mark == (-1)) || (allIn [s.Mark]))) && (allIn [s.Late, s.Bad, s.N])))], y20_0 g s⟩ ?_
 refine AOps.s [25, 26, 27, 28, 29, 30, 31, 32] 33 32 40 41 true ((((gridCheck g) == 0) && ((s.Mark == (-1)) || (allIn [s.Mark]))) && (allIn [s.Late, s.Bad, s.N])) (decide (s.Late ≤ (IntKind.i64.wrap (s.N - s.Bad)))) [2, 3] (fun h_ => ?_) ?_
 clear h_
 refine AOps.m [25, 26, 27, 28, 29, 30, 31, 32] ⟨[sp 2, sp 3, (32, B true), (40, B (decide (s.Late ≤ (IntKind.i64.wrap (s.N - s.Bad)))))], y20_0 g s⟩ ?_
 exact scd
 refine AOps.m [34] ⟨[sp 2, sp 3, (42, B (((((gridCheck g) == 0) && ((s.Mark == (-1)) || (allIn [s.Mark]))) && (allIn [s.Late, s.Bad, s.N])) && (decide (s.Late ≤ (IntKind.i64.wrap (s.N - s.Bad))))))], y20_0 g s⟩ ?_
 refine AOps.s [35, 36, 37, 38] 39 42 46 47 true (((((gridCheck g) == 0) && ((s.Mark == (-1)) || (allIn [s.Mark]))) && (allIn [s.Late, s.Bad, s.N])) && (decide (s.Late ≤ (IntKind.i64.wrap (s.N - s.Bad))))) (decide ((s.L.length : Int) ≤ 64)) [2, 3] (fun h_ => ?_) ?_
 clear h_
 refine AOps.m [35, 36, 37, 38] ⟨[sp 2, sp 3, (42, B true), (46, B (decide ((s.L.length : Int) ≤ 64)))], y20_0 g s⟩ ?_
 exact scd
 refine AOps.e ⟨[sp 2, sp 3, (z20_2 g s)], y20_0 g s⟩ ?_
 refine AC.seq ?_
 refine AC.q ⟨[sp 2, sp 3, (z20_2 g s), (z20_3 s), (z20_4 s), (51, I 0)], y20_0 g s⟩ ?_
 refine AC.block ?_
 refine AC.loop (ι := Nat × Bool) (fun x_ => match x_ with | (i, ok) => ⟨[sp 2, sp 3, (5, B ok), (z20_3 s), (z20_4 s), (51, I (i : Int))], y20_0 g s⟩) (fun x_ => match x_ with | (i, ok) => (i ≤ s.L.length ∧ chkS g s i ok)) (fun x_ => match x_ with | (i, ok) => s.L.length - i) (0, (((((gridCheck g) == 0) && ((s.Mark == (-1)) || (allIn [s.Mark]))) && (allIn [s.Late, s.Bad, s.N])) && (decide (s.Late ≤ (IntKind.i64.wrap (s.N - s.Bad))))) && (decide ((s.L.length : Int) ≤ 64))) (by exact ⟨by omega, chkS_zero (head20 g s)⟩) (Le.of (lk rfl (lk rfl (lk rfl (lk rfl (lk rfl (LeS.cons rfl (TLe.i (by rfl)) LeS.nil)))))) (ek rfl (ek rfl LeE.nil)) (by kernel_rfl)) ?_
 intro x_ hi_
 obtain ⟨i, ok⟩ := x_
 obtain ⟨i1, i2⟩ := hi_
 show AC _ _ ⟨[sp 2, sp 3, (5, B ok), (z20_3 s), (z20_4 s), (51, I (i : Int))], y20_0 g s⟩ _
 refine AC.q ⟨[sp 2, sp 3, (5, B ok), (z20_3 s), (z20_4 s), (51, I (i : Int)), (52, B (decide ((i : Int) < (s.L.length : Int))))], y20_0 g s⟩ ?_
 refine AC.seq ?_
 refine AC.cd (b := decide ((i : Int) < (s.L.length : Int))) (fun h_ => ?_) (fun h_ => ?_)
 have h4 := h_; have r4 := h_; clear h_; try simp only [bb] at h4
 refine AC.skip ?_
 refine AC.seq ?_
 refine AC.block ?_
 refine AC.rS [0, 1, 2, 3, 4, 5] ?_
 refine AOps.ec (C' := (0 ≤ (i : Int) ∧ (i : Int) < (s.L.length : Int)) ∧ True) ⟨[sp 2, sp 3, (5, B ok), (6, I (i : Int)), sp 7, (z20_3 s), (z20_4 s), (51, I (i : Int))], y20_1 g s i⟩ (⟨by first | omega | (rw [wrap_in (by omega) (by omega)]; omega), trivial⟩) ?_
 refine AC.seq ?_
 refine AC.q ⟨[sp 2, sp 3, (5, B ok), (6, I (i : Int)), sp 7, (z20_3 s), (z20_4 s), (51, I (i : Int)), (57, B (!ok))], y20_1 g s i⟩ ?_
 refine AC.cd (b := !ok) (fun h_ => ?_) (fun h_ => ?_)
 have h5 := h_; have r5 := h_; clear h_; try simp only [bb] at h5
 refine AC.exit ?_
 repeat (first | refine thenA_x ?_ | refine roundA_x ?_ | refine joinA_x ?_ | refine blockA_hit ?_ | refine blockA_miss (by decide) ?_)
 refine AC.seq ?_
 refine AC.q ⟨[(116, B (!ok))], []⟩ ?_
 refine AC.cd (b := !ok) (fun h_ => ?_) (fun h_ => ?_)
 have h6 := h_; have r6 := h_; clear h_; try simp only [bb] at h6
 refine AC.q ⟨[(4, I 1)], []⟩ ?_
 refine AC.ret ?_
 exact rqr (ustatecheck g s) (All2.cons (ULe.c (CLe.d (DLe.eq (congrArg dI (show (1) = (stateCheck g s) by first | exact check_ret1 (i := i) i2 (by assumption) | exact check_ret0 (i := i) i2 (by assumption) (by omega) | (exfalso; simp_all)))))) All2.nil)
 have h6 := h_; have r6 := h_; clear h_; try simp only [bb] at h6
 refine AC.skip ?_
 refine AC.q ⟨[(4, I 0)], []⟩ ?_
 refine AC.ret ?_
 exact rqr (ustatecheck g s) (All2.cons (ULe.c (CLe.d (DLe.eq (congrArg dI (show (0) = (stateCheck g s) by first | exact check_ret1 (i := i) i2 (by assumption) | exact check_ret0 (i := i) i2 (by assumption) (by omega) | (exfalso; simp_all)))))) All2.nil)
 have h5 := h_; have r5 := h_; clear h_; try simp only [bb] at h5
 refine AC.skip ?_
 have hh := (i2.1 (by cases ok <;> simp_all)).1
 have hS := headMay_spec hh; have hG := gridMay_spec hS.1
 have hmk : s.Mark ≤ 9223372036854775807 := by rcases hS.2.1 with e | e; omega; have := (inN_b e).2; omega
 refine AC.split (allIn [(s.L.getD i zCell).Key, (s.L.getD i zCell).Start]) (fun h_ => ?_) (fun h_ => ?_)
 have hs1 := h_
 have h6 := h_; have r6 := h_; clear h_; try simp only [bb] at h6
 refine AC.split (decide (((s.L.getD i zCell).Key) ≤ 1048576)) (fun h_ => ?_) (fun h_ => ?_)
 have hs2 := h_
 have h7 := h_; have r7 := h_; clear h_; try simp only [bb] at h7
 refine AC.split ((Int.tmod ((s.L.getD i zCell).Start) g.Hop) == 0) (fun h_ => ?_) (fun h_ => ?_)
 have hs3 := h_
 have h8 := h_; have r8 := h_; clear h_; try simp only [bb] at h8
 refine AC.split (decide (((s.L.getD i zCell).Start) ≤ s.Mark)) (fun h_ => ?_) (fun h_ => ?_)
 have hs4 := h_
 have h9 := h_; have r9 := h_; clear h_; try simp only [bb] at h9
 refine AC.split (!(gridClosed g ((s.L.getD i zCell).Start) s.Mark)) (fun h_ => ?_) (fun h_ => ?_)
 have hs5 := h_
 have h10 := h_; have r10 := h_; clear h_; try simp only [bb] at h10
 refine AC.split ((aggCheck ((s.L.getD i zCell).A)) == 0) (fun h_ => ?_) (fun h_ => ?_)
 have hs6 := h_
 have h11 := h_; have r11 := h_; clear h_; try simp only [bb] at h11
 refine AC.split ((i : Int) == 0) (fun h_ => ?_) (fun h_ => ?_)
 have hs7 := h_
 have h12 := h_; have r12 := h_; clear h_; try simp only [bb] at h12
 refine AC.dL 52 [] ⟨[sp 2, sp 3, (6, I (i : Int)), sp 7, (z20_3 s), (z20_4 s), (51, I (i : Int)), (58, tP 7 0), (z20_6 s i), (60, tP 7 1), (z20_7 s i), (z20_8 s i), (63, B true), (64, B true), (65, tP 7 0), (z20_9 s i), (67, B true), (68, B true), (69, B true), (70, tP 7 1), (z20_10 s i), (72, tP 2 1), (73, I g.Hop), (z20_11 g s i), (75, B true), (76, B true), (77, B true), (78, tP 7 1), (z20_12 s i), (80, tP 3 0), (81, I s.Mark), (82, B true), (83, B true), (84, B true), (z20_13 g), (86, tP 7 1), (z20_14 s i), (88, tP 3 0), (89, I s.Mark), (z20_15 g s i), (91, B true), (92, B true), (93, B true), (94, tP 7 2), (z20_16 s i), (z20_17 s i), (97, B true), (98, B true), (99, B true), (100, I (i : Int)), (101, B true), (102, B true), (103, tD (.v (undef))), (104, tD (.v (undef))), (105, tD (.v (undef))), (106, tD (.v (undef))), (107, tD (.v (undef))), (108, tD (.v (undef))), (109, tD (.v (undef)))], y20_1 g s i⟩ [52, 53, 54, 55, 56] (.inl rfl) ?_ ?_
 · exact (ar 8 (au (au (ar 2 (au (au (ar 4 (au (au (ar 7 (au (au (ar 5 (au (au (ar 6 (au (au (ar 2 (au (au (ar 4 AllUpTo.zero) (OpAt.lit rfl (by kernel_rfl) rfl (l := [dI ((s.L.getD i zCell).Key), dI ((s.L.getD i zCell).Start)]) (s := 1) (by kernel_rfl) rfl (by kernel_rfl) (x' := tD (row 1 eI 0 [(s.L.getD i zCell).Key, (s.L.getD i zCell).Start])) (by kernel_rfl) (TLe.d (DLe.sl rfl (fun i_ hi_ j_ hj_ => by rcases (show i_ = 0 ∨ i_ = 1 by omega) with rfl | rfl <;> (obtain rfl : j_ = 0 := by omega) <;> rfl))) (by kernel_rfl) (by kernel_rfl))) (OpAt.call rfl (by kernel_rfl) rfl rfl (f := 44) (by kernel_rfl) rfl (by kernel_rfl) (us := [.c (.d (row 1 eI 0 [(s.L.getD i zCell).Key, (s.L.getD i zCell).Start]))]) (by kernel_rfl) (x' := B true) (by kernel_rfl) (ok_within [(s.L.getD i zCell).Key, (s.L.getD i zCell).Start] (by first | assumption | simp)) (fun _ hr_ => hr_ ▸ TLe.b hs1) (by kernel_rfl) (by kernel_rfl)))) ot) (OpAt.val rfl (by kernel_rfl) (C' := True) (x := B (decide (((s.L.getD i zCell).Key) ≤ 1048576))) (by kernel_rfl) (trivial) rfl (by kernel_rfl) (x' := B true) (by kernel_rfl) (TLe.b hs2) (by kernel_rfl) (by kernel_rfl) (by kernel_rfl)))) (OpAt.val rfl (by kernel_rfl) (C' := g.Hop ≠ 0) (x := I (Int.tmod ((s.L.getD i zCell).Start) g.Hop)) (by kernel_rfl) (by omega) rfl (by kernel_rfl) (by kernel_rfl) (TLe.refl _) (by kernel_rfl) (by kernel_rfl) (by kernel_rfl))) (OpAt.val rfl (by kernel_rfl) (C' := True) (x := B ((Int.tmod ((s.L.getD i zCell).Start) g.Hop) == 0)) (by kernel_rfl) (trivial) rfl (by kernel_rfl) (x' := B true) (by kernel_rfl) (TLe.b hs3) (by kernel_rfl) (by kernel_rfl) (by kernel_rfl)))) ot) (OpAt.val rfl (by kernel_rfl) (C' := True) (x := B (decide (((s.L.getD i zCell).Start) ≤ s.Mark))) (by kernel_rfl) (trivial) rfl (by kernel_rfl) (x' := B true) (by kernel_rfl) (TLe.b hs4) (by kernel_rfl) (by kernel_rfl) (by kernel_rfl)))) (oc (ok_closed g ((s.L.getD i zCell).Start) s.Mark (by omega)))) (OpAt.val rfl (by kernel_rfl) (C' := True) (x := B (!(gridClosed g ((s.L.getD i zCell).Start) s.Mark))) (by kernel_rfl) (trivial) rfl (by kernel_rfl) (x' := B true) (by kernel_rfl) (TLe.b hs5) (by kernel_rfl) (by kernel_rfl) (by kernel_rfl)))) (oc (ok_foldcheck ((s.L.getD i zCell).A)))) (OpAt.val rfl (by kernel_rfl) (C' := True) (x := B ((aggCheck ((s.L.getD i zCell).A)) == 0)) (by kernel_rfl) (trivial) rfl (by kernel_rfl) (x' := B true) (by kernel_rfl) (TLe.b hs6) (by kernel_rfl) (by kernel_rfl) (by kernel_rfl)))) ot) (OpAt.val rfl (by kernel_rfl) (C' := True) (x := B ((i : Int) == 0)) (by kernel_rfl) (trivial) rfl (by kernel_rfl) (x' := B true) (by kernel_rfl) (TLe.b hs7) (by kernel_rfl) (by kernel_rfl) (by kernel_rfl))))
 refine AOps.e ⟨[sp 2, sp 3, (5, B true), (z20_3 s), (z20_4 s), (51, I (i : Int)), (65, tP 7 0), (z20_9 s i), (67, B true), (70, tP 7 1), (z20_10 s i), (72, tP 2 1), (73, I g.Hop), (z20_11 g s i), (75, B true), (78, tP 7 1), (z20_12 s i), (80, tP 3 0), (81, I s.Mark), (82, B true), (z20_13 g), (86, tP 7 1), (z20_14 s i), (88, tP 3 0), (89, I s.Mark), (z20_15 g s i), (91, B true), (94, tP 7 2), (z20_16 s i), (z20_17 s i), (97, B true), (100, I (i : Int)), (101, B true), (102, B true), (103, tD (.v (undef))), (104, tD (.v (undef))), (105, tD (.v (undef))), (106, tD (.v (undef))), (107, tD (.v (undef))), (108, tD (.v (undef))), (109, tD (.v (undef))), (110, tD (.v (undef))), (111, tD (.v (undef))), (112, B true)], y20_1 g s i⟩ ?_
 refine AC.qR ⟨[sp 2, sp 3, (5, B true), (z20_3 s), (z20_4 s), (z20_18 i), (65, tP 7 0), (z20_9 s i), (67, B true), (70, tP 7 1), (z20_10 s i), (72, tP 2 1), (73, I g.Hop), (z20_11 g s i), (75, B true), (78, tP 7 1), (z20_12 s i), (80, tP 3 0), (81, I s.Mark), (82, B true), (z20_13 g), (86, tP 7 1), (z20_14 s i), (88, tP 3 0), (89, I s.Mark), (z20_15 g s i), (91, B true), (94, tP 7 2), (z20_16 s i), (z20_17 s i), (97, B true), (100, I (i : Int)), (101, B true), (102, B true), (103, tD (.v (undef))), (104, tD (.v (undef))), (105, tD (.v (undef))), (106, tD (.v (undef))), (107, tD (.v (undef))), (108, tD (.v (undef))), (109, tD (.v (undef))), (110, tD (.v (undef))), (111, tD (.v (undef))), (112, B true)], y20_1 g s i⟩ ?_
 try refine blockA_n ?_
 exact roundA_n (i + 1, true) (by refine ⟨by omega, ?_⟩; exact chkS_step (by omega) i2 (by assumption) (by first | (rw [ord_v (by omega) (by omega), ← cell20 g s]; simp_all; done) | (rw [← cell20 g s]; simp_all <;> (intros; omega)) | (rw [← cell20 g s, ord_0 (L := s.L) (i := i) (by omega)]; simp_all; done))) (by show s.L.length - (i + 1) < s.L.length - i; omega) (Le.of (lk rfl (lk rfl (lk rfl (lk rfl (lk rfl (LeS.cons rfl (TLe.i (by first | omega | (rw [wrap_in (by omega) (by omega)]; omega))) LeS.nil)))))) (ek rfl (ek rfl LeE.nil)) (by kernel_rfl))
 have hs7 := h_
 have h12 := h_; have r12 := h_; clear h_; try simp only [bb] at h12
 refine AC.dL 52 [] ⟨[sp 2, sp 3, (6, I (i : Int)), sp 7, (z20_3 s), (z20_4 s), (51, I (i : Int)), (58, tP 7 0), (z20_6 s i), (60, tP 7 1), (z20_7 s i), (z20_8 s i), (63, B true), (64, B true), (65, tP 7 0), (z20_9 s i), (67, B true), (68, B true), (69, B true), (70, tP 7 1), (z20_10 s i), (72, tP 2 1), (73, I g.Hop), (z20_11 g s i), (75, B true), (76, B true), (77, B true), (78, tP 7 1), (z20_12 s i), (80, tP 3 0), (81, I s.Mark), (82, B true), (83, B true), (84, B true), (z20_13 g), (86, tP 7 1), (z20_14 s i), (88, tP 3 0), (89, I s.Mark), (z20_15 g s i), (91, B true), (92, B true), (93, B true), (94, tP 7 2), (z20_16 s i), (z20_17 s i), (97, B true), (98, B true), (99, B true), (100, I (i : Int)), (101, B false), (102, B false), (103, tP 3 4), (104, tD (row 12 eCell zCell s.L)), (105, I (i : Int)), (z20_19 i), (z20_20 s i), (z20_21 s i), (z20_22 s i)], y20_1 g s i⟩ [52, 53, 54, 55, 56] (.inl rfl) ?_ ?_
 · exact (ar 2 (au (au (ar 4 (au (au (ar 2 (au (au (ar 4 (au (au (ar 7 (au (au (ar 5 (au (au (ar 6 (au (au (ar 2 (au (au (ar 4 AllUpTo.zero) (OpAt.lit rfl (by kernel_rfl) rfl (l := [dI ((s.L.getD i zCell).Key), dI ((s.L.getD i zCell).Start)]) (s := 1) (by kernel_rfl) rfl (by kernel_rfl) (x' := tD (row 1 eI 0 [(s.L.getD i zCell).Key, (s.L.getD i zCell).Start])) (by kernel_rfl) (TLe.d (DLe.sl rfl (fun i_ hi_ j_ hj_ => by rcases (show i_ = 0 ∨ i_ = 1 by omega) with rfl | rfl <;> (obtain rfl : j_ = 0 := by omega) <;> rfl))) (by kernel_rfl) (by kernel_rfl))) (OpAt.call rfl (by kernel_rfl) rfl rfl (f := 44) (by kernel_rfl) rfl (by kernel_rfl) (us := [.c (.d (row 1 eI 0 [(s.L.getD i zCell).Key, (s.L.getD i zCell).Start]))]) (by kernel_rfl) (x' := B true) (by kernel_rfl) (ok_within [(s.L.getD i zCell).Key, (s.L.getD i zCell).Start] (by first | assumption | simp)) (fun _ hr_ => hr_ ▸ TLe.b hs1) (by kernel_rfl) (by kernel_rfl)))) ot) (OpAt.val rfl (by kernel_rfl) (C' := True) (x := B (decide (((s.L.getD i zCell).Key) ≤ 1048576))) (by kernel_rfl) (trivial) rfl (by kernel_rfl) (x' := B true) (by kernel_rfl) (TLe.b hs2) (by kernel_rfl) (by kernel_rfl) (by kernel_rfl)))) (OpAt.val rfl (by kernel_rfl) (C' := g.Hop ≠ 0) (x := I (Int.tmod ((s.L.getD i zCell).Start) g.Hop)) (by kernel_rfl) (by omega) rfl (by kernel_rfl) (by kernel_rfl) (TLe.refl _) (by kernel_rfl) (by kernel_rfl) (by kernel_rfl))) (OpAt.val rfl (by kernel_rfl) (C' := True) (x := B ((Int.tmod ((s.L.getD i zCell).Start) g.Hop) == 0)) (by kernel_rfl) (trivial) rfl (by kernel_rfl) (x' := B true) (by kernel_rfl) (TLe.b hs3) (by kernel_rfl) (by kernel_rfl) (by kernel_rfl)))) ot) (OpAt.val rfl (by kernel_rfl) (C' := True) (x := B (decide (((s.L.getD i zCell).Start) ≤ s.Mark))) (by kernel_rfl) (trivial) rfl (by kernel_rfl) (x' := B true) (by kernel_rfl) (TLe.b hs4) (by kernel_rfl) (by kernel_rfl) (by kernel_rfl)))) (oc (ok_closed g ((s.L.getD i zCell).Start) s.Mark (by omega)))) (OpAt.val rfl (by kernel_rfl) (C' := True) (x := B (!(gridClosed g ((s.L.getD i zCell).Start) s.Mark))) (by kernel_rfl) (trivial) rfl (by kernel_rfl) (x' := B true) (by kernel_rfl) (TLe.b hs5) (by kernel_rfl) (by kernel_rfl) (by kernel_rfl)))) (oc (ok_foldcheck ((s.L.getD i zCell).A)))) (OpAt.val rfl (by kernel_rfl) (C' := True) (x := B ((aggCheck ((s.L.getD i zCell).A)) == 0)) (by kernel_rfl) (trivial) rfl (by kernel_rfl) (x' := B true) (by kernel_rfl) (TLe.b hs6) (by kernel_rfl) (by kernel_rfl) (by kernel_rfl)))) ot) (OpAt.val rfl (by kernel_rfl) (C' := True) (x := B ((i : Int) == 0)) (by kernel_rfl) (trivial) rfl (by kernel_rfl) (x' := B false) (by kernel_rfl) (TLe.b hs7) (by kernel_rfl) (by kernel_rfl) (by kernel_rfl)))) ot) (OpAt.val rfl (by kernel_rfl) (C' := 0 ≤ IntKind.i64.wrap ((i : Int) - 1) ∧ IntKind.i64.wrap ((i : Int) - 1) < (s.L.length : Int)) (x := .one (.c (.ip 12 (fun j_ => nth (eCell (s.L.getD ((IntKind.i64.wrap ((i : Int) - 1)).toNat) zCell)) j_)))) (by kernel_rfl) (by first | omega | (rw [wrap_in (by omega) (by omega)]; omega)) rfl (by kernel_rfl) (by kernel_rfl) (TLe.refl _) (by kernel_rfl) (by kernel_rfl) (by kernel_rfl))))
 refine AOps.ca (ok_order (s.L.getD ((IntKind.i64.wrap ((i : Int) - 1)).toNat) zCell) (s.L.getD i zCell)) ?_
 rintro _ rfl
 refine AOps.e ⟨[sp 2, sp 3, (z20_23 s i), (z20_3 s), (z20_4 s), (51, I (i : Int)), (65, tP 7 0), (z20_9 s i), (67, B true), (70, tP 7 1), (z20_10 s i), (72, tP 2 1), (73, I g.Hop), (z20_11 g s i), (75, B true), (78, tP 7 1), (z20_12 s i), (80, tP 3 0), (81, I s.Mark), (82, B true), (z20_13 g), (86, tP 7 1), (z20_14 s i), (88, tP 3 0), (89, I s.Mark), (z20_15 g s i), (91, B true), (94, tP 7 2), (z20_16 s i), (z20_17 s i), (97, B true), (100, I (i : Int)), (101, B false), (102, B false), (103, tP 3 4), (104, tD (row 12 eCell zCell s.L)), (105, I (i : Int)), (z20_19 i), (z20_20 s i), (z20_21 s i), (z20_22 s i), (z20_24 s i), (z20_25 s i), (z20_26 s i)], y20_1 g s i⟩ ?_
 refine AC.qR ⟨[sp 2, sp 3, (z20_23 s i), (z20_3 s), (z20_4 s), (z20_18 i), (65, tP 7 0), (z20_9 s i), (67, B true), (70, tP 7 1), (z20_10 s i), (72, tP 2 1), (73, I g.Hop), (z20_11 g s i), (75, B true), (78, tP 7 1), (z20_12 s i), (80, tP 3 0), (81, I s.Mark), (82, B true), (z20_13 g), (86, tP 7 1), (z20_14 s i), (88, tP 3 0), (89, I s.Mark), (z20_15 g s i), (91, B true), (94, tP 7 2), (z20_16 s i), (z20_17 s i), (97, B true), (100, I (i : Int)), (101, B false), (102, B false), (103, tP 3 4), (104, tD (row 12 eCell zCell s.L)), (105, I (i : Int)), (z20_19 i), (z20_20 s i), (z20_21 s i), (z20_22 s i), (z20_24 s i), (z20_25 s i), (z20_26 s i)], y20_1 g s i⟩ ?_
 try refine blockA_n ?_
 exact roundA_n (i + 1, decide ((orI [cmpI (s.L.getD ((IntKind.i64.wrap ((i : Int) - 1)).toNat) zCell).Start (s.L.getD i zCell).Start, cmpI (s.L.getD ((IntKind.i64.wrap ((i : Int) - 1)).toNat) zCell).Key (s.L.getD i zCell).Key]) < 0)) (by refine ⟨by omega, ?_⟩; exact chkS_step (by omega) i2 (by assumption) (by first | (rw [ord_v (by omega) (by omega), ← cell20 g s]; simp_all; done) | (rw [← cell20 g s]; simp_all <;> (intros; omega)) | (rw [← cell20 g s, ord_0 (L := s.L) (i := i) (by omega)]; simp_all; done))) (by show s.L.length - (i + 1) < s.L.length - i; omega) (Le.of (lk rfl (lk rfl (lk rfl (lk rfl (lk rfl (LeS.cons rfl (TLe.i (by first | omega | (rw [wrap_in (by omega) (by omega)]; omega))) LeS.nil)))))) (ek rfl (ek rfl LeE.nil)) (by kernel_rfl))
 have hs6 := h_
 have h11 := h_; have r11 := h_; clear h_; try simp only [bb] at h11
 refine AC.dL 52 [] ⟨[sp 2, sp 3, (6, I (i : Int)), sp 7, (z20_3 s), (z20_4 s), (51, I (i : Int)), (58, tP 7 0), (z20_6 s i), (60, tP 7 1), (z20_7 s i), (z20_8 s i), (63, B true), (64, B true), (65, tP 7 0), (z20_9 s i), (67, B true), (68, B true), (69, B true), (70, tP 7 1), (z20_10 s i), (72, tP 2 1), (73, I g.Hop), (z20_11 g s i), (75, B true), (76, B true), (77, B true), (78, tP 7 1), (z20_12 s i), (80, tP 3 0), (81, I s.Mark), (82, B true), (83, B true), (84, B true), (z20_13 g), (86, tP 7 1), (z20_14 s i), (88, tP 3 0), (89, I s.Mark), (z20_15 g s i), (91, B true), (92, B true), (93, B true), (94, tP 7 2), (z20_16 s i), (z20_17 s i), (97, B false), (98, B false), (99, B false), (100, tD (.v (undef))), (101, tD (.v (undef))), (102, tD (.v (undef))), (103, tD (.v (undef))), (104, tD (.v (undef))), (105, tD (.v (undef))), (106, tD (.v (undef))), (107, tD (.v (undef))), (108, tD (.v (undef))), (109, tD (.v (undef)))], y20_1 g s i⟩ [52, 53, 54, 55, 56] (.inl rfl) ?_ ?_
 · exact (ar 12 (au (au (ar 4 (au (au (ar 7 (au (au (ar 5 (au (au (ar 6 (au (au (ar 2 (au (au (ar 4 AllUpTo.zero) (OpAt.lit rfl (by kernel_rfl) rfl (l := [dI ((s.L.getD i zCell).Key), dI ((s.L.getD i zCell).Start)]) (s := 1) (by kernel_rfl) rfl (by kernel_rfl) (x' := tD (row 1 eI 0 [(s.L.getD i zCell).Key, (s.L.getD i zCell).Start])) (by kernel_rfl) (TLe.d (DLe.sl rfl (fun i_ hi_ j_ hj_ => by rcases (show i_ = 0 ∨ i_ = 1 by omega) with rfl | rfl <;> (obtain rfl : j_ = 0 := by omega) <;> rfl))) (by kernel_rfl) (by kernel_rfl))) (OpAt.call rfl (by kernel_rfl) rfl rfl (f := 44) (by kernel_rfl) rfl (by kernel_rfl) (us := [.c (.d (row 1 eI 0 [(s.L.getD i zCell).Key, (s.L.getD i zCell).Start]))]) (by kernel_rfl) (x' := B true) (by kernel_rfl) (ok_within [(s.L.getD i zCell).Key, (s.L.getD i zCell).Start] (by first | assumption | simp)) (fun _ hr_ => hr_ ▸ TLe.b hs1) (by kernel_rfl) (by kernel_rfl)))) ot) (OpAt.val rfl (by kernel_rfl) (C' := True) (x := B (decide (((s.L.getD i zCell).Key) ≤ 1048576))) (by kernel_rfl) (trivial) rfl (by kernel_rfl) (x' := B true) (by kernel_rfl) (TLe.b hs2) (by kernel_rfl) (by kernel_rfl) (by kernel_rfl)))) (OpAt.val rfl (by kernel_rfl) (C' := g.Hop ≠ 0) (x := I (Int.tmod ((s.L.getD i zCell).Start) g.Hop)) (by kernel_rfl) (by omega) rfl (by kernel_rfl) (by kernel_rfl) (TLe.refl _) (by kernel_rfl) (by kernel_rfl) (by kernel_rfl))) (OpAt.val rfl (by kernel_rfl) (C' := True) (x := B ((Int.tmod ((s.L.getD i zCell).Start) g.Hop) == 0)) (by kernel_rfl) (trivial) rfl (by kernel_rfl) (x' := B true) (by kernel_rfl) (TLe.b hs3) (by kernel_rfl) (by kernel_rfl) (by kernel_rfl)))) ot) (OpAt.val rfl (by kernel_rfl) (C' := True) (x := B (decide (((s.L.getD i zCell).Start) ≤ s.Mark))) (by kernel_rfl) (trivial) rfl (by kernel_rfl) (x' := B true) (by kernel_rfl) (TLe.b hs4) (by kernel_rfl) (by kernel_rfl) (by kernel_rfl)))) (oc (ok_closed g ((s.L.getD i zCell).Start) s.Mark (by omega)))) (OpAt.val rfl (by kernel_rfl) (C' := True) (x := B (!(gridClosed g ((s.L.getD i zCell).Start) s.Mark))) (by kernel_rfl) (trivial) rfl (by kernel_rfl) (x' := B true) (by kernel_rfl) (TLe.b hs5) (by kernel_rfl) (by kernel_rfl) (by kernel_rfl)))) (oc (ok_foldcheck ((s.L.getD i zCell).A)))) (OpAt.val rfl (by kernel_rfl) (C' := True) (x := B ((aggCheck ((s.L.getD i zCell).A)) == 0)) (by kernel_rfl) (trivial) rfl (by kernel_rfl) (x' := B false) (by kernel_rfl) (TLe.b hs6) (by kernel_rfl) (by kernel_rfl) (by kernel_rfl))))
 refine AOps.e ⟨[sp 2, sp 3, (5, B false), (z20_3 s), (z20_4 s), (51, I (i : Int)), (65, tP 7 0), (z20_9 s i), (67, B true), (70, tP 7 1), (z20_10 s i), (72, tP 2 1), (73, I g.Hop), (z20_11 g s i), (75, B true), (78, tP 7 1), (z20_12 s i), (80, tP 3 0), (81, I s.Mark), (82, B true), (z20_13 g), (86, tP 7 1), (z20_14 s i), (88, tP 3 0), (89, I s.Mark), (z20_15 g s i), (91, B true), (94, tP 7 2), (z20_16 s i), (z20_17 s i), (97, B false), (100, tD (.v (undef))), (101, tD (.v (undef))), (102, tD (.v (undef))), (103, tD (.v (undef))), (104, tD (.v (undef))), (105, tD (.v (undef))), (106, tD (.v (undef))), (107, tD (.v (undef))), (108, tD (.v (undef))), (109, tD (.v (undef))), (110, tD (.v (undef))), (111, tD (.v (undef))), (112, tD (.v (undef)))], y20_1 g s i⟩ ?_
 refine AC.qR ⟨[sp 2, sp 3, (5, B false), (z20_3 s), (z20_4 s), (z20_18 i), (65, tP 7 0), (z20_9 s i), (67, B true), (70, tP 7 1), (z20_10 s i), (72, tP 2 1), (73, I g.Hop), (z20_11 g s i), (75, B true), (78, tP 7 1), (z20_12 s i), (80, tP 3 0), (81, I s.Mark), (82, B true), (z20_13 g), (86, tP 7 1), (z20_14 s i), (88, tP 3 0), (89, I s.Mark), (z20_15 g s i), (91, B true), (94, tP 7 2), (z20_16 s i), (z20_17 s i), (97, B false), (100, tD (.v (undef))), (101, tD (.v (undef))), (102, tD (.v (undef))), (103, tD (.v (undef))), (104, tD (.v (undef))), (105, tD (.v (undef))), (106, tD (.v (undef))), (107, tD (.v (undef))), (108, tD (.v (undef))), (109, tD (.v (undef))), (110, tD (.v (undef))), (111, tD (.v (undef))), (112, tD (.v (undef)))], y20_1 g s i⟩ ?_
 try refine blockA_n ?_
 exact roundA_n (i + 1, false) (by refine ⟨by omega, ?_⟩; exact chkS_step (by omega) i2 (by assumption) (by first | (rw [ord_v (by omega) (by omega), ← cell20 g s]; simp_all; done) | (rw [← cell20 g s]; simp_all <;> (intros; omega)) | (rw [← cell20 g s, ord_0 (L := s.L) (i := i) (by omega)]; simp_all; done))) (by show s.L.length - (i + 1) < s.L.length - i; omega) (Le.of (lk rfl (lk rfl (lk rfl (lk rfl (lk rfl (LeS.cons rfl (TLe.i (by first | omega | (rw [wrap_in (by omega) (by omega)]; omega))) LeS.nil)))))) (ek rfl (ek rfl LeE.nil)) (by kernel_rfl))
 have hs5 := h_
 have h10 := h_; have r10 := h_; clear h_; try simp only [bb] at h10
 refine AC.dL 52 [] ⟨[sp 2, sp 3, (6, I (i : Int)), sp 7, (z20_3 s), (z20_4 s), (51, I (i : Int)), (58, tP 7 0), (z20_6 s i), (60, tP 7 1), (z20_7 s i), (z20_8 s i), (63, B true), (64, B true), (65, tP 7 0), (z20_9 s i), (67, B true), (68, B true), (69, B true), (70, tP 7 1), (z20_10 s i), (72, tP 2 1), (73, I g.Hop), (z20_11 g s i), (75, B true), (76, B true), (77, B true), (78, tP 7 1), (z20_12 s i), (80, tP 3 0), (81, I s.Mark), (82, B true), (83, B true), (84, B true), (z20_13 g), (86, tP 7 1), (z20_14 s i), (88, tP 3 0), (89, I s.Mark), (z20_15 g s i), (91, B false), (92, B false), (93, B false), (94, tD (.v (undef))), (95, tD (.v (undef))), (96, tD (.v (undef))), (97, tD (.v (undef))), (98, B false), (99, B false), (100, tD (.v (undef))), (101, tD (.v (undef))), (102, tD (.v (undef))), (103, tD (.v (undef))), (104, tD (.v (undef))), (105, tD (.v (undef))), (106, tD (.v (undef))), (107, tD (.v (undef))), (108, tD (.v (undef))), (109, tD (.v (undef)))], y20_1 g s i⟩ [52, 53, 54, 55, 56] (.inl rfl) ?_ ?_
 · exact (ar 18 (au (au (ar 7 (au (au (ar 5 (au (au (ar 6 (au (au (ar 2 (au (au (ar 4 AllUpTo.zero) (OpAt.lit rfl (by kernel_rfl) rfl (l := [dI ((s.L.getD i zCell).Key), dI ((s.L.getD i zCell).Start)]) (s := 1) (by kernel_rfl) rfl (by kernel_rfl) (x' := tD (row 1 eI 0 [(s.L.getD i zCell).Key, (s.L.getD i zCell).Start])) (by kernel_rfl) (TLe.d (DLe.sl rfl (fun i_ hi_ j_ hj_ => by rcases (show i_ = 0 ∨ i_ = 1 by omega) with rfl | rfl <;> (obtain rfl : j_ = 0 := by omega) <;> rfl))) (by kernel_rfl) (by kernel_rfl))) (OpAt.call rfl (by kernel_rfl) rfl rfl (f := 44) (by kernel_rfl) rfl (by kernel_rfl) (us := [.c (.d (row 1 eI 0 [(s.L.getD i zCell).Key, (s.L.getD i zCell).Start]))]) (by kernel_rfl) (x' := B true) (by kernel_rfl) (ok_within [(s.L.getD i zCell).Key, (s.L.getD i zCell).Start] (by first | assumption | simp)) (fun _ hr_ => hr_ ▸ TLe.b hs1) (by kernel_rfl) (by kernel_rfl)))) ot) (OpAt.val rfl (by kernel_rfl) (C' := True) (x := B (decide (((s.L.getD i zCell).Key) ≤ 1048576))) (by kernel_rfl) (trivial) rfl (by kernel_rfl) (x' := B true) (by kernel_rfl) (TLe.b hs2) (by kernel_rfl) (by kernel_rfl) (by kernel_rfl)))) (OpAt.val rfl (by kernel_rfl) (C' := g.Hop ≠ 0) (x := I (Int.tmod ((s.L.getD i zCell).Start) g.Hop)) (by kernel_rfl) (by omega) rfl (by kernel_rfl) (by kernel_rfl) (TLe.refl _) (by kernel_rfl) (by kernel_rfl) (by kernel_rfl))) (OpAt.val rfl (by kernel_rfl) (C' := True) (x := B ((Int.tmod ((s.L.getD i zCell).Start) g.Hop) == 0)) (by kernel_rfl) (trivial) rfl (by kernel_rfl) (x' := B true) (by kernel_rfl) (TLe.b hs3) (by kernel_rfl) (by kernel_rfl) (by kernel_rfl)))) ot) (OpAt.val rfl (by kernel_rfl) (C' := True) (x := B (decide (((s.L.getD i zCell).Start) ≤ s.Mark))) (by kernel_rfl) (trivial) rfl (by kernel_rfl) (x' := B true) (by kernel_rfl) (TLe.b hs4) (by kernel_rfl) (by kernel_rfl) (by kernel_rfl)))) (oc (ok_closed g ((s.L.getD i zCell).Start) s.Mark (by omega)))) (OpAt.val rfl (by kernel_rfl) (C' := True) (x := B (!(gridClosed g ((s.L.getD i zCell).Start) s.Mark))) (by kernel_rfl) (trivial) rfl (by kernel_rfl) (x' := B false) (by kernel_rfl) (TLe.b hs5) (by kernel_rfl) (by kernel_rfl) (by kernel_rfl))))
 refine AOps.e ⟨[sp 2, sp 3, (5, B false), (z20_3 s), (z20_4 s), (51, I (i : Int)), (65, tP 7 0), (z20_9 s i), (67, B true), (70, tP 7 1), (z20_10 s i), (72, tP 2 1), (73, I g.Hop), (z20_11 g s i), (75, B true), (78, tP 7 1), (z20_12 s i), (80, tP 3 0), (81, I s.Mark), (82, B true), (z20_13 g), (86, tP 7 1), (z20_14 s i), (88, tP 3 0), (89, I s.Mark), (z20_15 g s i), (91, B false), (94, tD (.v (undef))), (95, tD (.v (undef))), (96, tD (.v (undef))), (97, tD (.v (undef))), (100, tD (.v (undef))), (101, tD (.v (undef))), (102, tD (.v (undef))), (103, tD (.v (undef))), (104, tD (.v (undef))), (105, tD (.v (undef))), (106, tD (.v (undef))), (107, tD (.v (undef))), (108, tD (.v (undef))), (109, tD (.v (undef))), (110, tD (.v (undef))), (111, tD (.v (undef))), (112, tD (.v (undef)))], y20_1 g s i⟩ ?_
 refine AC.qR ⟨[sp 2, sp 3, (5, B false), (z20_3 s), (z20_4 s), (z20_18 i), (65, tP 7 0), (z20_9 s i), (67, B true), (70, tP 7 1), (z20_10 s i), (72, tP 2 1), (73, I g.Hop), (z20_11 g s i), (75, B true), (78, tP 7 1), (z20_12 s i), (80, tP 3 0), (81, I s.Mark), (82, B true), (z20_13 g), (86, tP 7 1), (z20_14 s i), (88, tP 3 0), (89, I s.Mark), (z20_15 g s i), (91, B false), (94, tD (.v (undef))), (95, tD (.v (undef))), (96, tD (.v (undef))), (97, tD (.v (undef))), (100, tD (.v (undef))), (101, tD (.v (undef))), (102, tD (.v (undef))), (103, tD (.v (undef))), (104, tD (.v (undef))), (105, tD (.v (undef))), (106, tD (.v (undef))), (107, tD (.v (undef))), (108, tD (.v (undef))), (109, tD (.v (undef))), (110, tD (.v (undef))), (111, tD (.v (undef))), (112, tD (.v (undef)))], y20_1 g s i⟩ ?_
 try refine blockA_n ?_
 exact roundA_n (i + 1, false) (by refine ⟨by omega, ?_⟩; exact chkS_step (by omega) i2 (by assumption) (by first | (rw [ord_v (by omega) (by omega), ← cell20 g s]; simp_all; done) | (rw [← cell20 g s]; simp_all <;> (intros; omega)) | (rw [← cell20 g s, ord_0 (L := s.L) (i := i) (by omega)]; simp_all; done))) (by show s.L.length - (i + 1) < s.L.length - i; omega) (Le.of (lk rfl (lk rfl (lk rfl (lk rfl (lk rfl (LeS.cons rfl (TLe.i (by first | omega | (rw [wrap_in (by omega) (by omega)]; omega))) LeS.nil)))))) (ek rfl (ek rfl LeE.nil)) (by kernel_rfl))
 have hs4 := h_
 have h9 := h_; have r9 := h_; clear h_; try simp only [bb] at h9
 refine AC.dL 52 [] ⟨[sp 2, sp 3, (6, I (i : Int)), sp 7, (z20_3 s), (z20_4 s), (51, I (i : Int)), (58, tP 7 0), (z20_6 s i), (60, tP 7 1), (z20_7 s i), (z20_8 s i), (63, B true), (64, B true), (65, tP 7 0), (z20_9 s i), (67, B true), (68, B true), (69, B true), (70, tP 7 1), (z20_10 s i), (72, tP 2 1), (73, I g.Hop), (z20_11 g s i), (75, B true), (76, B true), (77, B true), (78, tP 7 1), (z20_12 s i), (80, tP 3 0), (81, I s.Mark), (82, B false), (83, B false), (84, B false), (85, tD (.v (undef))), (86, tD (.v (undef))), (87, tD (.v (undef))), (88, tD (.v (undef))), (89, tD (.v (undef))), (90, tD (.v (undef))), (91, tD (.v (undef))), (92, B false), (93, B false), (94, tD (.v (undef))), (95, tD (.v (undef))), (96, tD (.v (undef))), (97, tD (.v (undef))), (98, B false), (99, B false), (100, tD (.v (undef))), (101, tD (.v (undef))), (102, tD (.v (undef))), (103, tD (.v (undef))), (104, tD (.v (undef))), (105, tD (.v (undef))), (106, tD (.v (undef))), (107, tD (.v (undef))), (108, tD (.v (undef))), (109, tD (.v (undef)))], y20_1 g s i⟩ [52, 53, 54, 55, 56] (.inl rfl) ?_ ?_
 · exact (ar 27 (au (au (ar 5 (au (au (ar 6 (au (au (ar 2 (au (au (ar 4 AllUpTo.zero) (OpAt.lit rfl (by kernel_rfl) rfl (l := [dI ((s.L.getD i zCell).Key), dI ((s.L.getD i zCell).Start)]) (s := 1) (by kernel_rfl) rfl (by kernel_rfl) (x' := tD (row 1 eI 0 [(s.L.getD i zCell).Key, (s.L.getD i zCell).Start])) (by kernel_rfl) (TLe.d (DLe.sl rfl (fun i_ hi_ j_ hj_ => by rcases (show i_ = 0 ∨ i_ = 1 by omega) with rfl | rfl <;> (obtain rfl : j_ = 0 := by omega) <;> rfl))) (by kernel_rfl) (by kernel_rfl))) (OpAt.call rfl (by kernel_rfl) rfl rfl (f := 44) (by kernel_rfl) rfl (by kernel_rfl) (us := [.c (.d (row 1 eI 0 [(s.L.getD i zCell).Key, (s.L.getD i zCell).Start]))]) (by kernel_rfl) (x' := B true) (by kernel_rfl) (ok_within [(s.L.getD i zCell).Key, (s.L.getD i zCell).Start] (by first | assumption | simp)) (fun _ hr_ => hr_ ▸ TLe.b hs1) (by kernel_rfl) (by kernel_rfl)))) ot) (OpAt.val rfl (by kernel_rfl) (C' := True) (x := B (decide (((s.L.getD i zCell).Key) ≤ 1048576))) (by kernel_rfl) (trivial) rfl (by kernel_rfl) (x' := B true) (by kernel_rfl) (TLe.b hs2) (by kernel_rfl) (by kernel_rfl) (by kernel_rfl)))) (OpAt.val rfl (by kernel_rfl) (C' := g.Hop ≠ 0) (x := I (Int.tmod ((s.L.getD i zCell).Start) g.Hop)) (by kernel_rfl) (by omega) rfl (by kernel_rfl) (by kernel_rfl) (TLe.refl _) (by kernel_rfl) (by kernel_rfl) (by kernel_rfl))) (OpAt.val rfl (by kernel_rfl) (C' := True) (x := B ((Int.tmod ((s.L.getD i zCell).Start) g.Hop) == 0)) (by kernel_rfl) (trivial) rfl (by kernel_rfl) (x' := B true) (by kernel_rfl) (TLe.b hs3) (by kernel_rfl) (by kernel_rfl) (by kernel_rfl)))) ot) (OpAt.val rfl (by kernel_rfl) (C' := True) (x := B (decide (((s.L.getD i zCell).Start) ≤ s.Mark))) (by kernel_rfl) (trivial) rfl (by kernel_rfl) (x' := B false) (by kernel_rfl) (TLe.b hs4) (by kernel_rfl) (by kernel_rfl) (by kernel_rfl))))
 refine AOps.e ⟨[sp 2, sp 3, (5, B false), (z20_3 s), (z20_4 s), (51, I (i : Int)), (65, tP 7 0), (z20_9 s i), (67, B true), (70, tP 7 1), (z20_10 s i), (72, tP 2 1), (73, I g.Hop), (z20_11 g s i), (75, B true), (78, tP 7 1), (z20_12 s i), (80, tP 3 0), (81, I s.Mark), (82, B false), (85, tD (.v (undef))), (86, tD (.v (undef))), (87, tD (.v (undef))), (88, tD (.v (undef))), (89, tD (.v (undef))), (90, tD (.v (undef))), (91, tD (.v (undef))), (94, tD (.v (undef))), (95, tD (.v (undef))), (96, tD (.v (undef))), (97, tD (.v (undef))), (100, tD (.v (undef))), (101, tD (.v (undef))), (102, tD (.v (undef))), (103, tD (.v (undef))), (104, tD (.v (undef))), (105, tD (.v (undef))), (106, tD (.v (undef))), (107, tD (.v (undef))), (108, tD (.v (undef))), (109, tD (.v (undef))), (110, tD (.v (undef))), (111, tD (.v (undef))), (112, tD (.v (undef)))], y20_1 g s i⟩ ?_
 refine AC.qR ⟨[sp 2, sp 3, (5, B false), (z20_3 s), (z20_4 s), (z20_18 i), (65, tP 7 0), (z20_9 s i), (67, B true), (70, tP 7 1), (z20_10 s i), (72, tP 2 1), (73, I g.Hop), (z20_11 g s i), (75, B true), (78, tP 7 1), (z20_12 s i), (80, tP 3 0), (81, I s.Mark), (82, B false), (85, tD (.v (undef))), (86, tD (.v (undef))), (87, tD (.v (undef))), (88, tD (.v (undef))), (89, tD (.v (undef))), (90, tD (.v (undef))), (91, tD (.v (undef))), (94, tD (.v (undef))), (95, tD (.v (undef))), (96, tD (.v (undef))), (97, tD (.v (undef))), (100, tD (.v (undef))), (101, tD (.v (undef))), (102, tD (.v (undef))), (103, tD (.v (undef))), (104, tD (.v (undef))), (105, tD (.v (undef))), (106, tD (.v (undef))), (107, tD (.v (undef))), (108, tD (.v (undef))), (109, tD (.v (undef))), (110, tD (.v (undef))), (111, tD (.v (undef))), (112, tD (.v (undef)))], y20_1 g s i⟩ ?_
 try refine blockA_n ?_
 exact roundA_n (i + 1, false) (by refine ⟨by omega, ?_⟩; exact chkS_step (by omega) i2 (by assumption) (by first | (rw [ord_v (by omega) (by omega), ← cell20 g s]; simp_all; done) | (rw [← cell20 g s]; simp_all <;> (intros; omega)) | (rw [← cell20 g s, ord_0 (L := s.L) (i := i) (by omega)]; simp_all; done))) (by show s.L.length - (i + 1) < s.L.length - i; omega) (Le.of (lk rfl (lk rfl (lk rfl (lk rfl (lk rfl (LeS.cons rfl (TLe.i (by first | omega | (rw [wrap_in (by omega) (by omega)]; omega))) LeS.nil)))))) (ek rfl (ek rfl LeE.nil)) (by kernel_rfl))
 have hs3 := h_
 have h8 := h_; have r8 := h_; clear h_; try simp only [bb] at h8
 refine AC.dL 52 [] ⟨[sp 2, sp 3, (6, I (i : Int)), sp 7, (z20_3 s), (z20_4 s), (51, I (i : Int)), (58, tP 7 0), (z20_6 s i), (60, tP 7 1), (z20_7 s i), (z20_8 s i), (63, B true), (64, B true), (65, tP 7 0), (z20_9 s i), (67, B true), (68, B true), (69, B true), (70, tP 7 1), (z20_10 s i), (72, tP 2 1), (73, I g.Hop), (z20_11 g s i), (75, B false), (76, B false), (77, B false), (78, tD (.v (undef))), (79, tD (.v (undef))), (80, tD (.v (undef))), (81, tD (.v (undef))), (82, tD (.v (undef))), (83, B false), (84, B false), (85, tD (.v (undef))), (86, tD (.v (undef))), (87, tD (.v (undef))), (88, tD (.v (undef))), (89, tD (.v (undef))), (90, tD (.v (undef))), (91, tD (.v (undef))), (92, B false), (93, B false), (94, tD (.v (undef))), (95, tD (.v (undef))), (96, tD (.v (undef))), (97, tD (.v (undef))), (98, B false), (99, B false), (100, tD (.v (undef))), (101, tD (.v (undef))), (102, tD (.v (undef))), (103, tD (.v (undef))), (104, tD (.v (undef))), (105, tD (.v (undef))), (106, tD (.v (undef))), (107, tD (.v (undef))), (108, tD (.v (undef))), (109, tD (.v (undef)))], y20_1 g s i⟩ [52, 53, 54, 55, 56] (.inl rfl) ?_ ?_
 · exact (ar 34 (au (au (ar 6 (au (au (ar 2 (au (au (ar 4 AllUpTo.zero) (OpAt.lit rfl (by kernel_rfl) rfl (l := [dI ((s.L.getD i zCell).Key), dI ((s.L.getD i zCell).Start)]) (s := 1) (by kernel_rfl) rfl (by kernel_rfl) (x' := tD (row 1 eI 0 [(s.L.getD i zCell).Key, (s.L.getD i zCell).Start])) (by kernel_rfl) (TLe.d (DLe.sl rfl (fun i_ hi_ j_ hj_ => by rcases (show i_ = 0 ∨ i_ = 1 by omega) with rfl | rfl <;> (obtain rfl : j_ = 0 := by omega) <;> rfl))) (by kernel_rfl) (by kernel_rfl))) (OpAt.call rfl (by kernel_rfl) rfl rfl (f := 44) (by kernel_rfl) rfl (by kernel_rfl) (us := [.c (.d (row 1 eI 0 [(s.L.getD i zCell).Key, (s.L.getD i zCell).Start]))]) (by kernel_rfl) (x' := B true) (by kernel_rfl) (ok_within [(s.L.getD i zCell).Key, (s.L.getD i zCell).Start] (by first | assumption | simp)) (fun _ hr_ => hr_ ▸ TLe.b hs1) (by kernel_rfl) (by kernel_rfl)))) ot) (OpAt.val rfl (by kernel_rfl) (C' := True) (x := B (decide (((s.L.getD i zCell).Key) ≤ 1048576))) (by kernel_rfl) (trivial) rfl (by kernel_rfl) (x' := B true) (by kernel_rfl) (TLe.b hs2) (by kernel_rfl) (by kernel_rfl) (by kernel_rfl)))) (OpAt.val rfl (by kernel_rfl) (C' := g.Hop ≠ 0) (x := I (Int.tmod ((s.L.getD i zCell).Start) g.Hop)) (by kernel_rfl) (by omega) rfl (by kernel_rfl) (by kernel_rfl) (TLe.refl _) (by kernel_rfl) (by kernel_rfl) (by kernel_rfl))) (OpAt.val rfl (by kernel_rfl) (C' := True) (x := B ((Int.tmod ((s.L.getD i zCell).Start) g.Hop) == 0)) (by kernel_rfl) (trivial) rfl (by kernel_rfl) (x' := B false) (by kernel_rfl) (TLe.b hs3) (by kernel_rfl) (by kernel_rfl) (by kernel_rfl))))
 refine AOps.e ⟨[sp 2, sp 3, (5, B false), (z20_3 s), (z20_4 s), (51, I (i : Int)), (65, tP 7 0), (z20_9 s i), (67, B true), (70, tP 7 1), (z20_10 s i), (72, tP 2 1), (73, I g.Hop), (z20_11 g s i), (75, B false), (78, tD (.v (undef))), (79, tD (.v (undef))), (80, tD (.v (undef))), (81, tD (.v (undef))), (82, tD (.v (undef))), (85, tD (.v (undef))), (86, tD (.v (undef))), (87, tD (.v (undef))), (88, tD (.v (undef))), (89, tD (.v (undef))), (90, tD (.v (undef))), (91, tD (.v (undef))), (94, tD (.v (undef))), (95, tD (.v (undef))), (96, tD (.v (undef))), (97, tD (.v (undef))), (100, tD (.v (undef))), (101, tD (.v (undef))), (102, tD (.v (undef))), (103, tD (.v (undef))), (104, tD (.v (undef))), (105, tD (.v (undef))), (106, tD (.v (undef))), (107, tD (.v (undef))), (108, tD (.v (undef))), (109, tD (.v (undef))), (110, tD (.v (undef))), (111, tD (.v (undef))), (112, tD (.v (undef)))], y20_1 g s i⟩ ?_
 refine AC.qR ⟨[sp 2, sp 3, (5, B false), (z20_3 s), (z20_4 s), (z20_18 i), (65, tP 7 0), (z20_9 s i), (67, B true), (70, tP 7 1), (z20_10 s i), (72, tP 2 1), (73, I g.Hop), (z20_11 g s i), (75, B false), (78, tD (.v (undef))), (79, tD (.v (undef))), (80, tD (.v (undef))), (81, tD (.v (undef))), (82, tD (.v (undef))), (85, tD (.v (undef))), (86, tD (.v (undef))), (87, tD (.v (undef))), (88, tD (.v (undef))), (89, tD (.v (undef))), (90, tD (.v (undef))), (91, tD (.v (undef))), (94, tD (.v (undef))), (95, tD (.v (undef))), (96, tD (.v (undef))), (97, tD (.v (undef))), (100, tD (.v (undef))), (101, tD (.v (undef))), (102, tD (.v (undef))), (103, tD (.v (undef))), (104, tD (.v (undef))), (105, tD (.v (undef))), (106, tD (.v (undef))), (107, tD (.v (undef))), (108, tD (.v (undef))), (109, tD (.v (undef))), (110, tD (.v (undef))), (111, tD (.v (undef))), (112, tD (.v (undef)))], y20_1 g s i⟩ ?_
 try refine blockA_n ?_
 exact roundA_n (i + 1, false) (by refine ⟨by omega, ?_⟩; exact chkS_step (by omega) i2 (by assumption) (by first | (rw [ord_v (by omega) (by omega), ← cell20 g s]; simp_all; done) | (rw [← cell20 g s]; simp_all <;> (intros; omega)) | (rw [← cell20 g s, ord_0 (L := s.L) (i := i) (by omega)]; simp_all; done))) (by show s.L.length - (i + 1) < s.L.length - i; omega) (Le.of (lk rfl (lk rfl (lk rfl (lk rfl (lk rfl (LeS.cons rfl (TLe.i (by first | omega | (rw [wrap_in (by omega) (by omega)]; omega))) LeS.nil)))))) (ek rfl (ek rfl LeE.nil)) (by kernel_rfl))
 have hs2 := h_
 have h7 := h_; have r7 := h_; clear h_; try simp only [bb] at h7
 refine AC.dL 52 [] ⟨[sp 2, sp 3, (6, I (i : Int)), sp 7, (z20_3 s), (z20_4 s), (51, I (i : Int)), (58, tP 7 0), (z20_6 s i), (60, tP 7 1), (z20_7 s i), (z20_8 s i), (63, B true), (64, B true), (65, tP 7 0), (z20_9 s i), (67, B false), (68, B false), (69, B false), (70, tD (.v (undef))), (71, tD (.v (undef))), (72, tD (.v (undef))), (73, tD (.v (undef))), (74, tD (.v (undef))), (75, tD (.v (undef))), (76, B false), (77, B false), (78, tD (.v (undef))), (79, tD (.v (undef))), (80, tD (.v (undef))), (81, tD (.v (undef))), (82, tD (.v (undef))), (83, B false), (84, B false), (85, tD (.v (undef))), (86, tD (.v (undef))), (87, tD (.v (undef))), (88, tD (.v (undef))), (89, tD (.v (undef))), (90, tD (.v (undef))), (91, tD (.v (undef))), (92, B false), (93, B false), (94, tD (.v (undef))), (95, tD (.v (undef))), (96, tD (.v (undef))), (97, tD (.v (undef))), (98, B false), (99, B false), (100, tD (.v (undef))), (101, tD (.v (undef))), (102, tD (.v (undef))), (103, tD (.v (undef))), (104, tD (.v (undef))), (105, tD (.v (undef))), (106, tD (.v (undef))), (107, tD (.v (undef))), (108, tD (.v (undef))), (109, tD (.v (undef)))], y20_1 g s i⟩ [52, 53, 54, 55, 56] (.inl rfl) ?_ ?_
 · exact (ar 42 (au (au (ar 2 (au (au (ar 4 AllUpTo.zero) (OpAt.lit rfl (by kernel_rfl) rfl (l := [dI ((s.L.getD i zCell).Key), dI ((s.L.getD i zCell).Start)]) (s := 1) (by kernel_rfl) rfl (by kernel_rfl) (x' := tD (row 1 eI 0 [(s.L.getD i zCell).Key, (s.L.getD i zCell).Start])) (by kernel_rfl) (TLe.d (DLe.sl rfl (fun i_ hi_ j_ hj_ => by rcases (show i_ = 0 ∨ i_ = 1 by omega) with rfl | rfl <;> (obtain rfl : j_ = 0 := by omega) <;> rfl))) (by kernel_rfl) (by kernel_rfl))) (OpAt.call rfl (by kernel_rfl) rfl rfl (f := 44) (by kernel_rfl) rfl (by kernel_rfl) (us := [.c (.d (row 1 eI 0 [(s.L.getD i zCell).Key, (s.L.getD i zCell).Start]))]) (by kernel_rfl) (x' := B true) (by kernel_rfl) (ok_within [(s.L.getD i zCell).Key, (s.L.getD i zCell).Start] (by first | assumption | simp)) (fun _ hr_ => hr_ ▸ TLe.b hs1) (by kernel_rfl) (by kernel_rfl)))) ot) (OpAt.val rfl (by kernel_rfl) (C' := True) (x := B (decide (((s.L.getD i zCell).Key) ≤ 1048576))) (by kernel_rfl) (trivial) rfl (by kernel_rfl) (x' := B false) (by kernel_rfl) (TLe.b hs2) (by kernel_rfl) (by kernel_rfl) (by kernel_rfl))))
 refine AOps.e ⟨[sp 2, sp 3, (5, B false), (z20_3 s), (z20_4 s), (51, I (i : Int)), (65, tP 7 0), (z20_9 s i), (67, B false), (70, tD (.v (undef))), (71, tD (.v (undef))), (72, tD (.v (undef))), (73, tD (.v (undef))), (74, tD (.v (undef))), (75, tD (.v (undef))), (78, tD (.v (undef))), (79, tD (.v (undef))), (80, tD (.v (undef))), (81, tD (.v (undef))), (82, tD (.v (undef))), (85, tD (.v (undef))), (86, tD (.v (undef))), (87, tD (.v (undef))), (88, tD (.v (undef))), (89, tD (.v (undef))), (90, tD (.v (undef))), (91, tD (.v (undef))), (94, tD (.v (undef))), (95, tD (.v (undef))), (96, tD (.v (undef))), (97, tD (.v (undef))), (100, tD (.v (undef))), (101, tD (.v (undef))), (102, tD (.v (undef))), (103, tD (.v (undef))), (104, tD (.v (undef))), (105, tD (.v (undef))), (106, tD (.v (undef))), (107, tD (.v (undef))), (108, tD (.v (undef))), (109, tD (.v (undef))), (110, tD (.v (undef))), (111, tD (.v (undef))), (112, tD (.v (undef)))], y20_1 g s i⟩ ?_
 refine AC.qR ⟨[sp 2, sp 3, (5, B false), (z20_3 s), (z20_4 s), (z20_18 i), (65, tP 7 0), (z20_9 s i), (67, B false), (70, tD (.v (undef))), (71, tD (.v (undef))), (72, tD (.v (undef))), (73, tD (.v (undef))), (74, tD (.v (undef))), (75, tD (.v (undef))), (78, tD (.v (undef))), (79, tD (.v (undef))), (80, tD (.v (undef))), (81, tD (.v (undef))), (82, tD (.v (undef))), (85, tD (.v (undef))), (86, tD (.v (undef))), (87, tD (.v (undef))), (88, tD (.v (undef))), (89, tD (.v (undef))), (90, tD (.v (undef))), (91, tD (.v (undef))), (94, tD (.v (undef))), (95, tD (.v (undef))), (96, tD (.v (undef))), (97, tD (.v (undef))), (100, tD (.v (undef))), (101, tD (.v (undef))), (102, tD (.v (undef))), (103, tD (.v (undef))), (104, tD (.v (undef))), (105, tD (.v (undef))), (106, tD (.v (undef))), (107, tD (.v (undef))), (108, tD (.v (undef))), (109, tD (.v (undef))), (110, tD (.v (undef))), (111, tD (.v (undef))), (112, tD (.v (undef)))], y20_1 g s i⟩ ?_
 try refine blockA_n ?_
 exact roundA_n (i + 1, false) (by refine ⟨by omega, ?_⟩; exact chkS_step (by omega) i2 (by assumption) (by first | (rw [ord_v (by omega) (by omega), ← cell20 g s]; simp_all; done) | (rw [← cell20 g s]; simp_all <;> (intros; omega)) | (rw [← cell20 g s, ord_0 (L := s.L) (i := i) (by omega)]; simp_all; done))) (by show s.L.length - (i + 1) < s.L.length - i; omega) (Le.of (lk rfl (lk rfl (lk rfl (lk rfl (lk rfl (LeS.cons rfl (TLe.i (by first | omega | (rw [wrap_in (by omega) (by omega)]; omega))) LeS.nil)))))) (ek rfl (ek rfl LeE.nil)) (by kernel_rfl))
 have hs1 := h_
 have h6 := h_; have r6 := h_; clear h_; try simp only [bb] at h6
 refine AC.dL 52 [] ⟨[sp 2, sp 3, (6, I (i : Int)), sp 7, (z20_3 s), (z20_4 s), (51, I (i : Int)), (58, tP 7 0), (z20_6 s i), (60, tP 7 1), (z20_7 s i), (z20_8 s i), (63, B false), (64, B false), (65, tD (.v (undef))), (66, tD (.v (undef))), (67, tD (.v (undef))), (68, B false), (69, B false), (70, tD (.v (undef))), (71, tD (.v (undef))), (72, tD (.v (undef))), (73, tD (.v (undef))), (74, tD (.v (undef))), (75, tD (.v (undef))), (76, B false), (77, B false), (78, tD (.v (undef))), (79, tD (.v (undef))), (80, tD (.v (undef))), (81, tD (.v (undef))), (82, tD (.v (undef))), (83, B false), (84, B false), (85, tD (.v (undef))), (86, tD (.v (undef))), (87, tD (.v (undef))), (88, tD (.v (undef))), (89, tD (.v (undef))), (90, tD (.v (undef))), (91, tD (.v (undef))), (92, B false), (93, B false), (94, tD (.v (undef))), (95, tD (.v (undef))), (96, tD (.v (undef))), (97, tD (.v (undef))), (98, B false), (99, B false), (100, tD (.v (undef))), (101, tD (.v (undef))), (102, tD (.v (undef))), (103, tD (.v (undef))), (104, tD (.v (undef))), (105, tD (.v (undef))), (106, tD (.v (undef))), (107, tD (.v (undef))), (108, tD (.v (undef))), (109, tD (.v (undef)))], y20_1 g s i⟩ [52, 53, 54, 55, 56] (.inl rfl) ?_ ?_
 · exact (ar 46 (au (au (ar 4 AllUpTo.zero) (OpAt.lit rfl (by kernel_rfl) rfl (l := [dI ((s.L.getD i zCell).Key), dI ((s.L.getD i zCell).Start)]) (s := 1) (by kernel_rfl) rfl (by kernel_rfl) (x' := tD (row 1 eI 0 [(s.L.getD i zCell).Key, (s.L.getD i zCell).Start])) (by kernel_rfl) (TLe.d (DLe.sl rfl (fun i_ hi_ j_ hj_ => by rcases (show i_ = 0 ∨ i_ = 1 by omega) with rfl | rfl <;> (obtain rfl : j_ = 0 := by omega) <;> rfl))) (by kernel_rfl) (by kernel_rfl))) (OpAt.call rfl (by kernel_rfl) rfl rfl (f := 44) (by kernel_rfl) rfl (by kernel_rfl) (us := [.c (.d (row 1 eI 0 [(s.L.getD i zCell).Key, (s.L.getD i zCell).Start]))]) (by kernel_rfl) (x' := B false) (by kernel_rfl) (ok_within [(s.L.getD i zCell).Key, (s.L.getD i zCell).Start] (by first | assumption | simp)) (fun _ hr_ => hr_ ▸ TLe.b hs1) (by kernel_rfl) (by kernel_rfl))))
 refine AOps.e ⟨[sp 2, sp 3, (5, B false), (z20_3 s), (z20_4 s), (51, I (i : Int)), (65, tD (.v (undef))), (66, tD (.v (undef))), (67, tD (.v (undef))), (70, tD (.v (undef))), (71, tD (.v (undef))), (72, tD (.v (undef))), (73, tD (.v (undef))), (74, tD (.v (undef))), (75, tD (.v (undef))), (78, tD (.v (undef))), (79, tD (.v (undef))), (80, tD (.v (undef))), (81, tD (.v (undef))), (82, tD (.v (undef))), (85, tD (.v (undef))), (86, tD (.v (undef))), (87, tD (.v (undef))), (88, tD (.v (undef))), (89, tD (.v (undef))), (90, tD (.v (undef))), (91, tD (.v (undef))), (94, tD (.v (undef))), (95, tD (.v (undef))), (96, tD (.v (undef))), (97, tD (.v (undef))), (100, tD (.v (undef))), (101, tD (.v (undef))), (102, tD (.v (undef))), (103, tD (.v (undef))), (104, tD (.v (undef))), (105, tD (.v (undef))), (106, tD (.v (undef))), (107, tD (.v (undef))), (108, tD (.v (undef))), (109, tD (.v (undef))), (110, tD (.v (undef))), (111, tD (.v (undef))), (112, tD (.v (undef)))], y20_0 g s⟩ ?_
 refine AC.qR ⟨[sp 2, sp 3, (5, B false), (z20_3 s), (z20_4 s), (z20_18 i), (65, tD (.v (undef))), (66, tD (.v (undef))), (67, tD (.v (undef))), (70, tD (.v (undef))), (71, tD (.v (undef))), (72, tD (.v (undef))), (73, tD (.v (undef))), (74, tD (.v (undef))), (75, tD (.v (undef))), (78, tD (.v (undef))), (79, tD (.v (undef))), (80, tD (.v (undef))), (81, tD (.v (undef))), (82, tD (.v (undef))), (85, tD (.v (undef))), (86, tD (.v (undef))), (87, tD (.v (undef))), (88, tD (.v (undef))), (89, tD (.v (undef))), (90, tD (.v (undef))), (91, tD (.v (undef))), (94, tD (.v (undef))), (95, tD (.v (undef))), (96, tD (.v (undef))), (97, tD (.v (undef))), (100, tD (.v (undef))), (101, tD (.v (undef))), (102, tD (.v (undef))), (103, tD (.v (undef))), (104, tD (.v (undef))), (105, tD (.v (undef))), (106, tD (.v (undef))), (107, tD (.v (undef))), (108, tD (.v (undef))), (109, tD (.v (undef))), (110, tD (.v (undef))), (111, tD (.v (undef))), (112, tD (.v (undef)))], y20_0 g s⟩ ?_
 try refine blockA_n ?_
 exact roundA_n (i + 1, false) (by refine ⟨by omega, ?_⟩; exact chkS_step (by omega) i2 (by assumption) (by first | (rw [ord_v (by omega) (by omega), ← cell20 g s]; simp_all; done) | (rw [← cell20 g s]; simp_all <;> (intros; omega)) | (rw [← cell20 g s, ord_0 (L := s.L) (i := i) (by omega)]; simp_all; done))) (by show s.L.length - (i + 1) < s.L.length - i; omega) (Le.of (lk rfl (lk rfl (lk rfl (lk rfl (lk rfl (LeS.cons rfl (TLe.i (by first | omega | (rw [wrap_in (by omega) (by omega)]; omega))) LeS.nil)))))) (ek rfl (ek rfl LeE.nil)) (by kernel_rfl))
 have h4 := h_; have r4 := h_; clear h_; try simp only [bb] at h4
 refine AC.exit ?_
 repeat (first | refine thenA_x ?_ | refine roundA_x ?_ | refine joinA_x ?_ | refine blockA_hit ?_ | refine blockA_miss (by decide) ?_)
 refine AC.seq ?_
 refine AC.q ⟨[(116, B (!ok))], []⟩ ?_
 refine AC.cd (b := !ok) (fun h_ => ?_) (fun h_ => ?_)
 have h5 := h_; have r5 := h_; clear h_; try simp only [bb] at h5
 refine AC.q ⟨[(4, I 1)], []⟩ ?_
 refine AC.ret ?_
 exact rqr (ustatecheck g s) (All2.cons (ULe.c (CLe.d (DLe.eq (congrArg dI (show (1) = (stateCheck g s) by first | exact check_ret1 (i := i) i2 (by assumption) | exact check_ret0 (i := i) i2 (by assumption) (by omega) | (exfalso; simp_all)))))) All2.nil)
 have h5 := h_; have r5 := h_; clear h_; try simp only [bb] at h5
 refine AC.skip ?_
 refine AC.q ⟨[(4, I 0)], []⟩ ?_
 refine AC.ret ?_
 exact rqr (ustatecheck g s) (All2.cons (ULe.c (CLe.d (DLe.eq (congrArg dI (show (0) = (stateCheck g s) by first | exact check_ret1 (i := i) i2 (by assumption) | exact check_ret0 (i := i) i2 (by assumption) (by omega) | (exfalso; simp_all)))))) All2.nil)
end Go.Proofs.Ytfpmgnkbklnkaaa.Eng
end
section
set_option linter.unusedSimpArgs false
set_option linter.unusedVariables false
set_option maxRecDepth 100000
set_option maxHeartbeats 4000000
namespace Go.Proofs.Ytfpmgnkbklnkaaa.Eng
open Go Go.Proofs
abbrev usome (l : List Rec) : List U := [.c (.d (row 3 eRec zRec (someRecs l)))]
abbrev z13_0 (l : List Rec) : Nat × T := (0, tD (row 3 eRec zRec (l.take 150)))
abbrev z13_1 (l : List Rec) (i : Nat) : Nat × T := (3, tG 1003 3 0 ((((l.take 150).take i).map cutRec).length))
abbrev z13_2 (l : List Rec) (i : Nat) : Nat × Blk := (1003, arow 53 3 eRec zRec (((l.take 150).take i).map cutRec))
abbrev z13_3 (l : List Rec) (i : Nat) : Nat × Blk := (1003, arow 53 3 eRec zRec (((l.take 150).take i).map cutRec ++ [(⟨((l.take 150).getD i zRec).Key, ((l.take 150).getD i zRec).Time, ((((l.take 150).getD i zRec).Text).extract (0 : Int).toNat (50 : Int).toNat)⟩ : Rec)]))
abbrev z13_4 (l : List Rec) (i : Nat) : Nat × T := (3, tG 1003 3 0 ((((l.take 150).take i).map cutRec ++ [(⟨((l.take 150).getD i zRec).Key, ((l.take 150).getD i zRec).Time, ((((l.take 150).getD i zRec).Text).extract (0 : Int).toNat (50 : Int).toNat)⟩ : Rec)]).length))
abbrev z13_5 (l : List Rec) (i : Nat) : Nat × Blk := (1003, arow 53 3 eRec zRec (((l.take 150).take i).map cutRec ++ [((l.take 150).getD i zRec)]))
abbrev z13_6 (l : List Rec) (i : Nat) : Nat × T := (3, tG 1003 3 0 ((((l.take 150).take i).map cutRec ++ [((l.take 150).getD i zRec)]).length))
/-- headgate/headgatelaw16.Some. -/
theorem ok_some (l : List Rec) :
 FnOk Try.prog 13 [.c (.d (row 3 eRec zRec l))] (fun r_ => r_ = tD (row 3 eRec zRec (someRecs l))) := by
 refine FnOk.go Try.func13 rfl 34 ?_
 intro w0 m0
 show AC _ _ ⟨[(0, tD (row 3 eRec zRec l))], []⟩ _
 refine AC.q ⟨[(0, tD (row 3 eRec zRec l))], []⟩ ?_
 refine AC.join (ι := Unit) (fun _ => ⟨[(0, tD (row 3 eRec zRec (bif decide ((l.length : Int) > 150) then (l.take 150) else l)))], []⟩) (fun _ => True) ?_ ?_
 refine AC.q ⟨[(0, tD (row 3 eRec zRec l)), (8, B (decide ((l.length : Int) > 150)))], []⟩ ?_
 refine AC.cd (b := decide ((l.length : Int) > 150)) (fun h_ => ?_) (fun h_ => ?_)
 have h1 := h_; have r1 := h_; clear h_; try simp only [bb] at h1
 refine AC.rR [0, 1, 2] ?_
 refine AOps.mc [0, 1] (C' := (0 ≤ (0 : Int) ∧ (0 : Int) ≤ 150 ∧ 150 ≤ (l.length : Int)) ∧ True) ⟨[(10, tD (.sl 3 (((150 : Int) - 0).toNat) (fun i_ j_ => nth (eRec (l.getD ((0 : Int).toNat + i_) zRec)) j_)))], []⟩ (⟨by omega, trivial⟩) ?_
 refine AOps.le (st' := ⟨[(10, tD (row 3 eRec zRec (l.take 150)))], []⟩) (Le.of (LeS.cons rfl (TLe.one (ULe.c (CLe.d (DLe.take (by omega) (by omega))))) LeS.nil) LeE.nil (by kernel_rfl)) ?_
 refine AOps.e ⟨[(z13_0 l)], []⟩ ?_
 refine joinA_n () trivial (Le.of (LeS.cons rfl (TLe.one (ULe.c (CLe.d (DLe.eq (congrArg (row 3 eRec zRec) (by first | rfl | exact jt (by assumption) | exact jf (by assumption))))))) LeS.nil) LeE.nil (by kernel_rfl))
 have h1 := h_; have r1 := h_; clear h_; try simp only [bb] at h1
 refine AC.skip ?_
 refine joinA_n () trivial (Le.of (LeS.cons rfl (TLe.one (ULe.c (CLe.d (DLe.eq (congrArg (row 3 eRec zRec) (by first | rfl | exact jt (by assumption) | exact jf (by assumption))))))) LeS.nil) LeE.nil (by kernel_rfl))
 intro _ _
 refine AC.le (st' := ⟨[(z13_0 l)], []⟩) (Le.of (LeS.cons rfl (TLe.one (ULe.c (CLe.d (DLe.eq (congrArg (row 3 eRec zRec) (by exact some_take l)))))) LeS.nil) LeE.nil (by kernel_rfl)) ?_
 refine AC.q ⟨[(z13_0 l), (3, tD (.v (.slice none 0 0)))], []⟩ ?_
 refine AC.seq ?_
 refine AC.q ⟨[(z13_0 l), (3, tD (.v (.slice none 0 0))), (4, I 0)], []⟩ ?_
 refine AC.block ?_
 refine AC.nl 1003 3 53 3 (fun i_ j_ => nth (eRec (([] : List Rec).getD i_ zRec)) j_) ⟨[(z13_0 l), (3, tG 1003 3 0 (([] : List Rec).length)), (4, I 0)], [(1003, arow 53 3 eRec zRec ([] : List Rec))]⟩ ?_
 refine AC.loop (ι := Nat) (fun i => ⟨[(z13_0 l), (z13_1 l i), (4, I (i : Int))], [(z13_2 l i)]⟩) (fun i => (i ≤ (l.take 150).length)) (fun i => (l.take 150).length - i) (0) (by omega) (Le.of (lk rfl (LeS.cons rfl (TLe.gs (congrArg List.length ?_)) (LeS.cons rfl (TLe.i (by omega)) LeS.nil))) (LeE.cons rfl (BLe.eq (congrArg (arow 53 3 eRec zRec) ?_)) LeE.nil) (by kernel_rfl)) ?_
 iterate 2 (· first | rfl | (simp; done) | exact map_snoc (d := zRec) (by omega) (by simp only [cutRec]; first | (rw [if_pos (by omega)]; rfl) | (rw [if_neg (by omega)]; done)))
 intro i hi_
 have i1 : i ≤ (l.take 150).length := hi_; clear hi_
 show AC _ _ ⟨[(z13_0 l), (z13_1 l i), (4, I (i : Int))], [(z13_2 l i)]⟩ _
 have h150 : (l.take 150).length ≤ 150 := by simp; omega
 have hlen : (((l.take 150).take i).map cutRec).length = i := by simp at i1 ⊢; omega
 refine AC.seq ?_
 refine AC.q ⟨[(z13_0 l), (z13_1 l i), (4, I (i : Int)), (14, B (decide ((i : Int) < ((l.take 150).length : Int))))], [(z13_2 l i)]⟩ ?_
 refine AC.cd (b := decide ((i : Int) < ((l.take 150).length : Int))) (fun h_ => ?_) (fun h_ => ?_)
 have h1 := h_; have r1 := h_; clear h_; try simp only [bb] at h1
 refine AC.skip ?_
 refine AC.seq ?_
 refine AC.block ?_
 refine AC.rS [0, 1, 2, 3, 4, 5] ?_
 refine AOps.ec (C' := (0 ≤ (i : Int) ∧ (i : Int) < ((l.take 150).length : Int)) ∧ True) ⟨[(z13_0 l), (z13_1 l i), (4, I (i : Int)), sp 5], [(5, .var ((eRec ((l.take 150).getD i zRec)).map .d)), (z13_2 l i)]⟩ (⟨by omega, trivial⟩) ?_
 refine AC.seq ?_
 refine AC.q ⟨[(z13_0 l), (z13_1 l i), (4, I (i : Int)), sp 5, (24, B (decide (((((l.take 150).getD i zRec).Text).size : Int) > 50)))], [(5, .var ((eRec ((l.take 150).getD i zRec)).map .d)), (z13_2 l i)]⟩ ?_
 refine AC.cd (b := decide (((((l.take 150).getD i zRec).Text).size : Int) > 50)) (fun h_ => ?_) (fun h_ => ?_)
 have h2 := h_; have r2 := h_; clear h_; try simp only [bb] at h2
 refine AC.rR [0, 1, 2, 3, 4] ?_
 refine AOps.ec (C' := (0 ≤ (0 : Int) ∧ (0 : Int) ≤ 50 ∧ 50 ≤ ((((l.take 150).getD i zRec).Text).size : Int)) ∧ True) ⟨[(z13_0 l), (z13_1 l i), (4, I (i : Int)), sp 5], [(5, .var ([.d (dI (((l.take 150).getD i zRec).Key)), .d (dI (((l.take 150).getD i zRec).Time)), .d (dS ((((l.take 150).getD i zRec).Text).extract (0 : Int).toNat (50 : Int).toNat))])), (z13_2 l i)]⟩ (⟨by omega, trivial⟩) ?_
 refine AC.rR [0, 1, 2, 3, 4] ?_
 refine AOps.mc [0, 1, 2, 3] (C' := ((((l.take 150).take i).map cutRec).length = (((l.take 150).take i).map cutRec).length ∧ (((l.take 150).take i).map cutRec).length + 1 ≤ 9223372036854775807 ∧ ((((l.take 150).take i).map cutRec).length + 1) * 32 ≤ 140737488355328) ∧ True) ⟨[(z13_0 l), (4, I (i : Int)), (32, tG 1003 3 0 ((((l.take 150).take i).map cutRec).length + 1))], [(1003, .arr 53 3 ((((l.take 150).take i).map cutRec).length + 1) fun i_ j_ => bif Nat.blt i_ (((l.take 150).take i).map cutRec).length then nth (eRec ((((l.take 150).take i).map cutRec).getD i_ zRec)) j_ else (fun i_ j_ => nth [dI (((l.take 150).getD i zRec).Key), dI (((l.take 150).getD i zRec).Time), dS ((((l.take 150).getD i zRec).Text).extract (0 : Int).toNat (50 : Int).toNat)] (i_ * 3 + j_)) (i_ - (((l.take 150).take i).map cutRec).length) j_)]⟩ (⟨by (try simp only [hlen, true_and]); omega, trivial⟩) ?_
 refine AOps.le (st' := ⟨[(z13_0 l), (4, I (i : Int)), (32, tG 1003 3 0 ((((l.take 150).take i).map cutRec ++ [(⟨((l.take 150).getD i zRec).Key, ((l.take 150).getD i zRec).Time, ((((l.take 150).getD i zRec).Text).extract (0 : Int).toNat (50 : Int).toNat)⟩ : Rec)]).length))], [(z13_3 l i)]⟩) (Le.of (lk rfl (lk rfl (LeS.cons rfl (TLe.gs (len1 _ _)) LeS.nil))) (LeE.cons rfl (BLe.app1 (e := 53) (sz := 3) (enc := eRec) (d := zRec) (L := ((l.take 150).take i).map cutRec) (x := (⟨((l.take 150).getD i zRec).Key, ((l.take 150).getD i zRec).Time, ((((l.take 150).getD i zRec).Text).extract (0 : Int).toNat (50 : Int).toNat)⟩ : Rec)) (g := fun i_ j_ => nth [dI (((l.take 150).getD i zRec).Key), dI (((l.take 150).getD i zRec).Time), dS ((((l.take 150).getD i zRec).Text).extract (0 : Int).toNat (50 : Int).toNat)] (i_ * 3 + j_)) (fun j_ hj_ => by simp only [Nat.zero_mul, Nat.zero_add] <;> rfl)) LeE.nil) (by kernel_rfl)) ?_
 refine AOps.e ⟨[(z13_0 l), (z13_4 l i), (4, I (i : Int))], [(z13_3 l i)]⟩ ?_
 refine AC.rR [0, 1, 2] ?_
 refine AOps.m [0, 1, 2] ⟨[(z13_0 l), (z13_4 l i), (4, I (IntKind.i64.wrap ((i : Int) + 1)))], [(z13_3 l i)]⟩ ?_
 refine AOps.le (st' := ⟨[(z13_0 l), (z13_4 l i), (4, I ((i + 1 : Nat) : Int))], [(z13_3 l i)]⟩) (Le.of (lk rfl (lk rfl (LeS.cons rfl (TLe.i (by rw [wrap_in (n := ((i : Int) + 1)) (by omega) (by omega)] <;> omega)) LeS.nil))) (ek rfl LeE.nil) (by kernel_rfl)) ?_
 refine AOps.done ?_
 try refine blockA_n ?_
 refine roundA_n (i + 1) (by omega) (by show (l.take 150).length - (i + 1) < (l.take 150).length - i; omega) (Le.of (lk rfl (LeS.cons rfl (TLe.gs (congrArg List.length ?_)) (LeS.cons rfl (TLe.i (by omega)) LeS.nil))) (LeE.cons rfl (BLe.eq (congrArg (arow 53 3 eRec zRec) ?_)) LeE.nil) (by kernel_rfl))
 iterate 2 (· first | rfl | (simp; done) | exact map_snoc (d := zRec) (by omega) (by simp only [cutRec]; first | (rw [if_pos (by omega)]; rfl) | (rw [if_neg (by omega)]; done)))
 have h2 := h_; have r2 := h_; clear h_; try simp only [bb] at h2
 refine AC.skip ?_
 refine AC.rR [0, 1, 2, 3, 4] ?_
 refine AOps.mc [0, 1, 2, 3] (C' := ((((l.take 150).take i).map cutRec).length = (((l.take 150).take i).map cutRec).length ∧ (((l.take 150).take i).map cutRec).length + 1 ≤ 9223372036854775807 ∧ ((((l.take 150).take i).map cutRec).length + 1) * 32 ≤ 140737488355328) ∧ True) ⟨[(z13_0 l), (4, I (i : Int)), (32, tG 1003 3 0 ((((l.take 150).take i).map cutRec).length + 1))], [(1003, .arr 53 3 ((((l.take 150).take i).map cutRec).length + 1) fun i_ j_ => bif Nat.blt i_ (((l.take 150).take i).map cutRec).length then nth (eRec ((((l.take 150).take i).map cutRec).getD i_ zRec)) j_ else (fun i_ j_ => nth [dI (((l.take 150).getD i zRec).Key), dI (((l.take 150).getD i zRec).Time), dS (((l.take 150).getD i zRec).Text)] (i_ * 3 + j_)) (i_ - (((l.take 150).take i).map cutRec).length) j_)]⟩ (⟨by (try simp only [hlen, true_and]); omega, trivial⟩) ?_
 refine AOps.le (st' := ⟨[(z13_0 l), (4, I (i : Int)), (32, tG 1003 3 0 ((((l.take 150).take i).map cutRec ++ [((l.take 150).getD i zRec)]).length))], [(z13_5 l i)]⟩) (Le.of (lk rfl (lk rfl (LeS.cons rfl (TLe.gs (len1 _ _)) LeS.nil))) (LeE.cons rfl (BLe.app1 (e := 53) (sz := 3) (enc := eRec) (d := zRec) (L := ((l.take 150).take i).map cutRec) (x := ((l.take 150).getD i zRec)) (g := fun i_ j_ => nth [dI (((l.take 150).getD i zRec).Key), dI (((l.take 150).getD i zRec).Time), dS (((l.take 150).getD i zRec).Text)] (i_ * 3 + j_)) (fun j_ hj_ => by simp only [Nat.zero_mul, Nat.zero_add] <;> rfl)) LeE.nil) (by kernel_rfl)) ?_
 refine AOps.e ⟨[(z13_0 l), (z13_6 l i), (4, I (i : Int))], [(z13_5 l i)]⟩ ?_
 refine AC.rR [0, 1, 2] ?_
 refine AOps.m [0, 1, 2] ⟨[(z13_0 l), (z13_6 l i), (4, I (IntKind.i64.wrap ((i : Int) + 1)))], [(z13_5 l i)]⟩ ?_
 refine AOps.le (st' := ⟨[(z13_0 l), (z13_6 l i), (4, I ((i + 1 : Nat) : Int))], [(z13_5 l i)]⟩) (Le.of (lk rfl (lk rfl (LeS.cons rfl (TLe.i (by rw [wrap_in (n := ((i : Int) + 1)) (by omega) (by omega)] <;> omega)) LeS.nil))) (ek rfl LeE.nil) (by kernel_rfl)) ?_
 refine AOps.done ?_
 try refine blockA_n ?_
 refine roundA_n (i + 1) (by omega) (by show (l.take 150).length - (i + 1) < (l.take 150).length - i; omega) (Le.of (lk rfl (LeS.cons rfl (TLe.gs (congrArg List.length ?_)) (LeS.cons rfl (TLe.i (by omega)) LeS.nil))) (LeE.cons rfl (BLe.eq (congrArg (arow 53 3 eRec zRec) ?_)) LeE.nil) (by kernel_rfl))
 iterate 2 (· first | rfl | (simp; done) | exact map_snoc (d := zRec) (by omega) (by simp only [cutRec]; first | (rw [if_pos (by omega)]; rfl) | (rw [if_neg (by omega)]; done)))
 have h1 := h_; have r1 := h_; clear h_; try simp only [bb] at h1
 refine AC.exit ?_
 repeat (first | refine thenA_x ?_ | refine roundA_x ?_ | refine joinA_x ?_ | refine blockA_hit ?_ | refine blockA_miss (by decide) ?_)
 refine AC.q ⟨[(2, tG 1003 3 0 ((((l.take 150).take i).map cutRec).length))], [(z13_2 l i)]⟩ ?_
 refine AC.fz 1003 (0 + (((l.take 150).take i).map cutRec).length ≤ (((l.take 150).take i).map cutRec).length ∧ True) ⟨[(2, tD (.sl 3 ((((l.take 150).take i).map cutRec).length) (fun i_ j_ => nth (eRec ((((l.take 150).take i).map cutRec).getD (0 + i_) zRec)) j_)))], []⟩ ⟨by omega, trivial⟩ ?_ rfl
 refine AC.le (st' := ⟨[(2, tD (row 3 eRec zRec (((l.take 150).take i).map cutRec)))], []⟩) (Le.of (LeS.cons rfl (TLe.one (ULe.c (CLe.d (DLe.row0)))) LeS.nil) LeE.nil (by kernel_rfl)) ?_
 refine AC.ret ?_
 exact rqr (usome l) (All2.cons (ULe.c (CLe.d (DLe.eq (congrArg (row 3 eRec zRec) (show (((l.take 150).take i).map cutRec) = (someRecs l) by first | (rw [someRecs, List.take_of_length_le (l := l.take 150) (by omega)])))))) All2.nil)
end Go.Proofs.Ytfpmgnkbklnkaaa.Eng
end
section
set_option linter.unusedSimpArgs false
set_option linter.unusedVariables false
set_option maxRecDepth 100000
set_option maxHeartbeats 4000000
namespace Go.Proofs.Ytfpmgnkbklnkaaa.Eng
open Go Go.Proofs
abbrev ustarts14 (g : Grid) (t : Int) : List U := [.c (.d (row 1 eI 0 (gridStarts g t))), .c (.d (dI (startsErr g t)))]
abbrev z25_0 (g : Grid) : Nat × Blk := (2, .var ((eGrid g).map .d))
abbrev z25_1 : Nat × T := (6, tD (.v (.slice none 0 0)))
abbrev z25_2 (g : Grid) (t : Int) (j : Nat) : Nat × T := (6, tG 1006 1 0 ((downTo g t j).length))
abbrev z25_3 (g : Grid) (t : Int) (j : Nat) : Nat × Blk := (1006, arow 3 1 eI 0 (downTo g t j))
abbrev z25_4 (g : Grid) (t : Int) (j : Nat) : Nat × Blk := (1006, arow 3 1 eI 0 (downTo g t j ++ [(downF g t j)]))
abbrev z25_5 (g : Grid) (t : Int) (j : Nat) : Nat × T := (6, tG 1006 1 0 ((downTo g t j ++ [(downF g t j)]).length))
abbrev z25_6 : Nat × T := (8, tD (.v (.slice none 0 0)))
abbrev z25_7 (g : Grid) (t : Int) (j : Nat) : Nat × T := (9, I (((downTo g t j).length : Int) - 1))
abbrev z25_8 (g : Grid) (t : Int) (j : Nat) : Nat × T := (6, tD (row 1 eI 0 (downTo g t j)))
abbrev z25_9 (g : Grid) (t : Int) (j : Nat) (m : Nat) : Nat × T := (9, I (((downTo g t j).length : Int) - 1 - (m : Int)))
abbrev z25_10 (g : Grid) (t : Int) (j : Nat) (m : Nat) : Nat × Blk := (1008, arow 3 1 eI 0 ((downTo g t j).reverse.take m))
abbrev z25_11 (g : Grid) (t : Int) (j : Nat) (m : Nat) : Nat × Blk := (1008, arow 3 1 eI 0 ((downTo g t j).reverse.take m ++ [((downTo g t j).getD ((((downTo g t j).length : Int) - 1 - (m : Int)).toNat) 0)]))
abbrev z25_12 (g : Grid) (t : Int) (j : Nat) (m : Nat) : Nat × T := (8, tG 1008 1 0 (((downTo g t j).reverse.take m ++ [((downTo g t j).getD ((((downTo g t j).length : Int) - 1 - (m : Int)).toNat) 0)]).length))
/-- headgate/headgateref14.Starts. -/
theorem ok_starts14 (g : Grid) (t : Int) :
 FnOk Try.prog 25 [.agg ((eGrid g).map .d), .c (.d (dI t))] (fun r_ => r_ = .tup [.c (.d (row 1 eI 0 (gridStarts g t))), .c (.d (dI (startsErr g t)))]) := by
 refine FnOk.go Try.func25 rfl 61 ?_
 intro w0 m0
 show AC _ _ ⟨[(0, tA ((eGrid g).map .d)), (1, I t)], []⟩ _
 refine AC.q ⟨[(1, I t), sp 2], [(z25_0 g)]⟩ ?_
 refine AC.seq ?_
 refine AC.rS [0, 1, 2, 3, 4, 5, 6, 7, 8, 9, 10] ?_
 refine AOps.m [0] ⟨[(1, I t), sp 2, (10, tA ((eGrid g).map .d))], [(z25_0 g)]⟩ ?_
 refine AOps.ca (ok_may14 g) ?_
 rintro _ rfl
 refine AOps.m [2, 3] ⟨[(1, I t), sp 2, (13, B (!(gridMay g)))], [(z25_0 g)]⟩ ?_
 refine AOps.s [4, 5] 6 13 15 16 false (!(gridMay g)) (decide (t < 0)) [1, 2] (fun h_ => ?_) ?_
 clear h_
 refine AOps.m [4, 5] ⟨[(1, I t), sp 2, (13, B false), (15, B (decide (t < 0)))], [(z25_0 g)]⟩ ?_
 exact scd
 refine AOps.m [7] ⟨[(1, I t), sp 2, (17, B ((!(gridMay g)) || (decide (t < 0))))], [(z25_0 g)]⟩ ?_
 refine AOps.s [8, 9] 10 17 19 20 false ((!(gridMay g)) || (decide (t < 0))) (decide (t > 1099511627776)) [1, 2] (fun h_ => ?_) ?_
 clear h_
 refine AOps.m [8, 9] ⟨[(1, I t), sp 2, (17, B false), (19, B (decide (t > 1099511627776)))], [(z25_0 g)]⟩ ?_
 exact scd
 refine AOps.done ?_
 refine AC.cd (b := ((!(gridMay g)) || (decide (t < 0))) || (decide (t > 1099511627776))) (fun h_ => ?_) (fun h_ => ?_)
 have h1 := h_; have r1 := h_; clear h_; try simp only [bb] at h1
 refine AC.q ⟨[(4, tD (.v (.slice none 0 0))), (5, I 1)], []⟩ ?_
 refine AC.ret ?_
 refine rqr (ustarts14 g t) (All2.cons (ULe.c (CLe.d (DLe.nilrow ?_))) (All2.cons (ULe.c (CLe.d (DLe.eq (congrArg dI (show (1) = (startsErr g t) from ?_))))) All2.nil))
 iterate 2 (· first | (rw [gridStarts, if_pos (time_yes (by assumption) (by omega) (by omega)), ← hE, List.take_of_length_le (by simp; omega)]; done) | (rw [startsErr, if_pos (time_yes (by assumption) (by omega) (by omega))]; done) | (rw [gridStarts, if_neg (time_no14 (by assumption))]; done) | (rw [startsErr, if_neg (time_no14 (by assumption))]; done))
 have h1 := h_; have r1 := h_; clear h_; try simp only [bb] at h1
 refine AC.skip ?_
 have hM : gridMay g = true := by cases hx_ : gridMay g with | true => rfl | false => (simp [hx_] at h1)
 have hG := gridMay_spec hM; have hB := base_b (t := t) (h := g.Hop) (by omega) (by omega)
 refine AC.q ⟨[(1, I t), sp 2, (z25_1)], [(z25_0 g)]⟩ ?_
 refine AC.seq ?_
 refine AC.dS 6 [] ⟨[(1, I t), sp 2, (z25_1), (21, I t), (22, tP 2 1), (23, I g.Hop), (24, I (IntKind.i64.wrap (Int.tdiv t g.Hop))), (25, tP 2 1), (26, I g.Hop)], [(z25_0 g)]⟩ [6, 7] (.inl rfl) ?_ ?_
 · exact (ar 2 (au (au (ar 2 AllUpTo.zero) ot) (OpAt.val rfl (by kernel_rfl) (C' := g.Hop ≠ 0) (x := I (IntKind.i64.wrap (Int.tdiv t g.Hop))) (by kernel_rfl) (by omega) rfl (by kernel_rfl) (by kernel_rfl) (TLe.refl _) (by kernel_rfl) (by kernel_rfl) (by kernel_rfl))))
 refine AOps.m [6, 7] ⟨[(1, I t), sp 2, (z25_1), (7, I (IntKind.i64.wrap ((IntKind.i64.wrap (Int.tdiv t g.Hop)) * g.Hop)))], [(z25_0 g)]⟩ ?_
 refine AOps.le (st' := ⟨[(1, I t), sp 2, (z25_1), (7, I ((Int.tdiv t g.Hop) * g.Hop))], [(z25_0 g)]⟩) (Le.of (lk rfl (lk rfl (lk rfl (LeS.cons rfl (TLe.i (by rw [wrap_in (n := (Int.tdiv t g.Hop)) (by omega) (by omega), wrap_in (n := ((Int.tdiv t g.Hop) * g.Hop)) (by omega) (by omega)] <;> omega)) LeS.nil)))) (ek rfl LeE.nil) (by kernel_rfl)) ?_
 refine AOps.done ?_
 refine AC.block ?_
 refine AC.nl 1006 6 3 1 (fun i_ j_ => nth (eI (([] : List Int).getD i_ 0)) j_) ⟨[(1, I t), sp 2, (6, tG 1006 1 0 (([] : List Int).length)), (7, I ((Int.tdiv t g.Hop) * g.Hop))], [(z25_0 g), (1006, arow 3 1 eI 0 ([] : List Int))]⟩ ?_
 refine AC.loop (ι := Nat) (fun j => ⟨[(1, I t), sp 2, (z25_2 g t j), (7, I (downF g t j))], [(z25_0 g), (z25_3 g t j)]⟩) (fun j => (j ≤ 8 ∧ ∀ i, i < j → 0 ≤ downF g t i ∧ t < downF g t i + g.Size)) (fun j => 9 - j) (0) (by refine ⟨by omega, fun i hi => ?_⟩; omega) (Le.of (lk rfl (lk rfl (LeS.cons rfl (TLe.gs (congrArg List.length ?_)) (LeS.cons rfl (TLe.i (by first | omega | exact downF_zero g t | exact downF_succ g t j | (simp [downTo_len]; done))) LeS.nil)))) (ek rfl (LeE.cons rfl (BLe.eq (congrArg (arow 3 1 eI 0) ?_)) LeE.nil)) (by kernel_rfl)) ?_
 iterate 2 (· first | rfl | exact downTo_succ g t j | exact rev_snoc (by omega))
 intro j hi_
 obtain ⟨i1, i2⟩ := hi_
 show AC _ _ ⟨[(1, I t), sp 2, (z25_2 g t j), (7, I (downF g t j))], [(z25_0 g), (z25_3 g t j)]⟩ _
 have hb_ := downF_b (t := t) hM (by omega) i1
 have hl_ := downTo_len g t j
 refine AC.seq ?_
 refine AC.rS [0, 1, 2, 3, 4, 5, 6, 7, 8, 9] ?_
 refine AOps.m [0, 1, 2] ⟨[(1, I t), sp 2, (z25_2 g t j), (7, I (downF g t j)), (30, B (decide ((downF g t j) ≥ 0)))], [(z25_0 g), (z25_3 g t j)]⟩ ?_
 refine AOps.s [3, 4, 5, 6, 7, 8] 9 30 36 37 true (decide ((downF g t j) ≥ 0)) (decide ((IntKind.i64.wrap ((downF g t j) + g.Size)) > t)) [1, 2, 6, 7] (fun h_ => ?_) ?_
 clear h_
 refine AOps.m [3, 4, 5, 6, 7, 8] ⟨[(1, I t), sp 2, (z25_2 g t j), (7, I (downF g t j)), (30, B true), (36, B (decide ((IntKind.i64.wrap ((downF g t j) + g.Size)) > t)))], [(z25_0 g), (z25_3 g t j)]⟩ ?_
 exact scd
 refine AOps.le (st' := ⟨[(1, I t), sp 2, (z25_2 g t j), (7, I (downF g t j)), (37, B ((decide ((downF g t j) ≥ 0)) && (decide (((downF g t j) + g.Size) > t))))], [(z25_0 g), (z25_3 g t j)]⟩) (Le.of (lk rfl (lk rfl (lk rfl (lk rfl (LeS.cons rfl (TLe.b (by rw [wrap_in (n := ((downF g t j) + g.Size)) (by omega) (by omega)] <;> rfl)) LeS.nil))))) (ek rfl (ek rfl LeE.nil)) (by kernel_rfl)) ?_
 refine AOps.done ?_
 refine AC.cd (b := (decide ((downF g t j) ≥ 0)) && (decide (((downF g t j) + g.Size) > t))) (fun h_ => ?_) (fun h_ => ?_)
 have h2 := h_; have r2 := h_; clear h_; try simp only [bb] at h2
 refine AC.skip ?_
 refine AC.seq ?_
 refine AC.block ?_
 refine AC.rR [0, 1, 2, 3, 4] ?_
 refine AOps.mc [0, 1, 2, 3] (C' := ((downTo g t j).length = (downTo g t j).length ∧ (downTo g t j).length + 1 ≤ 9223372036854775807 ∧ ((downTo g t j).length + 1) * 8 ≤ 140737488355328) ∧ True) ⟨[(1, I t), sp 2, (7, I (downF g t j)), (45, tG 1006 1 0 ((downTo g t j).length + 1))], [(z25_0 g), (1006, .arr 3 1 ((downTo g t j).length + 1) fun i_ j_ => bif Nat.blt i_ (downTo g t j).length then nth (eI ((downTo g t j).getD i_ 0)) j_ else (fun i_ j_ => nth [dI (downF g t j)] (i_ * 1 + j_)) (i_ - (downTo g t j).length) j_)]⟩ (⟨by (try simp only [downTo_len, List.length_take, List.length_reverse, true_and]); omega, trivial⟩) ?_
 refine AOps.le (st' := ⟨[(1, I t), sp 2, (7, I (downF g t j)), (45, tG 1006 1 0 ((downTo g t j ++ [(downF g t j)]).length))], [(z25_0 g), (z25_4 g t j)]⟩) (Le.of (lk rfl (lk rfl (lk rfl (LeS.cons rfl (TLe.gs (len1 _ _)) LeS.nil)))) (ek rfl (LeE.cons rfl (BLe.app1 (e := 3) (sz := 1) (enc := eI) (d := 0) (L := downTo g t j) (x := (downF g t j)) (g := fun i_ j_ => nth [dI (downF g t j)] (i_ * 1 + j_)) (fun j_ hj_ => by simp only [Nat.zero_mul, Nat.zero_add] <;> rfl)) LeE.nil)) (by kernel_rfl)) ?_
 refine AOps.e ⟨[(1, I t), sp 2, (z25_5 g t j), (7, I (downF g t j))], [(z25_0 g), (z25_4 g t j)]⟩ ?_
 refine AC.rR [0, 1, 2, 3, 4] ?_
 refine AOps.m [0, 1, 2, 3, 4] ⟨[(1, I t), sp 2, (z25_5 g t j), (7, I (IntKind.i64.wrap ((downF g t j) - g.Hop)))], [(z25_0 g), (z25_4 g t j)]⟩ ?_
 refine AOps.le (st' := ⟨[(1, I t), sp 2, (z25_5 g t j), (7, I ((downF g t j) - g.Hop))], [(z25_0 g), (z25_4 g t j)]⟩) (Le.of (lk rfl (lk rfl (lk rfl (LeS.cons rfl (TLe.i (by rw [wrap_in (n := ((downF g t j) - g.Hop)) (by omega) (by omega)] <;> omega)) LeS.nil)))) (ek rfl (ek rfl LeE.nil)) (by kernel_rfl)) ?_
 refine AOps.done ?_
 try refine blockA_n ?_
 refine roundA_n (j + 1) (by have h8_ := down_8 (t := t) (j := j) hM (by omega) (by omega); refine ⟨by omega, fun i hi => ?_⟩; by_cases e : i = j; (subst e; omega); exact i2 i (by omega)) (by show 9 - (j + 1) < 9 - j; omega) (Le.of (lk rfl (lk rfl (LeS.cons rfl (TLe.gs (congrArg List.length ?_)) (LeS.cons rfl (TLe.i (by first | omega | exact downF_zero g t | exact downF_succ g t j | (simp [downTo_len]; done))) LeS.nil)))) (ek rfl (LeE.cons rfl (BLe.eq (congrArg (arow 3 1 eI 0) ?_)) LeE.nil)) (by kernel_rfl))
 iterate 2 (· first | rfl | exact downTo_succ g t j | exact rev_snoc (by omega))
 have h2 := h_; have r2 := h_; clear h_; try simp only [bb] at h2
 refine AC.exit ?_
 repeat (first | refine thenA_x ?_ | refine roundA_x ?_ | refine joinA_x ?_ | refine blockA_hit ?_ | refine blockA_miss (by decide) ?_)
 have hE := starts_eq (t := t) (j := j) hM (by omega) i2 (by omega)
 have hl_ := downTo_len g t j
 refine AC.q ⟨[(z25_2 g t j), (z25_6)], [(z25_3 g t j)]⟩ ?_
 refine AC.seq ?_
 refine AC.rS [0, 1, 2, 3] ?_
 refine AOps.m [0, 1, 2, 3] ⟨[(z25_2 g t j), (z25_6), (9, I (IntKind.i64.wrap (((downTo g t j).length : Int) - 1)))], [(z25_3 g t j)]⟩ ?_
 refine AOps.le (st' := ⟨[(z25_2 g t j), (z25_6), (z25_7 g t j)], [(z25_3 g t j)]⟩) (Le.of (lk rfl (lk rfl (LeS.cons rfl (TLe.i (by rw [wrap_in (n := (((downTo g t j).length : Int) - 1)) (by omega) (by omega)] <;> omega)) LeS.nil))) (ek rfl LeE.nil) (by kernel_rfl)) ?_
 refine AOps.done ?_
 refine AC.block ?_
 refine AC.fz 1006 (0 + (downTo g t j).length ≤ (downTo g t j).length ∧ True) ⟨[(6, tD (.sl 1 ((downTo g t j).length) (fun i_ j_ => nth (eI ((downTo g t j).getD (0 + i_) 0)) j_))), (z25_6), (z25_7 g t j)], []⟩ ⟨by omega, trivial⟩ ?_ rfl
 refine AC.le (st' := ⟨[(z25_8 g t j), (z25_6), (z25_7 g t j)], []⟩) (Le.of (LeS.cons rfl (TLe.one (ULe.c (CLe.d (DLe.row0)))) (lk rfl (lk rfl LeS.nil))) LeE.nil (by kernel_rfl)) ?_
 refine AC.nl 1008 8 3 1 (fun i_ j_ => nth (eI (([] : List Int).getD i_ 0)) j_) ⟨[(z25_8 g t j), (8, tG 1008 1 0 (([] : List Int).length)), (z25_7 g t j)], [(1008, arow 3 1 eI 0 ([] : List Int))]⟩ ?_
 refine AC.loop (ι := Nat) (fun m => ⟨[(z25_8 g t j), (8, tG 1008 1 0 (((downTo g t j).reverse.take m).length)), (z25_9 g t j m)], [(z25_10 g t j m)]⟩) (fun m => (m ≤ (downTo g t j).length)) (fun m => (downTo g t j).length - m) (0) (by omega) (Le.of (lk rfl (LeS.cons rfl (TLe.gs (congrArg List.length ?_)) (LeS.cons rfl (TLe.i (by first | omega | exact downF_zero g t | exact downF_succ g t j | (simp [downTo_len]; done))) LeS.nil))) (LeE.cons rfl (BLe.eq (congrArg (arow 3 1 eI 0) ?_)) LeE.nil) (by kernel_rfl)) ?_
 iterate 2 (· first | rfl | exact downTo_succ g t j | exact rev_snoc (by omega))
 intro m hi_
 have i1 : m ≤ (downTo g t j).length := hi_; clear hi_
 show AC _ _ ⟨[(z25_8 g t j), (8, tG 1008 1 0 (((downTo g t j).reverse.take m).length)), (z25_9 g t j m)], [(z25_10 g t j m)]⟩ _
 refine AC.seq ?_
 refine AC.q ⟨[(z25_8 g t j), (8, tG 1008 1 0 (((downTo g t j).reverse.take m).length)), (z25_9 g t j m), (50, B (decide ((((downTo g t j).length : Int) - 1 - (m : Int)) ≥ 0)))], [(z25_10 g t j m)]⟩ ?_
 refine AC.cd (b := decide ((((downTo g t j).length : Int) - 1 - (m : Int)) ≥ 0)) (fun h_ => ?_) (fun h_ => ?_)
 have h3 := h_; have r3 := h_; clear h_; try simp only [bb] at h3
 refine AC.skip ?_
 refine AC.seq ?_
 refine AC.block ?_
 refine AC.rR [0, 1, 2, 3, 4, 5, 6, 7] ?_
 refine AOps.mc [0, 1, 2, 3, 4, 5, 6] (C' := (0 ≤ ((downTo g t j).length : Int) - 1 - (m : Int) ∧ ((downTo g t j).length : Int) - 1 - (m : Int) < ((downTo g t j).length : Int)) ∧ (((downTo g t j).reverse.take m).length = ((downTo g t j).reverse.take m).length ∧ ((downTo g t j).reverse.take m).length + 1 ≤ 9223372036854775807 ∧ (((downTo g t j).reverse.take m).length + 1) * 8 ≤ 140737488355328) ∧ True) ⟨[(z25_8 g t j), (z25_9 g t j m), (59, tG 1008 1 0 (((downTo g t j).reverse.take m).length + 1))], [(1008, .arr 3 1 (((downTo g t j).reverse.take m).length + 1) fun i_ j_ => bif Nat.blt i_ ((downTo g t j).reverse.take m).length then nth (eI (((downTo g t j).reverse.take m).getD i_ 0)) j_ else (fun i_ j_ => nth [dI ((downTo g t j).getD ((((downTo g t j).length : Int) - 1 - (m : Int)).toNat) 0)] (i_ * 1 + j_)) (i_ - ((downTo g t j).reverse.take m).length) j_)]⟩ (⟨by omega, by (try simp only [downTo_len, List.length_take, List.length_reverse, true_and]); omega, trivial⟩) ?_
 refine AOps.le (st' := ⟨[(z25_8 g t j), (z25_9 g t j m), (59, tG 1008 1 0 (((downTo g t j).reverse.take m ++ [((downTo g t j).getD ((((downTo g t j).length : Int) - 1 - (m : Int)).toNat) 0)]).length))], [(z25_11 g t j m)]⟩) (Le.of (lk rfl (lk rfl (LeS.cons rfl (TLe.gs (len1 _ _)) LeS.nil))) (LeE.cons rfl (BLe.app1 (e := 3) (sz := 1) (enc := eI) (d := 0) (L := (downTo g t j).reverse.take m) (x := ((downTo g t j).getD ((((downTo g t j).length : Int) - 1 - (m : Int)).toNat) 0)) (g := fun i_ j_ => nth [dI ((downTo g t j).getD ((((downTo g t j).length : Int) - 1 - (m : Int)).toNat) 0)] (i_ * 1 + j_)) (fun j_ hj_ => by simp only [Nat.zero_mul, Nat.zero_add] <;> rfl)) LeE.nil) (by kernel_rfl)) ?_
 refine AOps.e ⟨[(z25_8 g t j), (z25_12 g t j m), (z25_9 g t j m)], [(z25_11 g t j m)]⟩ ?_
 refine AC.rR [0, 1, 2] ?_
 refine AOps.m [0, 1, 2] ⟨[(z25_8 g t j), (z25_12 g t j m), (9, I (IntKind.i64.wrap ((((downTo g t j).length : Int) - 1 - (m : Int)) - 1)))], [(z25_11 g t j m)]⟩ ?_
 refine AOps.le (st' := ⟨[(z25_8 g t j), (z25_12 g t j m), (9, I ((((downTo g t j).length : Int) - 1 - (m : Int)) - 1))], [(z25_11 g t j m)]⟩) (Le.of (lk rfl (lk rfl (LeS.cons rfl (TLe.i (by rw [wrap_in (n := ((((downTo g t j).length : Int) - 1 - (m : Int)) - 1)) (by omega) (by omega)] <;> omega)) LeS.nil))) (ek rfl LeE.nil) (by kernel_rfl)) ?_
 refine AOps.done ?_
 try refine blockA_n ?_
 refine roundA_n (m + 1) (by omega) (by show (downTo g t j).length - (m + 1) < (downTo g t j).length - m; omega) (Le.of (lk rfl (LeS.cons rfl (TLe.gs (congrArg List.length ?_)) (LeS.cons rfl (TLe.i (by first | omega | exact downF_zero g t | exact downF_succ g t j | (simp [downTo_len]; done))) LeS.nil))) (LeE.cons rfl (BLe.eq (congrArg (arow 3 1 eI 0) ?_)) LeE.nil) (by kernel_rfl))
 iterate 2 (· first | rfl | exact downTo_succ g t j | exact rev_snoc (by omega))
 have h3 := h_; have r3 := h_; clear h_; try simp only [bb] at h3
 refine AC.exit ?_
 repeat (first | refine thenA_x ?_ | refine roundA_x ?_ | refine joinA_x ?_ | refine blockA_hit ?_ | refine blockA_miss (by decide) ?_)
 refine AC.q ⟨[(4, tG 1008 1 0 (((downTo g t j).reverse.take m).length)), (5, I 0)], [(z25_10 g t j m)]⟩ ?_
 refine AC.fz 1008 (0 + ((downTo g t j).reverse.take m).length ≤ ((downTo g t j).reverse.take m).length ∧ True) ⟨[(4, tD (.sl 1 (((downTo g t j).reverse.take m).length) (fun i_ j_ => nth (eI (((downTo g t j).reverse.take m).getD (0 + i_) 0)) j_))), (5, I 0)], []⟩ ⟨by omega, trivial⟩ ?_ rfl
 refine AC.le (st' := ⟨[(4, tD (row 1 eI 0 ((downTo g t j).reverse.take m))), (5, I 0)], []⟩) (Le.of (LeS.cons rfl (TLe.one (ULe.c (CLe.d (DLe.row0)))) (lk rfl LeS.nil)) LeE.nil (by kernel_rfl)) ?_
 refine AC.ret ?_
 refine rqr (ustarts14 g t) (All2.cons (ULe.c (CLe.d (DLe.eq (congrArg (row 1 eI 0) (show ((downTo g t j).reverse.take m) = (gridStarts g t) from ?_))))) (All2.cons (ULe.c (CLe.d (DLe.eq (congrArg dI (show (0) = (startsErr g t) from ?_))))) All2.nil))
 iterate 2 (· first | (rw [gridStarts, if_pos (time_yes (by assumption) (by omega) (by omega)), ← hE, List.take_of_length_le (by simp; omega)]; done) | (rw [startsErr, if_pos (time_yes (by assumption) (by omega) (by omega))]; done) | (rw [gridStarts, if_neg (time_no14 (by assumption))]; done) | (rw [startsErr, if_neg (time_no14 (by assumption))]; done))
end Go.Proofs.Ytfpmgnkbklnkaaa.Eng
end
section
set_option linter.unusedSimpArgs false
set_option linter.unusedVariables false
set_option maxRecDepth 100000
set_option maxHeartbeats 4000000
namespace Go.Proofs.Ytfpmgnkbklnkaaa.Eng
open Go Go.Proofs
abbrev uput01 (n : Int) : List U := [.c (.d (dS (putB n)))]
abbrev z48_0 (n : Int) : Nat × T := (3, tD (dK .u64 (IntKind.u64.wrap ((IntKind.u64.wrap n) * 2))))
abbrev z48_1 (u : Nat) : Nat × T := (3, tD (dK .u64 (u : Int)))
abbrev z48_2 (u : Nat) (L : List Int) : Nat × Blk := (1004, arow 5 1 (eK .u8) 0 (L ++ [IntKind.u8.wrap (IntKind.u64.wrap ((Int.tmod (u : Int) (128 : Int)) + 128))]))
abbrev z48_3 (u : Nat) (L : List Int) : Nat × T := (4, tG 1004 1 0 ((L ++ [IntKind.u8.wrap (IntKind.u64.wrap ((Int.tmod (u : Int) (128 : Int)) + 128))]).length))
abbrev z48_4 (u : Nat) (L : List Int) : Nat × Blk := (1004, arow 5 1 (eK .u8) 0 (L ++ [IntKind.u8.wrap (u : Int)]))
/-- headgate/headgateref01.Put. -/
theorem ok_put01 (n : Int) (hn_ : R64 n) :
 FnOk Try.prog 48 [.c (.d (dI n))] (fun r_ => r_ = tD (dS (putB n))) := by
 refine FnOk.go Try.func48 rfl 34 ?_
 intro w0 m0
 show AC _ _ ⟨[(0, I n)], []⟩ _
 refine AC.q ⟨[(0, I n)], []⟩ ?_
 refine AC.q ⟨[(0, I n), (z48_0 n)], []⟩ ?_
 refine AC.join (ι := Unit) (fun _ => ⟨[(3, tD (dK .u64 (bif decide (n < 0) then IntKind.u64.wrap ((IntKind.u64.wrap ((IntKind.u64.wrap (0 - (n + 1))) * 2)) + 1) else IntKind.u64.wrap ((IntKind.u64.wrap n) * 2))))], []⟩) (fun _ => True) ?_ ?_
 refine AC.q ⟨[(0, I n), (z48_0 n), (9, B (decide (n < 0)))], []⟩ ?_
 refine AC.cd (b := decide (n < 0)) (fun h_ => ?_) (fun h_ => ?_)
 have h1 := h_; have r1 := h_; clear h_; try simp only [bb] at h1
 refine AC.rR [0, 1, 2, 3, 4, 5, 6] ?_
 refine AOps.m [0, 1, 2, 3, 4, 5, 6] ⟨[(3, tD (dK .u64 (IntKind.u64.wrap ((IntKind.u64.wrap ((IntKind.u64.wrap (IntKind.i64.wrap (0 - (IntKind.i64.wrap (n + 1))))) * 2)) + 1))))], []⟩ ?_
 refine AOps.le (st' := ⟨[(3, tD (dK .u64 (IntKind.u64.wrap ((IntKind.u64.wrap ((IntKind.u64.wrap (0 - (n + 1))) * 2)) + 1))))], []⟩) (Le.of (LeS.cons rfl (TLe.eq (congrArg (fun x_ => T.one (U.c (C.d (dK .u64 x_)))) (show ((IntKind.u64.wrap ((IntKind.u64.wrap ((IntKind.u64.wrap (IntKind.i64.wrap (0 - (IntKind.i64.wrap (n + 1))))) * 2)) + 1)) : Int) = (IntKind.u64.wrap ((IntKind.u64.wrap ((IntKind.u64.wrap (0 - (n + 1))) * 2)) + 1)) by rw [wrap_in (n := (n + 1)) (by omega) (by omega), wrap_in (n := (0 - (n + 1))) (by omega) (by omega)] <;> omega))) LeS.nil) LeE.nil (by kernel_rfl)) ?_
 refine AOps.done ?_
 refine joinA_n () trivial (Le.of (LeS.cons rfl (TLe.eq (congrArg (fun x_ => T.one (U.c (C.d (dK .u64 x_)))) (show ((IntKind.u64.wrap ((IntKind.u64.wrap ((IntKind.u64.wrap (0 - (n + 1))) * 2)) + 1)) : Int) = ((bif decide (n < 0) then IntKind.u64.wrap ((IntKind.u64.wrap ((IntKind.u64.wrap (0 - (n + 1))) * 2)) + 1) else IntKind.u64.wrap ((IntKind.u64.wrap n) * 2))) by first | rfl | exact jt (by assumption) | exact jf (by assumption)))) LeS.nil) LeE.nil (by kernel_rfl))
 have h1 := h_; have r1 := h_; clear h_; try simp only [bb] at h1
 refine AC.skip ?_
 refine joinA_n () trivial (Le.of (LeS.cons rfl (TLe.eq (congrArg (fun x_ => T.one (U.c (C.d (dK .u64 x_)))) (show ((IntKind.u64.wrap ((IntKind.u64.wrap n) * 2)) : Int) = ((bif decide (n < 0) then IntKind.u64.wrap ((IntKind.u64.wrap ((IntKind.u64.wrap (0 - (n + 1))) * 2)) + 1) else IntKind.u64.wrap ((IntKind.u64.wrap n) * 2))) by first | rfl | exact jt (by assumption) | exact jf (by assumption)))) LeS.nil) LeE.nil (by kernel_rfl))
 intro _ _
 refine AC.le (st' := ⟨[(3, tD (dK .u64 (zig n : Int)))], []⟩) (Le.of (LeS.cons rfl (TLe.eq (congrArg (fun x_ => T.one (U.c (C.d (dK .u64 x_)))) (show (((bif decide (n < 0) then IntKind.u64.wrap ((IntKind.u64.wrap ((IntKind.u64.wrap (0 - (n + 1))) * 2)) + 1) else IntKind.u64.wrap ((IntKind.u64.wrap n) * 2))) : Int) = ((zig n : Int)) by exact zig_eq hn_))) LeS.nil) LeE.nil (by kernel_rfl)) ?_
 refine AC.q ⟨[(3, tD (dK .u64 (zig n : Int))), (4, tD (.v (.slice none 0 0)))], []⟩ ?_
 refine AC.seq ?_
 refine AC.block ?_
 refine AC.nl 1004 4 5 1 (fun i_ j_ => nth ((eK .u8) (([] : List Int).getD i_ 0)) j_) ⟨[(3, tD (dK .u64 (zig n : Int))), (4, tG 1004 1 0 (([] : List Int).length))], [(1004, arow 5 1 (eK .u8) 0 ([] : List Int))]⟩ ?_
 refine AC.loop (ι := Nat × List Int × Nat) (fun x_ => match x_ with | (u, L, j) => ⟨[(z48_1 u), (4, tG 1004 1 0 L.length)], [(1004, arow 5 1 (eK .u8) 0 L)]⟩) (fun x_ => match x_ with | (u, L, j) => (PutI n u L j)) (fun x_ => match x_ with | (u, L, j) => u) ((zig n), ([] : List Int), 0) (by exact put_begin hn_) (Le.of (LeS.cons rfl (TLe.eq (congrArg (fun x_ => T.one (U.c (C.d (dK .u64 x_)))) (show (((zig n : Int)) : Int) = (((zig n) : Int)) by omega))) (lk rfl LeS.nil)) (ek rfl LeE.nil) (by kernel_rfl)) ?_
 intro x_ hi_
 obtain ⟨u, L, j⟩ := x_
 have i1 : PutI n u L j := hi_; clear hi_
 show AC _ _ ⟨[(z48_1 u), (4, tG 1004 1 0 L.length)], [(1004, arow 5 1 (eK .u8) 0 L)]⟩ _
 have hj9 := i1.2.1; have hLj := i1.2.2.1; have hu64 := put_u64 i1
 refine AC.seq ?_
 refine AC.q ⟨[(z48_1 u), (4, tG 1004 1 0 L.length), (17, B (decide ((u : Int) > 127)))], [(1004, arow 5 1 (eK .u8) 0 L)]⟩ ?_
 refine AC.cd (b := decide ((u : Int) > 127)) (fun h_ => ?_) (fun h_ => ?_)
 have h1 := h_; have r1 := h_; clear h_; try simp only [bb] at h1
 refine AC.skip ?_
 refine AC.block ?_
 refine AC.rS [0, 1, 2, 3, 4, 5, 6, 7] ?_
 refine AOps.mc [0, 1, 2, 3, 4, 5, 6] (C' := ((128 : Int) ≠ 0) ∧ (L.length = L.length ∧ L.length + 1 ≤ 9223372036854775807 ∧ (L.length + 1) * 1 ≤ 140737488355328) ∧ True) ⟨[(z48_1 u), (24, tG 1004 1 0 (L.length + 1))], [(1004, .arr 5 1 (L.length + 1) fun i_ j_ => bif Nat.blt i_ L.length then nth ((eK .u8) (L.getD i_ 0)) j_ else (fun i_ j_ => nth [dK .u8 (IntKind.u8.wrap (IntKind.u64.wrap ((Int.tmod (u : Int) (128 : Int)) + 128)))] (i_ * 1 + j_)) (i_ - L.length) j_)]⟩ (⟨by omega, by simp only [true_and]; omega, trivial⟩) ?_
 refine AOps.le (st' := ⟨[(z48_1 u), (24, tG 1004 1 0 ((L ++ [IntKind.u8.wrap (IntKind.u64.wrap ((Int.tmod (u : Int) (128 : Int)) + 128))]).length))], [(z48_2 u L)]⟩) (Le.of (lk rfl (LeS.cons rfl (TLe.gs (len1 _ _)) LeS.nil)) (LeE.cons rfl (BLe.app1 (e := 5) (sz := 1) (enc := (eK .u8)) (d := 0) (L := L) (x := IntKind.u8.wrap (IntKind.u64.wrap ((Int.tmod (u : Int) (128 : Int)) + 128))) (g := fun i_ j_ => nth [dK .u8 (IntKind.u8.wrap (IntKind.u64.wrap ((Int.tmod (u : Int) (128 : Int)) + 128)))] (i_ * 1 + j_)) (fun j_ hj_ => by simp only [Nat.zero_mul, Nat.zero_add] <;> rfl)) LeE.nil) (by kernel_rfl)) ?_
 refine AOps.e ⟨[(z48_1 u), (z48_3 u L)], [(z48_2 u L)]⟩ ?_
 refine AC.rR [0, 1, 2] ?_
 refine AOps.ec (C' := ((128 : Int) ≠ 0) ∧ True) ⟨[(3, tD (dK .u64 (IntKind.u64.wrap (Int.tdiv (u : Int) (128 : Int))))), (z48_3 u L)], [(z48_2 u L)]⟩ (⟨by omega, trivial⟩) ?_
 try refine blockA_n ?_
 exact roundA_n (u / 128, (L ++ [IntKind.u8.wrap (IntKind.u64.wrap ((Int.tmod (u : Int) (128 : Int)) + 128))]), j + 1) (by exact put_next i1 (by omega)) (by show (u / 128) < u; omega) (Le.of (LeS.cons rfl (TLe.eq (congrArg (fun x_ => T.one (U.c (C.d (dK .u64 x_)))) (show ((IntKind.u64.wrap (Int.tdiv (u : Int) (128 : Int))) : Int) = (((u / 128) : Int)) by first | rfl | exact div128 (by omega) | omega))) (lk rfl LeS.nil)) (ek rfl LeE.nil) (by kernel_rfl))
 have h1 := h_; have r1 := h_; clear h_; try simp only [bb] at h1
 refine AC.exit ?_
 repeat (first | refine thenA_x ?_ | refine roundA_x ?_ | refine joinA_x ?_ | refine blockA_hit ?_ | refine blockA_miss (by decide) ?_)
 refine AC.rS [0, 1, 2, 3, 4, 5] ?_
 refine AOps.mc [0, 1, 2, 3, 4] (C' := (L.length = L.length ∧ L.length + 1 ≤ 9223372036854775807 ∧ (L.length + 1) * 1 ≤ 140737488355328) ∧ True) ⟨[(31, tG 1004 1 0 (L.length + 1))], [(1004, .arr 5 1 (L.length + 1) fun i_ j_ => bif Nat.blt i_ L.length then nth ((eK .u8) (L.getD i_ 0)) j_ else (fun i_ j_ => nth [dK .u8 (IntKind.u8.wrap (u : Int))] (i_ * 1 + j_)) (i_ - L.length) j_)]⟩ (⟨by simp only [true_and]; omega, trivial⟩) ?_
 refine AOps.le (st' := ⟨[(31, tG 1004 1 0 ((L ++ [IntKind.u8.wrap (u : Int)]).length))], [(z48_4 u L)]⟩) (Le.of (LeS.cons rfl (TLe.gs (len1 _ _)) LeS.nil) (LeE.cons rfl (BLe.app1 (e := 5) (sz := 1) (enc := (eK .u8)) (d := 0) (L := L) (x := IntKind.u8.wrap (u : Int)) (g := fun i_ j_ => nth [dK .u8 (IntKind.u8.wrap (u : Int))] (i_ * 1 + j_)) (fun j_ hj_ => by simp only [Nat.zero_mul, Nat.zero_add] <;> rfl)) LeE.nil) (by kernel_rfl)) ?_
 refine AOps.e ⟨[(4, tG 1004 1 0 ((L ++ [IntKind.u8.wrap (u : Int)]).length))], [(z48_4 u L)]⟩ ?_
 refine AC.rS [0, 1, 2] ?_
 refine AOps.m [0] ⟨[(32, tG 1004 1 0 ((L ++ [IntKind.u8.wrap (u : Int)]).length))], [(z48_4 u L)]⟩ ?_
 refine AOps.toStr rfl (by kernel_rfl) rfl (e := 5) (by kernel_rfl) (by kernel_rfl) (by kernel_rfl) (n := 1004) (L := (L ++ [IntKind.u8.wrap (u : Int)])) (k := (L ++ [IntKind.u8.wrap (u : Int)]).length) (by kernel_rfl) rfl rfl (fun _ _ => rfl) rfl (by kernel_rfl) ?_
 refine AOps.n ⟨[(33, tD (dS (strB (L ++ [IntKind.u8.wrap (u : Int)]))))], []⟩ ?_
 refine AOps.e ⟨[(2, tD (dS (strB (L ++ [IntKind.u8.wrap (u : Int)]))))], []⟩ ?_
 refine AC.ret ?_
 exact rqr (uput01 n) (All2.cons (ULe.c (CLe.d (DLe.eq (congrArg dS (show ((strB (L ++ [IntKind.u8.wrap (u : Int)]))) = (putB n) by exact put_end i1 (by omega)))))) All2.nil)
end Go.Proofs.Ytfpmgnkbklnkaaa.Eng
end
