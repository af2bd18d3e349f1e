/- Part 5 of the engine that steps through the program, of the plain words and of what the program's functions come to; no condition. -/
import Derived.Below
import Derived.Carry
import Derived.ChangeOld
import Derived.Deep.Slices
import Derived.Deep.Strs
import Derived.OpenShut
import Derived.ProofKit
import Derived.ShutString
import Derived.SizedLaws
import Derived.Test.YtfpmgnkbklnkaaaProg
import Derived.Test.YtfpmgnkbklnkaaaK4
section
set_option linter.unusedSimpArgs false
set_option linter.unusedVariables false
set_option maxRecDepth 100000
set_option maxHeartbeats 4000000
namespace Go.Proofs.Ytfpmgnkbklnkaaa.Eng
open Go Go.Proofs
abbrev uof (key : Int) (t : Int) (v : Int) : List U := [.agg ((eRec (⟨key, t, putB v⟩ : Rec)).map .d)]
abbrev z23_0 : Nat × Blk := (6, .var ([.d (dI 0), .d (dI 0), .d (dS (⟨#[]⟩ : ByteArray))]))
/-- headgate/headgatelaw16.of. -/
theorem ok_of (key : Int) (t : Int) (v : Int) (hv_ : R64 v) :
 FnOk Try.prog 23 [.c (.d (dI key)), .c (.d (dI t)), .c (.d (dI v))] (fun r_ => r_ = tA ((eRec (⟨key, t, putB v⟩ : Rec)).map .d)) := by
 refine FnOk.go Try.func23 rfl 12 ?_
 intro w0 m0
 show AC _ _ ⟨[(0, I key), (1, I t), (2, I v)], []⟩ _
 refine AC.q ⟨[(0, I key), (1, I t), (2, I v), sp 6], [(z23_0)]⟩ ?_
 refine AC.rS [0, 1, 2, 3, 4, 5] ?_
 refine AOps.m [0, 1, 2] ⟨[sp 6, (7, I key), (8, I t), (9, I v)], [(z23_0)]⟩ ?_
 refine AOps.ca (ok_put01 v (by assumption)) ?_
 rintro _ rfl
 refine AOps.e ⟨[sp 6], [(6, .var ([.d (dI key), .d (dI t), .d (dS (putB v))]))]⟩ ?_
 refine AC.ret ?_
 exact rqr (uof key t v) (All2.cons (ULe.eq (congrArg (fun x => U.agg ((eRec x).map .d)) (show ((⟨key, t, putB v⟩ : Rec)) = ((⟨key, t, putB v⟩ : Rec)) by rfl))) All2.nil)
abbrev uawake : List U := [.c (.d (dB true))]
abbrev z19_0 : Nat × Blk := (1, .var ([.d (dI 10), .d (dI 10), .d (dI 0)]))
abbrev z19_1 : Nat × T := (3, tD (row 12 eCell zCell ((runAll (⟨10, 10, 0⟩ : Grid) zeroState [(⟨1, 3, putB 5⟩ : Rec), (⟨1, 12, putB 7⟩ : Rec), (⟨1, 4, putB 9⟩ : Rec)]).2.1)))
abbrev z19_2 : Nat × T := (6, .tup [.agg ((eState ((runAll (⟨10, 10, 0⟩ : Grid) zeroState [(⟨1, 3, putB 5⟩ : Rec), (⟨1, 12, putB 7⟩ : Rec), (⟨1, 4, putB 9⟩ : Rec)]).1)).map .d), .c (.d (row 12 eCell zCell ((runAll (⟨10, 10, 0⟩ : Grid) zeroState [(⟨1, 3, putB 5⟩ : Rec), (⟨1, 12, putB 7⟩ : Rec), (⟨1, 4, putB 9⟩ : Rec)]).2.1))), .c (.d (dI ((runAll (⟨10, 10, 0⟩ : Grid) zeroState [(⟨1, 3, putB 5⟩ : Rec), (⟨1, 12, putB 7⟩ : Rec), (⟨1, 4, putB 9⟩ : Rec)]).2.2)))])
abbrev z19_3 : Nat × T := (9, tA ((eRec (⟨1, 3, putB 5⟩ : Rec)).map .d))
abbrev z19_4 : Nat × T := (10, tA ((eRec (⟨1, 12, putB 7⟩ : Rec)).map .d))
abbrev z19_5 : Nat × T := (11, tA ((eRec (⟨1, 4, putB 9⟩ : Rec)).map .d))
abbrev z19_6 : Nat × T := (12, tD (row 3 eRec zRec [(⟨1, 3, putB 5⟩ : Rec), (⟨1, 12, putB 7⟩ : Rec), (⟨1, 4, putB 9⟩ : Rec)]))
abbrev z19_7 : Nat × T := (13, .tup [.agg ((eState ((runAll (⟨10, 10, 0⟩ : Grid) zeroState [(⟨1, 3, putB 5⟩ : Rec), (⟨1, 12, putB 7⟩ : Rec), (⟨1, 4, putB 9⟩ : Rec)]).1)).map .d), .c (.d (row 12 eCell zCell ((runAll (⟨10, 10, 0⟩ : Grid) zeroState [(⟨1, 3, putB 5⟩ : Rec), (⟨1, 12, putB 7⟩ : Rec), (⟨1, 4, putB 9⟩ : Rec)]).2.1))), .c (.d (dI ((runAll (⟨10, 10, 0⟩ : Grid) zeroState [(⟨1, 3, putB 5⟩ : Rec), (⟨1, 12, putB 7⟩ : Rec), (⟨1, 4, putB 9⟩ : Rec)]).2.2)))])
abbrev z19_8 : Nat × T := (14, tA ((eState ((runAll (⟨10, 10, 0⟩ : Grid) zeroState [(⟨1, 3, putB 5⟩ : Rec), (⟨1, 12, putB 7⟩ : Rec), (⟨1, 4, putB 9⟩ : Rec)]).1)).map .d))
abbrev z19_9 : Nat × T := (15, tD (row 12 eCell zCell ((runAll (⟨10, 10, 0⟩ : Grid) zeroState [(⟨1, 3, putB 5⟩ : Rec), (⟨1, 12, putB 7⟩ : Rec), (⟨1, 4, putB 9⟩ : Rec)]).2.1)))
abbrev z19_10 : Nat × T := (16, I ((runAll (⟨10, 10, 0⟩ : Grid) zeroState [(⟨1, 3, putB 5⟩ : Rec), (⟨1, 12, putB 7⟩ : Rec), (⟨1, 4, putB 9⟩ : Rec)]).2.2))
abbrev z19_11 : Nat × Blk := (2, .var ((eState ((runAll (⟨10, 10, 0⟩ : Grid) zeroState [(⟨1, 3, putB 5⟩ : Rec), (⟨1, 12, putB 7⟩ : Rec), (⟨1, 4, putB 9⟩ : Rec)]).1)).map .d))
abbrev y19_0 : List (Nat × Blk) := [(z19_11)]
/-- headgate/headgatelaw16.awake. -/
theorem ok_awake  :
 FnOk Try.prog 19 [] (fun r_ => r_ = B true) := by
 refine FnOk.go Try.func19 rfl 67 ?_
 intro w0 m0
 show AC _ _ ⟨[], []⟩ _
 refine AC.q ⟨[], []⟩ ?_
 refine AC.q ⟨[sp 1], [(z19_0)]⟩ ?_
 refine AC.drawXS (by kernel_rfl) 14 12 [(11, 2)] ⟨[sp 1, sp 2, (z19_1), (z19_2), (7, tA [.d (dI 10), .d (dI 10), .d (dI 0)]), (8, tA ((eState zeroState).map .d)), (z19_3), (z19_4), (z19_5), (z19_6), (z19_7), (z19_8), (z19_9), (z19_10)], [(z19_0), (2, .var ([.d (dI 0), .d (dI 0), .d (dI 0), .d (dI 0), .d (.v (.slice none 0 0))]))]⟩ ⟨[sp 1, sp 2, (z19_1), (z19_2), (7, tA [.d (dI 10), .d (dI 10), .d (dI 0)]), (8, tA ((eState zeroState).map .d)), (z19_3), (z19_4), (z19_5), (z19_6), (z19_7), (z19_8), (z19_9), (z19_10)], [(z19_0), (z19_11)]⟩ (l := [sp 1]) (e := [(z19_0)]) (by kernel_rfl) (by kernel_rfl) (by kernel_rfl) (by kernel_rfl) (by kernel_rfl) (by kernel_rfl) (StoreAt.mk' rfl (by kernel_rfl) rfl (n := 2) (off := 0) (by kernel_rfl) (l := [.d (dI 0), .d (dI 0), .d (dI 0), .d (dI 0), .d (.v (.slice none 0 0))]) (c := (eState ((runAll (⟨10, 10, 0⟩ : Grid) zeroState [(⟨1, 3, putB 5⟩ : Rec), (⟨1, 12, putB 7⟩ : Rec), (⟨1, 4, putB 9⟩ : Rec)]).1)).map .d) (by kernel_rfl) (by kernel_rfl) (by kernel_rfl) (by kernel_rfl) rfl (by kernel_rfl) rfl (env_but (A := [(1, .var ([.d (dI 10), .d (dI 10), .d (dI 0)]))]) (B := []) (b0 := .var ([.d (dI 0), .d (dI 0), .d (dI 0), .d (dI 0), .d (.v (.slice none 0 0))])) (b1 := .var ((eState ((runAll (⟨10, 10, 0⟩ : Grid) zeroState [(⟨1, 3, putB 5⟩ : Rec), (⟨1, 12, putB 7⟩ : Rec), (⟨1, 4, putB 9⟩ : Rec)]).1)).map .d))) (by kernel_rfl) (by kernel_rfl)) (.inr ⟨11, 2, rfl, by decide, by kernel_rfl, by kernel_rfl⟩) ?_ (r := [14]) (by kernel_rfl) (by kernel_rfl) ?_
 · exact (au (au (au (au (au (au (au (au (au (au (au (au (au (au AllUpTo.zero (.inr ⟨.inl ot, .inr (by kernel_rfl)⟩)) (.inr ⟨.inl (oc (ok_zero)), .inr (by kernel_rfl)⟩)) (.inr ⟨.inl (oc (ok_of 1 3 5 (by decide))), .inr (by kernel_rfl)⟩)) (.inr ⟨.inl (oc (ok_of 1 12 7 (by decide))), .inr (by kernel_rfl)⟩)) (.inr ⟨.inl (oc (ok_of 1 4 9 (by decide))), .inr (by kernel_rfl)⟩)) (.inr ⟨.inl (OpAt.lit rfl (by kernel_rfl) rfl (l := [dI ((⟨1, 3, putB 5⟩ : Rec).Key), dI ((⟨1, 3, putB 5⟩ : Rec).Time), dS ((⟨1, 3, putB 5⟩ : Rec).Text), dI ((⟨1, 12, putB 7⟩ : Rec).Key), dI ((⟨1, 12, putB 7⟩ : Rec).Time), dS ((⟨1, 12, putB 7⟩ : Rec).Text), dI ((⟨1, 4, putB 9⟩ : Rec).Key), dI ((⟨1, 4, putB 9⟩ : Rec).Time), dS ((⟨1, 4, putB 9⟩ : Rec).Text)]) (s := 3) (by kernel_rfl) rfl (by kernel_rfl) (x' := tD (row 3 eRec zRec [(⟨1, 3, putB 5⟩ : Rec), (⟨1, 12, putB 7⟩ : Rec), (⟨1, 4, putB 9⟩ : Rec)])) (by kernel_rfl) (TLe.d (DLe.sl rfl (fun i_ hi_ j_ hj_ => by rcases (show i_ = 0 ∨ i_ = 1 ∨ i_ = 2 by omega) with rfl | rfl | rfl <;> (rcases (show j_ = 0 ∨ j_ = 1 ∨ j_ = 2 by omega) with rfl | rfl | rfl) <;> rfl))) (by kernel_rfl) (by kernel_rfl)), .inr (by kernel_rfl)⟩)) (.inr ⟨.inl (oc (ok_run (⟨10, 10, 0⟩ : Grid) zeroState [(⟨1, 3, putB 5⟩ : Rec), (⟨1, 12, putB 7⟩ : Rec), (⟨1, 4, putB 9⟩ : Rec)] (by first | decide | simp [zeroState]) (by first | decide | simp [zeroState]) (by first | decide | simp [zeroState]))), .inr (by kernel_rfl)⟩)) (.inr ⟨.inl ot, .inr (by kernel_rfl)⟩)) (.inr ⟨.inl ot, .inr (by kernel_rfl)⟩)) (.inr ⟨.inl ot, .inl ot⟩)) (.inr ⟨.inl ot, .inl ot⟩)) (.inr ⟨.inl (OpAt.alloc rfl (by kernel_rfl) rfl (z := [.d (dI 0), .d (dI 0), .d (dI 0), .d (dI 0), .d (.v (.slice none 0 0))]) (by kernel_rfl) rfl (by kernel_rfl) (by kernel_rfl) rfl (by kernel_rfl) (by kernel_rfl)), .inr (by kernel_rfl)⟩)) (.inl rfl)) (.inr ⟨.inr (by kernel_rfl), .inl ot⟩))
 refine AOps.e ⟨[sp 2, (z19_1), (4, I ((runAll (⟨10, 10, 0⟩ : Grid) zeroState [(⟨1, 3, putB 5⟩ : Rec), (⟨1, 12, putB 7⟩ : Rec), (⟨1, 4, putB 9⟩ : Rec)]).2.2))], y19_0⟩ ?_
 refine AC.rS [0, 1, 2, 3, 4, 5, 6, 7, 8, 9, 10, 11, 12, 13, 14, 15, 16, 17, 18, 19, 20, 21, 22, 23, 24, 25, 26, 27, 28, 29, 30, 31, 32, 33, 34, 35, 36, 37, 38, 39, 40, 41, 42, 43, 44, 45, 46, 47, 48, 49, 50] ?_
 refine AOps.m [0, 1, 2] ⟨[sp 2, (z19_1), (19, B (((runAll (⟨10, 10, 0⟩ : Grid) zeroState [(⟨1, 3, putB 5⟩ : Rec), (⟨1, 12, putB 7⟩ : Rec), (⟨1, 4, putB 9⟩ : Rec)]).2.2) == 0))], y19_0⟩ ?_
 refine AOps.s [3, 4, 5] 6 19 22 23 true (((runAll (⟨10, 10, 0⟩ : Grid) zeroState [(⟨1, 3, putB 5⟩ : Rec), (⟨1, 12, putB 7⟩ : Rec), (⟨1, 4, putB 9⟩ : Rec)]).2.2) == 0) ((((runAll (⟨10, 10, 0⟩ : Grid) zeroState [(⟨1, 3, putB 5⟩ : Rec), (⟨1, 12, putB 7⟩ : Rec), (⟨1, 4, putB 9⟩ : Rec)]).2.1).length : Int) == 1) [2, 3] (fun h_ => ?_) ?_
 clear h_
 refine AOps.m [3, 4, 5] ⟨[sp 2, (z19_1), (19, B true), (22, B ((((runAll (⟨10, 10, 0⟩ : Grid) zeroState [(⟨1, 3, putB 5⟩ : Rec), (⟨1, 12, putB 7⟩ : Rec), (⟨1, 4, putB 9⟩ : Rec)]).2.1).length : Int) == 1))], y19_0⟩ ?_
 exact scd
 refine AOps.m [7] ⟨[sp 2, (z19_1), (24, B ((((runAll (⟨10, 10, 0⟩ : Grid) zeroState [(⟨1, 3, putB 5⟩ : Rec), (⟨1, 12, putB 7⟩ : Rec), (⟨1, 4, putB 9⟩ : Rec)]).2.2) == 0) && ((((runAll (⟨10, 10, 0⟩ : Grid) zeroState [(⟨1, 3, putB 5⟩ : Rec), (⟨1, 12, putB 7⟩ : Rec), (⟨1, 4, putB 9⟩ : Rec)]).2.1).length : Int) == 1)))], y19_0⟩ ?_
 refine AOps.s [8, 9, 10, 11, 12] 13 24 29 30 true ((((runAll (⟨10, 10, 0⟩ : Grid) zeroState [(⟨1, 3, putB 5⟩ : Rec), (⟨1, 12, putB 7⟩ : Rec), (⟨1, 4, putB 9⟩ : Rec)]).2.2) == 0) && ((((runAll (⟨10, 10, 0⟩ : Grid) zeroState [(⟨1, 3, putB 5⟩ : Rec), (⟨1, 12, putB 7⟩ : Rec), (⟨1, 4, putB 9⟩ : Rec)]).2.1).length : Int) == 1)) (((((runAll (⟨10, 10, 0⟩ : Grid) zeroState [(⟨1, 3, putB 5⟩ : Rec), (⟨1, 12, putB 7⟩ : Rec), (⟨1, 4, putB 9⟩ : Rec)]).2.1).getD 0 zCell).Key) == 1) [2, 3] (fun h_ => ?_) ?_
 have h1 := h_; have r1 := h_; clear h_; try simp only [bb] at h1
 refine AOps.mc [8, 9, 10, 11, 12] (C' := (0 ≤ (0 : Int) ∧ (0 : Int) < (((runAll (⟨10, 10, 0⟩ : Grid) zeroState [(⟨1, 3, putB 5⟩ : Rec), (⟨1, 12, putB 7⟩ : Rec), (⟨1, 4, putB 9⟩ : Rec)]).2.1).length : Int)) ∧ True) ⟨[sp 2, (z19_1), (24, B true), (29, B (((((runAll (⟨10, 10, 0⟩ : Grid) zeroState [(⟨1, 3, putB 5⟩ : Rec), (⟨1, 12, putB 7⟩ : Rec), (⟨1, 4, putB 9⟩ : Rec)]).2.1).getD 0 zCell).Key) == 1))], y19_0⟩ (⟨by omega, trivial⟩) ?_
 exact scd
 refine AOps.m [14] ⟨[sp 2, (z19_1), (31, B (((((runAll (⟨10, 10, 0⟩ : Grid) zeroState [(⟨1, 3, putB 5⟩ : Rec), (⟨1, 12, putB 7⟩ : Rec), (⟨1, 4, putB 9⟩ : Rec)]).2.2) == 0) && ((((runAll (⟨10, 10, 0⟩ : Grid) zeroState [(⟨1, 3, putB 5⟩ : Rec), (⟨1, 12, putB 7⟩ : Rec), (⟨1, 4, putB 9⟩ : Rec)]).2.1).length : Int) == 1)) && (((((runAll (⟨10, 10, 0⟩ : Grid) zeroState [(⟨1, 3, putB 5⟩ : Rec), (⟨1, 12, putB 7⟩ : Rec), (⟨1, 4, putB 9⟩ : Rec)]).2.1).getD 0 zCell).Key) == 1)))], y19_0⟩ ?_
 refine AOps.s [15, 16, 17, 18, 19] 20 31 36 37 true (((((runAll (⟨10, 10, 0⟩ : Grid) zeroState [(⟨1, 3, putB 5⟩ : Rec), (⟨1, 12, putB 7⟩ : Rec), (⟨1, 4, putB 9⟩ : Rec)]).2.2) == 0) && ((((runAll (⟨10, 10, 0⟩ : Grid) zeroState [(⟨1, 3, putB 5⟩ : Rec), (⟨1, 12, putB 7⟩ : Rec), (⟨1, 4, putB 9⟩ : Rec)]).2.1).length : Int) == 1)) && (((((runAll (⟨10, 10, 0⟩ : Grid) zeroState [(⟨1, 3, putB 5⟩ : Rec), (⟨1, 12, putB 7⟩ : Rec), (⟨1, 4, putB 9⟩ : Rec)]).2.1).getD 0 zCell).Key) == 1)) (((((runAll (⟨10, 10, 0⟩ : Grid) zeroState [(⟨1, 3, putB 5⟩ : Rec), (⟨1, 12, putB 7⟩ : Rec), (⟨1, 4, putB 9⟩ : Rec)]).2.1).getD 0 zCell).Start) == 0) [2, 3] (fun h_ => ?_) ?_
 have h2 := h_; have r2 := h_; clear h_; try simp only [bb] at h2
 refine AOps.mc [15, 16, 17, 18, 19] (C' := (0 ≤ (0 : Int) ∧ (0 : Int) < (((runAll (⟨10, 10, 0⟩ : Grid) zeroState [(⟨1, 3, putB 5⟩ : Rec), (⟨1, 12, putB 7⟩ : Rec), (⟨1, 4, putB 9⟩ : Rec)]).2.1).length : Int)) ∧ True) ⟨[sp 2, (z19_1), (31, B true), (36, B (((((runAll (⟨10, 10, 0⟩ : Grid) zeroState [(⟨1, 3, putB 5⟩ : Rec), (⟨1, 12, putB 7⟩ : Rec), (⟨1, 4, putB 9⟩ : Rec)]).2.1).getD 0 zCell).Start) == 0))], y19_0⟩ (⟨by omega, trivial⟩) ?_
 exact scd
 refine AOps.m [21] ⟨[sp 2, (z19_1), (38, B ((((((runAll (⟨10, 10, 0⟩ : Grid) zeroState [(⟨1, 3, putB 5⟩ : Rec), (⟨1, 12, putB 7⟩ : Rec), (⟨1, 4, putB 9⟩ : Rec)]).2.2) == 0) && ((((runAll (⟨10, 10, 0⟩ : Grid) zeroState [(⟨1, 3, putB 5⟩ : Rec), (⟨1, 12, putB 7⟩ : Rec), (⟨1, 4, putB 9⟩ : Rec)]).2.1).length : Int) == 1)) && (((((runAll (⟨10, 10, 0⟩ : Grid) zeroState [(⟨1, 3, putB 5⟩ : Rec), (⟨1, 12, putB 7⟩ : Rec), (⟨1, 4, putB 9⟩ : Rec)]).2.1).getD 0 zCell).Key) == 1)) && (((((runAll (⟨10, 10, 0⟩ : Grid) zeroState [(⟨1, 3, putB 5⟩ : Rec), (⟨1, 12, putB 7⟩ : Rec), (⟨1, 4, putB 9⟩ : Rec)]).2.1).getD 0 zCell).Start) == 0)))], y19_0⟩ ?_
 refine AOps.s [22, 23, 24, 25, 26, 27] 28 38 44 45 true ((((((runAll (⟨10, 10, 0⟩ : Grid) zeroState [(⟨1, 3, putB 5⟩ : Rec), (⟨1, 12, putB 7⟩ : Rec), (⟨1, 4, putB 9⟩ : Rec)]).2.2) == 0) && ((((runAll (⟨10, 10, 0⟩ : Grid) zeroState [(⟨1, 3, putB 5⟩ : Rec), (⟨1, 12, putB 7⟩ : Rec), (⟨1, 4, putB 9⟩ : Rec)]).2.1).length : Int) == 1)) && (((((runAll (⟨10, 10, 0⟩ : Grid) zeroState [(⟨1, 3, putB 5⟩ : Rec), (⟨1, 12, putB 7⟩ : Rec), (⟨1, 4, putB 9⟩ : Rec)]).2.1).getD 0 zCell).Key) == 1)) && (((((runAll (⟨10, 10, 0⟩ : Grid) zeroState [(⟨1, 3, putB 5⟩ : Rec), (⟨1, 12, putB 7⟩ : Rec), (⟨1, 4, putB 9⟩ : Rec)]).2.1).getD 0 zCell).Start) == 0)) ((((((runAll (⟨10, 10, 0⟩ : Grid) zeroState [(⟨1, 3, putB 5⟩ : Rec), (⟨1, 12, putB 7⟩ : Rec), (⟨1, 4, putB 9⟩ : Rec)]).2.1).getD 0 zCell).A).Sum) == 5) [2] (fun h_ => ?_) ?_
 have h3 := h_; have r3 := h_; clear h_; try simp only [bb] at h3
 refine AOps.mc [22, 23, 24, 25, 26, 27] (C' := (0 ≤ (0 : Int) ∧ (0 : Int) < (((runAll (⟨10, 10, 0⟩ : Grid) zeroState [(⟨1, 3, putB 5⟩ : Rec), (⟨1, 12, putB 7⟩ : Rec), (⟨1, 4, putB 9⟩ : Rec)]).2.1).length : Int)) ∧ True) ⟨[sp 2, (38, B true), (44, B ((((((runAll (⟨10, 10, 0⟩ : Grid) zeroState [(⟨1, 3, putB 5⟩ : Rec), (⟨1, 12, putB 7⟩ : Rec), (⟨1, 4, putB 9⟩ : Rec)]).2.1).getD 0 zCell).A).Sum) == 5))], y19_0⟩ (⟨by omega, trivial⟩) ?_
 exact scd
 refine AOps.m [29] ⟨[sp 2, (46, B (((((((runAll (⟨10, 10, 0⟩ : Grid) zeroState [(⟨1, 3, putB 5⟩ : Rec), (⟨1, 12, putB 7⟩ : Rec), (⟨1, 4, putB 9⟩ : Rec)]).2.2) == 0) && ((((runAll (⟨10, 10, 0⟩ : Grid) zeroState [(⟨1, 3, putB 5⟩ : Rec), (⟨1, 12, putB 7⟩ : Rec), (⟨1, 4, putB 9⟩ : Rec)]).2.1).length : Int) == 1)) && (((((runAll (⟨10, 10, 0⟩ : Grid) zeroState [(⟨1, 3, putB 5⟩ : Rec), (⟨1, 12, putB 7⟩ : Rec), (⟨1, 4, putB 9⟩ : Rec)]).2.1).getD 0 zCell).Key) == 1)) && (((((runAll (⟨10, 10, 0⟩ : Grid) zeroState [(⟨1, 3, putB 5⟩ : Rec), (⟨1, 12, putB 7⟩ : Rec), (⟨1, 4, putB 9⟩ : Rec)]).2.1).getD 0 zCell).Start) == 0)) && ((((((runAll (⟨10, 10, 0⟩ : Grid) zeroState [(⟨1, 3, putB 5⟩ : Rec), (⟨1, 12, putB 7⟩ : Rec), (⟨1, 4, putB 9⟩ : Rec)]).2.1).getD 0 zCell).A).Sum) == 5)))], y19_0⟩ ?_
 refine AOps.s [30, 31, 32] 33 46 49 50 true (((((((runAll (⟨10, 10, 0⟩ : Grid) zeroState [(⟨1, 3, putB 5⟩ : Rec), (⟨1, 12, putB 7⟩ : Rec), (⟨1, 4, putB 9⟩ : Rec)]).2.2) == 0) && ((((runAll (⟨10, 10, 0⟩ : Grid) zeroState [(⟨1, 3, putB 5⟩ : Rec), (⟨1, 12, putB 7⟩ : Rec), (⟨1, 4, putB 9⟩ : Rec)]).2.1).length : Int) == 1)) && (((((runAll (⟨10, 10, 0⟩ : Grid) zeroState [(⟨1, 3, putB 5⟩ : Rec), (⟨1, 12, putB 7⟩ : Rec), (⟨1, 4, putB 9⟩ : Rec)]).2.1).getD 0 zCell).Key) == 1)) && (((((runAll (⟨10, 10, 0⟩ : Grid) zeroState [(⟨1, 3, putB 5⟩ : Rec), (⟨1, 12, putB 7⟩ : Rec), (⟨1, 4, putB 9⟩ : Rec)]).2.1).getD 0 zCell).Start) == 0)) && ((((((runAll (⟨10, 10, 0⟩ : Grid) zeroState [(⟨1, 3, putB 5⟩ : Rec), (⟨1, 12, putB 7⟩ : Rec), (⟨1, 4, putB 9⟩ : Rec)]).2.1).getD 0 zCell).A).Sum) == 5)) ((((runAll (⟨10, 10, 0⟩ : Grid) zeroState [(⟨1, 3, putB 5⟩ : Rec), (⟨1, 12, putB 7⟩ : Rec), (⟨1, 4, putB 9⟩ : Rec)]).1).Late) == 1) [2] (fun h_ => ?_) ?_
 clear h_
 refine AOps.m [30, 31, 32] ⟨[sp 2, (46, B true), (49, B ((((runAll (⟨10, 10, 0⟩ : Grid) zeroState [(⟨1, 3, putB 5⟩ : Rec), (⟨1, 12, putB 7⟩ : Rec), (⟨1, 4, putB 9⟩ : Rec)]).1).Late) == 1))], y19_0⟩ ?_
 exact scd
 refine AOps.m [34] ⟨[sp 2, (51, B ((((((((runAll (⟨10, 10, 0⟩ : Grid) zeroState [(⟨1, 3, putB 5⟩ : Rec), (⟨1, 12, putB 7⟩ : Rec), (⟨1, 4, putB 9⟩ : Rec)]).2.2) == 0) && ((((runAll (⟨10, 10, 0⟩ : Grid) zeroState [(⟨1, 3, putB 5⟩ : Rec), (⟨1, 12, putB 7⟩ : Rec), (⟨1, 4, putB 9⟩ : Rec)]).2.1).length : Int) == 1)) && (((((runAll (⟨10, 10, 0⟩ : Grid) zeroState [(⟨1, 3, putB 5⟩ : Rec), (⟨1, 12, putB 7⟩ : Rec), (⟨1, 4, putB 9⟩ : Rec)]).2.1).getD 0 zCell).Key) == 1)) && (((((runAll (⟨10, 10, 0⟩ : Grid) zeroState [(⟨1, 3, putB 5⟩ : Rec), (⟨1, 12, putB 7⟩ : Rec), (⟨1, 4, putB 9⟩ : Rec)]).2.1).getD 0 zCell).Start) == 0)) && ((((((runAll (⟨10, 10, 0⟩ : Grid) zeroState [(⟨1, 3, putB 5⟩ : Rec), (⟨1, 12, putB 7⟩ : Rec), (⟨1, 4, putB 9⟩ : Rec)]).2.1).getD 0 zCell).A).Sum) == 5)) && ((((runAll (⟨10, 10, 0⟩ : Grid) zeroState [(⟨1, 3, putB 5⟩ : Rec), (⟨1, 12, putB 7⟩ : Rec), (⟨1, 4, putB 9⟩ : Rec)]).1).Late) == 1)))], y19_0⟩ ?_
 refine AOps.s [35, 36, 37] 38 51 54 55 true ((((((((runAll (⟨10, 10, 0⟩ : Grid) zeroState [(⟨1, 3, putB 5⟩ : Rec), (⟨1, 12, putB 7⟩ : Rec), (⟨1, 4, putB 9⟩ : Rec)]).2.2) == 0) && ((((runAll (⟨10, 10, 0⟩ : Grid) zeroState [(⟨1, 3, putB 5⟩ : Rec), (⟨1, 12, putB 7⟩ : Rec), (⟨1, 4, putB 9⟩ : Rec)]).2.1).length : Int) == 1)) && (((((runAll (⟨10, 10, 0⟩ : Grid) zeroState [(⟨1, 3, putB 5⟩ : Rec), (⟨1, 12, putB 7⟩ : Rec), (⟨1, 4, putB 9⟩ : Rec)]).2.1).getD 0 zCell).Key) == 1)) && (((((runAll (⟨10, 10, 0⟩ : Grid) zeroState [(⟨1, 3, putB 5⟩ : Rec), (⟨1, 12, putB 7⟩ : Rec), (⟨1, 4, putB 9⟩ : Rec)]).2.1).getD 0 zCell).Start) == 0)) && ((((((runAll (⟨10, 10, 0⟩ : Grid) zeroState [(⟨1, 3, putB 5⟩ : Rec), (⟨1, 12, putB 7⟩ : Rec), (⟨1, 4, putB 9⟩ : Rec)]).2.1).getD 0 zCell).A).Sum) == 5)) && ((((runAll (⟨10, 10, 0⟩ : Grid) zeroState [(⟨1, 3, putB 5⟩ : Rec), (⟨1, 12, putB 7⟩ : Rec), (⟨1, 4, putB 9⟩ : Rec)]).1).Late) == 1)) ((((runAll (⟨10, 10, 0⟩ : Grid) zeroState [(⟨1, 3, putB 5⟩ : Rec), (⟨1, 12, putB 7⟩ : Rec), (⟨1, 4, putB 9⟩ : Rec)]).1).N) == 3) [2] (fun h_ => ?_) ?_
 clear h_
 refine AOps.m [35, 36, 37] ⟨[sp 2, (51, B true), (54, B ((((runAll (⟨10, 10, 0⟩ : Grid) zeroState [(⟨1, 3, putB 5⟩ : Rec), (⟨1, 12, putB 7⟩ : Rec), (⟨1, 4, putB 9⟩ : Rec)]).1).N) == 3))], y19_0⟩ ?_
 exact scd
 refine AOps.m [39] ⟨[sp 2, (56, B (((((((((runAll (⟨10, 10, 0⟩ : Grid) zeroState [(⟨1, 3, putB 5⟩ : Rec), (⟨1, 12, putB 7⟩ : Rec), (⟨1, 4, putB 9⟩ : Rec)]).2.2) == 0) && ((((runAll (⟨10, 10, 0⟩ : Grid) zeroState [(⟨1, 3, putB 5⟩ : Rec), (⟨1, 12, putB 7⟩ : Rec), (⟨1, 4, putB 9⟩ : Rec)]).2.1).length : Int) == 1)) && (((((runAll (⟨10, 10, 0⟩ : Grid) zeroState [(⟨1, 3, putB 5⟩ : Rec), (⟨1, 12, putB 7⟩ : Rec), (⟨1, 4, putB 9⟩ : Rec)]).2.1).getD 0 zCell).Key) == 1)) && (((((runAll (⟨10, 10, 0⟩ : Grid) zeroState [(⟨1, 3, putB 5⟩ : Rec), (⟨1, 12, putB 7⟩ : Rec), (⟨1, 4, putB 9⟩ : Rec)]).2.1).getD 0 zCell).Start) == 0)) && ((((((runAll (⟨10, 10, 0⟩ : Grid) zeroState [(⟨1, 3, putB 5⟩ : Rec), (⟨1, 12, putB 7⟩ : Rec), (⟨1, 4, putB 9⟩ : Rec)]).2.1).getD 0 zCell).A).Sum) == 5)) && ((((runAll (⟨10, 10, 0⟩ : Grid) zeroState [(⟨1, 3, putB 5⟩ : Rec), (⟨1, 12, putB 7⟩ : Rec), (⟨1, 4, putB 9⟩ : Rec)]).1).Late) == 1)) && ((((runAll (⟨10, 10, 0⟩ : Grid) zeroState [(⟨1, 3, putB 5⟩ : Rec), (⟨1, 12, putB 7⟩ : Rec), (⟨1, 4, putB 9⟩ : Rec)]).1).N) == 3)))], y19_0⟩ ?_
 refine AOps.s [40, 41, 42] 43 56 59 60 true (((((((((runAll (⟨10, 10, 0⟩ : Grid) zeroState [(⟨1, 3, putB 5⟩ : Rec), (⟨1, 12, putB 7⟩ : Rec), (⟨1, 4, putB 9⟩ : Rec)]).2.2) == 0) && ((((runAll (⟨10, 10, 0⟩ : Grid) zeroState [(⟨1, 3, putB 5⟩ : Rec), (⟨1, 12, putB 7⟩ : Rec), (⟨1, 4, putB 9⟩ : Rec)]).2.1).length : Int) == 1)) && (((((runAll (⟨10, 10, 0⟩ : Grid) zeroState [(⟨1, 3, putB 5⟩ : Rec), (⟨1, 12, putB 7⟩ : Rec), (⟨1, 4, putB 9⟩ : Rec)]).2.1).getD 0 zCell).Key) == 1)) && (((((runAll (⟨10, 10, 0⟩ : Grid) zeroState [(⟨1, 3, putB 5⟩ : Rec), (⟨1, 12, putB 7⟩ : Rec), (⟨1, 4, putB 9⟩ : Rec)]).2.1).getD 0 zCell).Start) == 0)) && ((((((runAll (⟨10, 10, 0⟩ : Grid) zeroState [(⟨1, 3, putB 5⟩ : Rec), (⟨1, 12, putB 7⟩ : Rec), (⟨1, 4, putB 9⟩ : Rec)]).2.1).getD 0 zCell).A).Sum) == 5)) && ((((runAll (⟨10, 10, 0⟩ : Grid) zeroState [(⟨1, 3, putB 5⟩ : Rec), (⟨1, 12, putB 7⟩ : Rec), (⟨1, 4, putB 9⟩ : Rec)]).1).Late) == 1)) && ((((runAll (⟨10, 10, 0⟩ : Grid) zeroState [(⟨1, 3, putB 5⟩ : Rec), (⟨1, 12, putB 7⟩ : Rec), (⟨1, 4, putB 9⟩ : Rec)]).1).N) == 3)) ((((runAll (⟨10, 10, 0⟩ : Grid) zeroState [(⟨1, 3, putB 5⟩ : Rec), (⟨1, 12, putB 7⟩ : Rec), (⟨1, 4, putB 9⟩ : Rec)]).1).Mark) == 12) [2] (fun h_ => ?_) ?_
 clear h_
 refine AOps.m [40, 41, 42] ⟨[sp 2, (56, B true), (59, B ((((runAll (⟨10, 10, 0⟩ : Grid) zeroState [(⟨1, 3, putB 5⟩ : Rec), (⟨1, 12, putB 7⟩ : Rec), (⟨1, 4, putB 9⟩ : Rec)]).1).Mark) == 12))], y19_0⟩ ?_
 exact scd
 refine AOps.m [44] ⟨[sp 2, (61, B ((((((((((runAll (⟨10, 10, 0⟩ : Grid) zeroState [(⟨1, 3, putB 5⟩ : Rec), (⟨1, 12, putB 7⟩ : Rec), (⟨1, 4, putB 9⟩ : Rec)]).2.2) == 0) && ((((runAll (⟨10, 10, 0⟩ : Grid) zeroState [(⟨1, 3, putB 5⟩ : Rec), (⟨1, 12, putB 7⟩ : Rec), (⟨1, 4, putB 9⟩ : Rec)]).2.1).length : Int) == 1)) && (((((runAll (⟨10, 10, 0⟩ : Grid) zeroState [(⟨1, 3, putB 5⟩ : Rec), (⟨1, 12, putB 7⟩ : Rec), (⟨1, 4, putB 9⟩ : Rec)]).2.1).getD 0 zCell).Key) == 1)) && (((((runAll (⟨10, 10, 0⟩ : Grid) zeroState [(⟨1, 3, putB 5⟩ : Rec), (⟨1, 12, putB 7⟩ : Rec), (⟨1, 4, putB 9⟩ : Rec)]).2.1).getD 0 zCell).Start) == 0)) && ((((((runAll (⟨10, 10, 0⟩ : Grid) zeroState [(⟨1, 3, putB 5⟩ : Rec), (⟨1, 12, putB 7⟩ : Rec), (⟨1, 4, putB 9⟩ : Rec)]).2.1).getD 0 zCell).A).Sum) == 5)) && ((((runAll (⟨10, 10, 0⟩ : Grid) zeroState [(⟨1, 3, putB 5⟩ : Rec), (⟨1, 12, putB 7⟩ : Rec), (⟨1, 4, putB 9⟩ : Rec)]).1).Late) == 1)) && ((((runAll (⟨10, 10, 0⟩ : Grid) zeroState [(⟨1, 3, putB 5⟩ : Rec), (⟨1, 12, putB 7⟩ : Rec), (⟨1, 4, putB 9⟩ : Rec)]).1).N) == 3)) && ((((runAll (⟨10, 10, 0⟩ : Grid) zeroState [(⟨1, 3, putB 5⟩ : Rec), (⟨1, 12, putB 7⟩ : Rec), (⟨1, 4, putB 9⟩ : Rec)]).1).Mark) == 12)))], y19_0⟩ ?_
 refine AOps.s [45, 46, 47, 48] 49 61 65 66 true ((((((((((runAll (⟨10, 10, 0⟩ : Grid) zeroState [(⟨1, 3, putB 5⟩ : Rec), (⟨1, 12, putB 7⟩ : Rec), (⟨1, 4, putB 9⟩ : Rec)]).2.2) == 0) && ((((runAll (⟨10, 10, 0⟩ : Grid) zeroState [(⟨1, 3, putB 5⟩ : Rec), (⟨1, 12, putB 7⟩ : Rec), (⟨1, 4, putB 9⟩ : Rec)]).2.1).length : Int) == 1)) && (((((runAll (⟨10, 10, 0⟩ : Grid) zeroState [(⟨1, 3, putB 5⟩ : Rec), (⟨1, 12, putB 7⟩ : Rec), (⟨1, 4, putB 9⟩ : Rec)]).2.1).getD 0 zCell).Key) == 1)) && (((((runAll (⟨10, 10, 0⟩ : Grid) zeroState [(⟨1, 3, putB 5⟩ : Rec), (⟨1, 12, putB 7⟩ : Rec), (⟨1, 4, putB 9⟩ : Rec)]).2.1).getD 0 zCell).Start) == 0)) && ((((((runAll (⟨10, 10, 0⟩ : Grid) zeroState [(⟨1, 3, putB 5⟩ : Rec), (⟨1, 12, putB 7⟩ : Rec), (⟨1, 4, putB 9⟩ : Rec)]).2.1).getD 0 zCell).A).Sum) == 5)) && ((((runAll (⟨10, 10, 0⟩ : Grid) zeroState [(⟨1, 3, putB 5⟩ : Rec), (⟨1, 12, putB 7⟩ : Rec), (⟨1, 4, putB 9⟩ : Rec)]).1).Late) == 1)) && ((((runAll (⟨10, 10, 0⟩ : Grid) zeroState [(⟨1, 3, putB 5⟩ : Rec), (⟨1, 12, putB 7⟩ : Rec), (⟨1, 4, putB 9⟩ : Rec)]).1).N) == 3)) && ((((runAll (⟨10, 10, 0⟩ : Grid) zeroState [(⟨1, 3, putB 5⟩ : Rec), (⟨1, 12, putB 7⟩ : Rec), (⟨1, 4, putB 9⟩ : Rec)]).1).Mark) == 12)) (((((runAll (⟨10, 10, 0⟩ : Grid) zeroState [(⟨1, 3, putB 5⟩ : Rec), (⟨1, 12, putB 7⟩ : Rec), (⟨1, 4, putB 9⟩ : Rec)]).1).L).length : Int) == 1) [] (fun h_ => ?_) ?_
 clear h_
 refine AOps.m [45, 46, 47, 48] ⟨[(61, B true), (65, B (((((runAll (⟨10, 10, 0⟩ : Grid) zeroState [(⟨1, 3, putB 5⟩ : Rec), (⟨1, 12, putB 7⟩ : Rec), (⟨1, 4, putB 9⟩ : Rec)]).1).L).length : Int) == 1))], y19_0⟩ ?_
 exact scd
 refine AOps.e ⟨[(0, B (((((((((((runAll (⟨10, 10, 0⟩ : Grid) zeroState [(⟨1, 3, putB 5⟩ : Rec), (⟨1, 12, putB 7⟩ : Rec), (⟨1, 4, putB 9⟩ : Rec)]).2.2) == 0) && ((((runAll (⟨10, 10, 0⟩ : Grid) zeroState [(⟨1, 3, putB 5⟩ : Rec), (⟨1, 12, putB 7⟩ : Rec), (⟨1, 4, putB 9⟩ : Rec)]).2.1).length : Int) == 1)) && (((((runAll (⟨10, 10, 0⟩ : Grid) zeroState [(⟨1, 3, putB 5⟩ : Rec), (⟨1, 12, putB 7⟩ : Rec), (⟨1, 4, putB 9⟩ : Rec)]).2.1).getD 0 zCell).Key) == 1)) && (((((runAll (⟨10, 10, 0⟩ : Grid) zeroState [(⟨1, 3, putB 5⟩ : Rec), (⟨1, 12, putB 7⟩ : Rec), (⟨1, 4, putB 9⟩ : Rec)]).2.1).getD 0 zCell).Start) == 0)) && ((((((runAll (⟨10, 10, 0⟩ : Grid) zeroState [(⟨1, 3, putB 5⟩ : Rec), (⟨1, 12, putB 7⟩ : Rec), (⟨1, 4, putB 9⟩ : Rec)]).2.1).getD 0 zCell).A).Sum) == 5)) && ((((runAll (⟨10, 10, 0⟩ : Grid) zeroState [(⟨1, 3, putB 5⟩ : Rec), (⟨1, 12, putB 7⟩ : Rec), (⟨1, 4, putB 9⟩ : Rec)]).1).Late) == 1)) && ((((runAll (⟨10, 10, 0⟩ : Grid) zeroState [(⟨1, 3, putB 5⟩ : Rec), (⟨1, 12, putB 7⟩ : Rec), (⟨1, 4, putB 9⟩ : Rec)]).1).N) == 3)) && ((((runAll (⟨10, 10, 0⟩ : Grid) zeroState [(⟨1, 3, putB 5⟩ : Rec), (⟨1, 12, putB 7⟩ : Rec), (⟨1, 4, putB 9⟩ : Rec)]).1).Mark) == 12)) && (((((runAll (⟨10, 10, 0⟩ : Grid) zeroState [(⟨1, 3, putB 5⟩ : Rec), (⟨1, 12, putB 7⟩ : Rec), (⟨1, 4, putB 9⟩ : Rec)]).1).L).length : Int) == 1)))], []⟩ ?_
 refine AC.ret ?_
 exact rqr uawake (All2.cons (ULe.c (CLe.d (DLe.eq (congrArg dB (show (((((((((((runAll (⟨10, 10, 0⟩ : Grid) zeroState [(⟨1, 3, putB 5⟩ : Rec), (⟨1, 12, putB 7⟩ : Rec), (⟨1, 4, putB 9⟩ : Rec)]).2.2) == 0) && ((((runAll (⟨10, 10, 0⟩ : Grid) zeroState [(⟨1, 3, putB 5⟩ : Rec), (⟨1, 12, putB 7⟩ : Rec), (⟨1, 4, putB 9⟩ : Rec)]).2.1).length : Int) == 1)) && (((((runAll (⟨10, 10, 0⟩ : Grid) zeroState [(⟨1, 3, putB 5⟩ : Rec), (⟨1, 12, putB 7⟩ : Rec), (⟨1, 4, putB 9⟩ : Rec)]).2.1).getD 0 zCell).Key) == 1)) && (((((runAll (⟨10, 10, 0⟩ : Grid) zeroState [(⟨1, 3, putB 5⟩ : Rec), (⟨1, 12, putB 7⟩ : Rec), (⟨1, 4, putB 9⟩ : Rec)]).2.1).getD 0 zCell).Start) == 0)) && ((((((runAll (⟨10, 10, 0⟩ : Grid) zeroState [(⟨1, 3, putB 5⟩ : Rec), (⟨1, 12, putB 7⟩ : Rec), (⟨1, 4, putB 9⟩ : Rec)]).2.1).getD 0 zCell).A).Sum) == 5)) && ((((runAll (⟨10, 10, 0⟩ : Grid) zeroState [(⟨1, 3, putB 5⟩ : Rec), (⟨1, 12, putB 7⟩ : Rec), (⟨1, 4, putB 9⟩ : Rec)]).1).Late) == 1)) && ((((runAll (⟨10, 10, 0⟩ : Grid) zeroState [(⟨1, 3, putB 5⟩ : Rec), (⟨1, 12, putB 7⟩ : Rec), (⟨1, 4, putB 9⟩ : Rec)]).1).N) == 3)) && ((((runAll (⟨10, 10, 0⟩ : Grid) zeroState [(⟨1, 3, putB 5⟩ : Rec), (⟨1, 12, putB 7⟩ : Rec), (⟨1, 4, putB 9⟩ : Rec)]).1).Mark) == 12)) && (((((runAll (⟨10, 10, 0⟩ : Grid) zeroState [(⟨1, 3, putB 5⟩ : Rec), (⟨1, 12, putB 7⟩ : Rec), (⟨1, 4, putB 9⟩ : Rec)]).1).L).length : Int) == 1)) = (true) by kernel_rfl))))) All2.nil)
end Go.Proofs.Ytfpmgnkbklnkaaa.Eng
end
section
set_option linter.unusedSimpArgs false
set_option linter.unusedVariables false
set_option maxRecDepth 100000
namespace Go.Proofs.Ytfpmgnkbklnkaaa.Eng
open Go Go.Proofs Go.ChangeShapes Go.WideShapes Go.ChangeAt Go.RowKit Go.Deep
def memOf (W : World) : Mem := fun a => match W.cell? a with
  | some v => bif v.oneCell' then some v else none
  | none => none
theorem memOf_good (W : World) : Good (memOf W) W := by
  intro a v h
  unfold memOf at h
  split at h
  · rename_i u hu
    cases h1 : u.oneCell' with
    | true => rw [h1] at h; obtain rfl := Option.some.inj h; exact ⟨hu, h1⟩
    | false => rw [h1] at h; cases h
  · cases h
theorem memOf_cell {W : World} {a : Addr} {v : Value} (h : W.cell? a = some v) (h1 : v.oneCell' = true) : memOf W a = some v := by simp [memOf, h, h1]
theorem plain_add {W : World} {a : Addr} (h : (W.cell? (a.add 0)).isSome = true) : a = ⟨a.block, a.off, none⟩ := by
  obtain ⟨b, o, s⟩ := a
  cases s with
  | none => rfl
  | some s =>
    exfalso
    simp only [Addr.add, if_true, World.cell?] at h
    split at h <;> simp at h
theorem add_none (b o i : Nat) : (⟨b, o, none⟩ : Addr).add i = ⟨b, o + i, none⟩ := by simp only [Addr.add]; split <;> simp_all
theorem choose_idx {α : Type} {p : Nat → α → Prop} : ∀ (len : Nat), (∀ i, i < len → ∃ y, p i y) → ∃ L : List α, L.length = len ∧ ∀ i (hi : i < L.length), p i L[i]
  | 0, _ => ⟨[], rfl, fun i hi => by simp at hi⟩
  | k + 1, key => by
    obtain ⟨L, h1, h2⟩ := choose_idx k (fun i hi => key i (by omega))
    obtain ⟨y, hy⟩ := key k (by omega)
    refine ⟨L ++ [y], by simp [h1], fun i hi => ?_⟩
    by_cases hik : i < L.length
    · rw [List.getElem_append_left hik]; exact h2 i hik
    · simp at hi
      obtain rfl : i = L.length := by omega
      simp only [List.getElem_append_right (Nat.le_refl _), Nat.sub_self, List.getElem_cons_zero]
      rw [h1]; exact hy
section
variable {H : Type} {enc : TypeId × Value → H} {W : World} {base : Nat} {sp : Nat → Bool} {held : Bool} {fuel : Nat} {cs : List Value} {x : DataW H × List MemPlace}
theorem c3 : Try.prog.cellsOf 3 = 1 := by kernel_rfl
theorem c9 : Try.prog.cellsOf 9 = 1 := by kernel_rfl
theorem c53 : Try.prog.cellsOf 53 = 3 := by kernel_rfl
theorem wf64 {n : Int} (h : (Lit.int .i64 n).wf = true) : R64 n := by
  simp [Lit.wf, IntKind.min, IntKind.max, IntKind.signed, IntKind.bits] at h; omega
def vRec (r : Rec) : List Value := [.int .i64 r.Key, .int .i64 r.Time, .string r.Text]
def RecR (r : Rec) : Prop := R64 r.Key ∧ R64 r.Time ∧ r.Text.size ≤ maxLen
set_option maxRecDepth 100000 in
theorem open_recC (h : DataW.trod enc Try.prog W base sp held fuel 53 cs = some x) : ∃ r : Rec, cs = vRec r ∧ RecR r := by
  obtain ⟨y0, y1, y2, n, rfl, hl, h0, h1, h2⟩ := trod_struct3 Try.underlying53 h
  rw [c53] at hl
  match cs, hl with
  | [a, b, c], _ =>
    simp only [c3, c9, List.drop, List.take] at h0 h1 h2
    obtain ⟨n0, e0, _, w0⟩ := DataW.trod_int Try.underlying3 h0
    obtain ⟨n1, e1, _, w1⟩ := DataW.trod_int Try.underlying3 h1
    obtain ⟨s, e2, _, w2⟩ := DataW.trod_string Try.underlying9 h2
    simp only [List.cons.injEq, and_true] at e0 e1 e2
    subst e0 e1 e2
    exact ⟨⟨n0, n1, s⟩, rfl, wf64 w0, wf64 w1, w2⟩
theorem vRec_len (r : Rec) : (vRec r).length = 3 := rfl
theorem vRec_rep (r : Rec) : ∀ j, j < 3 → ∃ v, (vRec r)[j]? = some v ∧ v.oneCell' = true ∧ ∀ m, (nth (eRec r) j).rep m v := by
  intro j hj
  rcases (show j = 0 ∨ j = 1 ∨ j = 2 by omega) with rfl | rfl | rfl <;> exact ⟨_, rfl, rfl, fun m => rfl⟩
/-- A slice of structs, of plain cells. -/
theorem open_rows {α : Type} {sz t e : Nat} {ee : α → List D} {df : α} {vv : α → List Value} {good : α → Prop} (ht : Try.prog.underlying t = some (.slice e)) (hc : Try.prog.cellsOf e = sz) (hs : 0 < sz)
    (hel : ∀ {fuel : Nat} {cs : List Value} {x : DataW H × List MemPlace}, DataW.trod enc Try.prog W base sp held fuel e cs = some x → ∃ a : α, cs = vv a ∧ good a) (hlen : ∀ a, (vv a).length = sz)
    (hv : ∀ a, ∀ j, j < sz → ∃ v, (vv a)[j]? = some v ∧ v.oneCell' = true ∧ ∀ m, (nth (ee a) j).rep m v) {v : Value} (h : DataW.trod enc Try.prog W base sp held fuel t [v] = some x) :
    ∃ L : List α, (row sz ee df L).rep (memOf W) v ∧ ∀ a ∈ L, good a := by
  rcases open_slice ht h with ⟨hcs, _⟩ | ⟨a, len, cap, m, n, Dd, Pl, hcs, hb, hl, hm, hmm, _, hx⟩
  · simp only [List.cons.injEq, and_true] at hcs
    subst hcs
    exact ⟨[], ⟨none, 0, rfl, Nat.le_refl _, .inl rfl⟩, by simp⟩
  · simp only [List.cons.injEq, and_true] at hcs
    subst hcs
    have hlm : len ≤ m := by rw [hmm]; split <;> omega
    have key : ∀ i, i < len → ∃ y : α, good y ∧ W.cells? base (a.add (i * sz)) sz = some (vv y) := by
      intro i hi
      obtain ⟨cs', h1, h2⟩ := hx i (by omega)
      rw [hc] at h1
      obtain ⟨y, rfl, hg⟩ := hel h2
      exact ⟨y, hg, h1⟩
    have hch := choose_idx (p := fun i (y : α) => good y ∧ W.cells? base (a.add (i * sz)) sz = some (vv y)) len key
    obtain ⟨L, hL, hLx⟩ := hch
    refine ⟨L, ?_, fun y hy => ?_⟩
    · refine ⟨some a, cap, by rw [hL], by rw [hL]; exact hl, ?_⟩
      rcases Nat.eq_zero_or_pos len with h0 | h0
      · left; omega
      · right
        have hz := (World.cells?_some (hLx 0 (by omega)).2).2.2 0 hs
        have ha : a = ⟨a.block, a.off, none⟩ := by
          have : a.add (0 * sz) = a := by simp [Addr.add]
          rw [this] at hz
          refine plain_add (W := W) ?_
          rw [hz]
          obtain ⟨u, hu, _⟩ := hv L[0] 0 hs
          rw [hu]; rfl
        refine ⟨a.block, a.off, by rw [← ha], fun i hi j hj => ?_⟩
        have hcell := (World.cells?_some (hLx i hi).2).2.2 j hj
        obtain ⟨u, hu, h1, h2⟩ := hv L[i] j hj
        rw [hu, ha, add_none, add_none, Nat.add_assoc] at hcell
        refine ⟨u, memOf_cell hcell h1, ?_⟩
        have : L.getD i df = L[i] := by simp [List.getD, hi]
        show D.rep (memOf W) (nth (ee (L.getD i df)) j) u
        rw [this]
        exact h2 _
    · obtain ⟨i, hi, rfl⟩ := List.mem_iff_getElem.1 hy
      exact (hLx i hi).1
/-- A struct, of plain cells. -/
theorem open_agg {α : Type} {sz t : Nat} {fs : Array Field} {ee : α → List D} {vv : α → List Value} {good : α → Prop} (ht : Try.prog.underlying t = some (.struct fs))
    (hel : ∀ {fuel : Nat} {cs : List Value} {x : DataW H × List MemPlace}, DataW.trod enc Try.prog W base sp held fuel t cs = some x → ∃ a : α, cs = vv a ∧ good a) (hlen : ∀ a, (vv a).length = sz) (hel2 : ∀ a, (ee a).length = sz)
    (hv : ∀ a, ∀ j, j < sz → ∃ v, (vv a)[j]? = some v ∧ v.oneCell' = true ∧ ∀ m, (nth (ee a) j).rep m v) {b0 : Nat} {v : Value} {d : DataW H} {ps : List MemPlace} (hval : Value.okWide Try.prog W .any b0 t v)
    (h : DataW.Trod enc Try.prog W base sp held t v d ps) : ∃ a : α, U.rep (memOf W) β0 (.agg ((ee a).map .d)) v ∧ good a := by
  obtain ⟨cs, rfl, _⟩ := okWide_struct ht hval
  obtain ⟨fuel, hf⟩ := h
  obtain ⟨a, ha, hg⟩ := hel hf
  refine ⟨a, ⟨vv a, ?_, ?_⟩, hg⟩
  · have : cs.toList = vv a := by simpa [Value.cells] using ha
    rw [← this]
  · have key : ∀ (l : List D) (k : List Value), l.length = k.length → (∀ j, j < l.length → ∃ v, k[j]? = some v ∧ (nth l j).rep (memOf W) v) → All2 (C.rep (memOf W) β0) (l.map .d) k := by
      intro l
      induction l with
      | nil => intro k hk _; cases k with | nil => exact .nil | cons => simp at hk
      | cons y l ih =>
        intro k hk hj
        cases k with
        | nil => simp at hk
        | cons u k =>
          obtain ⟨v0, e0, r0⟩ := hj 0 (by simp)
          simp at e0; subst e0
          refine .cons r0 (ih k (by simpa using hk) fun j hjl => ?_)
          obtain ⟨v1, e1, r1⟩ := hj (j + 1) (by simpa using hjl)
          exact ⟨v1, by simpa using e1, r1⟩
    refine key _ _ (by rw [hel2, hlen]) fun j hj => ?_
    rw [hel2] at hj
    obtain ⟨u, hu, _, hr⟩ := hv a j hj
    exact ⟨u, hu, hr _⟩
def vGrid (g : Grid) : List Value := [.int .i64 g.Size, .int .i64 g.Hop, .int .i64 g.Late]
def GridR (g : Grid) : Prop := R64 g.Size ∧ R64 g.Hop ∧ R64 g.Late
theorem c23 : Try.prog.cellsOf 23 = 3 := by kernel_rfl
set_option maxRecDepth 100000 in
theorem open_gridC (h : DataW.trod enc Try.prog W base sp held fuel 23 cs = some x) : ∃ g : Grid, cs = vGrid g ∧ GridR g := by
  obtain ⟨y0, y1, y2, n, rfl, hl, h0, h1, h2⟩ := trod_struct3 Try.underlying23 h
  rw [c23] at hl
  match cs, hl with
  | [a, b, c], _ =>
    simp only [c3, List.drop, List.take] at h0 h1 h2
    obtain ⟨n0, e0, _, w0⟩ := DataW.trod_int Try.underlying3 h0
    obtain ⟨n1, e1, _, w1⟩ := DataW.trod_int Try.underlying3 h1
    obtain ⟨n2, e2, _, w2⟩ := DataW.trod_int Try.underlying3 h2
    simp only [List.cons.injEq, and_true] at e0 e1 e2
    subst e0 e1 e2
    exact ⟨⟨n0, n1, n2⟩, rfl, wf64 w0, wf64 w1, wf64 w2⟩
theorem vGrid_rep (g : Grid) : ∀ j, j < 3 → ∃ v, (vGrid g)[j]? = some v ∧ v.oneCell' = true ∧ ∀ m, (nth (eGrid g) j).rep m v := by
  intro j hj
  rcases (show j = 0 ∨ j = 1 ∨ j = 2 by omega) with rfl | rfl | rfl <;> exact ⟨_, rfl, rfl, fun m => rfl⟩
theorem open_grid {b0 : Nat} {v : Value} {d : DataW H} {ps : List MemPlace} (hval : Value.okWide Try.prog W .any b0 23 v) (h : DataW.Trod enc Try.prog W base sp held 23 v d ps) :
    ∃ g : Grid, U.rep (memOf W) β0 (.agg ((eGrid g).map .d)) v ∧ GridR g :=
  open_agg (sz := 3) Try.underlying23 (fun h => open_gridC h) (fun _ => rfl) (fun _ => rfl) vGrid_rep hval h
theorem open_rec {b0 : Nat} {v : Value} {d : DataW H} {ps : List MemPlace} (hval : Value.okWide Try.prog W .any b0 53 v) (h : DataW.Trod enc Try.prog W base sp held 53 v d ps) :
    ∃ r : Rec, U.rep (memOf W) β0 (.agg ((eRec r).map .d)) v ∧ RecR r :=
  open_agg (sz := 3) Try.underlying53 (fun h => open_recC h) (fun _ => rfl) (fun _ => rfl) vRec_rep hval h
theorem cells_slice (A : Option Addr) (n c : Nat) : (Value.slice A n c).cells.toList = [.slice A n c] := rfl
theorem open_recs {b0 : Nat} {v : Value} {d : DataW H} {ps : List MemPlace} (hval : Value.okWide Try.prog W .any b0 24 v) (h : DataW.Trod enc Try.prog W base sp held 24 v d ps) :
    ∃ l : List Rec, U.rep (memOf W) β0 (.c (.d (row 3 eRec zRec l))) v ∧ ∀ r ∈ l, RecR r := by
  obtain ⟨A, n, c, rfl⟩ := okWide_slice Try.underlying24 hval
  obtain ⟨fuel, hf⟩ := h
  rw [cells_slice] at hf
  exact open_rows Try.underlying24 c53 (by decide) (fun h => open_recC h) vRec_len vRec_rep hf
theorem open_i {b0 : Nat} {v : Value} {d : DataW H} {ps : List MemPlace} (hval : Value.okWide Try.prog W .any b0 3 v) (h : DataW.Trod enc Try.prog W base sp held 3 v d ps) :
    ∃ n : Int, U.rep (memOf W) β0 (.c (.d (dI n))) v ∧ R64 n := by
  obtain ⟨n, rfl, _, _, hw⟩ := open_int Try.underlying3 hval h
  exact ⟨n, rfl, wf64 hw⟩
end
/-- What a function that only reckons does, as a walk. -/
theorem FnOk.walk {n : FuncId} {args : List U} {Q : T → Prop} (h : FnOk Try.prog n args Q) (hQ : ∀ r, Q r → r = B true) (W : World) {vs : List Value} (ha : All2 (U.rep (memOf W) β0) args vs) :
    Calls Try.prog n vs.toArray W fun e W' => e = .returned (.bool true) ∧ Below W.heap.size W W' :=
  (h.calls (memOf W) W vs (memOf_good W) ha).mono fun e W' ⟨v, m', r, he, hq, _, hr, _, _, hf⟩ => by
    rw [hQ r hq] at hr
    obtain rfl : v = .bool true := hr
    exact ⟨he, ⟨hf.os, hf.tape, hf.output, hf.size, fun k hk => hf.block k hk (fun e => e)⟩⟩
theorem own_ : ownKnob Try.prog.godebug = none := by kernel_rfl
theorem laidOut_ : laidOutB Try.prog = true := by kernel_rfl
end Go.Proofs.Ytfpmgnkbklnkaaa.Eng
end
section
set_option linter.unusedSimpArgs false
set_option linter.unusedVariables false
namespace Go.Proofs.Ytfpmgnkbklnkaaa.Eng
open Go
/-! #### a number more -/
theorem quart_abs (v : Int) : ((quartRe v).natAbs : Int) + (quartIm v).natAbs = 1 := by
  unfold quartRe quartIm
  have := quarter_lt v
  rcases (show quarter v = 0 ∨ quarter v = 1 ∨ quarter v = 2 ∨ quarter v = 3 by omega) with e | e | e | e <;> rw [e] <;> decide
theorem satAdd_mid {a b : Int} (h : -9223372036854775808 ≤ a + b) (k : a + b ≤ 9223372036854775807) : satAdd a b = a + b := by unfold satAdd; rw [if_neg (by omega), if_neg (by omega)]
/-- A fold that may be, or none. -/
def aggOk (a : Agg) : Prop := a = zAgg ∨ aggMay a = true
theorem agg_step {a : Agg} {v : Int} (h : aggOk a) (hn : a.Count ≤ 1000000) : aggMay (aggAdd a v) = true ∧ (aggAdd a v).Count = a.Count + 1 := by
  have q := quart_abs v
  have hm : 0 ≤ a.Count ∧ (a.Count = 0 ∨ a.Min ≤ a.Max) ∧ 0 ≤ a.Hist.h0 ∧ 0 ≤ a.Hist.h1 ∧ 0 ≤ a.Hist.h2 ∧ 0 ≤ a.Hist.h3 ∧ a.Hist.h0 + a.Hist.h1 + a.Hist.h2 + a.Hist.h3 = a.Count ∧ (a.Re.natAbs : Int) + a.Im.natAbs ≤ a.Count := by
    rcases h with rfl | h
    · decide
    · have := aggMay_spec h; exact ⟨by omega, .inr this.2.2.1, this.2.2.2.1, this.2.2.2.2.1, this.2.2.2.2.2.1, this.2.2.2.2.2.2.1, this.2.2.2.2.2.2.2.1, this.2.2.2.2.2.2.2.2⟩
  obtain ⟨h0, h1, h2, h3, h4, h5, h6, h7⟩ := hm
  have e : (aggAdd a v).Count = a.Count + 1 := by show satAdd a.Count 1 = _; exact satAdd_mid (by omega) (by omega)
  refine ⟨?_, e⟩
  have e1 : (aggAdd a v).Re = a.Re + quartRe v := by show satAdd _ _ = _; exact satAdd_mid (by omega) (by omega)
  have e2 : (aggAdd a v).Im = a.Im + quartIm v := by show satAdd _ _ = _; exact satAdd_mid (by omega) (by omega)
  simp only [aggMay, decide_eq_true_eq, e, e1, e2]
  have hmm : (aggAdd a v).Min ≤ (aggAdd a v).Max := by
    show (if a.Count = 0 then v else min a.Min v) ≤ (if a.Count = 0 then v else max a.Max v)
    split <;> omega
  have hh : 0 ≤ (aggAdd a v).Hist.h0 ∧ 0 ≤ (aggAdd a v).Hist.h1 ∧ 0 ≤ (aggAdd a v).Hist.h2 ∧ 0 ≤ (aggAdd a v).Hist.h3 ∧ (aggAdd a v).Hist.h0 + (aggAdd a v).Hist.h1 + (aggAdd a v).Hist.h2 + (aggAdd a v).Hist.h3 = a.Count + 1 := by
    simp only [aggAdd]
    rcases sortOf_cases v with c | c | c | c <;> rw [c] <;> simp only [hset, hget] <;> rw [satAdd_mid (by omega) (by omega)] <;> omega
  exact ⟨by omega, by omega, hmm, hh.1, hh.2.1, hh.2.2.1, hh.2.2.2.1, hh.2.2.2.2, by omega⟩
/-! #### windows -/
theorem putC_mem' {key start v : Int} : ∀ {l : List Cell} {c : Cell}, c ∈ putC key start v l → c ∈ l ∨ c = ⟨key, start, aggAdd zAgg v⟩ ∨ ∃ d ∈ l, d.Key = key ∧ d.Start = start ∧ c = ⟨key, start, aggAdd d.A v⟩
  | [], c, h => by simp only [putC, List.mem_singleton] at h; exact .inr (.inl h)
  | d :: r, c, h => by
    rw [putC] at h
    split at h
    · rcases List.mem_cons.1 h with rfl | h
      · exact .inl (by simp)
      · rcases putC_mem' h with h1 | h1 | ⟨e, he, h1⟩
        · exact .inl (by simp [h1])
        · exact .inr (.inl h1)
        · exact .inr (.inr ⟨e, by simp [he], h1⟩)
    · rename_i h1
      split at h
      · rcases List.mem_cons.1 h with rfl | h
        · exact .inr (.inl rfl)
        · exact .inl h
      · rename_i h2
        have e := ahead_neither (a := d) (b := newCell key start) (by simpa using h1) (by simpa using h2)
        have e1 : d.Start = start := e.1
        have e2 : d.Key = key := e.2
        rcases List.mem_cons.1 h with rfl | h
        · exact .inr (.inr ⟨d, by simp, e2, e1, by rw [e1, e2]⟩)
        · exact .inl (by simp [h])
/-- What a window is like when n records have come. -/
structure CellOk (g : Grid) (mark : Int) (n : Nat) (c : Cell) : Prop where
  key : inN c.Key = true ∧ c.Key ≤ 1048576
  start : inN c.Start = true ∧ Int.tmod c.Start g.Hop = 0 ∧ c.Start ≤ mark
  may : aggMay c.A = true
  cnt : c.A.Count ≤ n
theorem CellOk.up {g : Grid} {m m' : Int} {n n' : Nat} {c : Cell} (h : CellOk g m n c) (hm : m ≤ m') (hn : n ≤ n') : CellOk g m' n' c := ⟨h.key, ⟨h.start.1, h.start.2.1, by have := h.start.2.2; omega⟩, h.may, by have := h.cnt; omega⟩
theorem stF_b {g : Grid} (hg : gridMay g = true) {t : Int} (h0 : 0 ≤ t) {k : Nat} (hk : k < (Int.tdiv g.Size g.Hop).toNat) : stF g t k ≤ t ∧ t < stF g t k + g.Size ∧ (0 ≤ stF g t k → Int.tmod (stF g t k) g.Hop = 0) := by
  obtain ⟨K, k1, k2, k3, k4⟩ := gridK hg
  have hs := gridMay_spec hg
  rw [k3] at hk
  have hb := tmod_b h0 hs.2.2.1
  have e1 : ((k : Int) + 1) * g.Hop ≤ (K : Int) * g.Hop := Int.mul_le_mul_of_nonneg_right (by omega) (by omega)
  have e2 : g.Hop ≤ ((k : Int) + 1) * g.Hop := by
    have := Int.mul_le_mul_of_nonneg_right (show (1 : Int) ≤ (k : Int) + 1 by omega) (show 0 ≤ g.Hop by omega)
    omega
  have e3 : g.Hop * ((k : Int) + 1) = ((k : Int) + 1) * g.Hop := Int.mul_comm _ _
  refine ⟨by unfold stF; omega, by unfold stF; omega, fun hp => ?_⟩
  have hd : g.Hop ∣ stF g t k := by
    unfold stF
    rw [k4]
    have h1 : g.Hop ∣ t - Int.tmod t g.Hop := by
      have := Int.tmod_add_mul_tdiv t g.Hop
      exact ⟨Int.tdiv t g.Hop, by omega⟩
    exact Int.dvd_add (Int.dvd_sub h1 ⟨K, Int.mul_comm _ _⟩) ⟨_, rfl⟩
  exact Int.tmod_eq_zero_of_dvd hd
theorem starts_mem {g : Grid} {t x : Int} (h : x ∈ gridStarts g t) : timeOk g t = true ∧ 0 ≤ x ∧ x ≤ t ∧ t < x + g.Size ∧ Int.tmod x g.Hop = 0 := by
  unfold gridStarts at h
  split at h
  · rename_i ht
    have ht' := ht
    simp only [timeOk, Bool.and_eq_true, decide_eq_true_eq] at ht'
    simp only [startsTo, List.mem_filter, List.mem_map, List.mem_range, decide_eq_true_eq] at h
    obtain ⟨⟨k, hk, rfl⟩, hp⟩ := h
    have := stF_b ht'.1.1 ht'.1.2 hk
    exact ⟨ht, hp, this.1, this.2.1, this.2.2 hp⟩
  · cases h
theorem takeTo_ok {g : Grid} {mark key v : Int} {n : Nat} (hn : n ≤ 1000) (hk : inN key = true ∧ key ≤ 1048576) : ∀ (starts : List Int) {l : List Cell}, starts.Nodup → l.Pairwise (fun a b => ahead a b = true) →
    (∀ c ∈ l, CellOk g mark (if c.Key = key ∧ c.Start ∈ starts then n else n + 1) c) → (∀ x ∈ starts, inN x = true ∧ Int.tmod x g.Hop = 0 ∧ x ≤ mark) →
    ∀ c ∈ starts.foldl (fun a at_ => putC key at_ v a) l, CellOk g mark (n + 1) c
  | [], l, _, _, h, _, c, hc => by have := h c hc; simpa using this
  | x :: r, l, hnd, hpw, h, hx, c, hc => by
    obtain ⟨hnd1, hnd2⟩ := List.nodup_cons.1 hnd
    refine takeTo_ok hn hk r hnd2 (putC_pw hpw) (fun d hd => ?_) (fun y hy => hx y (by simp [hy])) c hc
    have hx0 := hx x (by simp)
    rcases putC_mem' hd with hd | rfl | ⟨e, he, e1, e2, rfl⟩
    · refine (h d hd).up (Int.le_refl _) ?_
      by_cases e : d.Key = key ∧ d.Start ∈ r
      · rw [if_pos e, if_pos ⟨e.1, by simp [e.2]⟩]; exact Nat.le_refl _
      · rw [if_neg e]; split <;> omega
    · have hs := agg_step (a := zAgg) (v := v) (.inl rfl) (by decide)
      refine ⟨hk, hx0, hs.1, ?_⟩
      have h0 : zAgg.Count = 0 := rfl
      show (aggAdd zAgg v).Count ≤ _
      rw [hs.2, h0, if_neg (fun hh => hnd1 hh.2)]
      omega
    · have h1 := h e he
      rw [if_pos ⟨e1, by simp [e2]⟩] at h1
      have hs := agg_step (a := e.A) (v := v) (.inr h1.may) (by have := h1.cnt; omega)
      refine ⟨hk, hx0, hs.1, ?_⟩
      show (aggAdd e.A v).Count ≤ _
      rw [hs.2, if_neg (fun hh => hnd1 hh.2)]
      have := h1.cnt; omega
theorem stF_inj {g : Grid} (hg : gridMay g = true) {t : Int} {j k : Nat} (h : stF g t j = stF g t k) : j = k := by
  have hs := gridMay_spec hg
  unfold stF at h
  have h1 : g.Hop * ((j : Int) + 1) = g.Hop * ((k : Int) + 1) := by omega
  have := Int.eq_of_mul_eq_mul_left (by omega) h1
  omega
theorem starts_nodup (g : Grid) (t : Int) : (gridStarts g t).Nodup := by
  unfold gridStarts
  split
  · rename_i h
    simp only [timeOk, Bool.and_eq_true] at h
    refine List.Pairwise.filter _ ?_
    rw [List.pairwise_map]
    exact List.pairwise_iff_getElem.2 fun i j hi hj hij e => by
      have := stF_inj h.1.1 e
      simp at this; omega
  · exact List.nodup_nil
theorem closed_up {g : Grid} {x m m' : Int} (h : gridClosed g x m = true) (hm : m ≤ m') : gridClosed g x m' = true := by
  simp only [gridClosed, Bool.and_eq_true, decide_eq_true_eq] at *
  exact ⟨⟨h.1.1, by omega⟩, by omega⟩
/-! #### a state that n records have left -/
structure StOk (g : Grid) (n : Nat) (s : State) : Prop where
  grid : gridMay g = true
  mark : s.Mark = -1 ∨ inN s.Mark = true
  late : 0 ≤ s.Late
  bad : 0 ≤ s.Bad
  cnt : s.N = n
  sum : s.Late + s.Bad ≤ s.N
  len : s.L.length ≤ 64
  cells : ∀ c ∈ s.L, CellOk g s.Mark n c ∧ gridClosed g c.Start s.Mark = false
  srt : s.L.Pairwise fun a b => ahead a b = true
theorem StOk.may {g : Grid} {n : Nat} {s : State} (h : StOk g n s) (hn : n ≤ 1000) : stateMay g s = true := by
  have h1 := h.grid; have h2 := h.mark; have h3 := h.late; have h4 := h.bad; have h5 := h.cnt; have h6 := h.sum; have h7 := h.len; have h8 := h.cells; have h9 := h.srt
  refine stateMay_iff.2 ⟨?_, fun j hj => ⟨?_, ?_⟩⟩
  · simp only [headMay, Bool.and_eq_true, Bool.or_eq_true, beq_iff_eq, decide_eq_true_eq, inN, ge_iff_le]
    refine ⟨⟨⟨⟨⟨⟨h1, ?_⟩, ?_⟩, ?_⟩, ?_⟩, by omega⟩, by omega⟩
    · rcases h2 with h2 | h2
      · exact .inl h2
      · exact .inr (by simpa [inN] using h2)
    all_goals omega
  · obtain ⟨hc, hcl⟩ := h8 _ (getD_mem zCell hj)
    simp only [mayCell, Bool.and_eq_true, decide_eq_true_eq, beq_iff_eq, Bool.not_eq_true']
    exact ⟨⟨⟨⟨⟨⟨hc.key.1, hc.key.2⟩, hc.start.1⟩, hc.start.2.1⟩, hc.start.2.2⟩, hcl⟩, hc.may⟩
  · simp only [aheadAt, Bool.or_eq_true, beq_iff_eq]
    by_cases e : j = 0
    · exact .inl e
    · exact .inr (srt_pw.2 h9 (j - 1) j (by omega) hj)
theorem StOk.zero {g : Grid} (hg : gridMay g = true) : StOk g 0 zeroState := ⟨hg, .inl rfl, by decide, by decide, rfl, by decide, by decide, (by intro c hc; cases hc), List.Pairwise.nil⟩
theorem mark_le (s : State) (r : Rec) : s.Mark ≤ feedMark s r ∧ r.Time ≤ feedMark s r := by unfold feedMark; split <;> omega
theorem openS_mem {g : Grid} {s : State} {r : Rec} {x : Int} (h : x ∈ openS g s r) : x ∈ gridStarts g r.Time ∧ gridClosed g x s.Mark = false := by
  simp only [openS, List.mem_filter, cloI, Bool.not_eq_true'] at h; exact h
theorem feedL_eq (g : Grid) (s : State) (r : Rec) : feedL g s r = if feedDrop g s r then s.L else (openS g s r).foldl (fun a at_ => putC r.Key at_ (valN r) a) s.L := by
  unfold feedL; rw [putOpen_eq]; simp only [takeTo, List.take_length]
theorem putF_pw {key v : Int} : ∀ (st : List Int) {l : List Cell}, l.Pairwise (fun a b => ahead a b = true) → (st.foldl (fun a at_ => putC key at_ v a) l).Pairwise (fun a b => ahead a b = true)
  | [], _, h => h
  | _ :: r, _, h => putF_pw r (putC_pw h)
theorem putF_mem {key v : Int} : ∀ (st : List Int) {l : List Cell} {c : Cell}, c ∈ st.foldl (fun a at_ => putC key at_ v a) l → (c.Start ∈ st ∧ c.Key = key) ∨ ∃ d ∈ l, c.Start = d.Start ∧ c.Key = d.Key
  | [], _, c, h => .inr ⟨c, h, rfl, rfl⟩
  | x :: r, l, c, h => by
    rcases putF_mem r h with h | ⟨d, hd, e1, e2⟩
    · exact .inl ⟨by simp [h.1], h.2⟩
    · rcases putC_mem hd with ⟨e3, e4⟩ | ⟨e, he, e3, e4⟩
      · exact .inl ⟨by rw [e1, e3]; simp, e2.trans e4⟩
      · exact .inr ⟨e, he, e1.trans e3, e2.trans e4⟩
/-- What stands behind a record that is taken, ahead of what is told. -/
theorem feedL_ok {g : Grid} {n : Nat} {s : State} {r : Rec} (h : StOk g n s) (hn : n ≤ 1000) (hr : recMay r = true) :
    (∀ c ∈ feedL g s r, CellOk g (feedMark s r) (n + 1) c) ∧ (feedL g s r).Pairwise (fun a b => ahead a b = true) ∧ (feedL g s r).length ≤ 64 ∧
    ∀ c ∈ feedL g s r, gridClosed g c.Start s.Mark = false := by
  have hm := mark_le s r
  simp only [recMay, Bool.and_eq_true, decide_eq_true_eq] at hr
  rw [feedL_eq]
  cases hd : feedDrop g s r with
  | true =>
    rw [if_pos rfl]
    exact ⟨fun c hc => (h.cells c hc).1.up hm.1 (by omega), h.srt, h.len, fun c hc => (h.cells c hc).2⟩
  | false =>
    rw [if_neg (by decide)]
    refine ⟨?_, putF_pw _ h.srt, ?_, ?_⟩
    · refine takeTo_ok hn hr.1 _ (List.Pairwise.filter _ (starts_nodup g r.Time)) h.srt (fun c hc => (h.cells c hc).1.up hm.1 (by split <;> omega)) (fun x hx => ?_)
      have hx' := starts_mem (openS_mem hx).1
      have := inN_b hr.2
      exact ⟨by simp only [inN, Bool.and_eq_true, decide_eq_true_eq]; omega, hx'.2.2.2.2, by omega⟩
    · have hf : feedDrop g s r = false := hd
      unfold feedDrop at hf
      rw [putOpen_eq] at hf
      simp only [Bool.or_eq_false_iff, decide_eq_false_iff_not, takeTo, List.take_length] at hf
      omega
    · intro c hc
      rcases putF_mem _ hc with ⟨hx, _⟩ | ⟨d, hd2, e1, _⟩
      · exact (openS_mem hx).2
      · rw [e1]; exact (h.cells d hd2).2
theorem drop_late {g : Grid} {n : Nat} {s : State} {r : Rec} (h : StOk g n s) : (0 : Int) ≤ (if feedDrop g s r then s.Late + 1 else s.Late) ∧ (if feedDrop g s r then s.Late + 1 else s.Late) ≤ s.Late + 1 := by
  have := h.late
  split <;> omega
theorem StOk.feed {g : Grid} {n : Nat} {s : State} {r : Rec} (h : StOk g n s) (hn : n ≤ 1000) (he : feedErr g s r = 0) : StOk g (n + 1) (feedSt g s r) := by
  have hr : recMay r = true := by have := feedErr_may he; simp only [feedMay, Bool.and_eq_true] at this; exact this.2
  have hF := feedL_ok h hn hr
  have hm := mark_le s r
  have hs := h.sum; have hc := h.cnt; have hb := h.bad; have hl := h.late
  unfold feedSt
  rw [if_pos he]
  split
  · have hd := drop_late (r := r) h
    refine ⟨h.grid, ?_, hd.1, hb, by simp only; omega, by simp only; omega, Nat.le_trans (List.length_filter_le _ _) hF.2.2.1, fun c hc => ?_, hF.2.1.filter _⟩
    · simp only [recMay, Bool.and_eq_true] at hr
      show feedMark s r = -1 ∨ inN (feedMark s r) = true
      unfold feedMark; split
      · exact .inr hr.2
      · exact h.mark
    · obtain ⟨h1, h2⟩ := List.mem_filter.1 hc
      exact ⟨hF.1 c h1, by simpa using h2⟩
  · exact ⟨h.grid, h.mark, hl, by simp only; omega, by simp only; omega, by simp only; omega, h.len, fun c hc => ⟨(h.cells c hc).1.up (Int.le_refl _) (by omega), (h.cells c hc).2⟩, h.srt⟩
theorem zero_may (g : Grid) : stateMay g zeroState = gridMay g := by
  rw [Bool.eq_iff_iff]
  constructor
  · intro h; exact (headMay_spec (stateMay_iff.1 h).1).1
  · intro h; exact (StOk.zero h).may (by omega)
/-! #### records from nothing on -/
/-- ToldOk once, and closed. -/
structure ToldOk (g : Grid) (s : State) (x : List Cell) : Prop where
  shut : ∀ c ∈ x, gridClosed g c.Start s.Mark = true
  once : (x ++ s.L).Pairwise fun a b => ¬ (a.Start = b.Start ∧ a.Key = b.Key)
theorem ahead_ne {a b : Cell} (h : ahead a b = true) : ¬ (a.Start = b.Start ∧ a.Key = b.Key) := by
  rw [ahead_iff] at h; omega
theorem ToldOk.feed {g : Grid} {n : Nat} {s : State} {r : Rec} {x : List Cell} (h : StOk g n s) (hn : n ≤ 1000) (he : feedErr g s r = 0) (ht : ToldOk g s x) : ToldOk g (feedSt g s r) (x ++ feedOver g s r) := by
  have hr : recMay r = true := by have := feedErr_may he; simp only [feedMay, Bool.and_eq_true] at this; exact this.2
  have hF := feedL_ok h hn hr
  have hm := mark_le s r
  unfold feedSt feedOver
  rw [if_pos he, if_pos he]
  by_cases hv : valOk r = true
  · rw [if_pos hv, if_pos hv]
    refine ⟨fun c hc => ?_, ?_⟩
    · rcases List.mem_append.1 hc with hc | hc
      · exact closed_up (ht.shut c hc) hm.1
      · exact (List.mem_filter.1 hc).2
    · have hp : (feedL g s r).Pairwise fun a b => ¬ (a.Start = b.Start ∧ a.Key = b.Key) := hF.2.1.imp ahead_ne
      have ho : ∀ a ∈ x, ∀ b ∈ feedL g s r, ¬ (a.Start = b.Start ∧ a.Key = b.Key) := fun a ha b hb e => by
        have h1 := ht.shut a ha
        rw [e.1, hF.2.2.2 b hb] at h1; cases h1
      rw [List.append_assoc, List.pairwise_append]
      refine ⟨(List.pairwise_append.1 ht.once).1, ?_, fun a ha b hb => ?_⟩
      · rw [List.pairwise_append]
        refine ⟨hp.filter _, hp.filter _, fun a ha b hb e => ?_⟩
        have h1 := (List.mem_filter.1 ha).2
        have h2 := (List.mem_filter.1 hb).2
        rw [e.1] at h1
        rw [h1] at h2; cases h2
      · refine ho a ha b ?_
        rcases List.mem_append.1 hb with hb | hb <;> exact (List.mem_filter.1 hb).1
  · rw [if_neg hv, if_neg hv, List.append_nil]
    exact ⟨ht.shut, ht.once⟩
theorem run_ok {g : Grid} {l : List Rec} (hg : gridMay g = true) (hl : l.length ≤ 150) : ∀ i, i ≤ l.length → (runTo g zeroState l i).2.2 = 0 → StOk g i (runTo g zeroState l i).1 ∧ ToldOk g (runTo g zeroState l i).1 (runTo g zeroState l i).2.1
  | 0, _, _ => ⟨StOk.zero hg, ⟨(by intro c hc; cases hc), List.Pairwise.nil⟩⟩
  | i + 1, hi, h0 => by
    have e := runTo_succ (g := g) (s := zeroState) (l := l) (i := i) (by omega)
    rw [e] at h0
    unfold runStep at h0
    split at h0
    · exact absurd h0 (by assumption)
    · rename_i h1
      have h1 : (runTo g zeroState l i).2.2 = 0 := Decidable.not_not.1 h1
      split at h0
      · exact absurd h0 (by assumption)
      · rename_i h2
        have h2 : feedErr g (runTo g zeroState l i).1 (l.getD i zRec) = 0 := Decidable.not_not.1 h2
        have ih := run_ok hg hl i (by omega) h1
        rw [runTo_ok (by omega) h1 h2]
        exact ⟨ih.1.feed (by omega) h2, ih.2.feed ih.1 (by omega) h2⟩
theorem runAll_ok {g : Grid} {l : List Rec} (hl : l.length ≤ 150) (h : (runAll g zeroState l).2.2 = 0) : gridMay g = true ∧ StOk g l.length (runAll g zeroState l).1 ∧ ToldOk g (runAll g zeroState l).1 (runAll g zeroState l).2.1 := by
  cases hg : gridMay g with
  | false => rw [runAll_no ((zero_may g).trans hg)] at h; cases h
  | true =>
    rw [runAll_to ((zero_may g).trans hg)] at h ⊢
    exact ⟨rfl, run_ok hg hl _ (Nat.le_refl _) h⟩
theorem runAll_err {g : Grid} {s : State} {l : List Rec} (h : ¬ (runAll g s l).2.2 = 0) : (runAll g s l).2.1 = [] := by
  unfold runAll at *
  split at h
  · rename_i hs
    rw [if_pos hs]
    have : ∀ (l : List Rec) (a : State × List Cell × Int), (a.2.2 ≠ 0 → a.2.1 = []) → (l.foldl (runStep g) a).2.2 ≠ 0 → (l.foldl (runStep g) a).2.1 = [] := by
      intro l
      induction l with
      | nil => intro a ha hh; exact ha hh
      | cons r l ih =>
        intro a ha hh
        refine ih _ (fun h2 => ?_) hh
        unfold runStep at h2 ⊢
        split
        · rename_i h3; exact ha h3
        · split
          · rfl
          · rename_i h3 h4; rw [if_neg h3, if_neg h4] at h2; exact absurd rfl h2
    exact this l _ (fun hh => absurd rfl hh) h
  · rename_i hs
    rw [if_neg hs]
end Go.Proofs.Ytfpmgnkbklnkaaa.Eng
end
section
set_option linter.unusedSimpArgs false
set_option linter.unusedVariables false
namespace Go.Proofs.Ytfpmgnkbklnkaaa.Eng
open Go
theorem run_acc {g : Grid} : ∀ (l : List Rec) (s : State) (o : List Cell), l.foldl (runStep g) (s, o, 0) =
    if (l.foldl (runStep g) (s, [], 0)).2.2 = 0 then ((l.foldl (runStep g) (s, [], 0)).1, o ++ (l.foldl (runStep g) (s, [], 0)).2.1, 0) else l.foldl (runStep g) (s, [], 0)
  | [], s, o => by simp
  | r :: l, s, o => by
    by_cases he : feedErr g s r = 0
    · have e1 : ∀ o : List Cell, (r :: l).foldl (runStep g) (s, o, 0) = l.foldl (runStep g) (feedSt g s r, o ++ feedOver g s r, 0) := fun o => by rw [List.foldl_cons]; simp [runStep, he]
      rw [e1, e1, run_acc l _ (o ++ feedOver g s r), run_acc l _ ([] ++ feedOver g s r)]
      by_cases h : (l.foldl (runStep g) (feedSt g s r, [], 0)).2.2 = 0
      · simp [h]
      · simp [h]
    · have e1 : ∀ o : List Cell, (r :: l).foldl (runStep g) (s, o, 0) = (zState, [], feedErr g s r) := fun o => by
        rw [List.foldl_cons, show runStep g (s, o, 0) r = (zState, [], feedErr g s r) by simp [runStep, he], run_stays _ he]
      rw [e1, e1, if_neg he]
/-- Records in two parts. -/
theorem parts {g : Grid} {l : List Rec} {k : Nat} (hl : l.length ≤ 150) (h : (runAll g zeroState l).2.2 = 0) :
    (runAll g zeroState (l.take k)).2.2 = 0 ∧ (runAll g (runAll g zeroState (l.take k)).1 (l.drop k)).2.2 = 0 ∧ (runAll g (runAll g zeroState (l.take k)).1 (l.drop k)).1 = (runAll g zeroState l).1 ∧
    (runAll g zeroState (l.take k)).2.1 ++ (runAll g (runAll g zeroState (l.take k)).1 (l.drop k)).2.1 = (runAll g zeroState l).2.1 ∧ stateCheck g (runAll g zeroState l).1 = 0 ∧ stateCheck g (runAll g zeroState (l.take k)).1 = 0 := by
  have hA := runAll_ok hl h
  have hz : stateMay g zeroState = true := (zero_may g).trans hA.1
  have e0 : l.foldl (runStep g) (zeroState, [], 0) = (l.drop k).foldl (runStep g) ((l.take k).foldl (runStep g) (zeroState, [], 0)) := by rw [← List.foldl_append, List.take_append_drop]
  have hB0 : (runAll g zeroState (l.take k)).2.2 = 0 := by
    rw [runAll, if_pos hz] at h ⊢
    rw [e0] at h
    by_cases hb : ((l.take k).foldl (runStep g) (zeroState, [], 0)).2.2 = 0
    · exact hb
    · rw [run_stays _ hb] at h; exact h
  have hB := runAll_ok (l := l.take k) (by simp; omega) hB0
  have hBm : stateMay g (runAll g zeroState (l.take k)).1 = true := hB.2.1.may (by simp; omega)
  have e1 : runAll g zeroState l = (l.drop k).foldl (runStep g) (runAll g zeroState (l.take k)) := by rw [runAll, if_pos hz, e0, runAll, if_pos hz]
  have e2 : runAll g (runAll g zeroState (l.take k)).1 (l.drop k) = (l.drop k).foldl (runStep g) ((runAll g zeroState (l.take k)).1, [], 0) := by rw [runAll, if_pos hBm]
  have e3 : runAll g zeroState (l.take k) = ((runAll g zeroState (l.take k)).1, (runAll g zeroState (l.take k)).2.1, 0) := by
    conv => lhs; rw [show runAll g zeroState (l.take k) = ((runAll g zeroState (l.take k)).1, (runAll g zeroState (l.take k)).2.1, (runAll g zeroState (l.take k)).2.2) from rfl, hB0]
  have e4 : runAll g zeroState l = if (runAll g (runAll g zeroState (l.take k)).1 (l.drop k)).2.2 = 0 then ((runAll g (runAll g zeroState (l.take k)).1 (l.drop k)).1, (runAll g zeroState (l.take k)).2.1 ++ (runAll g (runAll g zeroState (l.take k)).1 (l.drop k)).2.1, 0) else runAll g (runAll g zeroState (l.take k)).1 (l.drop k) := by
    rw [e2, ← run_acc, ← e3, e1]
  have hC0 : (runAll g (runAll g zeroState (l.take k)).1 (l.drop k)).2.2 = 0 := by
    by_cases hc : (runAll g (runAll g zeroState (l.take k)).1 (l.drop k)).2.2 = 0
    · exact hc
    · rw [e4, if_neg hc] at h; exact h
  have ck : ∀ {s : State}, stateMay g s = true → stateCheck g s = 0 := fun hs => by unfold stateCheck; rw [if_pos hs]
  rw [if_pos hC0] at e4
  refine ⟨hB0, hC0, (congrArg Prod.fst e4).symm, (congrArg (fun x => x.2.1) e4).symm, ck (hA.2.1.may (by omega)), ck hBm⟩
/-- Where the records are parted. -/
def kOf (cut : Int) (n : Nat) : Nat := (Int.tmod (Int.tmod cut ((n : Int) + 1) + n + 1) ((n : Int) + 1)).toNat
theorem kOf_b (cut : Int) (n : Nat) : kOf cut n ≤ n := by
  unfold kOf
  have h1 := Int.lt_tmod_of_pos cut (b := (n : Int) + 1) (by omega)
  have h2 := tmod_b (t := Int.tmod cut ((n : Int) + 1) + n + 1) (h := (n : Int) + 1) (by omega) (by omega)
  omega
theorem kOf_eq (cut : Int) {n : Nat} (hn : n ≤ 1000) :
    Int.tmod (IntKind.i64.wrap ((IntKind.i64.wrap ((Int.tmod cut (IntKind.i64.wrap ((n : Int) + 1))) + (n : Int))) + 1)) (IntKind.i64.wrap ((n : Int) + 1)) = (kOf cut n : Int) := by
  have e0 : IntKind.i64.wrap ((n : Int) + 1) = (n : Int) + 1 := wrap_in (by omega) (by omega)
  rw [e0]
  have h1 := Int.lt_tmod_of_pos cut (b := (n : Int) + 1) (by omega)
  have h2 := Int.tmod_lt_of_pos cut (b := (n : Int) + 1) (by omega)
  have e1 : IntKind.i64.wrap (Int.tmod cut ((n : Int) + 1) + (n : Int)) = Int.tmod cut ((n : Int) + 1) + (n : Int) := wrap_in (by omega) (by omega)
  rw [e1]
  have e2 : IntKind.i64.wrap (Int.tmod cut ((n : Int) + 1) + (n : Int) + 1) = Int.tmod cut ((n : Int) + 1) + (n : Int) + 1 := wrap_in (by omega) (by omega)
  rw [e2]
  have h3 := tmod_b (t := Int.tmod cut ((n : Int) + 1) + n + 1) (h := (n : Int) + 1) (by omega) (by omega)
  unfold kOf; omega
theorem kOf_nz {n : Nat} (hn : n ≤ 1000) : IntKind.i64.wrap ((n : Int) + 1) ≠ 0 := by rw [wrap_in (by omega) (by omega)]; omega
theorem run_errN {g : Grid} {s : State} {l : List Rec} (h : ¬ (runAll g s l).2.2 = 0) : ((runAll g s l).2.1.length : Int) = 0 := by rw [runAll_err h]; rfl
theorem fin_err4 {g : Grid} {s : State} {l : List Rec} (h : ¬ (runAll g s l).2.2 = 0) : ((((runAll g s l).2.1.length : Int) == 0) && true) = true := by rw [runAll_err h]; rfl
theorem fin4 {g : Grid} {l : List Rec} {k : Nat} (hl : l.length ≤ 150) (h : (runAll g zeroState l).2.2 = 0) :
    (((((((((runAll g zeroState (l.take k)).2.2) == 0) && (((runAll g ((runAll g zeroState (l.take k)).1) (l.drop k)).2.2) == 0)) && (sameState ((runAll g zeroState l).1) ((runAll g ((runAll g zeroState (l.take k)).1) (l.drop k)).1))) && (sameCells ((runAll g zeroState l).2.1) ((([] : List Cell) ++ (runAll g zeroState (l.take k)).2.1) ++ (runAll g ((runAll g zeroState (l.take k)).1) (l.drop k)).2.1))) && ((stateCheck g ((runAll g zeroState l).1)) == 0)) && ((stateCheck g ((runAll g zeroState (l.take k)).1)) == 0)) && true) = true := by
  obtain ⟨h1, h2, h3, h4, h5, h6⟩ := parts (k := k) hl h
  rw [h1, h2, h3, h5, h6, List.nil_append, h4, same_refl, sameC_refl]; rfl
/-! #### a record behind them -/
/-- Is one of a record's windows open? -/
def anyOpen (g : Grid) (s : State) (r : Rec) : Bool := (gridStarts g r.Time).any fun x => !gridClosed g x s.Mark
theorem open_len {g : Grid} {s : State} {r : Rec} : (openS g s r).length = 0 ↔ anyOpen g s r = false := by
  unfold anyOpen openS cloI
  rw [List.length_eq_zero_iff, List.filter_eq_nil_iff, List.any_eq_false]
theorem starts_has {g : Grid} {t : Int} (h : timeOk g t = true) : ∃ x, x ∈ gridStarts g t := by
  have h' := h
  simp only [timeOk, Bool.and_eq_true, decide_eq_true_eq] at h'
  obtain ⟨K, k1, k2, k3, k4⟩ := gridK h'.1.1
  have hs := gridMay_spec h'.1.1
  have hb := tmod_b h'.1.2 hs.2.2.1
  have hb2 := base_b h'.1.2 hs.2.2.1
  refine ⟨stF g t (K - 1), ?_⟩
  unfold gridStarts
  rw [if_pos h, k3]
  simp only [startsTo, List.mem_filter, List.mem_map, List.mem_range, decide_eq_true_eq]
  refine ⟨⟨K - 1, by omega, rfl⟩, ?_⟩
  unfold stF
  have e : ((K - 1 : Nat) : Int) + 1 = K := by omega
  rw [e, k4, Int.mul_comm]; omega
theorem late_le {g : Grid} {s : State} {r : Rec} (ht : timeOk g r.Time = true) (h : anyOpen g s r = false) : r.Time ≤ s.Mark := by
  obtain ⟨x, hx⟩ := starts_has ht
  have h1 : gridClosed g x s.Mark = true := by
    unfold anyOpen at h
    rw [List.any_eq_false] at h
    have := h x hx; simpa using this
  have h2 := starts_mem hx
  simp only [gridClosed, Bool.and_eq_true, decide_eq_true_eq] at h1
  have := gridMay_spec h1.1.1
  omega
theorem late_feed {g : Grid} {n : Nat} {s : State} {r : Rec} (h : StOk g n s) (hn : n ≤ 1000) (hr : recMay r = true) :
    feedErr g s r = 0 ∧ (feedSt g s r).N = s.N + 1 ∧ (valOk r = true → (feedSt g s r).Bad = s.Bad ∧ (anyOpen g s r = false → feedSt g s r = ⟨s.Mark, s.Late + 1, s.Bad, s.N + 1, s.L⟩ ∧ feedOver g s r = [])) ∧
    (valOk r = false → feedSt g s r = ⟨s.Mark, s.Late, s.Bad + 1, s.N + 1, s.L⟩ ∧ feedOver g s r = []) := by
  have hm := h.may hn
  have hc := h.cnt
  have hr' := hr
  simp only [recMay, Bool.and_eq_true] at hr'
  have hb := inN_b hr'.2
  have he : feedErr g s r = 0 := by
    unfold feedErr feedMay
    rw [if_pos (by rw [hm, hr]; rfl), if_neg (by omega)]
  refine ⟨he, ?_, fun hv => ⟨?_, fun ho => ?_⟩, fun hv => ?_⟩
  · unfold feedSt; rw [if_pos he]; split <;> rfl
  · unfold feedSt; rw [if_pos he, if_pos hv]
  · have hd : feedDrop g s r = true := drop_0 (open_len.2 ho)
    have hmk : feedMark s r = s.Mark := by
      have := late_le (g := g) (s := s) (r := r) (by simp only [timeOk, Bool.and_eq_true, decide_eq_true_eq]; exact ⟨⟨h.grid, hb.1⟩, hb.2⟩) ho
      unfold feedMark; rw [if_neg (by omega)]
    have hL : feedL g s r = s.L := by rw [feedL, if_pos hd]
    have h1 : (s.L.filter fun c => !gridClosed g c.Start s.Mark) = s.L := List.filter_eq_self.2 fun c hc => by rw [(h.cells c hc).2]; rfl
    have h2 : (s.L.filter fun c => gridClosed g c.Start s.Mark) = [] := List.filter_eq_nil_iff.2 fun c hc => by rw [(h.cells c hc).2]; decide
    unfold feedSt feedOver
    rw [if_pos he, if_pos he, if_pos hv, if_pos hv, if_pos hd, hmk, hL, h1, h2]
    exact ⟨rfl, rfl⟩
  · unfold feedSt feedOver
    rw [if_pos he, if_pos he, if_neg (by rw [hv]; decide), if_neg (by rw [hv]; decide)]
    exact ⟨rfl, rfl⟩
end Go.Proofs.Ytfpmgnkbklnkaaa.Eng
end
section
set_option linter.unusedSimpArgs false
set_option linter.unusedVariables false
namespace Go.Proofs.Ytfpmgnkbklnkaaa.Eng
open Go
/-- What is told, and what is open. -/
def onceAll (g : Grid) (l : List Rec) : List Cell := ([] ++ (runAll g zeroState l).2.1) ++ (runAll g zeroState l).1.L
theorem pw_getD {α : Type} {R : α → α → Prop} {L : List α} (d : α) (h : L.Pairwise R) {i j : Nat} (hij : i < j) (hj : j < L.length) : R (L.getD i d) (L.getD j d) := by
  have := List.pairwise_iff_getElem.1 h i j (by omega) hj hij
  simpa [List.getD, List.getElem?_eq_getElem hj, List.getElem?_eq_getElem (show i < L.length by omega)] using this
theorem once_law {g : Grid} {l : List Rec} (hl : l.length ≤ 150) (h : (runAll g zeroState l).2.2 = 0) :
    (∀ i, i < (onceAll g l).length → gridClosed g ((onceAll g l).getD i zCell).Start (runAll g zeroState l).1.Mark = decide ((i : Int) < ((runAll g zeroState l).2.1.length : Int))) ∧
    (∀ i, i < (onceAll g l).length → ∀ k, k < i → ¬ (((onceAll g l).getD k zCell).Start = ((onceAll g l).getD i zCell).Start ∧ ((onceAll g l).getD k zCell).Key = ((onceAll g l).getD i zCell).Key)) ∧
    (runAll g zeroState l).1.Mark ≤ 1099511627776 := by
  obtain ⟨hg, hs, ht⟩ := runAll_ok hl h
  have e : onceAll g l = (runAll g zeroState l).2.1 ++ (runAll g zeroState l).1.L := by simp [onceAll]
  refine ⟨fun i hi => ?_, fun i hi k hk => ?_, ?_⟩
  · rw [e] at hi ⊢
    by_cases hx : i < (runAll g zeroState l).2.1.length
    · have e1 : ((runAll g zeroState l).2.1 ++ (runAll g zeroState l).1.L).getD i zCell = (runAll g zeroState l).2.1.getD i zCell := by simp [List.getD, List.getElem?_append_left hx]
      rw [e1, ht.shut _ (getD_mem zCell hx), decide_eq_true (by omega)]
    · rw [List.length_append] at hi
      have e1 : ((runAll g zeroState l).2.1 ++ (runAll g zeroState l).1.L).getD i zCell = (runAll g zeroState l).1.L.getD (i - (runAll g zeroState l).2.1.length) zCell := by simp [List.getD, List.getElem?_append_right (Nat.le_of_not_lt hx)]
      rw [e1, (hs.cells _ (getD_mem zCell (by omega))).2, decide_eq_false (by omega)]
  · rw [e] at hi ⊢
    exact pw_getD zCell ht.once hk hi
  · rcases hs.mark with h1 | h1
    · omega
    · exact (inN_b h1).2
theorem once_len {g : Grid} {l : List Rec} (hl : l.length ≤ 150) : (onceAll g l).length ≤ 20000 := by
  have h1 := runAll_L (g := g) (l := l) zero_R
  have h2 := runAll_over (g := g) (l := l) zero_R
  simp only [onceAll, List.nil_append, List.length_append]; omega
/-- Is one of a record's first i windows open? -/
def anyTo (g : Grid) (s : State) (r : Rec) (i : Nat) : Bool := ((gridStarts g r.Time).take i).any fun x => !gridClosed g x s.Mark
theorem anyTo_succ {g : Grid} {s : State} {r : Rec} {i : Nat} (h : i < (gridStarts g r.Time).length) : anyTo g s r (i + 1) = (anyTo g s r i || !gridClosed g ((gridStarts g r.Time).getD i 0) s.Mark) := by
  unfold anyTo; rw [take_snoc 0 h, List.any_append]; simp
theorem anyTo_t {g : Grid} {s : State} {r : Rec} {i : Nat} (h : i < (gridStarts g r.Time).length) (ha : anyTo g s r i = true) : true = anyTo g s r (i + 1) := by rw [anyTo_succ h, ha]; rfl
theorem anyTo_f {g : Grid} {s : State} {r : Rec} {i : Nat} (h : i < (gridStarts g r.Time).length) (ha : anyTo g s r i = false) : (!gridClosed g ((gridStarts g r.Time).getD i 0) s.Mark) = anyTo g s r (i + 1) := by rw [anyTo_succ h, ha]; rfl
theorem anyTo_all {g : Grid} {s : State} {r : Rec} {i : Nat} (h : (gridStarts g r.Time).length ≤ i) : anyTo g s r i = anyOpen g s r := by unfold anyTo anyOpen; rw [List.take_of_length_le h]
theorem late_two {e : Int} {r : Rec} (h : ((e != 0) || !(((decide (r.Key ≥ 0) && decide (r.Key ≤ 1048576)) && inN r.Time) && decide ((r.Text.size : Int) ≤ 512))) = false) : e = 0 ∧ recMay r = true := by
  simp only [Bool.or_eq_false_iff, bne_eq_false_iff_eq, Bool.not_eq_false', Bool.and_eq_true, decide_eq_true_eq] at h
  refine ⟨h.1, ?_⟩
  simp only [recMay, inN, Bool.and_eq_true, decide_eq_true_eq]
  have h1 := inN_b h.2.1.2
  exact ⟨⟨⟨h.2.1.1.1, by omega⟩, h.2.1.1.2⟩, by omega, h1.2⟩
theorem both_t {a b : Bool} (h : (a && b) = true) : a = true ∧ b = true := by cases a <;> cases b <;> simp_all
theorem both_f {a b : Bool} (h : (a && b) = false) (ha : a = true) : b = false := by cases a <;> cases b <;> simp_all
theorem late_b {g : Grid} {l : List Rec} (hl : l.length ≤ 150) (h : (runAll g zeroState l).2.2 = 0) : (runAll g zeroState l).1.Mark ≤ 1099511627776 ∧ 0 ≤ (runAll g zeroState l).1.Late ∧ (runAll g zeroState l).1.Late ≤ 150 ∧ 0 ≤ (runAll g zeroState l).1.Bad ∧ (runAll g zeroState l).1.Bad ≤ 150 ∧ 0 ≤ (runAll g zeroState l).1.N ∧ (runAll g zeroState l).1.N ≤ 150 := by
  obtain ⟨hg, hs, ht⟩ := runAll_ok hl h
  have h1 := hs.late; have h2 := hs.bad; have h3 := hs.cnt; have h4 := hs.sum
  refine ⟨?_, by omega, by omega, by omega, by omega, by omega, by omega⟩
  rcases hs.mark with h1 | h1
  · omega
  · exact (inN_b h1).2
theorem late_err {g : Grid} {l : List Rec} {r : Rec} (hl : l.length ≤ 150) (h : (runAll g zeroState l).2.2 = 0) (hr : recMay r = true) : feedErr g (runAll g zeroState l).1 r = 0 := (late_feed (runAll_ok hl h).2.1 (by omega) hr).1
theorem late_open {g : Grid} {l : List Rec} {r : Rec} (hl : l.length ≤ 150) (h : (runAll g zeroState l).2.2 = 0) (hr : recMay r = true) (hv : valOk r = true) :
    ((((feedSt g (runAll g zeroState l).1 r).Bad == (runAll g zeroState l).1.Bad) && ((feedSt g (runAll g zeroState l).1 r).N == (runAll g zeroState l).1.N + 1)) && true) = true := by
  obtain ⟨h1, h2, h3, h4⟩ := late_feed (runAll_ok hl h).2.1 (by omega) hr
  rw [(h3 hv).1, h2]; simp
theorem late_shut {g : Grid} {l : List Rec} {r : Rec} (hl : l.length ≤ 150) (h : (runAll g zeroState l).2.2 = 0) (hr : recMay r = true) (hv : valOk r = true) (ho : anyOpen g (runAll g zeroState l).1 r = false) :
    (((sameState (feedSt g (runAll g zeroState l).1 r) ⟨(runAll g zeroState l).1.Mark, (runAll g zeroState l).1.Late + 1, (runAll g zeroState l).1.Bad, (runAll g zeroState l).1.N + 1, (runAll g zeroState l).1.L⟩) && (((feedOver g (runAll g zeroState l).1 r).length : Int) == 0)) && true) = true := by
  obtain ⟨h1, h2, h3, h4⟩ := late_feed (runAll_ok hl h).2.1 (by omega) hr
  obtain ⟨h5, h6⟩ := (h3 hv).2 ho
  rw [h5, h6, same_refl]; rfl
theorem late_bad {g : Grid} {l : List Rec} {r : Rec} (hl : l.length ≤ 150) (h : (runAll g zeroState l).2.2 = 0) (hr : recMay r = true) (hv : valOk r = false) :
    (((sameState (feedSt g (runAll g zeroState l).1 r) ⟨(runAll g zeroState l).1.Mark, (runAll g zeroState l).1.Late, (runAll g zeroState l).1.Bad + 1, (runAll g zeroState l).1.N + 1, (runAll g zeroState l).1.L⟩) && (((feedOver g (runAll g zeroState l).1 r).length : Int) == 0)) && true) = true := by
  obtain ⟨h1, h2, h3, h4⟩ := late_feed (runAll_ok hl h).2.1 (by omega) hr
  obtain ⟨h5, h6⟩ := h4 hv
  rw [h5, h6, same_refl]; rfl
end Go.Proofs.Ytfpmgnkbklnkaaa.Eng
end
section
set_option linter.unusedSimpArgs false
set_option linter.unusedVariables false
namespace Go.Proofs.Ytfpmgnkbklnkaaa.Eng
open Go
/-! #### laid, and taken again -/
theorem putLF_form : ∀ (m fuel u : Nat), m ≤ fuel → u < 128 ^ (m + 1) → ∃ (l : List UInt8) (c : UInt8), putLF fuel u = l ++ [c] ∧ l.length ≤ m ∧ (∀ b ∈ l, 127 < b.toNat) ∧ c.toNat < 128 ∧ valL (l ++ [c]) = u := by
  intro m
  induction m with
  | zero =>
    intro fuel u _ h
    have h : u < 128 := by simpa using h
    refine ⟨[], UInt8.ofNat u, ?_, Nat.le_refl _, (by intro b hb; cases hb), ?_, ?_⟩
    · cases fuel with
      | zero => rfl
      | succ f => rw [putLF, if_neg (by omega)]; rfl
    · simp; omega
    · simp [valL]; omega
  | succ m ih =>
    intro fuel u hf h
    obtain ⟨f, rfl⟩ : ∃ f, fuel = f + 1 := ⟨fuel - 1, by omega⟩
    by_cases hu : u > 127
    · obtain ⟨l, c, h1, h2, h3, h4, h5⟩ := ih f (u / 128) (by omega) (by rw [Nat.pow_succ] at h; omega)
      refine ⟨UInt8.ofNat (u % 128 + 128) :: l, c, ?_, by simp; omega, fun b hb => ?_, h4, ?_⟩
      · rw [putLF, if_pos hu, h1]; rfl
      · rcases List.mem_cons.1 hb with rfl | hb
        · simp; omega
        · exact h3 b hb
      · rw [List.cons_append, valL, h5]
        have e : (UInt8.ofNat (u % 128 + 128)).toNat = u % 128 + 128 := by simp; omega
        rw [e]; omega
    · refine ⟨[], UInt8.ofNat u, ?_, by simp, (by intro b hb; cases hb), ?_, ?_⟩
      · rw [putLF, if_neg hu]; rfl
      · simp; omega
      · simp [valL]; omega
theorem num_zig {n : Int} : numOf (zig n) = n := by
  unfold numOf zig
  by_cases h : n < 0
  · rw [if_pos h, if_pos (by omega)]; omega
  · rw [if_neg h, if_neg (by omega)]; omega
theorem put_take {n : Int} (h : R64 n) : takeOk (putB n) = true ∧ takeK (putB n) + 1 = (putB n).size ∧ takeN (putB n) = n := by
  have hz := zig_lt h
  obtain ⟨l, c, h1, h2, h3, h4, h5⟩ := putLF_form 9 10 (zig n) (by omega) (by
    have : (18446744073709551616 : Nat) ≤ 128 ^ (9 + 1) := by decide
    omega)
  have hs : (putB n).size = l.length + 1 := by
    show (putB n).data.size = _
    have e : (putB n).data = (l ++ [c]).toArray := by show (putL (zig n)).toArray = _; rw [putL, h1]
    rw [e]; simp
  have hb : ∀ i, i < l.length + 1 → byteAt (putB n) i = (l ++ [c]).getD i 0 := by
    intro i hi
    unfold byteAt
    have e : (putB n).data = (l ++ [c]).toArray := by show (putL (zig n)).toArray = _; rw [putL, h1]
    rw [e]; simp [List.getD, Array.getD, hi]
  have hb1 : ∀ i, i < l.length → 127 < byteN (putB n) i := by
    intro i hi
    unfold byteN
    rw [hb i (by omega)]
    have e : (l ++ [c]).getD i 0 = l[i] := by simp [List.getD, List.getElem?_append_left hi, hi]
    rw [e]; exact h3 _ (List.getElem_mem hi)
  have hb2 : byteN (putB n) l.length < 128 := by
    unfold byteN
    rw [hb _ (by omega)]
    have e : (l ++ [c]).getD l.length 0 = c := by simp [List.getD]
    rw [e]; exact h4
  have hK : takeK (putB n) = l.length := take67_K (by omega) (by omega) hb1 hb2
  have hbt : bytesTo (putB n) (l.length + 1) = l ++ [c] := by
    apply List.ext_getElem
    · simp [bytesTo_len]
    · intro i h6 h7
      have hi : i < l.length + 1 := by simpa [bytesTo_len] using h6
      simp only [bytesTo, List.getElem_map, List.getElem_range]
      rw [hb i hi]
      rw [List.getD, List.getElem?_eq_getElem h7]; rfl
  have hU : takeU (putB n) = zig n := by
    rw [takeU_val hK, vM, vU, hbt, h5, Nat.mod_eq_of_lt hz]
  have hx : (putB n).extract 0 (l.length + 1) = putB n := by
    rw [ext_bytes (by omega), hbt, ← h1]; rfl
  have hok : takeOk (putB n) = true := by
    unfold takeOk
    rw [hK, hU, num_zig, hx, decide_eq_true (by omega), decide_eq_true (by omega), decide_eq_true rfl]; rfl
  refine ⟨hok, by omega, ?_⟩
  unfold takeN
  rw [if_pos hok, hU, num_zig]
theorem val_put {key t v : Int} (h : R64 v) : valN ⟨key, t, putB v⟩ = v ∧ valOk ⟨key, t, putB v⟩ = true := by
  obtain ⟨h1, h2, h3⟩ := put_take h
  refine ⟨h3, ?_⟩
  show (takeOk (putB v) && decide (takeK (putB v) + 1 = (putB v).size)) = true
  rw [h1, decide_eq_true h2]; rfl
/-! #### put into windows -/
def sameW (c : Cell) (key start : Int) : Prop := c.Key = key ∧ c.Start = start
theorem putC_keep {key start v : Int} : ∀ {l : List Cell} {d : Cell}, d ∈ l → ∃ c ∈ putC key start v l, c.Key = d.Key ∧ c.Start = d.Start
  | [], d, h => by cases h
  | x :: r, d, h => by
    rw [putC]
    split
    · rcases List.mem_cons.1 h with rfl | h
      · exact ⟨d, by simp, rfl, rfl⟩
      · obtain ⟨c, hc, e⟩ := putC_keep (key := key) (start := start) (v := v) h
        exact ⟨c, by simp [hc], e⟩
    · split
      · exact ⟨d, by simp [List.mem_cons.1 h], rfl, rfl⟩
      · rcases List.mem_cons.1 h with rfl | h
        · exact ⟨_, List.mem_cons_self .., rfl, rfl⟩
        · exact ⟨d, by simp [h], rfl, rfl⟩
theorem putC_has {key start v : Int} : ∀ {l : List Cell}, ∃ c ∈ putC key start v l, sameW c key start
  | [] => ⟨_, List.mem_singleton.2 rfl, rfl, rfl⟩
  | x :: r => by
    rw [putC]
    split
    · obtain ⟨c, hc, e⟩ := putC_has (key := key) (start := start) (v := v) (l := r)
      exact ⟨c, by simp [hc], e⟩
    · rename_i h1
      split
      · exact ⟨_, List.mem_cons_self .., rfl, rfl⟩
      · rename_i h2
        have e := ahead_neither (a := x) (b := newCell key start) (by simpa using h1) (by simpa using h2)
        exact ⟨_, List.mem_cons_self .., e.2, e.1⟩
/-- What a window is behind a number that is put. -/
theorem putC_char {key start v : Int} : ∀ {l : List Cell}, l.Pairwise (fun a b => ahead a b = true) → ∀ c ∈ putC key start v l,
    (c ∈ l ∧ ¬ sameW c key start) ∨ (sameW c key start ∧ ((∃ d ∈ l, sameW d key start ∧ c.A = aggAdd d.A v) ∨ ((∀ d ∈ l, ¬ sameW d key start) ∧ c.A = aggAdd zAgg v)))
  | [], _, c, h => by
    simp only [putC, List.mem_singleton] at h
    subst h
    exact .inr ⟨⟨rfl, rfl⟩, .inr ⟨(by intro d hd; cases hd), rfl⟩⟩
  | x :: r, hp, c, h => by
    obtain ⟨hp1, hp2⟩ := List.pairwise_cons.1 hp
    rw [putC] at h
    split at h
    · rename_i h1
      have hx : ¬ sameW x key start := fun e => by
        have := ahead_iff.1 h1
        have e1 : (newCell key start).Start = start := rfl
        have e2 : (newCell key start).Key = key := rfl
        have := e.1; have := e.2; omega
      rcases List.mem_cons.1 h with rfl | h
      · exact .inl ⟨by simp, hx⟩
      · rcases putC_char hp2 c h with h2 | ⟨h2, ⟨d, hd, h3⟩ | ⟨h3, h4⟩⟩
        · exact .inl ⟨by simp [h2.1], h2.2⟩
        · exact .inr ⟨h2, .inl ⟨d, by simp [hd], h3⟩⟩
        · refine .inr ⟨h2, .inr ⟨fun d hd => ?_, h4⟩⟩
          rcases List.mem_cons.1 hd with rfl | hd
          · exact hx
          · exact h3 d hd
    · rename_i h1
      split at h
      · rename_i h2
        have hn : ∀ d ∈ x :: r, ¬ sameW d key start := fun d hd e => by
          have h3 : ahead (newCell key start) d = true := by
            rcases List.mem_cons.1 hd with rfl | hd
            · exact h2
            · exact ahead_trans h2 (hp1 d hd)
          have := ahead_iff.1 h3
          have e1 : (newCell key start).Start = start := rfl
          have e2 : (newCell key start).Key = key := rfl
          have := e.1; have := e.2; omega
        rcases List.mem_cons.1 h with rfl | h
        · exact .inr ⟨⟨rfl, rfl⟩, .inr ⟨hn, rfl⟩⟩
        · exact .inl ⟨h, hn c h⟩
      · rename_i h2
        have e := ahead_neither (a := x) (b := newCell key start) (by simpa using h1) (by simpa using h2)
        have hx : sameW x key start := ⟨e.2, e.1⟩
        rcases List.mem_cons.1 h with rfl | h
        · exact .inr ⟨hx, .inl ⟨x, by simp, hx, rfl⟩⟩
        · refine .inl ⟨by simp [h], fun e' => ?_⟩
          have := ahead_iff.1 (hp1 c h)
          have := e'.1; have := e'.2; have := hx.1; have := hx.2; omega
theorem putF_keep {key v : Int} : ∀ (st : List Int) {l : List Cell} {d : Cell}, d ∈ l → ∃ c ∈ st.foldl (fun a at_ => putC key at_ v a) l, c.Key = d.Key ∧ c.Start = d.Start
  | [], _, d, h => ⟨d, h, rfl, rfl⟩
  | x :: r, l, d, h => by
    obtain ⟨c, hc, e1, e2⟩ := putC_keep (key := key) (start := x) (v := v) h
    obtain ⟨c', hc', e3, e4⟩ := putF_keep r hc
    exact ⟨c', hc', e3.trans e1, e4.trans e2⟩
theorem putF_has {key v : Int} : ∀ (st : List Int) {l : List Cell} {y : Int}, y ∈ st → ∃ c ∈ st.foldl (fun a at_ => putC key at_ v a) l, sameW c key y
  | x :: r, l, y, h => by
    rcases List.mem_cons.1 h with rfl | h
    · obtain ⟨c, hc, e1, e2⟩ := putC_has (key := key) (start := y) (v := v) (l := l)
      obtain ⟨c', hc', e3, e4⟩ := putF_keep r hc
      exact ⟨c', hc', e3.trans e1, e4.trans e2⟩
    · exact putF_has r h
theorem putF_char {key v : Int} : ∀ (st : List Int) {l : List Cell}, st.Nodup → l.Pairwise (fun a b => ahead a b = true) → ∀ c ∈ st.foldl (fun a at_ => putC key at_ v a) l,
    (c ∈ l ∧ ¬ (c.Key = key ∧ c.Start ∈ st)) ∨ (c.Key = key ∧ c.Start ∈ st ∧ ((∃ d ∈ l, sameW d key c.Start ∧ c.A = aggAdd d.A v) ∨ ((∀ d ∈ l, ¬ sameW d key c.Start) ∧ c.A = aggAdd zAgg v)))
  | [], l, _, _, c, h => .inl ⟨h, by simp⟩
  | x :: r, l, hn, hp, c, h => by
    obtain ⟨hn1, hn2⟩ := List.nodup_cons.1 hn
    rcases putF_char r hn2 (putC_pw hp) c h with ⟨h1, h2⟩ | ⟨h1, h2, h3⟩
    · rcases putC_char hp c h1 with ⟨h3, h4⟩ | ⟨h3, h4⟩
      · refine .inl ⟨h3, fun e => ?_⟩
        rcases List.mem_cons.1 e.2 with e2 | e2
        · exact h4 ⟨e.1, e2⟩
        · exact h2 ⟨e.1, e2⟩
      · obtain ⟨e1, e2⟩ := h3
        refine .inr ⟨e1, by simp [e2], ?_⟩
        rw [e2]; exact h4
    · have hne : c.Start ≠ x := fun e => hn1 (e ▸ h2)
      refine .inr ⟨h1, by simp [h2], ?_⟩
      rcases h3 with ⟨d, hd, h4, h5⟩ | ⟨h4, h5⟩
      · rcases putC_char hp d hd with ⟨h6, _⟩ | ⟨h6, _⟩
        · exact .inl ⟨d, h6, h4, h5⟩
        · exact absurd (h4.2.symm.trans h6.2) hne
      · refine .inr ⟨fun d hd e => ?_, h5⟩
        obtain ⟨d', hd', e1, e2⟩ := putC_keep (key := key) (start := x) (v := v) hd
        exact h4 d' hd' ⟨e1.trans e.1, e2.trans e.2⟩
/-! #### how many numbers there are in windows -/
def sumCnt (l : List Cell) : Int := l.foldr (fun c a => c.A.Count + a) 0
theorem sumCnt_app : ∀ (l k : List Cell), sumCnt (l ++ k) = sumCnt l + sumCnt k
  | [], k => by simp [sumCnt]
  | c :: l, k => by
    have := sumCnt_app l k
    simp only [sumCnt, List.cons_append, List.foldr_cons] at *; omega
theorem sumCnt_part (p : Cell → Bool) : ∀ (l : List Cell), sumCnt (l.filter p) + sumCnt (l.filter fun c => !p c) = sumCnt l
  | [] => by simp [sumCnt]
  | c :: l => by
    have := sumCnt_part p l
    cases h : p c <;> simp only [List.filter_cons, h, sumCnt, Bool.not_true, Bool.not_false, Bool.false_eq_true, if_true, if_false, List.foldr_cons] at * <;> omega
theorem add_cnt {a : Agg} {v : Int} (h0 : 0 ≤ a.Count) (h : a.Count ≤ 1000000) : (aggAdd a v).Count = a.Count + 1 := by show satAdd a.Count 1 = _; exact satAdd_mid (by omega) (by omega)
theorem putC_sum {key start v : Int} {B : Int} (hB : B ≤ 1000000) (hB0 : 0 ≤ B) : ∀ {l : List Cell}, (∀ c ∈ l, 0 ≤ c.A.Count ∧ c.A.Count ≤ B) →
    sumCnt (putC key start v l) = sumCnt l + 1 ∧ ∀ c ∈ putC key start v l, 0 ≤ c.A.Count ∧ c.A.Count ≤ B + 1
  | [], _ => by
    have h1 : (aggAdd zAgg v).Count = 1 := add_cnt (by decide) (by decide)
    refine ⟨by simp only [putC, sumCnt, List.foldr_cons, List.foldr_nil, h1]; rfl, fun c hc => ?_⟩
    simp only [putC, List.mem_singleton] at hc
    subst hc; show 0 ≤ (aggAdd zAgg v).Count ∧ (aggAdd zAgg v).Count ≤ B + 1; omega
  | x :: r, h => by
    have h1 : (aggAdd zAgg v).Count = 1 := add_cnt (by decide) (by decide)
    have hx := h x (by simp)
    rw [putC]
    split
    · obtain ⟨h2, h3⟩ := putC_sum (key := key) (start := start) (v := v) hB hB0 (l := r) (fun c hc => h c (by simp [hc]))
      refine ⟨by simp only [sumCnt, List.foldr_cons] at *; omega, fun c hc => ?_⟩
      rcases List.mem_cons.1 hc with rfl | hc
      · omega
      · exact h3 c hc
    · split
      · refine ⟨by simp only [sumCnt, List.foldr_cons, h1] at *; omega, fun c hc => ?_⟩
        rcases List.mem_cons.1 hc with rfl | hc
        · show 0 ≤ (aggAdd zAgg v).Count ∧ (aggAdd zAgg v).Count ≤ B + 1; omega
        · have := h c hc; omega
      · have h4 : (aggAdd x.A v).Count = x.A.Count + 1 := add_cnt hx.1 (by omega)
        refine ⟨by simp only [sumCnt, List.foldr_cons, h4] at *; omega, fun c hc => ?_⟩
        rcases List.mem_cons.1 hc with rfl | hc
        · show 0 ≤ (aggAdd x.A v).Count ∧ (aggAdd x.A v).Count ≤ _; omega
        · have := h c (by simp [hc]); omega
theorem putF_sum {key v : Int} : ∀ (st : List Int) {l : List Cell} {B : Int}, 0 ≤ B → B + st.length ≤ 1000000 → (∀ c ∈ l, 0 ≤ c.A.Count ∧ c.A.Count ≤ B) → sumCnt (st.foldl (fun a at_ => putC key at_ v a) l) = sumCnt l + st.length
  | [], l, B, _, _, _ => by simp
  | x :: r, l, B, h0, hB, h => by
    rw [List.length_cons] at hB
    obtain ⟨h1, h2⟩ := putC_sum (key := key) (start := x) (v := v) (B := B) (by omega) h0 h
    rw [List.foldl_cons, putF_sum r (B := B + 1) (by omega) (by omega) h2, h1, List.length_cons]; omega
end Go.Proofs.Ytfpmgnkbklnkaaa.Eng
end
section
set_option linter.unusedSimpArgs false
set_option linter.unusedVariables false
namespace Go.Proofs.Ytfpmgnkbklnkaaa.Eng
open Go
/-- A record is in a window. -/
def inW (g : Grid) (key start : Int) (r : Rec) : Bool := (r.Key == key && decide (r.Time ≥ start)) && decide (r.Time < start + g.Size)
/-- The numbers of a window's records. -/
def mineOf (g : Grid) (l : List Rec) (key start : Int) : List Int := (l.filter (inW g key start)).map valN
theorem mine_snoc (g : Grid) (l : List Rec) (r : Rec) (key start : Int) : mineOf g (l ++ [r]) key start = mineOf g l key start ++ (if inW g key start r then [valN r] else []) := by
  unfold mineOf
  rw [List.filter_append, List.map_append]
  cases h : inW g key start r <;> simp [h]
theorem starts_all {g : Grid} {t x : Int} (ht : timeOk g t = true) (h0 : 0 ≤ x) (hm : Int.tmod x g.Hop = 0) (h1 : x ≤ t) (h2 : t < x + g.Size) : x ∈ gridStarts g t := by
  have ht' := ht
  simp only [timeOk, Bool.and_eq_true, decide_eq_true_eq] at ht'
  obtain ⟨K, k1, k2, k3, k4⟩ := gridK ht'.1.1
  have hs := gridMay_spec ht'.1.1
  obtain ⟨q, hq⟩ := Int.dvd_of_tmod_eq_zero hm
  have hb := tmod_b ht'.1.2 hs.2.2.1
  have hd := Int.tmod_add_mul_tdiv t g.Hop
  have hp : t - Int.tmod t g.Hop = g.Hop * Int.tdiv t g.Hop := by omega
  have hpos : 0 < g.Hop := by omega
  have e1 : q < Int.tdiv t g.Hop + 1 := by
    have : g.Hop * q < g.Hop * (Int.tdiv t g.Hop + 1) := by rw [Int.mul_add, Int.mul_one]; omega
    exact Int.lt_of_mul_lt_mul_left this (by omega)
  have e2 : Int.tdiv t g.Hop < q + K := by
    have : g.Hop * Int.tdiv t g.Hop < g.Hop * (q + K) := by rw [Int.mul_add, Int.mul_comm g.Hop (K : Int)]; omega
    exact Int.lt_of_mul_lt_mul_left this (by omega)
  unfold gridStarts
  rw [if_pos ht, k3]
  simp only [startsTo, List.mem_filter, List.mem_map, List.mem_range, decide_eq_true_eq]
  refine ⟨⟨(q - Int.tdiv t g.Hop + K - 1).toNat, by omega, ?_⟩, h0⟩
  unfold stF
  have e3 : (((q - Int.tdiv t g.Hop + K - 1).toNat : Nat) : Int) + 1 = q - Int.tdiv t g.Hop + K := by omega
  rw [e3, hp, k4, hq, Int.mul_add, Int.mul_sub, Int.mul_comm (K : Int)]; omega
theorem and_le {x : Int} {m : Nat} (hm : m < 1000) : 0 ≤ bitsAnd .i64 x (m : Int) ∧ bitsAnd .i64 x (m : Int) ≤ m := by
  unfold bitsAnd
  have hb : ((2 ^ IntKind.i64.bits : Nat) : Int) = 18446744073709551616 := by decide
  have e : ((BitVec.ofInt IntKind.i64.bits x &&& BitVec.ofInt IntKind.i64.bits (m : Int)).toNat : Nat) ≤ m := by
    rw [BitVec.toNat_and]
    refine Nat.le_trans Nat.and_le_right ?_
    rw [BitVec.toNat_ofInt, hb]; omega
  rw [wrap_in (by omega) (by omega)]; omega
/-! #### the records -/
def beatT (l : List Beat) : Nat → Int
  | 0 => 0
  | i + 1 => beatT l i + bitsAnd .i64 (l.getD i zBeat).Wait 15
def beatR (l : List Beat) (i : Nat) : Rec := ⟨bitsAnd .i64 (l.getD i zBeat).Key 1, beatT l (i + 1), putB (l.getD i zBeat).V⟩
def beatTo (l : List Beat) : Nat → List Rec
  | 0 => []
  | i + 1 => beatTo l i ++ [beatR l i]
theorem beatTo_len (l : List Beat) : ∀ i, (beatTo l i).length = i
  | 0 => rfl
  | i + 1 => by rw [beatTo, List.length_append, beatTo_len l i]; rfl
theorem beatT_b (l : List Beat) : ∀ i, 0 ≤ beatT l i ∧ beatT l i ≤ 15 * i
  | 0 => by simp [beatT]
  | i + 1 => by
    have := beatT_b l i
    have h : 0 ≤ bitsAnd .i64 (l.getD i zBeat).Wait 15 ∧ bitsAnd .i64 (l.getD i zBeat).Wait 15 ≤ 15 := and_le (m := 15) (by omega)
    rw [beatT]; omega
theorem beatT_step (l : List Beat) (i : Nat) : beatT l i ≤ beatT l (i + 1) ∧ beatT l (i + 1) ≤ beatT l i + 15 := by
  have h : 0 ≤ bitsAnd .i64 (l.getD i zBeat).Wait 15 ∧ bitsAnd .i64 (l.getD i zBeat).Wait 15 ≤ 15 := and_le (m := 15) (by omega)
  rw [beatT]; omega
/-! #### what they leave -/
structure WhI (g : Grid) (l : List Rec) (i : Nat) (t : Int) (s : State) (x : List Cell) : Prop where
  ok : StOk g i s
  told : ToldOk g s x
  mark : s.Mark ≤ t
  markT : i = 0 ∨ s.Mark = t
  keys : ∀ c ∈ s.L, c.Key = 0 ∨ c.Key = 1
  some : i = 0 ∨ s.L ≠ []
  pos : ∀ c ∈ x, 0 ≤ c.Start ∧ c.Start ≤ t
  times : ∀ r ∈ l, timeOk g r.Time = true
  fold : s.Late = 0 → ∀ c ∈ x ++ s.L, c.A = aggAll (mineOf g l c.Key c.Start)
  has : s.Late = 0 → ∀ r ∈ l, ∀ y ∈ gridStarts g r.Time, ∃ c ∈ x ++ s.L, sameW c r.Key y
  sum : s.Late = 0 → sumCnt (x ++ s.L) = (l.map fun r => ((gridStarts g r.Time).length : Int)).sum
theorem code_ge {L : List Cell} (hp : L.Pairwise fun a b => ahead a b = true) (hk : ∀ c ∈ L, c.Key = 0 ∨ c.Key = 1) : ∀ j, j < L.length → 2 * (L.getD 0 zCell).Start + j ≤ 2 * (L.getD j zCell).Start + (L.getD j zCell).Key
  | 0, h => by
    have := hk _ (getD_mem zCell h)
    omega
  | j + 1, h => by
    have ih := code_ge hp hk j (by omega)
    have h1 := ahead_iff.1 (pw_getD zCell hp (show j < j + 1 by omega) h)
    have h2 := hk _ (getD_mem zCell (show j < L.length by omega))
    have h3 := hk _ (getD_mem zCell h)
    omega
theorem not_shut {g : Grid} {y t m : Int} (hy : t < y + g.Size) (hl : 0 ≤ g.Late) (hm : m ≤ t) : gridClosed g y m = false := by
  rw [Bool.eq_false_iff]
  intro h
  simp only [gridClosed, Bool.and_eq_true, decide_eq_true_eq] at h
  omega
theorem fold_cnt : ∀ (m : List Int) {a : Agg}, 0 ≤ a.Count → a.Count + m.length ≤ 1000000 → (m.foldl aggAdd a).Count = a.Count + m.length
  | [], a, _, _ => by simp
  | v :: m, a, h0, h => by
    rw [List.length_cons] at h
    have := add_cnt (a := a) (v := v) h0 (by omega)
    rw [List.foldl_cons, fold_cnt m (by omega) (by omega), this, List.length_cons]; omega
theorem all_cnt {m : List Int} (h : m.length ≤ 1000) : (aggAll m).Count = m.length := by
  have h0 : zAgg.Count = 0 := rfl
  rw [aggAll, fold_cnt m (by omega) (by omega), h0]; omega
theorem WhI.step {g : Grid} {l : List Rec} {i : Nat} {t : Int} {s : State} {x : List Cell} {r : Rec} (h : WhI g l i t s x) (hi : i ≤ 60) (h0 : 0 ≤ t) (ht : t ≤ r.Time) (ht2 : r.Time ≤ t + 15) (htm : r.Time ≤ 10000) (hk : r.Key = 0 ∨ r.Key = 1) (hv : valOk r = true) :
    feedErr g s r = 0 ∧ WhI g (l ++ [r]) (i + 1) r.Time (feedSt g s r) (x ++ feedOver g s r) := by
  have hr : recMay r = true := by simp only [recMay, inN, Bool.and_eq_true, decide_eq_true_eq]; omega
  have he := (late_feed h.ok (by omega) hr).1
  have hg := h.ok.grid
  have hsp := gridMay_spec hg
  have htk : timeOk g r.Time = true := by simp only [timeOk, Bool.and_eq_true, decide_eq_true_eq]; exact ⟨⟨hg, by omega⟩, by omega⟩
  have hO : openS g s r = gridStarts g r.Time := List.filter_eq_self.2 fun y hy => by
    have h1 := starts_mem hy
    show (!gridClosed g y s.Mark) = true
    rw [not_shut h1.2.2.2.1 hsp.2.2.2.2.1 (by have := h.mark; omega)]; rfl
  have hmk : feedMark s r = r.Time := by
    have := h.mark
    unfold feedMark; split <;> omega
  obtain ⟨y0, hy0⟩ := starts_has htk
  have hlen8 := gridStarts_len g r.Time
  have hlen1 : 0 < (gridStarts g r.Time).length := List.length_pos_of_mem hy0
  have hFL := feedL_ok h.ok (by omega) hr
  have hL : feedL g s r = if feedDrop g s r then s.L else (gridStarts g r.Time).foldl (fun a at_ => putC r.Key at_ (valN r) a) s.L := by rw [feedL_eq, hO]
  have hD : feedDrop g s r = !decide (((gridStarts g r.Time).foldl (fun a at_ => putC r.Key at_ (valN r) a) s.L).length ≤ 64) := by
    rw [drop_1 (by rw [hO]; omega), takeFits, hO, takeTo, List.take_length]
  have hopen : ∀ y ∈ gridStarts g r.Time, gridClosed g y r.Time = false := fun y hy => not_shut (starts_mem hy).2.2.2.1 hsp.2.2.2.2.1 (Int.le_refl _)
  have hst : feedSt g s r = ⟨r.Time, if feedDrop g s r then s.Late + 1 else s.Late, s.Bad, s.N + 1, (feedL g s r).filter fun c => !gridClosed g c.Start r.Time⟩ := by
    unfold feedSt; rw [if_pos he, if_pos hv, hmk]
  have hov : feedOver g s r = (feedL g s r).filter fun c => gridClosed g c.Start r.Time := by
    unfold feedOver; rw [if_pos he, if_pos hv, hmk]
  have hmem : ∀ c, c ∈ (x ++ feedOver g s r) ++ (feedSt g s r).L ↔ c ∈ x ∨ c ∈ feedL g s r := by
    intro c
    rw [hst, hov]
    simp only [List.mem_append, List.mem_filter]
    cases gridClosed g c.Start r.Time <;> simp
  refine ⟨he, ?_⟩
  have hno : (feedSt g s r).Late = 0 → feedDrop g s r = false ∧ s.Late = 0 := by
    intro h1
    rw [hst] at h1
    have hl0 := h.ok.late
    cases hd : feedDrop g s r with
    | true => rw [hd] at h1; simp only [if_true] at h1; omega
    | false => rw [hd] at h1; exact ⟨rfl, h1⟩
  have hP : ∀ {h1 : feedDrop g s r = false}, feedL g s r = (gridStarts g r.Time).foldl (fun a at_ => putC r.Key at_ (valN r) a) s.L := by
    intro h1; rw [hL, h1]; rfl
  have hkeys : ∀ c ∈ feedL g s r, c.Key = 0 ∨ c.Key = 1 := by
    intro c hc
    rw [hL] at hc
    split at hc
    · exact h.keys c hc
    · rcases putF_mem _ hc with ⟨_, e⟩ | ⟨d, hd, _, e⟩
      · rw [e]; exact hk
      · rw [e]; exact h.keys d hd
  refine ⟨h.ok.feed (by omega) he, h.told.feed h.ok (by omega) he, ?_, .inr ?_, fun c hc => ?_, .inr ?_, fun c hc => ?_, fun q hq => ?_, fun h1 c hc => ?_, fun h1 q hq y hy => ?_, fun h1 => ?_⟩
  · rw [hst]; exact Int.le_refl _
  · rw [hst]
  · rw [hst] at hc; exact hkeys c (List.mem_filter.1 hc).1
  · -- some are open
    rw [hst]
    cases hd : feedDrop g s r with
    | false =>
      obtain ⟨c, hc, e1, e2⟩ := putF_has (key := r.Key) (v := valN r) _ (l := s.L) hy0
      refine List.ne_nil_of_mem (a := c) (List.mem_filter.2 ⟨by rw [hP (h1 := hd)]; exact hc, ?_⟩)
      rw [e2, hopen y0 hy0]; rfl
    | true =>
      have h64 : 64 < ((gridStarts g r.Time).foldl (fun a at_ => putC r.Key at_ (valN r) a) s.L).length := by
        rw [hD] at hd
        simp only [Bool.not_eq_true', decide_eq_false_iff_not] at hd
        omega
      have hle : ∀ (st : List Int) (k : List Cell), (st.foldl (fun a at_ => putC r.Key at_ (valN r) a) k).length ≤ k.length + st.length := by
        intro st
        induction st with
        | nil => intro k; simp
        | cons a st ih =>
          intro k
          have h2 := ih (putC r.Key a (valN r) k)
          have h3 := putC_len (key := r.Key) (start := a) (v := valN r) (l := k)
          rw [List.foldl_cons, List.length_cons]; omega
      have h57 := hle (gridStarts g r.Time) s.L
      have hn : 56 < s.L.length := by omega
      have hc0 := h.ok.cells _ (getD_mem zCell (show 0 < s.L.length by omega))
      have hc := code_ge h.ok.srt h.keys 56 hn
      have hk56 := h.keys _ (getD_mem zCell hn)
      have hT : s.Mark = t := by
        rcases h.markT with e | e
        · have h5 := hc0.1.cnt
          have h6 := (aggMay_spec hc0.1.may).1
          omega
        · exact e
      have h7 : s.Mark - g.Size - g.Late < (s.L.getD 0 zCell).Start := by
        have h8 := hc0.2
        have h9 := inN_b hc0.1.start.1
        have h10 := hc0.1.start.2.2
        simp only [gridClosed, hg, Bool.true_and, Bool.and_eq_false_iff, decide_eq_false_iff_not] at h8
        omega
      refine List.ne_nil_of_mem (a := s.L.getD 56 zCell) (List.mem_filter.2 ⟨by rw [hL, hd]; exact getD_mem zCell hn, ?_⟩)
      have : gridClosed g (s.L.getD 56 zCell).Start r.Time = false := by
        simp only [gridClosed, hg, Bool.true_and, Bool.and_eq_false_iff, decide_eq_false_iff_not]
        omega
      rw [this]; rfl
  · rcases List.mem_append.1 hc with hc | hc
    · have := h.pos c hc; omega
    · rw [hov] at hc
      have h1 := (hFL.1 c (List.mem_filter.1 hc).1).start
      have h2 := inN_b h1.1
      rw [hmk] at h1
      exact ⟨h2.1, h1.2.2⟩
  · rcases List.mem_append.1 hq with hq | hq
    · exact h.times q hq
    · rw [List.mem_singleton.1 hq]; exact htk
  · -- each window is what its records come to
    obtain ⟨hd, hl0⟩ := hno h1
    rw [mine_snoc]
    rcases (hmem c).1 hc with hx | hx
    · have hcl := h.told.shut c hx
      have hnin : inW g c.Key c.Start r = false := by
        simp only [gridClosed, Bool.and_eq_true, decide_eq_true_eq] at hcl
        simp only [inW, Bool.and_eq_false_iff, decide_eq_false_iff_not]
        have := h.mark
        right; omega
      rw [hnin, h.fold hl0 c (List.mem_append.2 (.inl hx))]; simp
    · rw [hP (h1 := hd)] at hx
      rcases putF_char _ (starts_nodup g r.Time) h.ok.srt c hx with ⟨h2, h3⟩ | ⟨h2, h3, h4⟩
      · have hco := (h.ok.cells c h2).1
        have hnin : inW g c.Key c.Start r = false := by
          cases hin : inW g c.Key c.Start r with
          | false => rfl
          | true =>
            exfalso
            simp only [inW, Bool.and_eq_true, decide_eq_true_eq, beq_iff_eq] at hin
            exact h3 ⟨hin.1.1.symm, starts_all htk (inN_b hco.start.1).1 hco.start.2.1 hin.1.2 hin.2⟩
        rw [hnin, h.fold hl0 c (List.mem_append.2 (.inr h2))]; simp
      · have hs := starts_mem h3
        have hin : inW g c.Key c.Start r = true := by
          simp only [inW, Bool.and_eq_true, decide_eq_true_eq, beq_iff_eq]
          exact ⟨⟨h2.symm, by omega⟩, by omega⟩
        rw [hin, if_pos rfl, aggAll, List.foldl_append, List.foldl_cons, List.foldl_nil]
        rcases h4 with ⟨d, hd2, ⟨e1, e2⟩, h5⟩ | ⟨h4, h5⟩
        · rw [h5, h.fold hl0 d (List.mem_append.2 (.inr hd2)), e1, e2, h2]; rfl
        · have hnone : mineOf g l c.Key c.Start = [] := by
            unfold mineOf
            rw [List.map_eq_nil_iff, List.filter_eq_nil_iff]
            intro q hq hin2
            simp only [inW, Bool.and_eq_true, decide_eq_true_eq, beq_iff_eq] at hin2
            have hm := starts_all (h.times q hq) hs.2.1 hs.2.2.2.2 hin2.1.2 hin2.2
            obtain ⟨d, hd2, e1, e2⟩ := h.has hl0 q hq c.Start hm
            rcases List.mem_append.1 hd2 with hd2 | hd2
            · have := h.told.shut d hd2
              rw [e2, not_shut hs.2.2.2.1 hsp.2.2.2.2.1 (by have := h.mark; omega)] at this
              cases this
            · exact h4 d hd2 ⟨e1.trans (hin2.1.1.trans h2), e2⟩
          rw [h5, hnone]; rfl
  · -- each record's windows are there
    obtain ⟨hd, hl0⟩ := hno h1
    rcases List.mem_append.1 hq with hq | hq
    · obtain ⟨d, hd2, e1, e2⟩ := h.has hl0 q hq y hy
      rcases List.mem_append.1 hd2 with hd2 | hd2
      · exact ⟨d, (hmem d).2 (.inl hd2), e1, e2⟩
      · obtain ⟨c, hc, e3, e4⟩ := putF_keep (key := r.Key) (v := valN r) (gridStarts g r.Time) hd2
        exact ⟨c, (hmem c).2 (.inr (by rw [hP (h1 := hd)]; exact hc)), e3.trans e1, e4.trans e2⟩
    · rw [List.mem_singleton.1 hq] at hy ⊢
      obtain ⟨c, hc, e⟩ := putF_has (key := r.Key) (v := valN r) _ (l := s.L) hy
      exact ⟨c, (hmem c).2 (.inr (by rw [hP (h1 := hd)]; exact hc)), e⟩
  · -- the sum
    obtain ⟨hd, hl0⟩ := hno h1
    have e1 := h.sum hl0
    rw [hst, hov, sumCnt_app, sumCnt_app, List.map_append, List.sum_append, ← e1, sumCnt_app]
    have e2 := sumCnt_part (fun c => gridClosed g c.Start r.Time) (feedL g s r)
    have e3 : sumCnt (feedL g s r) = sumCnt s.L + (gridStarts g r.Time).length := by
      rw [hP (h1 := hd)]
      refine putF_sum _ (B := 1000) (by omega) (by omega) fun c hc => ?_
      have h5 := (h.ok.cells c hc).1
      have h6 := (aggMay_spec h5.may).1
      have h7 := h5.cnt
      omega
    simp only [List.map_cons, List.map_nil, List.sum_cons, List.sum_nil]
    omega
/-! #### as the law has it -/
def BeatR (b : Beat) : Prop := R64 b.Key ∧ R64 b.Wait ∧ R64 b.V
theorem beatR_in {l : List Beat} (h : ∀ b ∈ l, BeatR b) {i : Nat} (hi : i < l.length) : R64 (l.getD i zBeat).V := (h _ (getD_mem zBeat hi)).2.2
theorem whole_run {g : Grid} {l : List Beat} (hg : gridMay g = true) (hl : l.length ≤ 60) (hr : ∀ b ∈ l, BeatR b) : ∀ i, i ≤ l.length →
    ((beatTo l i).foldl (runStep g) (zeroState, [], 0)).2.2 = 0 ∧ WhI g (beatTo l i) i (beatT l i) ((beatTo l i).foldl (runStep g) (zeroState, [], 0)).1 ((beatTo l i).foldl (runStep g) (zeroState, [], 0)).2.1
  | 0, _ => ⟨rfl, ⟨StOk.zero hg, ⟨(by intro c hc; cases hc), List.Pairwise.nil⟩, (show (-1 : Int) ≤ 0 by decide), .inl rfl, (by intro c hc; cases hc), .inl rfl, (by intro c hc; cases hc), (by intro c hc; cases hc), (by intro _ c hc; cases hc), (by intro _ c hc; cases hc), fun _ => rfl⟩⟩
  | i + 1, hi => by
    obtain ⟨h1, h2⟩ := whole_run hg hl hr i (by omega)
    have hv := val_put (key := bitsAnd .i64 (l.getD i zBeat).Key 1) (t := beatT l (i + 1)) (beatR_in hr (show i < l.length by omega))
    have hb := beatT_b l (i + 1)
    have hb0 := beatT_b l i
    have hs := beatT_step l i
    have hk : 0 ≤ bitsAnd .i64 (l.getD i zBeat).Key 1 ∧ bitsAnd .i64 (l.getD i zBeat).Key 1 ≤ 1 := and_le (m := 1) (by omega)
    obtain ⟨h3, h4⟩ := h2.step (r := beatR l i) (by omega) hb0.1 hs.1 hs.2 (by show beatT l (i + 1) ≤ 10000; omega) (by show bitsAnd .i64 (l.getD i zBeat).Key 1 = 0 ∨ bitsAnd .i64 (l.getD i zBeat).Key 1 = 1; omega) hv.2
    rw [beatTo, List.foldl_append, List.foldl_cons, List.foldl_nil]
    have e : runStep g ((beatTo l i).foldl (runStep g) (zeroState, [], 0)) (beatR l i) = (feedSt g ((beatTo l i).foldl (runStep g) (zeroState, [], 0)).1 (beatR l i), ((beatTo l i).foldl (runStep g) (zeroState, [], 0)).2.1 ++ feedOver g ((beatTo l i).foldl (runStep g) (zeroState, [], 0)).1 (beatR l i), 0) := by
      rw [runStep, if_neg (fun hh => hh h1), if_neg (fun hh => hh h3)]
    rw [e]
    exact ⟨rfl, h4⟩
theorem whole_all {g : Grid} {l : List Beat} (hg : gridMay g = true) (hl : l.length ≤ 60) (hr : ∀ b ∈ l, BeatR b) :
    (runAll g zeroState (beatTo l l.length)).2.2 = 0 ∧ WhI g (beatTo l l.length) l.length (beatT l l.length) (runAll g zeroState (beatTo l l.length)).1 (runAll g zeroState (beatTo l l.length)).2.1 := by
  have h := whole_run hg hl hr l.length (Nat.le_refl _)
  rw [runAll, if_pos ((zero_may g).trans hg)]
  exact h
theorem mine_len (g : Grid) (l : List Rec) (k s : Int) : (mineOf g l k s).length ≤ l.length := by unfold mineOf; rw [List.length_map]; exact List.length_filter_le _ _
/-- The numbers in the first i windows. -/
def mineN (g : Grid) (l : List Rec) (L : List Cell) (i : Nat) : Nat := ((L.take i).map fun c => (mineOf g l c.Key c.Start).length).sum
theorem mineN_succ {g : Grid} {l : List Rec} {L : List Cell} {i : Nat} (h : i < L.length) : mineN g l L (i + 1) = mineN g l L i + (mineOf g l (L.getD i zCell).Key (L.getD i zCell).Start).length := by
  unfold mineN; rw [take_snoc zCell h, List.map_append, List.sum_append]; simp
theorem mineN_le (g : Grid) (l : List Rec) (L : List Cell) : ∀ i, mineN g l L i ≤ i * l.length
  | 0 => by simp [mineN]
  | i + 1 => by
    have ih := mineN_le g l L i
    by_cases h : i < L.length
    · rw [mineN_succ h]
      have := mine_len g l (L.getD i zCell).Key (L.getD i zCell).Start
      rw [Nat.succ_mul]; omega
    · have e : mineN g l L (i + 1) = mineN g l L i := by unfold mineN; rw [List.take_of_length_le (by omega), List.take_of_length_le (by omega)]
      rw [e, Nat.succ_mul]; omega
/-- The windows of the first i records. -/
def startN (g : Grid) (l : List Rec) (i : Nat) : Nat := ((l.take i).map fun r => (gridStarts g r.Time).length).sum
theorem startN_succ {g : Grid} {l : List Rec} {i : Nat} (h : i < l.length) : startN g l (i + 1) = startN g l i + (gridStarts g (l.getD i zRec).Time).length := by
  unfold startN; rw [take_snoc zRec h, List.map_append, List.sum_append]; simp
theorem startN_le (g : Grid) (l : List Rec) : ∀ i, startN g l i ≤ i * 8
  | 0 => by simp [startN]
  | i + 1 => by
    have ih := startN_le g l i
    by_cases h : i < l.length
    · rw [startN_succ h]
      have := gridStarts_len g (l.getD i zRec).Time
      omega
    · have e : startN g l (i + 1) = startN g l i := by unfold startN; rw [List.take_of_length_le (by omega), List.take_of_length_le (by omega)]
      rw [e]; omega
theorem sum_eq {g : Grid} {l : List Rec} (hl : l.length ≤ 1000) : ∀ {L : List Cell}, (∀ c ∈ L, c.A = aggAll (mineOf g l c.Key c.Start)) → sumCnt L = ((L.map fun c => (mineOf g l c.Key c.Start).length).sum : Nat)
  | [], _ => rfl
  | c :: L, h => by
    have ih := sum_eq hl (L := L) fun d hd => h d (by simp [hd])
    have hc := h c (by simp)
    have hm := mine_len g l c.Key c.Start
    have e : c.A.Count = (mineOf g l c.Key c.Start).length := by rw [hc]; exact all_cnt (by omega)
    simp only [sumCnt, List.foldr_cons, List.map_cons, List.sum_cons] at *
    rw [e, ih]; omega
theorem startsum (g : Grid) : ∀ (l : List Rec), (l.map fun r => ((gridStarts g r.Time).length : Int)).sum = ((l.map fun r => (gridStarts g r.Time).length).sum : Nat)
  | [] => rfl
  | r :: l => by
    have := startsum g l
    simp only [List.map_cons, List.sum_cons]; omega
theorem whole_sum {g : Grid} {l : List Rec} {i : Nat} {t : Int} {s : State} {x : List Cell} (h : WhI g l i t s x) (hl : l.length ≤ 1000) (h0 : s.Late = 0) {n k : Nat} (hn : (([] ++ x) ++ s.L).length ≤ n) (hk : l.length ≤ k) :
    mineN g l (([] ++ x) ++ s.L) n = startN g l k := by
  have h1 := h.sum h0
  have h2 := sum_eq hl (h.fold h0)
  have h3 := startsum g l
  unfold mineN startN
  rw [List.take_of_length_le hn, List.take_of_length_le hk]
  simp only [List.nil_append]
  omega
end Go.Proofs.Ytfpmgnkbklnkaaa.Eng
end
section
set_option linter.unusedSimpArgs false
set_option linter.unusedVariables false
namespace Go.Proofs.Ytfpmgnkbklnkaaa.Eng
open Go
def beatIn (l : List Beat) : List Rec := beatTo l l.length
def wholeAll (g : Grid) (l : List Beat) : List Cell := ([] ++ (runAll g zeroState (beatIn l)).2.1) ++ (runAll g zeroState (beatIn l)).1.L
theorem take_beats (l : List Beat) : (bif decide ((l.length : Int) > 60) then l.take 60 else l) = l.take 60 := by
  by_cases h : (l.length : Int) > 60
  · simp [h]
  · have : l.length ≤ 60 := by omega
    simp [h, List.take_of_length_le this]
theorem take_R {l : List Beat} (h : ∀ b ∈ l, BeatR b) : ∀ b ∈ l.take 60, BeatR b := fun b hb => h b (List.mem_of_mem_take hb)
theorem beatIn_len (l : List Beat) : (beatIn l).length = l.length := beatTo_len l _
theorem beatTo_get (l : List Beat) : ∀ (i k : Nat), k < i → (beatTo l i).getD k zRec = beatR l k
  | 0, k, h => by omega
  | i + 1, k, h => by
    rw [beatTo]
    by_cases e : k < i
    · have := beatTo_get l i k e
      rw [← this]
      simp [List.getD, List.getElem?_append_left (show k < (beatTo l i).length by rw [beatTo_len]; exact e)]
    · obtain rfl : k = i := by omega
      simp [List.getD, List.getElem?_append_right (show (beatTo l k).length ≤ k by rw [beatTo_len]; exact Nat.le_refl _), beatTo_len]
theorem beatIn_get {l : List Beat} {k : Nat} (h : k < l.length) : (beatIn l).getD k zRec = beatR l k := beatTo_get l _ k h
theorem beatIn_val {l : List Beat} (hr : ∀ b ∈ l, BeatR b) {k : Nat} (h : k < l.length) : valN ((beatIn l).getD k zRec) = (l.map Beat.V).getD k 0 := by
  rw [beatIn_get h, beatR, (val_put (beatR_in hr h)).1]
  simp [List.getD, h]
theorem mine_step {g : Grid} {l : List Beat} (hr : ∀ b ∈ l, BeatR b) {k : Nat} (h : k < l.length) (key start : Int) :
    mineOf g ((beatIn l).take (k + 1)) key start = mineOf g ((beatIn l).take k) key start ++ (if inW g key start ((beatIn l).getD k zRec) then [(l.map Beat.V).getD k 0] else []) := by
  rw [take_snoc zRec (by rw [beatIn_len]; exact h), mine_snoc, beatIn_val hr h]
theorem mine_t {g : Grid} {l : List Beat} (hr : ∀ b ∈ l, BeatR b) {k : Nat} (h : k < l.length) {key start : Int} (hc : inW g key start ((beatIn l).getD k zRec) = true) :
    mineOf g ((beatIn l).take k) key start ++ [(l.map Beat.V).getD k 0] = mineOf g ((beatIn l).take (k + 1)) key start := by rw [mine_step hr h, hc, if_pos rfl]
theorem mine_f {g : Grid} {l : List Beat} (hr : ∀ b ∈ l, BeatR b) {k : Nat} (h : k < l.length) {key start : Int} (hc : inW g key start ((beatIn l).getD k zRec) = false) :
    mineOf g ((beatIn l).take k) key start = mineOf g ((beatIn l).take (k + 1)) key start := by rw [mine_step hr h, hc, if_neg (by decide), List.append_nil]
theorem mineN_b (g : Grid) (l : List Rec) (L : List Cell) {j : Nat} (hj : j ≤ 5000) (hl : l.length ≤ 60) : mineN g l L j ≤ 300000 :=
  Nat.le_trans (mineN_le g l L j) (Nat.mul_le_mul hj hl)
theorem mineN_end {g : Grid} {l : List Rec} {L : List Cell} {j : Nat} (h1 : j ≤ L.length) (h2 : L.length ≤ j) : ((mineN g l L j : Nat) : Int) = ((mineN g l L L.length : Nat) : Int) - ((startN g l 0 : Nat) : Int) := by
  obtain rfl : j = L.length := by omega
  simp [startN]
theorem whole_len {g : Grid} {l : List Beat} (hl : l.length ≤ 60) : (wholeAll g l).length ≤ 5000 := by
  have h1 := runAll_L (g := g) (l := beatIn l) zero_R
  have h2 := runAll_over (g := g) (l := beatIn l) zero_R
  rw [beatIn_len] at h2
  simp only [wholeAll, List.nil_append, List.length_append]; omega
theorem mine_R (g : Grid) (l : List Rec) (key start : Int) : ∀ x ∈ mineOf g l key start, R64 x := by
  intro x hx
  simp only [mineOf, List.mem_map] at hx
  obtain ⟨r, _, rfl⟩ := hx
  exact valN_in r
section
variable {g : Grid} {l : List Beat} (hg : gridMay g = true) (hl : l.length ≤ 60) (hr : ∀ b ∈ l, BeatR b)
include hg hl hr
theorem whole_err : (runAll g zeroState (beatIn l)).2.2 = 0 := (whole_all hg hl hr).1
theorem whole_late (h : (runAll g zeroState (beatIn l)).1.Late > 0) : (decide (((runAll g zeroState (beatIn l)).1.L.length : Int) > 0) && true) = true := by
  have hw := (whole_all hg hl hr).2
  have h1 := hw.ok.sum; have h2 := hw.ok.bad; have h3 := hw.ok.cnt
  have h : 0 < (runAll g zeroState (beatTo l l.length)).1.Late := h
  rcases hw.some with e | e
  · omega
  · have := List.length_pos_iff.2 e
    show (decide (((runAll g zeroState (beatTo l l.length)).1.L.length : Int) > 0) && true) = true
    rw [decide_eq_true (by omega)]; rfl
theorem whole_late0 (h : ¬ (runAll g zeroState (beatIn l)).1.Late > 0) : (runAll g zeroState (beatIn l)).1.Late = 0 := by
  have hw := (whole_all hg hl hr).2
  have h1 := hw.ok.late
  have h : ¬ (runAll g zeroState (beatTo l l.length)).1.Late > 0 := h
  show (runAll g zeroState (beatTo l l.length)).1.Late = 0
  omega
theorem whole_fold (h : (runAll g zeroState (beatIn l)).1.Late = 0) {j : Nat} (hj : j < (wholeAll g l).length) : ((wholeAll g l).getD j zCell).A = aggAll (mineOf g (beatIn l) ((wholeAll g l).getD j zCell).Key ((wholeAll g l).getD j zCell).Start) :=
  (whole_all hg hl hr).2.fold h _ (by have := getD_mem zCell hj; simpa [wholeAll, beatIn] using this)
theorem whole_n (h : (runAll g zeroState (beatIn l)).1.Late = 0) {n k : Nat} (hn : (wholeAll g l).length ≤ n) (hk : l.length ≤ k) : mineN g (beatIn l) (wholeAll g l) n = startN g (beatIn l) k :=
  whole_sum (whole_all hg hl hr).2 (by rw [beatTo_len]; omega) h hn (by rw [beatTo_len]; exact hk)
theorem whole_end (h : (runAll g zeroState (beatIn l)).1.Late = 0) {q : Nat} (hq : l.length ≤ q) :
    (((((mineN g (beatIn l) (wholeAll g l) (wholeAll g l).length : Nat) : Int) - ((startN g (beatIn l) q : Nat) : Int)) == 0) && true) = true := by
  rw [whole_n hg hl hr h (Nat.le_refl _) hq]; simp
end
/-- The bounds of a window that is told or open. -/
theorem whole_start {g : Grid} {l : List Beat} (hg : gridMay g = true) (hl : l.length ≤ 60) (hr : ∀ b ∈ l, BeatR b) {j : Nat} (hj : j < (wholeAll g l).length) :
    R64 (((wholeAll g l).getD j zCell).Start + g.Size) := by
  have hs := gridMay_spec hg
  have hw := whole_all hg hl hr
  have hm := getD_mem zCell hj
  have hm : (wholeAll g l).getD j zCell ∈ (runAll g zeroState (beatTo l l.length)).2.1 ++ (runAll g zeroState (beatTo l l.length)).1.L := by simpa [wholeAll, beatIn] using hm
  have hb := beatT_b l l.length
  rcases List.mem_append.1 hm with hm | hm
  · have := hw.2.pos _ hm
    constructor <;> omega
  · have := inN_b (hw.2.ok.cells _ hm).1.start.1
    constructor <;> omega
end Go.Proofs.Ytfpmgnkbklnkaaa.Eng
end
section
set_option linter.unusedSimpArgs false
set_option linter.unusedVariables false
set_option maxRecDepth 100000
namespace Go.Proofs.Ytfpmgnkbklnkaaa.Eng
open Go Go.Proofs Go.ChangeShapes Go.WideShapes Go.ChangeAt Go.RowKit Go.Deep
section
variable {H : Type} {enc : TypeId × Value → H} {W : World} {base : Nat} {sp : Nat → Bool} {held : Bool} {fuel : Nat} {cs : List Value} {x : DataW H × List MemPlace}
def vBeat (b : Beat) : List Value := [.int .i64 b.Key, .int .i64 b.Wait, .int .i64 b.V]
theorem c51 : Try.prog.cellsOf 51 = 3 := by kernel_rfl
set_option maxRecDepth 100000 in
theorem open_beatC (h : DataW.trod enc Try.prog W base sp held fuel 51 cs = some x) : ∃ b : Beat, cs = vBeat b ∧ BeatR b := by
  obtain ⟨y0, y1, y2, n, rfl, hl, h0, h1, h2⟩ := trod_struct3 Try.underlying51 h
  rw [c51] at hl
  match cs, hl with
  | [a, b, c], _ =>
    simp only [c3, List.drop, List.take] at h0 h1 h2
    obtain ⟨n0, e0, _, w0⟩ := DataW.trod_int Try.underlying3 h0
    obtain ⟨n1, e1, _, w1⟩ := DataW.trod_int Try.underlying3 h1
    obtain ⟨n2, e2, _, w2⟩ := DataW.trod_int Try.underlying3 h2
    simp only [List.cons.injEq, and_true] at e0 e1 e2
    subst e0 e1 e2
    exact ⟨⟨n0, n1, n2⟩, rfl, wf64 w0, wf64 w1, wf64 w2⟩
theorem vBeat_len (b : Beat) : (vBeat b).length = 3 := rfl
theorem vBeat_rep (b : Beat) : ∀ j, j < 3 → ∃ v, (vBeat b)[j]? = some v ∧ v.oneCell' = true ∧ ∀ m, (nth (eBeat b) j).rep m v := by
  intro j hj
  rcases (show j = 0 ∨ j = 1 ∨ j = 2 by omega) with rfl | rfl | rfl <;> exact ⟨_, rfl, rfl, fun m => rfl⟩
theorem open_beats {b0 : Nat} {v : Value} {d : DataW H} {ps : List MemPlace} (hval : Value.okWide Try.prog W .any b0 47 v) (h : DataW.Trod enc Try.prog W base sp held 47 v d ps) :
    ∃ l : List Beat, U.rep (memOf W) β0 (.c (.d (row 3 eBeat zBeat l))) v ∧ ∀ b ∈ l, BeatR b := by
  obtain ⟨A, n, c, rfl⟩ := okWide_slice Try.underlying47 hval
  obtain ⟨fuel, hf⟩ := h
  rw [cells_slice] at hf
  exact open_rows Try.underlying47 c51 (by decide) (fun h => open_beatC h) vBeat_len vBeat_rep hf
end
end Go.Proofs.Ytfpmgnkbklnkaaa.Eng
end
section
set_option linter.unusedSimpArgs false
set_option linter.unusedVariables false
set_option maxRecDepth 100000
set_option maxHeartbeats 4000000
namespace Go.Proofs.Ytfpmgnkbklnkaaa.Eng
open Go Go.Proofs
abbrev uEngineWhole : List U := [.c (.d (dB true))]
abbrev z6_0 (l : List Beat) : Nat × T := (1, tD (row 3 eBeat zBeat l))
abbrev z6_1 (g : Grid) : Nat × Blk := (2, .var ((eGrid g).map .d))
abbrev z6_2 (l : List Beat) : Nat × T := (1, tD (row 3 eBeat zBeat (l.take 60)))
abbrev z6_3 : Nat × T := (5, tD (.v (.slice none 0 0)))
abbrev z6_4 : Nat × T := (6, tD (.v (.slice none 0 0)))
abbrev z6_5 : Nat × Blk := (1005, arow 53 3 eRec zRec ([] : List Rec))
abbrev z6_6 (l : List Beat) (i : Nat) : Nat × T := (5, tG 1005 3 0 ((beatTo (l.take 60) i).length))
abbrev z6_7 (l : List Beat) (i : Nat) : Nat × T := (6, tG 1006 1 0 ((((l.take 60).take i).map Beat.V).length))
abbrev z6_8 (l : List Beat) (i : Nat) : Nat × T := (7, I (beatT (l.take 60) i))
abbrev z6_9 (l : List Beat) (i : Nat) : Nat × Blk := (1006, arow 3 1 eI 0 (((l.take 60).take i).map Beat.V))
abbrev z6_10 (l : List Beat) (i : Nat) : Nat × T := (32, B (decide ((i : Int) < ((l.take 60).length : Int))))
abbrev z6_11 (l : List Beat) (i : Nat) : Nat × T := (7, I ((beatT (l.take 60) i) + (bitsAnd .i64 (((l.take 60).getD i zBeat).Wait) (15 : Int))))
abbrev z6_12 (l : List Beat) (i : Nat) : Nat × Blk := (1005, arow 53 3 eRec zRec (beatTo (l.take 60) i ++ [(⟨(bitsAnd .i64 (((l.take 60).getD i zBeat).Key) (1 : Int)), ((beatT (l.take 60) i) + (bitsAnd .i64 (((l.take 60).getD i zBeat).Wait) (15 : Int))), putB (((l.take 60).getD i zBeat).V)⟩ : Rec)]))
abbrev z6_13 (l : List Beat) (i : Nat) : Nat × T := (5, tG 1005 3 0 ((beatTo (l.take 60) i ++ [(⟨(bitsAnd .i64 (((l.take 60).getD i zBeat).Key) (1 : Int)), ((beatT (l.take 60) i) + (bitsAnd .i64 (((l.take 60).getD i zBeat).Wait) (15 : Int))), putB (((l.take 60).getD i zBeat).V)⟩ : Rec)]).length))
abbrev z6_14 (l : List Beat) (i : Nat) : Nat × Blk := (1006, arow 3 1 eI 0 (((l.take 60).take i).map Beat.V ++ [((l.take 60).getD i zBeat).V]))
abbrev z6_15 (l : List Beat) (i : Nat) : Nat × T := (6, tG 1006 1 0 ((((l.take 60).take i).map Beat.V ++ [((l.take 60).getD i zBeat).V]).length))
abbrev z6_16 (l : List Beat) (i : Nat) : Nat × T := (5, tD (row 3 eRec zRec (beatTo (l.take 60) i)))
abbrev z6_17 (l : List Beat) : Nat × T := (5, tD (row 3 eRec zRec (beatIn (l.take 60))))
abbrev z6_18 (l : List Beat) : Nat × T := (6, tD (row 1 eI 0 ((l.take 60).map Beat.V)))
abbrev z6_19 (g : Grid) (l : List Beat) : Nat × T := (10, tD (row 12 eCell zCell ((runAll g zeroState (beatIn (l.take 60))).2.1)))
abbrev z6_20 (g : Grid) (l : List Beat) : Nat × T := (67, .tup [.agg ((eState ((runAll g zeroState (beatIn (l.take 60))).1)).map .d), .c (.d (row 12 eCell zCell ((runAll g zeroState (beatIn (l.take 60))).2.1))), .c (.d (dI ((runAll g zeroState (beatIn (l.take 60))).2.2)))])
abbrev z6_21 (g : Grid) (l : List Beat) : Nat × T := (71, .tup [.agg ((eState ((runAll g zeroState (beatIn (l.take 60))).1)).map .d), .c (.d (row 12 eCell zCell ((runAll g zeroState (beatIn (l.take 60))).2.1))), .c (.d (dI ((runAll g zeroState (beatIn (l.take 60))).2.2)))])
abbrev z6_22 (g : Grid) (l : List Beat) : Nat × Blk := (9, .var ((eState ((runAll g zeroState (beatIn (l.take 60))).1)).map .d))
abbrev z6_23 (g : Grid) (l : List Beat) : Nat × Blk := (1087, arow 46 12 eCell zCell (([] : List Cell) ++ (runAll g zeroState (beatIn (l.take 60))).2.1))
abbrev z6_24 (g : Grid) (l : List Beat) : Nat × Blk := (1087, arow 46 12 eCell zCell ((([] : List Cell) ++ (runAll g zeroState (beatIn (l.take 60))).2.1) ++ ((runAll g zeroState (beatIn (l.take 60))).1).L))
abbrev z6_25 (g : Grid) (l : List Beat) : Nat × T := (12, tD (row 12 eCell zCell (wholeAll g (l.take 60))))
abbrev z6_26 (g : Grid) (l : List Beat) (j : Nat) : Nat × T := (13, I ((mineN g (beatIn (l.take 60)) (wholeAll g (l.take 60)) j : Nat) : Int))
abbrev z6_27 (g : Grid) (l : List Beat) (j : Nat) (k : Nat) : Nat × T := (15, tG 1015 1 0 ((mineOf g ((beatIn (l.take 60)).take k) ((wholeAll g (l.take 60)).getD j zCell).Key ((wholeAll g (l.take 60)).getD j zCell).Start).length))
abbrev z6_28 (g : Grid) (l : List Beat) (j : Nat) (k : Nat) : Nat × Blk := (1015, arow 3 1 eI 0 (mineOf g ((beatIn (l.take 60)).take k) ((wholeAll g (l.take 60)).getD j zCell).Key ((wholeAll g (l.take 60)).getD j zCell).Start))
abbrev z6_29 (l : List Beat) (k : Nat) : Nat × T := (103, B (decide ((k : Int) < ((beatIn (l.take 60)).length : Int))))
abbrev z6_30 (l : List Beat) : Nat × T := (106, tD (row 3 eRec zRec (beatIn (l.take 60))))
abbrev z6_31 (l : List Beat) (k : Nat) : Nat × T := (108, .one (.c (.ip 3 (fun j_ => nth (eRec ((beatIn (l.take 60)).getD k zRec)) j_))))
abbrev z6_32 (l : List Beat) (k : Nat) : Nat × T := (109, .one (.c (.ip 3 (fun j_ => nth (eRec ((beatIn (l.take 60)).getD k zRec)) (0 + j_)))))
abbrev z6_33 (l : List Beat) (k : Nat) : Nat × T := (110, I (((beatIn (l.take 60)).getD k zRec).Key))
abbrev z6_34 (g : Grid) (l : List Beat) : Nat × T := (111, tD (row 12 eCell zCell (wholeAll g (l.take 60))))
abbrev z6_35 (g : Grid) (l : List Beat) (j : Nat) : Nat × T := (113, .one (.c (.ip 12 (fun j_ => nth (eCell ((wholeAll g (l.take 60)).getD j zCell)) j_))))
abbrev z6_36 (g : Grid) (l : List Beat) (j : Nat) : Nat × T := (114, .one (.c (.ip 12 (fun j_ => nth (eCell ((wholeAll g (l.take 60)).getD j zCell)) (0 + j_)))))
abbrev z6_37 (g : Grid) (l : List Beat) (j : Nat) : Nat × T := (115, I (((wholeAll g (l.take 60)).getD j zCell).Key))
abbrev z6_38 (l : List Beat) : Nat × T := (118, tD (row 3 eRec zRec (beatIn (l.take 60))))
abbrev z6_39 (l : List Beat) (k : Nat) : Nat × T := (120, .one (.c (.ip 3 (fun j_ => nth (eRec ((beatIn (l.take 60)).getD k zRec)) j_))))
abbrev z6_40 (l : List Beat) (k : Nat) : Nat × T := (121, .one (.c (.ip 2 (fun j_ => nth (eRec ((beatIn (l.take 60)).getD k zRec)) (1 + j_)))))
abbrev z6_41 (l : List Beat) (k : Nat) : Nat × T := (122, I (((beatIn (l.take 60)).getD k zRec).Time))
abbrev z6_42 (g : Grid) (l : List Beat) : Nat × T := (123, tD (row 12 eCell zCell (wholeAll g (l.take 60))))
abbrev z6_43 (g : Grid) (l : List Beat) (j : Nat) : Nat × T := (125, .one (.c (.ip 12 (fun j_ => nth (eCell ((wholeAll g (l.take 60)).getD j zCell)) j_))))
abbrev z6_44 (g : Grid) (l : List Beat) (j : Nat) : Nat × T := (126, .one (.c (.ip 11 (fun j_ => nth (eCell ((wholeAll g (l.take 60)).getD j zCell)) (1 + j_)))))
abbrev z6_45 (g : Grid) (l : List Beat) (j : Nat) : Nat × T := (127, I (((wholeAll g (l.take 60)).getD j zCell).Start))
abbrev z6_46 (l : List Beat) : Nat × T := (131, tD (row 3 eRec zRec (beatIn (l.take 60))))
abbrev z6_47 (l : List Beat) (k : Nat) : Nat × T := (133, .one (.c (.ip 3 (fun j_ => nth (eRec ((beatIn (l.take 60)).getD k zRec)) j_))))
abbrev z6_48 (l : List Beat) (k : Nat) : Nat × T := (134, .one (.c (.ip 2 (fun j_ => nth (eRec ((beatIn (l.take 60)).getD k zRec)) (1 + j_)))))
abbrev z6_49 (l : List Beat) (k : Nat) : Nat × T := (135, I (((beatIn (l.take 60)).getD k zRec).Time))
abbrev z6_50 (g : Grid) (l : List Beat) : Nat × T := (136, tD (row 12 eCell zCell (wholeAll g (l.take 60))))
abbrev z6_51 (g : Grid) (l : List Beat) (j : Nat) : Nat × T := (138, .one (.c (.ip 12 (fun j_ => nth (eCell ((wholeAll g (l.take 60)).getD j zCell)) j_))))
abbrev z6_52 (g : Grid) (l : List Beat) (j : Nat) : Nat × T := (139, .one (.c (.ip 11 (fun j_ => nth (eCell ((wholeAll g (l.take 60)).getD j zCell)) (1 + j_)))))
abbrev z6_53 (g : Grid) (l : List Beat) (j : Nat) : Nat × T := (140, I (((wholeAll g (l.take 60)).getD j zCell).Start))
abbrev z6_54 (g : Grid) (l : List Beat) (j : Nat) : Nat × T := (143, I ((((wholeAll g (l.take 60)).getD j zCell).Start) + g.Size))
abbrev z6_55 (g : Grid) (l : List Beat) (j : Nat) (k : Nat) : Nat × T := (144, B (decide ((((beatIn (l.take 60)).getD k zRec).Time) < ((((wholeAll g (l.take 60)).getD j zCell).Start) + g.Size))))
abbrev z6_56 (g : Grid) (l : List Beat) (j : Nat) (k : Nat) : Nat × Blk := (1015, arow 3 1 eI 0 (mineOf g ((beatIn (l.take 60)).take k) ((wholeAll g (l.take 60)).getD j zCell).Key ((wholeAll g (l.take 60)).getD j zCell).Start ++ [(((l.take 60).map Beat.V).getD k 0)]))
abbrev z6_57 (g : Grid) (l : List Beat) (j : Nat) (k : Nat) : Nat × T := (15, tG 1015 1 0 ((mineOf g ((beatIn (l.take 60)).take k) ((wholeAll g (l.take 60)).getD j zCell).Key ((wholeAll g (l.take 60)).getD j zCell).Start ++ [(((l.take 60).map Beat.V).getD k 0)]).length))
abbrev z6_58 (k : Nat) : Nat × T := (16, I (IntKind.i64.wrap ((k : Int) + 1)))
abbrev z6_59 (k : Nat) : Nat × T := (16, I ((k + 1 : Nat) : Int))
abbrev z6_60 (g : Grid) (l : List Beat) (j : Nat) : Nat × T := (15, tD (row 1 eI 0 (mineOf g (beatIn (l.take 60)) ((wholeAll g (l.take 60)).getD j zCell).Key ((wholeAll g (l.take 60)).getD j zCell).Start)))
abbrev z6_61 (g : Grid) (l : List Beat) (j : Nat) : Nat × T := (13, I (((mineN g (beatIn (l.take 60)) (wholeAll g (l.take 60)) j : Nat) : Int) + ((mineOf g (beatIn (l.take 60)) ((wholeAll g (l.take 60)).getD j zCell).Key ((wholeAll g (l.take 60)).getD j zCell).Start).length : Int)))
abbrev z6_62 (g : Grid) (l : List Beat) (q : Nat) : Nat × T := (13, I (((mineN g (beatIn (l.take 60)) (wholeAll g (l.take 60)) (wholeAll g (l.take 60)).length : Nat) : Int) - ((startN g (beatIn (l.take 60)) q : Nat) : Int)))
abbrev z6_63 (g : Grid) (l : List Beat) (q : Nat) : Nat × T := (13, I ((((mineN g (beatIn (l.take 60)) (wholeAll g (l.take 60)) (wholeAll g (l.take 60)).length : Nat) : Int) - ((startN g (beatIn (l.take 60)) q : Nat) : Int)) - ((gridStarts g (((beatIn (l.take 60)).getD q zRec).Time)).length : Int)))
abbrev y6_0 (g : Grid) : List (Nat × Blk) := [(z6_1 g)]
abbrev y6_1 (g : Grid) (l : List Beat) (i : Nat) : List (Nat × Blk) := [(z6_1 g), (1005, arow 53 3 eRec zRec (beatTo (l.take 60) i)), (z6_9 l i)]
abbrev y6_2 (g : Grid) (l : List Beat) : List (Nat × Blk) := [(z6_1 g), (z6_22 g l)]
abbrev y6_3 (g : Grid) (l : List Beat) (j : Nat) (k : Nat) : List (Nat × Blk) := [(z6_1 g), (z6_28 g l j k)]
/-- headgate/headgatelaw16.EngineWhole. -/
theorem ok_EngineWhole (g : Grid) (l : List Beat) (hr : ∀ b ∈ l, BeatR b) :
 FnOk Try.prog 6 [.agg ((eGrid g).map .d), .c (.d (row 3 eBeat zBeat l))] (fun r_ => r_ = B true) := by
 have hrb := take_R hr
 have hlb : (l.take 60).length ≤ 60 := by simp; omega
 refine FnOk.go Try.func6 rfl 190 ?_
 intro w0 m0
 show AC _ _ ⟨[(0, tA ((eGrid g).map .d)), (z6_0 l)], []⟩ _
 refine AC.q ⟨[(z6_0 l), sp 2], y6_0 g⟩ ?_
 refine AC.seq ?_
 refine AC.rS [0, 1, 2] ?_
 refine AOps.m [0] ⟨[(z6_0 l), sp 2, (20, tA ((eGrid g).map .d))], y6_0 g⟩ ?_
 refine AOps.ca (ok_may14 g) ?_
 rintro _ rfl
 refine AOps.e ⟨[(z6_0 l), sp 2, (22, B (!(gridMay g)))], y6_0 g⟩ ?_
 refine AC.cd (b := !(gridMay g)) (fun h_ => ?_) (fun h_ => ?_)
 have h1 := h_; have r1 := h_; clear h_; try simp only [bb] at h1
 refine AC.rS [0, 1] ?_
 refine AOps.ca (ok_awake) ?_
 rintro _ rfl
 refine AOps.e ⟨[(4, B true)], []⟩ ?_
 refine AC.ret ?_
 exact rqr uEngineWhole (All2.cons (ULe.refl _) All2.nil)
 have h1 := h_; have r1 := h_; clear h_; try simp only [bb] at h1
 refine AC.skip ?_
 refine AC.join (ι := Unit) (fun _ => ⟨[(1, tD (row 3 eBeat zBeat (bif decide ((l.length : Int) > 60) then (l.take 60) else l))), sp 2], y6_0 g⟩) (fun _ => True) ?_ ?_
 refine AC.q ⟨[(z6_0 l), sp 2, (26, B (decide ((l.length : Int) > 60)))], y6_0 g⟩ ?_
 refine AC.cd (b := decide ((l.length : Int) > 60)) (fun h_ => ?_) (fun h_ => ?_)
 have h2 := h_; have r2 := h_; clear h_; try simp only [bb] at h2
 refine AC.rR [0, 1, 2] ?_
 refine AOps.mc [0, 1] (C' := (0 ≤ (0 : Int) ∧ (0 : Int) ≤ 60 ∧ 60 ≤ (l.length : Int)) ∧ True) ⟨[sp 2, (28, tD (.sl 3 (((60 : Int) - 0).toNat) (fun i_ j_ => nth (eBeat (l.getD ((0 : Int).toNat + i_) zBeat)) j_)))], y6_0 g⟩ (⟨by omega, trivial⟩) ?_
 refine AOps.le (st' := ⟨[sp 2, (28, tD (row 3 eBeat zBeat (l.take 60)))], y6_0 g⟩) (Le.of (lk rfl (LeS.cons rfl (TLe.one (ULe.c (CLe.d (DLe.take (by omega) (by omega))))) LeS.nil)) (ek rfl LeE.nil) (by kernel_rfl)) ?_
 refine AOps.e ⟨[(z6_2 l), sp 2], y6_0 g⟩ ?_
 refine joinA_n () trivial (Le.of (LeS.cons rfl (TLe.one (ULe.c (CLe.d (DLe.eq (congrArg (row 3 eBeat zBeat) (by first | rfl | exact jt (by assumption) | exact jf (by assumption))))))) (lk rfl LeS.nil)) (ek rfl LeE.nil) (by kernel_rfl))
 have h2 := h_; have r2 := h_; clear h_; try simp only [bb] at h2
 refine AC.skip ?_
 refine joinA_n () trivial (Le.of (LeS.cons rfl (TLe.one (ULe.c (CLe.d (DLe.eq (congrArg (row 3 eBeat zBeat) (by first | rfl | exact jt (by assumption) | exact jf (by assumption))))))) (lk rfl LeS.nil)) (ek rfl LeE.nil) (by kernel_rfl))
 intro _ _
 have hg : gridMay g = true := by assumption
 refine AC.le (st' := ⟨[(z6_2 l), sp 2], y6_0 g⟩) (Le.of (LeS.cons rfl (TLe.one (ULe.c (CLe.d (DLe.eq (congrArg (row 3 eBeat zBeat) (by first | exact take_beats l | rfl | (symm; exact List.take_of_length_le (by omega)))))))) (lk rfl LeS.nil)) (ek rfl LeE.nil) (by kernel_rfl)) ?_
 refine AC.q ⟨[(z6_2 l), sp 2, (z6_3)], y6_0 g⟩ ?_
 refine AC.q ⟨[(z6_2 l), sp 2, (z6_3), (z6_4)], y6_0 g⟩ ?_
 refine AC.q ⟨[(z6_2 l), sp 2, (z6_3), (z6_4), (7, I 0)], y6_0 g⟩ ?_
 refine AC.seq ?_
 refine AC.q ⟨[(z6_2 l), sp 2, (z6_3), (z6_4), (7, I 0), (8, I 0)], y6_0 g⟩ ?_
 refine AC.block ?_
 refine AC.nl 1005 5 53 3 (fun i_ j_ => nth (eRec (([] : List Rec).getD i_ zRec)) j_) ⟨[(z6_2 l), sp 2, (5, tG 1005 3 0 (([] : List Rec).length)), (z6_4), (7, I 0), (8, I 0)], [(z6_1 g), (z6_5)]⟩ ?_
 refine AC.nl 1006 6 3 1 (fun i_ j_ => nth (eI (([] : List Int).getD i_ 0)) j_) ⟨[(z6_2 l), sp 2, (5, tG 1005 3 0 (([] : List Rec).length)), (6, tG 1006 1 0 (([] : List Int).length)), (7, I 0), (8, I 0)], [(z6_1 g), (z6_5), (1006, arow 3 1 eI 0 ([] : List Int))]⟩ ?_
 refine AC.loop (ι := Nat) (fun i => ⟨[(z6_2 l), sp 2, (z6_6 l i), (z6_7 l i), (z6_8 l i), (8, I (i : Int))], y6_1 g l i⟩) (fun i => (i ≤ (l.take 60).length)) (fun i => (l.take 60).length - i) (0) (by omega) (Le.of (lk rfl (lk rfl (LeS.cons rfl (TLe.gs (congrArg List.length ?_)) (LeS.cons rfl (TLe.gs (congrArg List.length ?_)) (LeS.cons rfl (TLe.i (by first | omega | rfl | (rw [mineN_succ (by omega)]; omega) | (rw [startN_succ (by omega)]; omega) | exact mineN_end (by omega) (by omega))) (LeS.cons rfl (TLe.i (by first | omega | rfl | (rw [mineN_succ (by omega)]; omega) | (rw [startN_succ (by omega)]; omega) | exact mineN_end (by omega) (by omega))) LeS.nil)))))) (ek rfl (LeE.cons rfl (BLe.eq (congrArg (arow 53 3 eRec zRec) ?_)) (LeE.cons rfl (BLe.eq (congrArg (arow 3 1 eI 0) ?_)) LeE.nil))) (by kernel_rfl)) ?_
 iterate 4 (· first | rfl | (simp; done) | exact map_snoc (d := zBeat) (by omega) rfl | exact mine_t hrb (by omega) (by simp only [inW, Bool.and_eq_true, decide_eq_true_eq, beq_iff_eq]; omega) | exact mine_f hrb (by omega) (by simp only [inW, Bool.and_eq_false_iff, decide_eq_false_iff_not, beq_eq_false_iff_ne, ne_eq]; omega))
 intro i hi_
 have i1 : i ≤ (l.take 60).length := hi_; clear hi_
 show AC _ _ ⟨[(z6_2 l), sp 2, (z6_6 l i), (z6_7 l i), (z6_8 l i), (8, I (i : Int))], y6_1 g l i⟩ _
 have hbT := beatT_b (l.take 60) i
 have hbS := beatT_step (l.take 60) i
 have hbl := beatTo_len (l.take 60) i
 have hvl : (((l.take 60).take i).map Beat.V).length = i := by simp at i1 ⊢; omega
 have hbE : beatT (l.take 60) (i + 1) = beatT (l.take 60) i + bitsAnd .i64 ((l.take 60).getD i zBeat).Wait 15 := rfl
 refine AC.seq ?_
 refine AC.q ⟨[(z6_2 l), sp 2, (z6_6 l i), (z6_7 l i), (z6_8 l i), (8, I (i : Int)), (z6_10 l i)], y6_1 g l i⟩ ?_
 refine AC.cd (b := decide ((i : Int) < ((l.take 60).length : Int))) (fun h_ => ?_) (fun h_ => ?_)
 have h2 := h_; have r2 := h_; clear h_; try simp only [bb] at h2
 refine AC.skip ?_
 refine AC.seq ?_
 refine AC.block ?_
 refine AC.rS [0, 1, 2, 3, 4, 5, 6, 7, 8] ?_
 refine AOps.mc [0, 1, 2, 3, 4, 5, 6, 7, 8] (C' := (0 ≤ (i : Int) ∧ (i : Int) < ((l.take 60).length : Int)) ∧ True) ⟨[(z6_2 l), sp 2, (z6_6 l i), (z6_7 l i), (7, I (IntKind.i64.wrap ((beatT (l.take 60) i) + (bitsAnd .i64 (((l.take 60).getD i zBeat).Wait) (15 : Int))))), (8, I (i : Int))], y6_1 g l i⟩ (⟨by first | omega | (simp only [List.length_map]; omega), trivial⟩) ?_
 refine AOps.le (st' := ⟨[(z6_2 l), sp 2, (z6_6 l i), (z6_7 l i), (z6_11 l i), (8, I (i : Int))], y6_1 g l i⟩) (Le.of (lk rfl (lk rfl (lk rfl (lk rfl (LeS.cons rfl (TLe.i (by rw [wrap_in (n := ((beatT (l.take 60) i) + (bitsAnd .i64 (((l.take 60).getD i zBeat).Wait) (15 : Int)))) (by omega) (by omega)] <;> omega)) (lk rfl LeS.nil)))))) (ek rfl (ek rfl (ek rfl LeE.nil))) (by kernel_rfl)) ?_
 refine AOps.done ?_
 refine AC.dS 15 [] ⟨[(z6_2 l), sp 2, (z6_6 l i), (z6_7 l i), (z6_11 l i), (8, I (i : Int)), (43, tG 1005 3 0 ((beatTo (l.take 60) i).length)), (44, tD (row 3 eBeat zBeat (l.take 60))), (45, I (i : Int)), (46, .one (.c (.ip 3 (fun j_ => nth (eBeat ((l.take 60).getD i zBeat)) j_)))), (47, .one (.c (.ip 3 (fun j_ => nth (eBeat ((l.take 60).getD i zBeat)) (0 + j_))))), (48, I (((l.take 60).getD i zBeat).Key)), (49, I (bitsAnd .i64 (((l.take 60).getD i zBeat).Key) (1 : Int))), (50, I ((beatT (l.take 60) i) + (bitsAnd .i64 (((l.take 60).getD i zBeat).Wait) (15 : Int)))), (51, tD (row 3 eBeat zBeat (l.take 60))), (52, I (i : Int)), (53, .one (.c (.ip 3 (fun j_ => nth (eBeat ((l.take 60).getD i zBeat)) j_)))), (54, .one (.c (.ip 1 (fun j_ => nth (eBeat ((l.take 60).getD i zBeat)) (2 + j_))))), (55, I (((l.take 60).getD i zBeat).V)), (56, tA ((eRec (⟨(bitsAnd .i64 (((l.take 60).getD i zBeat).Key) (1 : Int)), ((beatT (l.take 60) i) + (bitsAnd .i64 (((l.take 60).getD i zBeat).Wait) (15 : Int))), putB (((l.take 60).getD i zBeat).V)⟩ : Rec)).map .d)), (57, tD (row 3 eRec zRec [(⟨(bitsAnd .i64 (((l.take 60).getD i zBeat).Key) (1 : Int)), ((beatT (l.take 60) i) + (bitsAnd .i64 (((l.take 60).getD i zBeat).Wait) (15 : Int))), putB (((l.take 60).getD i zBeat).V)⟩ : Rec)]))], y6_1 g l i⟩ [15, 16] (.inl rfl) ?_ ?_
 · exact (au (au (ar 2 (au (au (ar 5 (au (au (ar 2 AllUpTo.zero) ot) (OpAt.val rfl (by kernel_rfl) (C' := 0 ≤ (i : Int) ∧ (i : Int) < ((l.take 60).length : Int)) (x := .one (.c (.ip 3 (fun j_ => nth (eBeat ((l.take 60).getD i zBeat)) j_)))) (by kernel_rfl) (by first | omega | (simp only [List.length_map]; omega)) rfl (by kernel_rfl) (by kernel_rfl) (TLe.refl _) (by kernel_rfl) (by kernel_rfl) (by kernel_rfl)))) ot) (OpAt.val rfl (by kernel_rfl) (C' := 0 ≤ (i : Int) ∧ (i : Int) < ((l.take 60).length : Int)) (x := .one (.c (.ip 3 (fun j_ => nth (eBeat ((l.take 60).getD i zBeat)) j_)))) (by kernel_rfl) (by first | omega | (simp only [List.length_map]; omega)) rfl (by kernel_rfl) (by kernel_rfl) (TLe.refl _) (by kernel_rfl) (by kernel_rfl) (by kernel_rfl)))) (oc (ok_of (bitsAnd .i64 (((l.take 60).getD i zBeat).Key) (1 : Int)) ((beatT (l.take 60) i) + (bitsAnd .i64 (((l.take 60).getD i zBeat).Wait) (15 : Int))) (((l.take 60).getD i zBeat).V) (by exact beatR_in hrb (by omega))))) (OpAt.lit rfl (by kernel_rfl) rfl (l := [dI ((⟨(bitsAnd .i64 (((l.take 60).getD i zBeat).Key) (1 : Int)), ((beatT (l.take 60) i) + (bitsAnd .i64 (((l.take 60).getD i zBeat).Wait) (15 : Int))), putB (((l.take 60).getD i zBeat).V)⟩ : Rec).Key), dI ((⟨(bitsAnd .i64 (((l.take 60).getD i zBeat).Key) (1 : Int)), ((beatT (l.take 60) i) + (bitsAnd .i64 (((l.take 60).getD i zBeat).Wait) (15 : Int))), putB (((l.take 60).getD i zBeat).V)⟩ : Rec).Time), dS ((⟨(bitsAnd .i64 (((l.take 60).getD i zBeat).Key) (1 : Int)), ((beatT (l.take 60) i) + (bitsAnd .i64 (((l.take 60).getD i zBeat).Wait) (15 : Int))), putB (((l.take 60).getD i zBeat).V)⟩ : Rec).Text)]) (s := 3) (by kernel_rfl) rfl (by kernel_rfl) (x' := tD (row 3 eRec zRec [(⟨(bitsAnd .i64 (((l.take 60).getD i zBeat).Key) (1 : Int)), ((beatT (l.take 60) i) + (bitsAnd .i64 (((l.take 60).getD i zBeat).Wait) (15 : Int))), putB (((l.take 60).getD i zBeat).V)⟩ : Rec)])) (by kernel_rfl) (TLe.d (DLe.sl rfl (fun i_ hi_ j_ hj_ => by obtain rfl : i_ = 0 := (by omega); simp only [Nat.zero_mul, Nat.zero_add] <;> rfl))) (by kernel_rfl) (by kernel_rfl)))
 refine AOps.mc [15] (C' := ((beatTo (l.take 60) i).length = (beatTo (l.take 60) i).length ∧ (beatTo (l.take 60) i).length + [(⟨(bitsAnd .i64 (((l.take 60).getD i zBeat).Key) (1 : Int)), ((beatT (l.take 60) i) + (bitsAnd .i64 (((l.take 60).getD i zBeat).Wait) (15 : Int))), putB (((l.take 60).getD i zBeat).V)⟩ : Rec)].length ≤ 9223372036854775807 ∧ ((beatTo (l.take 60) i).length + [(⟨(bitsAnd .i64 (((l.take 60).getD i zBeat).Key) (1 : Int)), ((beatT (l.take 60) i) + (bitsAnd .i64 (((l.take 60).getD i zBeat).Wait) (15 : Int))), putB (((l.take 60).getD i zBeat).V)⟩ : Rec)].length) * 32 ≤ 140737488355328) ∧ True) ⟨[(z6_2 l), sp 2, (z6_7 l i), (z6_11 l i), (8, I (i : Int)), (58, tG 1005 3 0 ((beatTo (l.take 60) i).length + [(⟨(bitsAnd .i64 (((l.take 60).getD i zBeat).Key) (1 : Int)), ((beatT (l.take 60) i) + (bitsAnd .i64 (((l.take 60).getD i zBeat).Wait) (15 : Int))), putB (((l.take 60).getD i zBeat).V)⟩ : Rec)].length))], [(z6_1 g), (1005, .arr 53 3 ((beatTo (l.take 60) i).length + [(⟨(bitsAnd .i64 (((l.take 60).getD i zBeat).Key) (1 : Int)), ((beatT (l.take 60) i) + (bitsAnd .i64 (((l.take 60).getD i zBeat).Wait) (15 : Int))), putB (((l.take 60).getD i zBeat).V)⟩ : Rec)].length) fun i_ j_ => bif Nat.blt i_ (beatTo (l.take 60) i).length then nth (eRec ((beatTo (l.take 60) i).getD i_ zRec)) j_ else nth (eRec ([(⟨(bitsAnd .i64 (((l.take 60).getD i zBeat).Key) (1 : Int)), ((beatT (l.take 60) i) + (bitsAnd .i64 (((l.take 60).getD i zBeat).Wait) (15 : Int))), putB (((l.take 60).getD i zBeat).V)⟩ : Rec)].getD (i_ - (beatTo (l.take 60) i).length) zRec)) j_), (z6_9 l i)]⟩ (⟨by (try simp only [hvl, hbl, List.length_append, List.length_cons, List.length_nil, true_and]); omega, trivial⟩) ?_
 refine AOps.le (st' := ⟨[(z6_2 l), sp 2, (z6_7 l i), (z6_11 l i), (8, I (i : Int)), (58, tG 1005 3 0 ((beatTo (l.take 60) i ++ [(⟨(bitsAnd .i64 (((l.take 60).getD i zBeat).Key) (1 : Int)), ((beatT (l.take 60) i) + (bitsAnd .i64 (((l.take 60).getD i zBeat).Wait) (15 : Int))), putB (((l.take 60).getD i zBeat).V)⟩ : Rec)]).length))], [(z6_1 g), (z6_12 l i), (z6_9 l i)]⟩) (Le.of (lk rfl (lk rfl (lk rfl (lk rfl (lk rfl (LeS.cons rfl (TLe.gs (lenL _ _)) LeS.nil)))))) (ek rfl (LeE.cons rfl (BLe.appL (e := 53) (sz := 3) (enc := eRec) (d := zRec) (L := beatTo (l.take 60) i) (K := [(⟨(bitsAnd .i64 (((l.take 60).getD i zBeat).Key) (1 : Int)), ((beatT (l.take 60) i) + (bitsAnd .i64 (((l.take 60).getD i zBeat).Wait) (15 : Int))), putB (((l.take 60).getD i zBeat).V)⟩ : Rec)])) (ek rfl LeE.nil))) (by kernel_rfl)) ?_
 refine AOps.e ⟨[(z6_2 l), sp 2, (z6_13 l i), (z6_7 l i), (z6_11 l i), (8, I (i : Int))], [(z6_1 g), (z6_12 l i), (z6_9 l i)]⟩ ?_
 refine AC.rR [0, 1, 2, 3, 4, 5, 6, 7, 8] ?_
 refine AOps.mc [0, 1, 2, 3, 4, 5, 6, 7] (C' := (0 ≤ (i : Int) ∧ (i : Int) < ((l.take 60).length : Int)) ∧ ((((l.take 60).take i).map Beat.V).length = (((l.take 60).take i).map Beat.V).length ∧ (((l.take 60).take i).map Beat.V).length + 1 ≤ 9223372036854775807 ∧ ((((l.take 60).take i).map Beat.V).length + 1) * 8 ≤ 140737488355328) ∧ True) ⟨[(z6_2 l), sp 2, (z6_13 l i), (z6_11 l i), (8, I (i : Int)), (66, tG 1006 1 0 ((((l.take 60).take i).map Beat.V).length + 1))], [(z6_1 g), (z6_12 l i), (1006, .arr 3 1 ((((l.take 60).take i).map Beat.V).length + 1) fun i_ j_ => bif Nat.blt i_ (((l.take 60).take i).map Beat.V).length then nth (eI ((((l.take 60).take i).map Beat.V).getD i_ 0)) j_ else (fun i_ j_ => nth [dI (((l.take 60).getD i zBeat).V)] (i_ * 1 + j_)) (i_ - (((l.take 60).take i).map Beat.V).length) j_)]⟩ (⟨by first | omega | (simp only [List.length_map]; omega), by (try simp only [hvl, hbl, List.length_append, List.length_cons, List.length_nil, true_and]); omega, trivial⟩) ?_
 refine AOps.le (st' := ⟨[(z6_2 l), sp 2, (z6_13 l i), (z6_11 l i), (8, I (i : Int)), (66, tG 1006 1 0 ((((l.take 60).take i).map Beat.V ++ [((l.take 60).getD i zBeat).V]).length))], [(z6_1 g), (z6_12 l i), (z6_14 l i)]⟩) (Le.of (lk rfl (lk rfl (lk rfl (lk rfl (lk rfl (LeS.cons rfl (TLe.gs (len1 _ _)) LeS.nil)))))) (ek rfl (ek rfl (LeE.cons rfl (BLe.app1 (e := 3) (sz := 1) (enc := eI) (d := 0) (L := ((l.take 60).take i).map Beat.V) (x := ((l.take 60).getD i zBeat).V) (g := fun i_ j_ => nth [dI (((l.take 60).getD i zBeat).V)] (i_ * 1 + j_)) (fun j_ hj_ => by simp only [Nat.zero_mul, Nat.zero_add] <;> rfl)) LeE.nil))) (by kernel_rfl)) ?_
 refine AOps.e ⟨[(z6_2 l), sp 2, (z6_13 l i), (z6_15 l i), (z6_11 l i), (8, I (i : Int))], [(z6_1 g), (z6_12 l i), (z6_14 l i)]⟩ ?_
 refine AC.rR [0, 1, 2] ?_
 refine AOps.m [0, 1, 2] ⟨[(z6_2 l), sp 2, (z6_13 l i), (z6_15 l i), (z6_11 l i), (8, I (IntKind.i64.wrap ((i : Int) + 1)))], [(z6_1 g), (z6_12 l i), (z6_14 l i)]⟩ ?_
 refine AOps.le (st' := ⟨[(z6_2 l), sp 2, (z6_13 l i), (z6_15 l i), (z6_11 l i), (8, I ((i + 1 : Nat) : Int))], [(z6_1 g), (z6_12 l i), (z6_14 l i)]⟩) (Le.of (lk rfl (lk rfl (lk rfl (lk rfl (lk rfl (LeS.cons rfl (TLe.i (by rw [wrap_in (n := ((i : Int) + 1)) (by omega) (by omega)] <;> omega)) LeS.nil)))))) (ek rfl (ek rfl (ek rfl LeE.nil))) (by kernel_rfl)) ?_
 refine AOps.done ?_
 try refine blockA_n ?_
 refine roundA_n (i + 1) (by omega) (by show (l.take 60).length - (i + 1) < (l.take 60).length - i; omega) (Le.of (lk rfl (lk rfl (LeS.cons rfl (TLe.gs (congrArg List.length ?_)) (LeS.cons rfl (TLe.gs (congrArg List.length ?_)) (LeS.cons rfl (TLe.i (by first | omega | rfl | (rw [mineN_succ (by omega)]; omega) | (rw [startN_succ (by omega)]; omega) | exact mineN_end (by omega) (by omega))) (LeS.cons rfl (TLe.i (by first | omega | rfl | (rw [mineN_succ (by omega)]; omega) | (rw [startN_succ (by omega)]; omega) | exact mineN_end (by omega) (by omega))) LeS.nil)))))) (ek rfl (LeE.cons rfl (BLe.eq (congrArg (arow 53 3 eRec zRec) ?_)) (LeE.cons rfl (BLe.eq (congrArg (arow 3 1 eI 0) ?_)) LeE.nil))) (by kernel_rfl))
 iterate 4 (· first | rfl | (simp; done) | exact map_snoc (d := zBeat) (by omega) rfl | exact mine_t hrb (by omega) (by simp only [inW, Bool.and_eq_true, decide_eq_true_eq, beq_iff_eq]; omega) | exact mine_f hrb (by omega) (by simp only [inW, Bool.and_eq_false_iff, decide_eq_false_iff_not, beq_eq_false_iff_ne, ne_eq]; omega))
 have h2 := h_; have r2 := h_; clear h_; try simp only [bb] at h2
 refine AC.exit ?_
 repeat (first | refine thenA_x ?_ | refine roundA_x ?_ | refine joinA_x ?_ | refine blockA_hit ?_ | refine blockA_miss (by decide) ?_)
 have hAL := runAll_L (g := g) (l := (beatIn (l.take 60))) zero_R
 have hAO := runAll_over (g := g) (l := (beatIn (l.take 60))) zero_R
 have hIl := beatIn_len (l.take 60)
 have hWl := whole_len (g := g) hlb
 refine AC.fz 1005 (0 + (beatTo (l.take 60) i).length ≤ (beatTo (l.take 60) i).length ∧ True) ⟨[(z6_2 l), sp 2, (5, tD (.sl 3 ((beatTo (l.take 60) i).length) (fun i_ j_ => nth (eRec ((beatTo (l.take 60) i).getD (0 + i_) zRec)) j_))), (z6_7 l i), (z6_8 l i), (8, I (i : Int)), (z6_10 l i)], [(z6_1 g), (z6_9 l i)]⟩ ⟨by omega, trivial⟩ ?_ rfl
 refine AC.le (st' := ⟨[(z6_2 l), sp 2, (z6_16 l i), (z6_7 l i), (z6_8 l i), (8, I (i : Int)), (z6_10 l i)], [(z6_1 g), (z6_9 l i)]⟩) (Le.of (lk rfl (lk rfl (LeS.cons rfl (TLe.one (ULe.c (CLe.d (DLe.row0)))) (lk rfl (lk rfl (lk rfl (lk rfl LeS.nil))))))) (ek rfl (ek rfl LeE.nil)) (by kernel_rfl)) ?_
 refine AC.fz 1006 (0 + (((l.take 60).take i).map Beat.V).length ≤ (((l.take 60).take i).map Beat.V).length ∧ True) ⟨[(z6_2 l), sp 2, (z6_16 l i), (6, tD (.sl 1 ((((l.take 60).take i).map Beat.V).length) (fun i_ j_ => nth (eI ((((l.take 60).take i).map Beat.V).getD (0 + i_) 0)) j_))), (z6_8 l i), (8, I (i : Int)), (z6_10 l i)], y6_0 g⟩ ⟨by omega, trivial⟩ ?_ rfl
 refine AC.le (st' := ⟨[(z6_2 l), sp 2, (z6_16 l i), (6, tD (row 1 eI 0 (((l.take 60).take i).map Beat.V))), (z6_8 l i), (8, I (i : Int)), (z6_10 l i)], y6_0 g⟩) (Le.of (lk rfl (lk rfl (lk rfl (LeS.cons rfl (TLe.one (ULe.c (CLe.d (DLe.row0)))) (lk rfl (lk rfl (lk rfl LeS.nil))))))) (ek rfl LeE.nil) (by kernel_rfl)) ?_
 refine AC.le (st' := ⟨[sp 2, (z6_17 l), (z6_18 l)], y6_0 g⟩) (Le.of (lk rfl (LeS.cons rfl (TLe.one (ULe.c (CLe.d (DLe.eq (congrArg (row 3 eRec zRec) ?_))))) (LeS.cons rfl (TLe.one (ULe.c (CLe.d (DLe.eq (congrArg (row 1 eI 0) ?_))))) LeS.nil))) (ek rfl LeE.nil) (by kernel_rfl)) ?_
 iterate 2 (· first | (rw [show i = (l.take 60).length by omega]; rfl) | (rw [show i = (l.take 60).length by omega, List.take_length]))
 refine AC.drawXS (by kernel_rfl) 11 9 [(8, 9)] ⟨[sp 2, (z6_17 l), (z6_18 l), sp 9, (z6_19 g l), (z6_20 g l), (68, tA ((eGrid g).map .d)), (69, tA ((eState zeroState).map .d)), (70, tD (row 3 eRec zRec (beatIn (l.take 60)))), (z6_21 g l), (72, tA ((eState ((runAll g zeroState (beatIn (l.take 60))).1)).map .d)), (73, tD (row 12 eCell zCell ((runAll g zeroState (beatIn (l.take 60))).2.1))), (74, I ((runAll g zeroState (beatIn (l.take 60))).2.2))], [(z6_1 g), (9, .var ([.d (dI 0), .d (dI 0), .d (dI 0), .d (dI 0), .d (.v (.slice none 0 0))]))]⟩ ⟨[sp 2, (z6_17 l), (z6_18 l), sp 9, (z6_19 g l), (z6_20 g l), (68, tA ((eGrid g).map .d)), (69, tA ((eState zeroState).map .d)), (70, tD (row 3 eRec zRec (beatIn (l.take 60)))), (z6_21 g l), (72, tA ((eState ((runAll g zeroState (beatIn (l.take 60))).1)).map .d)), (73, tD (row 12 eCell zCell ((runAll g zeroState (beatIn (l.take 60))).2.1))), (74, I ((runAll g zeroState (beatIn (l.take 60))).2.2))], y6_2 g l⟩ (l := [sp 2, (z6_17 l), (z6_18 l)]) (e := [(z6_1 g)]) (by kernel_rfl) (by kernel_rfl) (by kernel_rfl) (by kernel_rfl) (by kernel_rfl) (by kernel_rfl) (StoreAt.mk' rfl (by kernel_rfl) rfl (n := 9) (off := 0) (by kernel_rfl) (l := [.d (dI 0), .d (dI 0), .d (dI 0), .d (dI 0), .d (.v (.slice none 0 0))]) (c := (eState ((runAll g zeroState (beatIn (l.take 60))).1)).map .d) (by kernel_rfl) (by kernel_rfl) (by kernel_rfl) (by kernel_rfl) rfl (by kernel_rfl) rfl (env_but (A := [(2, .var ((eGrid g).map .d))]) (B := []) (b0 := .var ([.d (dI 0), .d (dI 0), .d (dI 0), .d (dI 0), .d (.v (.slice none 0 0))])) (b1 := .var ((eState ((runAll g zeroState (beatIn (l.take 60))).1)).map .d))) (by kernel_rfl) (by kernel_rfl)) (.inr ⟨8, 9, rfl, by decide, by kernel_rfl, by kernel_rfl⟩) ?_ (r := [11]) (by kernel_rfl) (by kernel_rfl) ?_
 · exact (au (au (au (au (au (au (au (au (au (au (au AllUpTo.zero (.inr ⟨.inl ot, .inr (by kernel_rfl)⟩)) (.inr ⟨.inl (oc (ok_zero)), .inr (by kernel_rfl)⟩)) (.inr ⟨.inl ot, .inr (by kernel_rfl)⟩)) (.inr ⟨.inl (oc (ok_run g zeroState (beatIn (l.take 60)) (by first | decide | exact zero_R | omega) (by first | decide | exact zero_R | omega) (by first | decide | exact zero_R | omega))), .inr (by kernel_rfl)⟩)) (.inr ⟨.inl ot, .inr (by kernel_rfl)⟩)) (.inr ⟨.inl ot, .inr (by kernel_rfl)⟩)) (.inr ⟨.inl ot, .inl ot⟩)) (.inr ⟨.inl ot, .inl ot⟩)) (.inr ⟨.inl (OpAt.alloc rfl (by kernel_rfl) rfl (z := [.d (dI 0), .d (dI 0), .d (dI 0), .d (dI 0), .d (.v (.slice none 0 0))]) (by kernel_rfl) rfl (by kernel_rfl) (by kernel_rfl) rfl (by kernel_rfl) (by kernel_rfl)), .inr (by kernel_rfl)⟩)) (.inl rfl)) (.inr ⟨.inr (by kernel_rfl), .inl ot⟩))
 refine AOps.e ⟨[sp 2, (z6_17 l), (z6_18 l), sp 9, (z6_19 g l), (11, I ((runAll g zeroState (beatIn (l.take 60))).2.2))], y6_2 g l⟩ ?_
 refine AC.seq ?_
 refine AC.q ⟨[sp 2, (z6_17 l), (z6_18 l), sp 9, (z6_19 g l), (76, B (((runAll g zeroState (beatIn (l.take 60))).2.2) != 0))], y6_2 g l⟩ ?_
 refine AC.cd (b := ((runAll g zeroState (beatIn (l.take 60))).2.2) != 0) (fun h_ => ?_) (fun h_ => ?_)
 have h3 := h_; have r3 := h_; clear h_; try simp only [bb] at h3
 refine AC.q ⟨[(4, B false)], []⟩ ?_
 refine AC.ret ?_
 exact rqr uEngineWhole (All2.cons (ULe.c (CLe.d (DLe.eq (congrArg dB (show (false) = (true) by first | rfl | exact absurd (whole_err hg hlb hrb) (by assumption) | exact absurd (whole_fold (j := j) hg hlb hrb hL0 (by omega)) (by assumption) | exact whole_end hg hlb hrb hL0 (by omega) | exact whole_late hg hlb hrb (by assumption)))))) All2.nil)
 have h3 := h_; have r3 := h_; clear h_; try simp only [bb] at h3
 refine AC.skip ?_
 refine AC.seq ?_
 refine AC.q ⟨[sp 2, (z6_17 l), (z6_18 l), sp 9, (z6_19 g l), (79, B (decide ((((runAll g zeroState (beatIn (l.take 60))).1).Late) > 0)))], y6_2 g l⟩ ?_
 refine AC.cd (b := decide ((((runAll g zeroState (beatIn (l.take 60))).1).Late) > 0)) (fun h_ => ?_) (fun h_ => ?_)
 have h4 := h_; have r4 := h_; clear h_; try simp only [bb] at h4
 refine AC.rS [0, 1, 2, 3, 4, 5, 6, 7] ?_
 refine AOps.m [0, 1, 2, 3, 4] ⟨[(84, B (decide (((((runAll g zeroState (beatIn (l.take 60))).1).L).length : Int) > 0)))], []⟩ ?_
 refine AOps.s [5] 6 84 85 86 true (decide (((((runAll g zeroState (beatIn (l.take 60))).1).L).length : Int) > 0)) (true) [] (fun h_ => ?_) ?_
 clear h_
 refine AOps.ca (ok_awake) ?_
 rintro _ rfl
 exact scd
 refine AOps.e ⟨[(4, B ((decide (((((runAll g zeroState (beatIn (l.take 60))).1).L).length : Int) > 0)) && true))], []⟩ ?_
 refine AC.ret ?_
 exact rqr uEngineWhole (All2.cons (ULe.c (CLe.d (DLe.eq (congrArg dB (show ((decide (((((runAll g zeroState (beatIn (l.take 60))).1).L).length : Int) > 0)) && true) = (true) by first | rfl | exact absurd (whole_err hg hlb hrb) (by assumption) | exact absurd (whole_fold (j := j) hg hlb hrb hL0 (by omega)) (by assumption) | exact whole_end hg hlb hrb hL0 (by omega) | exact whole_late hg hlb hrb (by assumption)))))) All2.nil)
 have h4 := h_; have r4 := h_; clear h_; try simp only [bb] at h4
 refine AC.skip ?_
 have hL0 := whole_late0 hg hlb hrb (by omega)
 refine AC.q ⟨[sp 2, (z6_17 l), (z6_18 l), sp 9, (z6_19 g l), (12, tD (.v (.slice none 0 0)))], y6_2 g l⟩ ?_
 refine AC.rS [0, 1, 2, 3] ?_
 refine AOps.m [0, 1] ⟨[sp 2, (z6_17 l), (z6_18 l), sp 9, (87, tD (.v (.slice none 0 0))), (88, tD (row 12 eCell zCell ((runAll g zeroState (beatIn (l.take 60))).2.1)))], y6_2 g l⟩ ?_
 refine AOps.nilslotN 1087 87 46 12 (fun i_ j_ => nth (eCell (([] : List Cell).getD i_ zCell)) j_) [2, 5, 6, 9, 87, 88] [2, 9, 1087] (st' := ⟨[sp 2, (z6_17 l), (z6_18 l), sp 9, (87, tG 1087 12 0 (([] : List Cell).length)), (88, tD (row 12 eCell zCell ((runAll g zeroState (beatIn (l.take 60))).2.1)))], [(z6_1 g), (z6_22 g l), (1087, arow 46 12 eCell zCell ([] : List Cell))]⟩) rfl (by kernel_rfl) (by kernel_rfl) (by kernel_rfl) (by kernel_rfl) ?_
 refine AOps.mc [2] (C' := (([] : List Cell).length = ([] : List Cell).length ∧ ([] : List Cell).length + ((runAll g zeroState (beatIn (l.take 60))).2.1).length ≤ 9223372036854775807 ∧ (([] : List Cell).length + ((runAll g zeroState (beatIn (l.take 60))).2.1).length) * 96 ≤ 140737488355328) ∧ True) ⟨[sp 2, (z6_17 l), (z6_18 l), sp 9, (89, tG 1087 12 0 (([] : List Cell).length + ((runAll g zeroState (beatIn (l.take 60))).2.1).length))], [(z6_1 g), (z6_22 g l), (1087, .arr 46 12 (([] : List Cell).length + ((runAll g zeroState (beatIn (l.take 60))).2.1).length) fun i_ j_ => bif Nat.blt i_ ([] : List Cell).length then nth (eCell (([] : List Cell).getD i_ zCell)) j_ else nth (eCell (((runAll g zeroState (beatIn (l.take 60))).2.1).getD (i_ - ([] : List Cell).length) zCell)) j_)]⟩ (⟨by (try simp only [hvl, hbl, List.length_append, List.length_cons, List.length_nil, true_and]); omega, trivial⟩) ?_
 refine AOps.le (st' := ⟨[sp 2, (z6_17 l), (z6_18 l), sp 9, (89, tG 1087 12 0 ((([] : List Cell) ++ (runAll g zeroState (beatIn (l.take 60))).2.1).length))], [(z6_1 g), (z6_22 g l), (z6_23 g l)]⟩) (Le.of (lk rfl (lk rfl (lk rfl (lk rfl (LeS.cons rfl (TLe.gs (lenL _ _)) LeS.nil))))) (ek rfl (ek rfl (LeE.cons rfl (BLe.appL (e := 46) (sz := 12) (enc := eCell) (d := zCell) (L := ([] : List Cell)) (K := (runAll g zeroState (beatIn (l.take 60))).2.1)) LeE.nil))) (by kernel_rfl)) ?_
 refine AOps.e ⟨[sp 2, (z6_17 l), (z6_18 l), sp 9, (12, tG 1087 12 0 ((([] : List Cell) ++ (runAll g zeroState (beatIn (l.take 60))).2.1).length))], [(z6_1 g), (z6_22 g l), (z6_23 g l)]⟩ ?_
 refine AC.rS [0, 1, 2, 3, 4] ?_
 refine AOps.mc [0, 1, 2, 3] (C' := ((([] : List Cell) ++ (runAll g zeroState (beatIn (l.take 60))).2.1).length = (([] : List Cell) ++ (runAll g zeroState (beatIn (l.take 60))).2.1).length ∧ (([] : List Cell) ++ (runAll g zeroState (beatIn (l.take 60))).2.1).length + (((runAll g zeroState (beatIn (l.take 60))).1).L).length ≤ 9223372036854775807 ∧ ((([] : List Cell) ++ (runAll g zeroState (beatIn (l.take 60))).2.1).length + (((runAll g zeroState (beatIn (l.take 60))).1).L).length) * 96 ≤ 140737488355328) ∧ True) ⟨[sp 2, (z6_17 l), (z6_18 l), (93, tG 1087 12 0 ((([] : List Cell) ++ (runAll g zeroState (beatIn (l.take 60))).2.1).length + (((runAll g zeroState (beatIn (l.take 60))).1).L).length))], [(z6_1 g), (1087, .arr 46 12 ((([] : List Cell) ++ (runAll g zeroState (beatIn (l.take 60))).2.1).length + (((runAll g zeroState (beatIn (l.take 60))).1).L).length) fun i_ j_ => bif Nat.blt i_ (([] : List Cell) ++ (runAll g zeroState (beatIn (l.take 60))).2.1).length then nth (eCell ((([] : List Cell) ++ (runAll g zeroState (beatIn (l.take 60))).2.1).getD i_ zCell)) j_ else nth (eCell ((((runAll g zeroState (beatIn (l.take 60))).1).L).getD (i_ - (([] : List Cell) ++ (runAll g zeroState (beatIn (l.take 60))).2.1).length) zCell)) j_)]⟩ (⟨by (try simp only [hvl, hbl, List.length_append, List.length_cons, List.length_nil, true_and]); omega, trivial⟩) ?_
 refine AOps.le (st' := ⟨[sp 2, (z6_17 l), (z6_18 l), (93, tG 1087 12 0 (((([] : List Cell) ++ (runAll g zeroState (beatIn (l.take 60))).2.1) ++ ((runAll g zeroState (beatIn (l.take 60))).1).L).length))], [(z6_1 g), (z6_24 g l)]⟩) (Le.of (lk rfl (lk rfl (lk rfl (LeS.cons rfl (TLe.gs (lenL _ _)) LeS.nil)))) (ek rfl (LeE.cons rfl (BLe.appL (e := 46) (sz := 12) (enc := eCell) (d := zCell) (L := (([] : List Cell) ++ (runAll g zeroState (beatIn (l.take 60))).2.1)) (K := ((runAll g zeroState (beatIn (l.take 60))).1).L)) LeE.nil)) (by kernel_rfl)) ?_
 refine AOps.e ⟨[sp 2, (z6_17 l), (z6_18 l), (12, tG 1087 12 0 (((([] : List Cell) ++ (runAll g zeroState (beatIn (l.take 60))).2.1) ++ ((runAll g zeroState (beatIn (l.take 60))).1).L).length))], [(z6_1 g), (z6_24 g l)]⟩ ?_
 refine AC.fz 1087 (0 + ((([] : List Cell) ++ (runAll g zeroState (beatIn (l.take 60))).2.1) ++ ((runAll g zeroState (beatIn (l.take 60))).1).L).length ≤ ((([] : List Cell) ++ (runAll g zeroState (beatIn (l.take 60))).2.1) ++ ((runAll g zeroState (beatIn (l.take 60))).1).L).length ∧ True) ⟨[sp 2, (z6_17 l), (z6_18 l), (12, tD (.sl 12 (((([] : List Cell) ++ (runAll g zeroState (beatIn (l.take 60))).2.1) ++ ((runAll g zeroState (beatIn (l.take 60))).1).L).length) (fun i_ j_ => nth (eCell (((([] : List Cell) ++ (runAll g zeroState (beatIn (l.take 60))).2.1) ++ ((runAll g zeroState (beatIn (l.take 60))).1).L).getD (0 + i_) zCell)) j_)))], y6_0 g⟩ ⟨by omega, trivial⟩ ?_ rfl
 refine AC.le (st' := ⟨[sp 2, (z6_17 l), (z6_18 l), (12, tD (row 12 eCell zCell ((([] : List Cell) ++ (runAll g zeroState (beatIn (l.take 60))).2.1) ++ ((runAll g zeroState (beatIn (l.take 60))).1).L)))], y6_0 g⟩) (Le.of (lk rfl (lk rfl (lk rfl (LeS.cons rfl (TLe.one (ULe.c (CLe.d (DLe.row0)))) LeS.nil)))) (ek rfl LeE.nil) (by kernel_rfl)) ?_
 refine AC.le (st' := ⟨[sp 2, (z6_17 l), (z6_18 l), (z6_25 g l)], y6_0 g⟩) (Le.of (lk rfl (lk rfl (lk rfl (LeS.cons rfl (TLe.one (ULe.c (CLe.d (DLe.eq (congrArg (row 12 eCell zCell) (by rfl)))))) LeS.nil)))) (ek rfl LeE.nil) (by kernel_rfl)) ?_
 refine AC.q ⟨[sp 2, (z6_17 l), (z6_18 l), (z6_25 g l), (13, I 0)], y6_0 g⟩ ?_
 refine AC.seq ?_
 refine AC.q ⟨[sp 2, (z6_17 l), (z6_18 l), (z6_25 g l), (13, I 0), (14, I 0)], y6_0 g⟩ ?_
 refine AC.block ?_
 refine AC.loop (ι := Nat) (fun j => ⟨[sp 2, (z6_17 l), (z6_18 l), (z6_25 g l), (z6_26 g l j), (14, I (j : Int))], y6_0 g⟩) (fun j => (j ≤ (wholeAll g (l.take 60)).length)) (fun j => (wholeAll g (l.take 60)).length - j) (0) (by omega) (Le.of (lk rfl (lk rfl (lk rfl (lk rfl (LeS.cons rfl (TLe.i ?_) (LeS.cons rfl (TLe.i ?_) LeS.nil)))))) (ek rfl LeE.nil) (by kernel_rfl)) ?_
 iterate 2 (· first | omega | rfl | (rw [mineN_succ (by omega)]; omega) | (rw [startN_succ (by omega)]; omega) | exact mineN_end (by omega) (by omega))
 intro j hi_
 have i1 : j ≤ (wholeAll g (l.take 60)).length := hi_; clear hi_
 show AC _ _ ⟨[sp 2, (z6_17 l), (z6_18 l), (z6_25 g l), (z6_26 g l j), (14, I (j : Int))], y6_0 g⟩ _
 have hmN := mineN_b g (beatIn (l.take 60)) (wholeAll g (l.take 60)) (j := j) (by omega) (by omega)
 refine AC.seq ?_
 refine AC.q ⟨[sp 2, (z6_17 l), (z6_18 l), (z6_25 g l), (z6_26 g l j), (14, I (j : Int)), (97, B (decide ((j : Int) < ((wholeAll g (l.take 60)).length : Int))))], y6_0 g⟩ ?_
 refine AC.cd (b := decide ((j : Int) < ((wholeAll g (l.take 60)).length : Int))) (fun h_ => ?_) (fun h_ => ?_)
 have h5 := h_; have r5 := h_; clear h_; try simp only [bb] at h5
 refine AC.skip ?_
 refine AC.seq ?_
 refine AC.block ?_
 refine AC.q ⟨[sp 2, (z6_17 l), (z6_18 l), (z6_25 g l), (z6_26 g l j), (14, I (j : Int)), (15, tD (.v (.slice none 0 0)))], y6_0 g⟩ ?_
 refine AC.seq ?_
 refine AC.q ⟨[sp 2, (z6_17 l), (z6_18 l), (z6_25 g l), (z6_26 g l j), (14, I (j : Int)), (15, tD (.v (.slice none 0 0))), (16, I 0)], y6_0 g⟩ ?_
 refine AC.block ?_
 refine AC.nl 1015 15 3 1 (fun i_ j_ => nth (eI (([] : List Int).getD i_ 0)) j_) ⟨[sp 2, (z6_17 l), (z6_18 l), (z6_25 g l), (z6_26 g l j), (14, I (j : Int)), (15, tG 1015 1 0 (([] : List Int).length)), (16, I 0)], [(z6_1 g), (1015, arow 3 1 eI 0 ([] : List Int))]⟩ ?_
 refine AC.loop (ι := Nat) (fun k => ⟨[sp 2, (z6_17 l), (z6_18 l), (z6_25 g l), (z6_26 g l j), (14, I (j : Int)), (z6_27 g l j k), (16, I (k : Int))], y6_3 g l j k⟩) (fun k => (k ≤ (beatIn (l.take 60)).length)) (fun k => (beatIn (l.take 60)).length - k) (0) (by omega) (Le.of (lk rfl (lk rfl (lk rfl (lk rfl (lk rfl (lk rfl (LeS.cons rfl (TLe.gs (congrArg List.length ?_)) (LeS.cons rfl (TLe.i (by first | omega | rfl | (rw [mineN_succ (by omega)]; omega) | (rw [startN_succ (by omega)]; omega) | exact mineN_end (by omega) (by omega))) LeS.nil)))))))) (ek rfl (LeE.cons rfl (BLe.eq (congrArg (arow 3 1 eI 0) ?_)) LeE.nil)) (by kernel_rfl)) ?_
 iterate 2 (· first | rfl | (simp; done) | exact map_snoc (d := zBeat) (by omega) rfl | exact mine_t hrb (by omega) (by simp only [inW, Bool.and_eq_true, decide_eq_true_eq, beq_iff_eq]; omega) | exact mine_f hrb (by omega) (by simp only [inW, Bool.and_eq_false_iff, decide_eq_false_iff_not, beq_eq_false_iff_ne, ne_eq]; omega))
 intro k hi_
 have i1 : k ≤ (beatIn (l.take 60)).length := hi_; clear hi_
 show AC _ _ ⟨[sp 2, (z6_17 l), (z6_18 l), (z6_25 g l), (z6_26 g l j), (14, I (j : Int)), (z6_27 g l j k), (16, I (k : Int))], y6_3 g l j k⟩ _
 have hkl : ((beatIn (l.take 60)).take k).length = k := by rw [List.length_take]; omega
 have hml := mine_len g ((beatIn (l.take 60)).take k) ((wholeAll g (l.take 60)).getD j zCell).Key ((wholeAll g (l.take 60)).getD j zCell).Start
 refine AC.seq ?_
 refine AC.q ⟨[sp 2, (z6_17 l), (z6_18 l), (z6_25 g l), (z6_26 g l j), (14, I (j : Int)), (z6_27 g l j k), (16, I (k : Int)), (z6_29 l k)], y6_3 g l j k⟩ ?_
 refine AC.cd (b := decide ((k : Int) < ((beatIn (l.take 60)).length : Int))) (fun h_ => ?_) (fun h_ => ?_)
 have h6 := h_; have r6 := h_; clear h_; try simp only [bb] at h6
 refine AC.skip ?_
 refine AC.seq ?_
 refine AC.block ?_
 have hWS := whole_start hg hlb hrb (j := j) (by omega)
 refine AC.split ((((beatIn (l.take 60)).getD k zRec).Key) == (((wholeAll g (l.take 60)).getD j zCell).Key)) (fun h_ => ?_) (fun h_ => ?_)
 have hs1 := h_
 have h7 := h_; have r7 := h_; clear h_; try simp only [bb] at h7
 refine AC.split (decide ((((beatIn (l.take 60)).getD k zRec).Time) ≥ (((wholeAll g (l.take 60)).getD j zCell).Start))) (fun h_ => ?_) (fun h_ => ?_)
 have hs2 := h_
 have h8 := h_; have r8 := h_; clear h_; try simp only [bb] at h8
 refine AC.dS 38 [] ⟨[sp 2, (z6_17 l), (z6_18 l), (z6_25 g l), (z6_26 g l j), (14, I (j : Int)), (z6_27 g l j k), (16, I (k : Int)), (z6_30 l), (107, I (k : Int)), (z6_31 l k), (z6_32 l k), (z6_33 l k), (z6_34 g l), (112, I (j : Int)), (z6_35 g l j), (z6_36 g l j), (z6_37 g l j), (116, B true), (117, B true), (z6_38 l), (119, I (k : Int)), (z6_39 l k), (z6_40 l k), (z6_41 l k), (z6_42 g l), (124, I (j : Int)), (z6_43 g l j), (z6_44 g l j), (z6_45 g l j), (128, B true), (129, B true), (130, B true), (z6_46 l), (132, I (k : Int)), (z6_47 l k), (z6_48 l k), (z6_49 l k), (z6_50 g l), (137, I (j : Int)), (z6_51 g l j), (z6_52 g l j), (z6_53 g l j), (141, tP 2 0), (142, I g.Size), (143, I (IntKind.i64.wrap ((((wholeAll g (l.take 60)).getD j zCell).Start) + g.Size)))], y6_3 g l j k⟩ [38, 39] (.inl rfl) ?_ ?_
 · exact (ar 5 (au (au (ar 3 (au (au (ar 3 (au (au (au (au (ar 4 (au (au (ar 2 (au (au (au (au (ar 4 (au (au (au AllUpTo.zero ot) ot) (OpAt.val rfl (by kernel_rfl) (C' := 0 ≤ (k : Int) ∧ (k : Int) < ((beatIn (l.take 60)).length : Int)) (x := .one (.c (.ip 3 (fun j_ => nth (eRec ((beatIn (l.take 60)).getD k zRec)) j_)))) (by kernel_rfl) (by first | omega | (simp only [List.length_map]; omega)) rfl (by kernel_rfl) (by kernel_rfl) (TLe.refl _) (by kernel_rfl) (by kernel_rfl) (by kernel_rfl)))) (OpAt.val rfl (by kernel_rfl) (C' := 0 ≤ (j : Int) ∧ (j : Int) < ((wholeAll g (l.take 60)).length : Int)) (x := .one (.c (.ip 12 (fun j_ => nth (eCell ((wholeAll g (l.take 60)).getD j zCell)) j_)))) (by kernel_rfl) (by first | omega | (simp only [List.length_map]; omega)) rfl (by kernel_rfl) (by kernel_rfl) (TLe.refl _) (by kernel_rfl) (by kernel_rfl) (by kernel_rfl))) ot) ot) (OpAt.val rfl (by kernel_rfl) (C' := True) (x := B ((((beatIn (l.take 60)).getD k zRec).Key) == (((wholeAll g (l.take 60)).getD j zCell).Key))) (by kernel_rfl) (trivial) rfl (by kernel_rfl) (x' := B true) (by kernel_rfl) (TLe.b hs1) (by kernel_rfl) (by kernel_rfl) (by kernel_rfl)))) ot) (OpAt.val rfl (by kernel_rfl) (C' := 0 ≤ (k : Int) ∧ (k : Int) < ((beatIn (l.take 60)).length : Int)) (x := .one (.c (.ip 3 (fun j_ => nth (eRec ((beatIn (l.take 60)).getD k zRec)) j_)))) (by kernel_rfl) (by first | omega | (simp only [List.length_map]; omega)) rfl (by kernel_rfl) (by kernel_rfl) (TLe.refl _) (by kernel_rfl) (by kernel_rfl) (by kernel_rfl)))) (OpAt.val rfl (by kernel_rfl) (C' := 0 ≤ (j : Int) ∧ (j : Int) < ((wholeAll g (l.take 60)).length : Int)) (x := .one (.c (.ip 12 (fun j_ => nth (eCell ((wholeAll g (l.take 60)).getD j zCell)) j_)))) (by kernel_rfl) (by first | omega | (simp only [List.length_map]; omega)) rfl (by kernel_rfl) (by kernel_rfl) (TLe.refl _) (by kernel_rfl) (by kernel_rfl) (by kernel_rfl))) ot) ot) (OpAt.val rfl (by kernel_rfl) (C' := True) (x := B (decide ((((beatIn (l.take 60)).getD k zRec).Time) ≥ (((wholeAll g (l.take 60)).getD j zCell).Start)))) (by kernel_rfl) (trivial) rfl (by kernel_rfl) (x' := B true) (by kernel_rfl) (TLe.b hs2) (by kernel_rfl) (by kernel_rfl) (by kernel_rfl)))) ot) (OpAt.val rfl (by kernel_rfl) (C' := 0 ≤ (k : Int) ∧ (k : Int) < ((beatIn (l.take 60)).length : Int)) (x := .one (.c (.ip 3 (fun j_ => nth (eRec ((beatIn (l.take 60)).getD k zRec)) j_)))) (by kernel_rfl) (by first | omega | (simp only [List.length_map]; omega)) rfl (by kernel_rfl) (by kernel_rfl) (TLe.refl _) (by kernel_rfl) (by kernel_rfl) (by kernel_rfl)))) ot) (OpAt.val rfl (by kernel_rfl) (C' := 0 ≤ (j : Int) ∧ (j : Int) < ((wholeAll g (l.take 60)).length : Int)) (x := .one (.c (.ip 12 (fun j_ => nth (eCell ((wholeAll g (l.take 60)).getD j zCell)) j_)))) (by kernel_rfl) (by first | omega | (simp only [List.length_map]; omega)) rfl (by kernel_rfl) (by kernel_rfl) (TLe.refl _) (by kernel_rfl) (by kernel_rfl) (by kernel_rfl))))
 refine AOps.m [38, 39] ⟨[sp 2, (z6_17 l), (z6_18 l), (z6_25 g l), (z6_26 g l j), (14, I (j : Int)), (z6_27 g l j k), (16, I (k : Int)), (z6_38 l), (119, I (k : Int)), (z6_39 l k), (z6_40 l k), (z6_41 l k), (z6_42 g l), (124, I (j : Int)), (z6_43 g l j), (z6_44 g l j), (z6_45 g l j), (128, B true), (z6_46 l), (132, I (k : Int)), (z6_47 l k), (z6_48 l k), (z6_49 l k), (z6_50 g l), (137, I (j : Int)), (z6_51 g l j), (z6_52 g l j), (z6_53 g l j), (141, tP 2 0), (142, I g.Size), (143, I (IntKind.i64.wrap ((((wholeAll g (l.take 60)).getD j zCell).Start) + g.Size))), (144, B (decide ((((beatIn (l.take 60)).getD k zRec).Time) < (IntKind.i64.wrap ((((wholeAll g (l.take 60)).getD j zCell).Start) + g.Size))))), (145, B (decide ((((beatIn (l.take 60)).getD k zRec).Time) < (IntKind.i64.wrap ((((wholeAll g (l.take 60)).getD j zCell).Start) + g.Size)))))], y6_3 g l j k⟩ ?_
 refine AOps.le (st' := ⟨[sp 2, (z6_17 l), (z6_18 l), (z6_25 g l), (z6_26 g l j), (14, I (j : Int)), (z6_27 g l j k), (16, I (k : Int)), (z6_38 l), (119, I (k : Int)), (z6_39 l k), (z6_40 l k), (z6_41 l k), (z6_42 g l), (124, I (j : Int)), (z6_43 g l j), (z6_44 g l j), (z6_45 g l j), (128, B true), (z6_46 l), (132, I (k : Int)), (z6_47 l k), (z6_48 l k), (z6_49 l k), (z6_50 g l), (137, I (j : Int)), (z6_51 g l j), (z6_52 g l j), (z6_53 g l j), (141, tP 2 0), (142, I g.Size), (z6_54 g l j), (z6_55 g l j k), (145, B (decide ((((beatIn (l.take 60)).getD k zRec).Time) < ((((wholeAll g (l.take 60)).getD j zCell).Start) + g.Size))))], y6_3 g l j k⟩) (Le.of (lk rfl (lk rfl (lk rfl (lk rfl (lk rfl (lk rfl (lk rfl (lk rfl (lk rfl (lk rfl (lk rfl (lk rfl (lk rfl (lk rfl (lk rfl (lk rfl (lk rfl (lk rfl (lk rfl (lk rfl (lk rfl (lk rfl (lk rfl (lk rfl (lk rfl (lk rfl (lk rfl (lk rfl (lk rfl (lk rfl (lk rfl (LeS.cons rfl (TLe.i (by rw [wrap_in (n := ((((wholeAll g (l.take 60)).getD j zCell).Start) + g.Size)) (by omega) (by omega)] <;> omega)) (LeS.cons rfl (TLe.b ?_) (LeS.cons rfl (TLe.b ?_) LeS.nil)))))))))))))))))))))))))))))))))) (ek rfl (ek rfl LeE.nil)) (by kernel_rfl)) ?_
 iterate 2 (· rw [wrap_in (n := ((((wholeAll g (l.take 60)).getD j zCell).Start) + g.Size)) (by omega) (by omega)] <;> rfl)
 refine AOps.done ?_
 refine AC.cd (b := decide ((((beatIn (l.take 60)).getD k zRec).Time) < ((((wholeAll g (l.take 60)).getD j zCell).Start) + g.Size))) (fun h_ => ?_) (fun h_ => ?_)
 have h9 := h_; have r9 := h_; clear h_; try simp only [bb] at h9
 refine AC.rR [0, 1, 2, 3, 4, 5, 6, 7] ?_
 refine AOps.mc [0, 1, 2, 3, 4, 5, 6] (C' := (0 ≤ (k : Int) ∧ (k : Int) < (((l.take 60).map Beat.V).length : Int)) ∧ ((mineOf g ((beatIn (l.take 60)).take k) ((wholeAll g (l.take 60)).getD j zCell).Key ((wholeAll g (l.take 60)).getD j zCell).Start).length = (mineOf g ((beatIn (l.take 60)).take k) ((wholeAll g (l.take 60)).getD j zCell).Key ((wholeAll g (l.take 60)).getD j zCell).Start).length ∧ (mineOf g ((beatIn (l.take 60)).take k) ((wholeAll g (l.take 60)).getD j zCell).Key ((wholeAll g (l.take 60)).getD j zCell).Start).length + 1 ≤ 9223372036854775807 ∧ ((mineOf g ((beatIn (l.take 60)).take k) ((wholeAll g (l.take 60)).getD j zCell).Key ((wholeAll g (l.take 60)).getD j zCell).Start).length + 1) * 8 ≤ 140737488355328) ∧ True) ⟨[sp 2, (z6_17 l), (z6_18 l), (z6_25 g l), (z6_26 g l j), (14, I (j : Int)), (16, I (k : Int)), (z6_38 l), (119, I (k : Int)), (z6_39 l k), (z6_40 l k), (z6_41 l k), (z6_42 g l), (124, I (j : Int)), (z6_43 g l j), (z6_44 g l j), (z6_45 g l j), (128, B true), (z6_46 l), (132, I (k : Int)), (z6_47 l k), (z6_48 l k), (z6_49 l k), (z6_50 g l), (137, I (j : Int)), (z6_51 g l j), (z6_52 g l j), (z6_53 g l j), (141, tP 2 0), (142, I g.Size), (z6_54 g l j), (z6_55 g l j k), (152, tG 1015 1 0 ((mineOf g ((beatIn (l.take 60)).take k) ((wholeAll g (l.take 60)).getD j zCell).Key ((wholeAll g (l.take 60)).getD j zCell).Start).length + 1))], [(z6_1 g), (1015, .arr 3 1 ((mineOf g ((beatIn (l.take 60)).take k) ((wholeAll g (l.take 60)).getD j zCell).Key ((wholeAll g (l.take 60)).getD j zCell).Start).length + 1) fun i_ j_ => bif Nat.blt i_ (mineOf g ((beatIn (l.take 60)).take k) ((wholeAll g (l.take 60)).getD j zCell).Key ((wholeAll g (l.take 60)).getD j zCell).Start).length then nth (eI ((mineOf g ((beatIn (l.take 60)).take k) ((wholeAll g (l.take 60)).getD j zCell).Key ((wholeAll g (l.take 60)).getD j zCell).Start).getD i_ 0)) j_ else (fun i_ j_ => nth [dI (((l.take 60).map Beat.V).getD k 0)] (i_ * 1 + j_)) (i_ - (mineOf g ((beatIn (l.take 60)).take k) ((wholeAll g (l.take 60)).getD j zCell).Key ((wholeAll g (l.take 60)).getD j zCell).Start).length) j_)]⟩ (⟨by first | omega | (simp only [List.length_map]; omega), by (try simp only [hvl, hbl, List.length_append, List.length_cons, List.length_nil, true_and]); omega, trivial⟩) ?_
 refine AOps.le (st' := ⟨[sp 2, (z6_17 l), (z6_18 l), (z6_25 g l), (z6_26 g l j), (14, I (j : Int)), (16, I (k : Int)), (z6_38 l), (119, I (k : Int)), (z6_39 l k), (z6_40 l k), (z6_41 l k), (z6_42 g l), (124, I (j : Int)), (z6_43 g l j), (z6_44 g l j), (z6_45 g l j), (128, B true), (z6_46 l), (132, I (k : Int)), (z6_47 l k), (z6_48 l k), (z6_49 l k), (z6_50 g l), (137, I (j : Int)), (z6_51 g l j), (z6_52 g l j), (z6_53 g l j), (141, tP 2 0), (142, I g.Size), (z6_54 g l j), (z6_55 g l j k), (152, tG 1015 1 0 ((mineOf g ((beatIn (l.take 60)).take k) ((wholeAll g (l.take 60)).getD j zCell).Key ((wholeAll g (l.take 60)).getD j zCell).Start ++ [(((l.take 60).map Beat.V).getD k 0)]).length))], [(z6_1 g), (z6_56 g l j k)]⟩) (Le.of (lk rfl (lk rfl (lk rfl (lk rfl (lk rfl (lk rfl (lk rfl (lk rfl (lk rfl (lk rfl (lk rfl (lk rfl (lk rfl (lk rfl (lk rfl (lk rfl (lk rfl (lk rfl (lk rfl (lk rfl (lk rfl (lk rfl (lk rfl (lk rfl (lk rfl (lk rfl (lk rfl (lk rfl (lk rfl (lk rfl (lk rfl (lk rfl (LeS.cons rfl (TLe.gs (len1 _ _)) LeS.nil))))))))))))))))))))))))))))))))) (ek rfl (LeE.cons rfl (BLe.app1 (e := 3) (sz := 1) (enc := eI) (d := 0) (L := mineOf g ((beatIn (l.take 60)).take k) ((wholeAll g (l.take 60)).getD j zCell).Key ((wholeAll g (l.take 60)).getD j zCell).Start) (x := (((l.take 60).map Beat.V).getD k 0)) (g := fun i_ j_ => nth [dI (((l.take 60).map Beat.V).getD k 0)] (i_ * 1 + j_)) (fun j_ hj_ => by simp only [Nat.zero_mul, Nat.zero_add] <;> rfl)) LeE.nil)) (by kernel_rfl)) ?_
 refine AOps.e ⟨[sp 2, (z6_17 l), (z6_18 l), (z6_25 g l), (z6_26 g l j), (14, I (j : Int)), (z6_57 g l j k), (16, I (k : Int)), (z6_38 l), (119, I (k : Int)), (z6_39 l k), (z6_40 l k), (z6_41 l k), (z6_42 g l), (124, I (j : Int)), (z6_43 g l j), (z6_44 g l j), (z6_45 g l j), (128, B true), (z6_46 l), (132, I (k : Int)), (z6_47 l k), (z6_48 l k), (z6_49 l k), (z6_50 g l), (137, I (j : Int)), (z6_51 g l j), (z6_52 g l j), (z6_53 g l j), (141, tP 2 0), (142, I g.Size), (z6_54 g l j), (z6_55 g l j k)], [(z6_1 g), (z6_56 g l j k)]⟩ ?_
 refine AC.rR [0, 1, 2] ?_
 refine AOps.m [0, 1, 2] ⟨[sp 2, (z6_17 l), (z6_18 l), (z6_25 g l), (z6_26 g l j), (14, I (j : Int)), (z6_57 g l j k), (z6_58 k), (z6_38 l), (119, I (k : Int)), (z6_39 l k), (z6_40 l k), (z6_41 l k), (z6_42 g l), (124, I (j : Int)), (z6_43 g l j), (z6_44 g l j), (z6_45 g l j), (128, B true), (z6_46 l), (132, I (k : Int)), (z6_47 l k), (z6_48 l k), (z6_49 l k), (z6_50 g l), (137, I (j : Int)), (z6_51 g l j), (z6_52 g l j), (z6_53 g l j), (141, tP 2 0), (142, I g.Size), (z6_54 g l j), (z6_55 g l j k)], [(z6_1 g), (z6_56 g l j k)]⟩ ?_
 refine AOps.le (st' := ⟨[sp 2, (z6_17 l), (z6_18 l), (z6_25 g l), (z6_26 g l j), (14, I (j : Int)), (z6_57 g l j k), (z6_59 k), (z6_38 l), (119, I (k : Int)), (z6_39 l k), (z6_40 l k), (z6_41 l k), (z6_42 g l), (124, I (j : Int)), (z6_43 g l j), (z6_44 g l j), (z6_45 g l j), (128, B true), (z6_46 l), (132, I (k : Int)), (z6_47 l k), (z6_48 l k), (z6_49 l k), (z6_50 g l), (137, I (j : Int)), (z6_51 g l j), (z6_52 g l j), (z6_53 g l j), (141, tP 2 0), (142, I g.Size), (z6_54 g l j), (z6_55 g l j k)], [(z6_1 g), (z6_56 g l j k)]⟩) (Le.of (lk rfl (lk rfl (lk rfl (lk rfl (lk rfl (lk rfl (lk rfl (LeS.cons rfl (TLe.i (by rw [wrap_in (n := ((k : Int) + 1)) (by omega) (by omega)] <;> omega)) (lk rfl (lk rfl (lk rfl (lk rfl (lk rfl (lk rfl (lk rfl (lk rfl (lk rfl (lk rfl (lk rfl (lk rfl (lk rfl (lk rfl (lk rfl (lk rfl (lk rfl (lk rfl (lk rfl (lk rfl (lk rfl (lk rfl (lk rfl (lk rfl (lk rfl LeS.nil))))))))))))))))))))))))))))))))) (ek rfl (ek rfl LeE.nil)) (by kernel_rfl)) ?_
 refine AOps.done ?_
 try refine blockA_n ?_
 refine roundA_n (k + 1) (by omega) (by show (beatIn (l.take 60)).length - (k + 1) < (beatIn (l.take 60)).length - k; omega) (Le.of (lk rfl (lk rfl (lk rfl (lk rfl (lk rfl (lk rfl (LeS.cons rfl (TLe.gs (congrArg List.length ?_)) (LeS.cons rfl (TLe.i (by first | omega | rfl | (rw [mineN_succ (by omega)]; omega) | (rw [startN_succ (by omega)]; omega) | exact mineN_end (by omega) (by omega))) LeS.nil)))))))) (ek rfl (LeE.cons rfl (BLe.eq (congrArg (arow 3 1 eI 0) ?_)) LeE.nil)) (by kernel_rfl))
 iterate 2 (· first | rfl | (simp; done) | exact map_snoc (d := zBeat) (by omega) rfl | exact mine_t hrb (by omega) (by simp only [inW, Bool.and_eq_true, decide_eq_true_eq, beq_iff_eq]; omega) | exact mine_f hrb (by omega) (by simp only [inW, Bool.and_eq_false_iff, decide_eq_false_iff_not, beq_eq_false_iff_ne, ne_eq]; omega))
 have h9 := h_; have r9 := h_; clear h_; try simp only [bb] at h9
 refine AC.skip ?_
 refine AC.rR [0, 1, 2] ?_
 refine AOps.m [0, 1, 2] ⟨[sp 2, (z6_17 l), (z6_18 l), (z6_25 g l), (z6_26 g l j), (14, I (j : Int)), (z6_27 g l j k), (z6_58 k), (z6_38 l), (119, I (k : Int)), (z6_39 l k), (z6_40 l k), (z6_41 l k), (z6_42 g l), (124, I (j : Int)), (z6_43 g l j), (z6_44 g l j), (z6_45 g l j), (128, B true), (z6_46 l), (132, I (k : Int)), (z6_47 l k), (z6_48 l k), (z6_49 l k), (z6_50 g l), (137, I (j : Int)), (z6_51 g l j), (z6_52 g l j), (z6_53 g l j), (141, tP 2 0), (142, I g.Size), (z6_54 g l j), (z6_55 g l j k)], y6_3 g l j k⟩ ?_
 refine AOps.le (st' := ⟨[sp 2, (z6_17 l), (z6_18 l), (z6_25 g l), (z6_26 g l j), (14, I (j : Int)), (z6_27 g l j k), (z6_59 k), (z6_38 l), (119, I (k : Int)), (z6_39 l k), (z6_40 l k), (z6_41 l k), (z6_42 g l), (124, I (j : Int)), (z6_43 g l j), (z6_44 g l j), (z6_45 g l j), (128, B true), (z6_46 l), (132, I (k : Int)), (z6_47 l k), (z6_48 l k), (z6_49 l k), (z6_50 g l), (137, I (j : Int)), (z6_51 g l j), (z6_52 g l j), (z6_53 g l j), (141, tP 2 0), (142, I g.Size), (z6_54 g l j), (z6_55 g l j k)], y6_3 g l j k⟩) (Le.of (lk rfl (lk rfl (lk rfl (lk rfl (lk rfl (lk rfl (lk rfl (LeS.cons rfl (TLe.i (by rw [wrap_in (n := ((k : Int) + 1)) (by omega) (by omega)] <;> omega)) (lk rfl (lk rfl (lk rfl (lk rfl (lk rfl (lk rfl (lk rfl (lk rfl (lk rfl (lk rfl (lk rfl (lk rfl (lk rfl (lk rfl (lk rfl (lk rfl (lk rfl (lk rfl (lk rfl (lk rfl (lk rfl (lk rfl (lk rfl (lk rfl (lk rfl LeS.nil))))))))))))))))))))))))))))))))) (ek rfl (ek rfl LeE.nil)) (by kernel_rfl)) ?_
 refine AOps.done ?_
 try refine blockA_n ?_
 refine roundA_n (k + 1) (by omega) (by show (beatIn (l.take 60)).length - (k + 1) < (beatIn (l.take 60)).length - k; omega) (Le.of (lk rfl (lk rfl (lk rfl (lk rfl (lk rfl (lk rfl (LeS.cons rfl (TLe.gs (congrArg List.length ?_)) (LeS.cons rfl (TLe.i (by first | omega | rfl | (rw [mineN_succ (by omega)]; omega) | (rw [startN_succ (by omega)]; omega) | exact mineN_end (by omega) (by omega))) LeS.nil)))))))) (ek rfl (LeE.cons rfl (BLe.eq (congrArg (arow 3 1 eI 0) ?_)) LeE.nil)) (by kernel_rfl))
 iterate 2 (· first | rfl | (simp; done) | exact map_snoc (d := zBeat) (by omega) rfl | exact mine_t hrb (by omega) (by simp only [inW, Bool.and_eq_true, decide_eq_true_eq, beq_iff_eq]; omega) | exact mine_f hrb (by omega) (by simp only [inW, Bool.and_eq_false_iff, decide_eq_false_iff_not, beq_eq_false_iff_ne, ne_eq]; omega))
 have hs2 := h_
 have h8 := h_; have r8 := h_; clear h_; try simp only [bb] at h8
 refine AC.dS 38 [] ⟨[sp 2, (z6_17 l), (z6_18 l), (z6_25 g l), (z6_26 g l j), (14, I (j : Int)), (z6_27 g l j k), (16, I (k : Int)), (z6_30 l), (107, I (k : Int)), (z6_31 l k), (z6_32 l k), (z6_33 l k), (z6_34 g l), (112, I (j : Int)), (z6_35 g l j), (z6_36 g l j), (z6_37 g l j), (116, B true), (117, B true), (z6_38 l), (119, I (k : Int)), (z6_39 l k), (z6_40 l k), (z6_41 l k), (z6_42 g l), (124, I (j : Int)), (z6_43 g l j), (z6_44 g l j), (z6_45 g l j), (128, B false), (129, B false), (130, B false), (131, tD (.v (undef))), (132, tD (.v (undef))), (133, tD (.v (undef))), (134, tD (.v (undef))), (135, tD (.v (undef))), (136, tD (.v (undef))), (137, tD (.v (undef))), (138, tD (.v (undef))), (139, tD (.v (undef))), (140, tD (.v (undef))), (141, tD (.v (undef))), (142, tD (.v (undef))), (143, tD (.v (undef)))], y6_3 g l j k⟩ [38, 39] (.inl rfl) ?_ ?_
 · exact (ar 15 (au (au (au (au (ar 4 (au (au (ar 2 (au (au (au (au (ar 4 (au (au (au AllUpTo.zero ot) ot) (OpAt.val rfl (by kernel_rfl) (C' := 0 ≤ (k : Int) ∧ (k : Int) < ((beatIn (l.take 60)).length : Int)) (x := .one (.c (.ip 3 (fun j_ => nth (eRec ((beatIn (l.take 60)).getD k zRec)) j_)))) (by kernel_rfl) (by first | omega | (simp only [List.length_map]; omega)) rfl (by kernel_rfl) (by kernel_rfl) (TLe.refl _) (by kernel_rfl) (by kernel_rfl) (by kernel_rfl)))) (OpAt.val rfl (by kernel_rfl) (C' := 0 ≤ (j : Int) ∧ (j : Int) < ((wholeAll g (l.take 60)).length : Int)) (x := .one (.c (.ip 12 (fun j_ => nth (eCell ((wholeAll g (l.take 60)).getD j zCell)) j_)))) (by kernel_rfl) (by first | omega | (simp only [List.length_map]; omega)) rfl (by kernel_rfl) (by kernel_rfl) (TLe.refl _) (by kernel_rfl) (by kernel_rfl) (by kernel_rfl))) ot) ot) (OpAt.val rfl (by kernel_rfl) (C' := True) (x := B ((((beatIn (l.take 60)).getD k zRec).Key) == (((wholeAll g (l.take 60)).getD j zCell).Key))) (by kernel_rfl) (trivial) rfl (by kernel_rfl) (x' := B true) (by kernel_rfl) (TLe.b hs1) (by kernel_rfl) (by kernel_rfl) (by kernel_rfl)))) ot) (OpAt.val rfl (by kernel_rfl) (C' := 0 ≤ (k : Int) ∧ (k : Int) < ((beatIn (l.take 60)).length : Int)) (x := .one (.c (.ip 3 (fun j_ => nth (eRec ((beatIn (l.take 60)).getD k zRec)) j_)))) (by kernel_rfl) (by first | omega | (simp only [List.length_map]; omega)) rfl (by kernel_rfl) (by kernel_rfl) (TLe.refl _) (by kernel_rfl) (by kernel_rfl) (by kernel_rfl)))) (OpAt.val rfl (by kernel_rfl) (C' := 0 ≤ (j : Int) ∧ (j : Int) < ((wholeAll g (l.take 60)).length : Int)) (x := .one (.c (.ip 12 (fun j_ => nth (eCell ((wholeAll g (l.take 60)).getD j zCell)) j_)))) (by kernel_rfl) (by first | omega | (simp only [List.length_map]; omega)) rfl (by kernel_rfl) (by kernel_rfl) (TLe.refl _) (by kernel_rfl) (by kernel_rfl) (by kernel_rfl))) ot) ot) (OpAt.val rfl (by kernel_rfl) (C' := True) (x := B (decide ((((beatIn (l.take 60)).getD k zRec).Time) ≥ (((wholeAll g (l.take 60)).getD j zCell).Start)))) (by kernel_rfl) (trivial) rfl (by kernel_rfl) (x' := B false) (by kernel_rfl) (TLe.b hs2) (by kernel_rfl) (by kernel_rfl) (by kernel_rfl))))
 refine AOps.e ⟨[sp 2, (z6_17 l), (z6_18 l), (z6_25 g l), (z6_26 g l j), (14, I (j : Int)), (z6_27 g l j k), (16, I (k : Int)), (z6_38 l), (119, I (k : Int)), (z6_39 l k), (z6_40 l k), (z6_41 l k), (z6_42 g l), (124, I (j : Int)), (z6_43 g l j), (z6_44 g l j), (z6_45 g l j), (128, B false), (131, tD (.v (undef))), (132, tD (.v (undef))), (133, tD (.v (undef))), (134, tD (.v (undef))), (135, tD (.v (undef))), (136, tD (.v (undef))), (137, tD (.v (undef))), (138, tD (.v (undef))), (139, tD (.v (undef))), (140, tD (.v (undef))), (141, tD (.v (undef))), (142, tD (.v (undef))), (143, tD (.v (undef))), (144, tD (.v (undef))), (145, B false)], y6_3 g l j k⟩ ?_
 refine AC.cd (b := false) (fun h_ => ?_) (fun h_ => ?_)
 cases h_
 clear h_
 refine AC.skip ?_
 refine AC.rR [0, 1, 2] ?_
 refine AOps.m [0, 1, 2] ⟨[sp 2, (z6_17 l), (z6_18 l), (z6_25 g l), (z6_26 g l j), (14, I (j : Int)), (z6_27 g l j k), (z6_58 k), (z6_38 l), (119, I (k : Int)), (z6_39 l k), (z6_40 l k), (z6_41 l k), (z6_42 g l), (124, I (j : Int)), (z6_43 g l j), (z6_44 g l j), (z6_45 g l j), (128, B false), (131, tD (.v (undef))), (132, tD (.v (undef))), (133, tD (.v (undef))), (134, tD (.v (undef))), (135, tD (.v (undef))), (136, tD (.v (undef))), (137, tD (.v (undef))), (138, tD (.v (undef))), (139, tD (.v (undef))), (140, tD (.v (undef))), (141, tD (.v (undef))), (142, tD (.v (undef))), (143, tD (.v (undef))), (144, tD (.v (undef)))], y6_3 g l j k⟩ ?_
 refine AOps.le (st' := ⟨[sp 2, (z6_17 l), (z6_18 l), (z6_25 g l), (z6_26 g l j), (14, I (j : Int)), (z6_27 g l j k), (z6_59 k), (z6_38 l), (119, I (k : Int)), (z6_39 l k), (z6_40 l k), (z6_41 l k), (z6_42 g l), (124, I (j : Int)), (z6_43 g l j), (z6_44 g l j), (z6_45 g l j), (128, B false), (131, tD (.v (undef))), (132, tD (.v (undef))), (133, tD (.v (undef))), (134, tD (.v (undef))), (135, tD (.v (undef))), (136, tD (.v (undef))), (137, tD (.v (undef))), (138, tD (.v (undef))), (139, tD (.v (undef))), (140, tD (.v (undef))), (141, tD (.v (undef))), (142, tD (.v (undef))), (143, tD (.v (undef))), (144, tD (.v (undef)))], y6_3 g l j k⟩) (Le.of (lk rfl (lk rfl (lk rfl (lk rfl (lk rfl (lk rfl (lk rfl (LeS.cons rfl (TLe.i (by rw [wrap_in (n := ((k : Int) + 1)) (by omega) (by omega)] <;> omega)) (lk rfl (lk rfl (lk rfl (lk rfl (lk rfl (lk rfl (lk rfl (lk rfl (lk rfl (lk rfl (lk rfl (lk rfl (lk rfl (lk rfl (lk rfl (lk rfl (lk rfl (lk rfl (lk rfl (lk rfl (lk rfl (lk rfl (lk rfl (lk rfl (lk rfl LeS.nil))))))))))))))))))))))))))))))))) (ek rfl (ek rfl LeE.nil)) (by kernel_rfl)) ?_
 refine AOps.done ?_
 try refine blockA_n ?_
 refine roundA_n (k + 1) (by omega) (by show (beatIn (l.take 60)).length - (k + 1) < (beatIn (l.take 60)).length - k; omega) (Le.of (lk rfl (lk rfl (lk rfl (lk rfl (lk rfl (lk rfl (LeS.cons rfl (TLe.gs (congrArg List.length ?_)) (LeS.cons rfl (TLe.i (by first | omega | rfl | (rw [mineN_succ (by omega)]; omega) | (rw [startN_succ (by omega)]; omega) | exact mineN_end (by omega) (by omega))) LeS.nil)))))))) (ek rfl (LeE.cons rfl (BLe.eq (congrArg (arow 3 1 eI 0) ?_)) LeE.nil)) (by kernel_rfl))
 iterate 2 (· first | rfl | (simp; done) | exact map_snoc (d := zBeat) (by omega) rfl | exact mine_t hrb (by omega) (by simp only [inW, Bool.and_eq_true, decide_eq_true_eq, beq_iff_eq]; omega) | exact mine_f hrb (by omega) (by simp only [inW, Bool.and_eq_false_iff, decide_eq_false_iff_not, beq_eq_false_iff_ne, ne_eq]; omega))
 have hs1 := h_
 have h7 := h_; have r7 := h_; clear h_; try simp only [bb] at h7
 refine AC.dS 38 [] ⟨[sp 2, (z6_17 l), (z6_18 l), (z6_25 g l), (z6_26 g l j), (14, I (j : Int)), (z6_27 g l j k), (16, I (k : Int)), (z6_30 l), (107, I (k : Int)), (z6_31 l k), (z6_32 l k), (z6_33 l k), (z6_34 g l), (112, I (j : Int)), (z6_35 g l j), (z6_36 g l j), (z6_37 g l j), (116, B false), (117, B false), (118, tD (.v (undef))), (119, tD (.v (undef))), (120, tD (.v (undef))), (121, tD (.v (undef))), (122, tD (.v (undef))), (123, tD (.v (undef))), (124, tD (.v (undef))), (125, tD (.v (undef))), (126, tD (.v (undef))), (127, tD (.v (undef))), (128, tD (.v (undef))), (129, B false), (130, B false), (131, tD (.v (undef))), (132, tD (.v (undef))), (133, tD (.v (undef))), (134, tD (.v (undef))), (135, tD (.v (undef))), (136, tD (.v (undef))), (137, tD (.v (undef))), (138, tD (.v (undef))), (139, tD (.v (undef))), (140, tD (.v (undef))), (141, tD (.v (undef))), (142, tD (.v (undef))), (143, tD (.v (undef)))], y6_3 g l j k⟩ [38, 39] (.inl rfl) ?_ ?_
 · exact (ar 27 (au (au (au (au (ar 4 (au (au (au AllUpTo.zero ot) ot) (OpAt.val rfl (by kernel_rfl) (C' := 0 ≤ (k : Int) ∧ (k : Int) < ((beatIn (l.take 60)).length : Int)) (x := .one (.c (.ip 3 (fun j_ => nth (eRec ((beatIn (l.take 60)).getD k zRec)) j_)))) (by kernel_rfl) (by first | omega | (simp only [List.length_map]; omega)) rfl (by kernel_rfl) (by kernel_rfl) (TLe.refl _) (by kernel_rfl) (by kernel_rfl) (by kernel_rfl)))) (OpAt.val rfl (by kernel_rfl) (C' := 0 ≤ (j : Int) ∧ (j : Int) < ((wholeAll g (l.take 60)).length : Int)) (x := .one (.c (.ip 12 (fun j_ => nth (eCell ((wholeAll g (l.take 60)).getD j zCell)) j_)))) (by kernel_rfl) (by first | omega | (simp only [List.length_map]; omega)) rfl (by kernel_rfl) (by kernel_rfl) (TLe.refl _) (by kernel_rfl) (by kernel_rfl) (by kernel_rfl))) ot) ot) (OpAt.val rfl (by kernel_rfl) (C' := True) (x := B ((((beatIn (l.take 60)).getD k zRec).Key) == (((wholeAll g (l.take 60)).getD j zCell).Key))) (by kernel_rfl) (trivial) rfl (by kernel_rfl) (x' := B false) (by kernel_rfl) (TLe.b hs1) (by kernel_rfl) (by kernel_rfl) (by kernel_rfl))))
 refine AOps.e ⟨[sp 2, (z6_17 l), (z6_18 l), (z6_25 g l), (z6_26 g l j), (14, I (j : Int)), (z6_27 g l j k), (16, I (k : Int)), (118, tD (.v (undef))), (119, tD (.v (undef))), (120, tD (.v (undef))), (121, tD (.v (undef))), (122, tD (.v (undef))), (123, tD (.v (undef))), (124, tD (.v (undef))), (125, tD (.v (undef))), (126, tD (.v (undef))), (127, tD (.v (undef))), (128, tD (.v (undef))), (131, tD (.v (undef))), (132, tD (.v (undef))), (133, tD (.v (undef))), (134, tD (.v (undef))), (135, tD (.v (undef))), (136, tD (.v (undef))), (137, tD (.v (undef))), (138, tD (.v (undef))), (139, tD (.v (undef))), (140, tD (.v (undef))), (141, tD (.v (undef))), (142, tD (.v (undef))), (143, tD (.v (undef))), (144, tD (.v (undef))), (145, B false)], y6_3 g l j k⟩ ?_
 refine AC.cd (b := false) (fun h_ => ?_) (fun h_ => ?_)
 cases h_
 clear h_
 refine AC.skip ?_
 refine AC.rR [0, 1, 2] ?_
 refine AOps.m [0, 1, 2] ⟨[sp 2, (z6_17 l), (z6_18 l), (z6_25 g l), (z6_26 g l j), (14, I (j : Int)), (z6_27 g l j k), (z6_58 k), (118, tD (.v (undef))), (119, tD (.v (undef))), (120, tD (.v (undef))), (121, tD (.v (undef))), (122, tD (.v (undef))), (123, tD (.v (undef))), (124, tD (.v (undef))), (125, tD (.v (undef))), (126, tD (.v (undef))), (127, tD (.v (undef))), (128, tD (.v (undef))), (131, tD (.v (undef))), (132, tD (.v (undef))), (133, tD (.v (undef))), (134, tD (.v (undef))), (135, tD (.v (undef))), (136, tD (.v (undef))), (137, tD (.v (undef))), (138, tD (.v (undef))), (139, tD (.v (undef))), (140, tD (.v (undef))), (141, tD (.v (undef))), (142, tD (.v (undef))), (143, tD (.v (undef))), (144, tD (.v (undef)))], y6_3 g l j k⟩ ?_
 refine AOps.le (st' := ⟨[sp 2, (z6_17 l), (z6_18 l), (z6_25 g l), (z6_26 g l j), (14, I (j : Int)), (z6_27 g l j k), (z6_59 k), (118, tD (.v (undef))), (119, tD (.v (undef))), (120, tD (.v (undef))), (121, tD (.v (undef))), (122, tD (.v (undef))), (123, tD (.v (undef))), (124, tD (.v (undef))), (125, tD (.v (undef))), (126, tD (.v (undef))), (127, tD (.v (undef))), (128, tD (.v (undef))), (131, tD (.v (undef))), (132, tD (.v (undef))), (133, tD (.v (undef))), (134, tD (.v (undef))), (135, tD (.v (undef))), (136, tD (.v (undef))), (137, tD (.v (undef))), (138, tD (.v (undef))), (139, tD (.v (undef))), (140, tD (.v (undef))), (141, tD (.v (undef))), (142, tD (.v (undef))), (143, tD (.v (undef))), (144, tD (.v (undef)))], y6_3 g l j k⟩) (Le.of (lk rfl (lk rfl (lk rfl (lk rfl (lk rfl (lk rfl (lk rfl (LeS.cons rfl (TLe.i (by rw [wrap_in (n := ((k : Int) + 1)) (by omega) (by omega)] <;> omega)) (lk rfl (lk rfl (lk rfl (lk rfl (lk rfl (lk rfl (lk rfl (lk rfl (lk rfl (lk rfl (lk rfl (lk rfl (lk rfl (lk rfl (lk rfl (lk rfl (lk rfl (lk rfl (lk rfl (lk rfl (lk rfl (lk rfl (lk rfl (lk rfl (lk rfl LeS.nil))))))))))))))))))))))))))))))))) (ek rfl (ek rfl LeE.nil)) (by kernel_rfl)) ?_
 refine AOps.done ?_
 try refine blockA_n ?_
 refine roundA_n (k + 1) (by omega) (by show (beatIn (l.take 60)).length - (k + 1) < (beatIn (l.take 60)).length - k; omega) (Le.of (lk rfl (lk rfl (lk rfl (lk rfl (lk rfl (lk rfl (LeS.cons rfl (TLe.gs (congrArg List.length ?_)) (LeS.cons rfl (TLe.i (by first | omega | rfl | (rw [mineN_succ (by omega)]; omega) | (rw [startN_succ (by omega)]; omega) | exact mineN_end (by omega) (by omega))) LeS.nil)))))))) (ek rfl (LeE.cons rfl (BLe.eq (congrArg (arow 3 1 eI 0) ?_)) LeE.nil)) (by kernel_rfl))
 iterate 2 (· first | rfl | (simp; done) | exact map_snoc (d := zBeat) (by omega) rfl | exact mine_t hrb (by omega) (by simp only [inW, Bool.and_eq_true, decide_eq_true_eq, beq_iff_eq]; omega) | exact mine_f hrb (by omega) (by simp only [inW, Bool.and_eq_false_iff, decide_eq_false_iff_not, beq_eq_false_iff_ne, ne_eq]; omega))
 have h6 := h_; have r6 := h_; clear h_; try simp only [bb] at h6
 refine AC.exit ?_
 repeat (first | refine thenA_x ?_ | refine roundA_x ?_ | refine joinA_x ?_ | refine blockA_hit ?_ | refine blockA_miss (by decide) ?_)
 refine AC.seq ?_
 have hmI := mine_len g (beatIn (l.take 60)) ((wholeAll g (l.take 60)).getD j zCell).Key ((wholeAll g (l.take 60)).getD j zCell).Start
 refine AC.fz 1015 (0 + (mineOf g ((beatIn (l.take 60)).take k) ((wholeAll g (l.take 60)).getD j zCell).Key ((wholeAll g (l.take 60)).getD j zCell).Start).length ≤ (mineOf g ((beatIn (l.take 60)).take k) ((wholeAll g (l.take 60)).getD j zCell).Key ((wholeAll g (l.take 60)).getD j zCell).Start).length ∧ True) ⟨[sp 2, (z6_17 l), (z6_18 l), (z6_25 g l), (z6_26 g l j), (14, I (j : Int)), (15, tD (.sl 1 ((mineOf g ((beatIn (l.take 60)).take k) ((wholeAll g (l.take 60)).getD j zCell).Key ((wholeAll g (l.take 60)).getD j zCell).Start).length) (fun i_ j_ => nth (eI ((mineOf g ((beatIn (l.take 60)).take k) ((wholeAll g (l.take 60)).getD j zCell).Key ((wholeAll g (l.take 60)).getD j zCell).Start).getD (0 + i_) 0)) j_))), (16, I (k : Int)), (z6_29 l k)], y6_0 g⟩ ⟨by omega, trivial⟩ ?_ rfl
 refine AC.le (st' := ⟨[sp 2, (z6_17 l), (z6_18 l), (z6_25 g l), (z6_26 g l j), (14, I (j : Int)), (15, tD (row 1 eI 0 (mineOf g ((beatIn (l.take 60)).take k) ((wholeAll g (l.take 60)).getD j zCell).Key ((wholeAll g (l.take 60)).getD j zCell).Start))), (16, I (k : Int)), (z6_29 l k)], y6_0 g⟩) (Le.of (lk rfl (lk rfl (lk rfl (lk rfl (lk rfl (lk rfl (LeS.cons rfl (TLe.one (ULe.c (CLe.d (DLe.row0)))) (lk rfl (lk rfl LeS.nil))))))))) (ek rfl LeE.nil) (by kernel_rfl)) ?_
 refine AC.le (st' := ⟨[sp 2, (z6_17 l), (z6_18 l), (z6_25 g l), (z6_26 g l j), (14, I (j : Int)), (z6_60 g l j)], y6_0 g⟩) (Le.of (lk rfl (lk rfl (lk rfl (lk rfl (lk rfl (lk rfl (LeS.cons rfl (TLe.one (ULe.c (CLe.d (DLe.eq (congrArg (row 1 eI 0) (by rw [List.take_of_length_le (by omega)])))))) LeS.nil))))))) (ek rfl LeE.nil) (by kernel_rfl)) ?_
 refine AC.dS 7 [] ⟨[sp 2, (z6_17 l), (z6_18 l), (z6_25 g l), (z6_26 g l j), (14, I (j : Int)), (z6_60 g l j), (153, tD (row 12 eCell zCell (wholeAll g (l.take 60)))), (154, I (j : Int)), (155, .one (.c (.ip 12 (fun j_ => nth (eCell ((wholeAll g (l.take 60)).getD j zCell)) j_)))), (156, .one (.c (.ip 10 (fun j_ => nth (eCell ((wholeAll g (l.take 60)).getD j zCell)) (2 + j_))))), (157, tA ((eAgg (((wholeAll g (l.take 60)).getD j zCell).A)).map .d)), (158, tD (row 1 eI 0 (mineOf g (beatIn (l.take 60)) ((wholeAll g (l.take 60)).getD j zCell).Key ((wholeAll g (l.take 60)).getD j zCell).Start))), (159, tA ((eAgg (aggAll (mineOf g (beatIn (l.take 60)) ((wholeAll g (l.take 60)).getD j zCell).Key ((wholeAll g (l.take 60)).getD j zCell).Start))).map .d))], y6_0 g⟩ [7] (.inl rfl) ?_ ?_
 · exact (au (au (ar 2 (au (au (au AllUpTo.zero ot) ot) (OpAt.val rfl (by kernel_rfl) (C' := 0 ≤ (j : Int) ∧ (j : Int) < ((wholeAll g (l.take 60)).length : Int)) (x := .one (.c (.ip 12 (fun j_ => nth (eCell ((wholeAll g (l.take 60)).getD j zCell)) j_)))) (by kernel_rfl) (by first | omega | (simp only [List.length_map]; omega)) rfl (by kernel_rfl) (by kernel_rfl) (TLe.refl _) (by kernel_rfl) (by kernel_rfl) (by kernel_rfl)))) ot) (oc (ok_all15 (mineOf g (beatIn (l.take 60)) ((wholeAll g (l.take 60)).getD j zCell).Key ((wholeAll g (l.take 60)).getD j zCell).Start) (by first | omega | exact mine_R _ _ _ _) (by first | omega | exact mine_R _ _ _ _))))
 refine AOps.cons (step_eqv rfl (by kernel_rfl) rfl eq_Agg true rfl (((wholeAll g (l.take 60)).getD j zCell).A) (aggAll (mineOf g (beatIn (l.take 60)) ((wholeAll g (l.take 60)).getD j zCell).Key ((wholeAll g (l.take 60)).getD j zCell).Start)) (by kernel_rfl) (by kernel_rfl) (by kernel_rfl) (by kernel_rfl) rfl (by kernel_rfl)) ?_
 refine AOps.n ⟨[sp 2, (z6_17 l), (z6_18 l), (z6_25 g l), (z6_26 g l j), (14, I (j : Int)), (z6_60 g l j), (160, B (!decide (((wholeAll g (l.take 60)).getD j zCell).A = aggAll (mineOf g (beatIn (l.take 60)) ((wholeAll g (l.take 60)).getD j zCell).Key ((wholeAll g (l.take 60)).getD j zCell).Start))))], y6_0 g⟩ ?_
 refine AOps.done ?_
 refine AC.cd (b := !decide (((wholeAll g (l.take 60)).getD j zCell).A = aggAll (mineOf g (beatIn (l.take 60)) ((wholeAll g (l.take 60)).getD j zCell).Key ((wholeAll g (l.take 60)).getD j zCell).Start))) (fun h_ => ?_) (fun h_ => ?_)
 have h7 := h_; have r7 := h_; clear h_; try simp only [bb] at h7
 refine AC.q ⟨[(4, B false)], []⟩ ?_
 refine AC.ret ?_
 exact rqr uEngineWhole (All2.cons (ULe.c (CLe.d (DLe.eq (congrArg dB (show (false) = (true) by first | rfl | exact absurd (whole_err hg hlb hrb) (by assumption) | exact absurd (whole_fold (j := j) hg hlb hrb hL0 (by omega)) (by assumption) | exact whole_end hg hlb hrb hL0 (by omega) | exact whole_late hg hlb hrb (by assumption)))))) All2.nil)
 have h7 := h_; have r7 := h_; clear h_; try simp only [bb] at h7
 refine AC.skip ?_
 refine AC.rR [0, 1, 2, 3, 4] ?_
 refine AOps.m [0, 1, 2, 3, 4] ⟨[sp 2, (z6_17 l), (z6_18 l), (z6_25 g l), (13, I (IntKind.i64.wrap (((mineN g (beatIn (l.take 60)) (wholeAll g (l.take 60)) j : Nat) : Int) + ((mineOf g (beatIn (l.take 60)) ((wholeAll g (l.take 60)).getD j zCell).Key ((wholeAll g (l.take 60)).getD j zCell).Start).length : Int)))), (14, I (j : Int))], y6_0 g⟩ ?_
 refine AOps.le (st' := ⟨[sp 2, (z6_17 l), (z6_18 l), (z6_25 g l), (z6_61 g l j), (14, I (j : Int))], y6_0 g⟩) (Le.of (lk rfl (lk rfl (lk rfl (lk rfl (LeS.cons rfl (TLe.i (by rw [wrap_in (n := (((mineN g (beatIn (l.take 60)) (wholeAll g (l.take 60)) j : Nat) : Int) + ((mineOf g (beatIn (l.take 60)) ((wholeAll g (l.take 60)).getD j zCell).Key ((wholeAll g (l.take 60)).getD j zCell).Start).length : Int))) (by omega) (by omega)] <;> omega)) (lk rfl LeS.nil)))))) (ek rfl LeE.nil) (by kernel_rfl)) ?_
 refine AOps.done ?_
 refine AC.rR [0, 1, 2] ?_
 refine AOps.m [0, 1, 2] ⟨[sp 2, (z6_17 l), (z6_18 l), (z6_25 g l), (z6_61 g l j), (14, I (IntKind.i64.wrap ((j : Int) + 1)))], y6_0 g⟩ ?_
 refine AOps.le (st' := ⟨[sp 2, (z6_17 l), (z6_18 l), (z6_25 g l), (z6_61 g l j), (14, I ((j + 1 : Nat) : Int))], y6_0 g⟩) (Le.of (lk rfl (lk rfl (lk rfl (lk rfl (lk rfl (LeS.cons rfl (TLe.i (by rw [wrap_in (n := ((j : Int) + 1)) (by omega) (by omega)] <;> omega)) LeS.nil)))))) (ek rfl LeE.nil) (by kernel_rfl)) ?_
 refine AOps.done ?_
 try refine blockA_n ?_
 refine roundA_n (j + 1) (by omega) (by show (wholeAll g (l.take 60)).length - (j + 1) < (wholeAll g (l.take 60)).length - j; omega) (Le.of (lk rfl (lk rfl (lk rfl (lk rfl (LeS.cons rfl (TLe.i ?_) (LeS.cons rfl (TLe.i ?_) LeS.nil)))))) (ek rfl LeE.nil) (by kernel_rfl))
 iterate 2 (· first | omega | rfl | (rw [mineN_succ (by omega)]; omega) | (rw [startN_succ (by omega)]; omega) | exact mineN_end (by omega) (by omega))
 have h5 := h_; have r5 := h_; clear h_; try simp only [bb] at h5
 refine AC.exit ?_
 repeat (first | refine thenA_x ?_ | refine roundA_x ?_ | refine joinA_x ?_ | refine blockA_hit ?_ | refine blockA_miss (by decide) ?_)
 refine AC.seq ?_
 refine AC.q ⟨[sp 2, (z6_17 l), (z6_26 g l j), (17, I 0)], y6_0 g⟩ ?_
 refine AC.block ?_
 refine AC.loop (ι := Nat) (fun q => ⟨[sp 2, (z6_17 l), (z6_62 g l q), (17, I (q : Int))], y6_0 g⟩) (fun q => (q ≤ (beatIn (l.take 60)).length)) (fun q => (beatIn (l.take 60)).length - q) (0) (by omega) (Le.of (lk rfl (lk rfl (LeS.cons rfl (TLe.i ?_) (LeS.cons rfl (TLe.i ?_) LeS.nil)))) (ek rfl LeE.nil) (by kernel_rfl)) ?_
 iterate 2 (· first | omega | rfl | (rw [mineN_succ (by omega)]; omega) | (rw [startN_succ (by omega)]; omega) | exact mineN_end (by omega) (by omega))
 intro q hi_
 have i1 : q ≤ (beatIn (l.take 60)).length := hi_; clear hi_
 show AC _ _ ⟨[sp 2, (z6_17 l), (z6_62 g l q), (17, I (q : Int))], y6_0 g⟩ _
 have hg8 := gridStarts_len g ((beatIn (l.take 60)).getD q zRec).Time
 have hsN := startN_le g (beatIn (l.take 60)) q
 have hmN := mineN_b g (beatIn (l.take 60)) (wholeAll g (l.take 60)) (j := (wholeAll g (l.take 60)).length) (by omega) (by omega)
 refine AC.seq ?_
 refine AC.q ⟨[sp 2, (z6_17 l), (z6_62 g l q), (17, I (q : Int)), (168, B (decide ((q : Int) < ((beatIn (l.take 60)).length : Int))))], y6_0 g⟩ ?_
 refine AC.cd (b := decide ((q : Int) < ((beatIn (l.take 60)).length : Int))) (fun h_ => ?_) (fun h_ => ?_)
 have h6 := h_; have r6 := h_; clear h_; try simp only [bb] at h6
 refine AC.skip ?_
 refine AC.seq ?_
 refine AC.block ?_
 refine AC.dS 11 [] ⟨[sp 2, (z6_17 l), (z6_62 g l q), (17, I (q : Int)), (18, tD (row 1 eI 0 (gridStarts g (((beatIn (l.take 60)).getD q zRec).Time)))), (171, .tup [.c (.d (row 1 eI 0 (gridStarts g (((beatIn (l.take 60)).getD q zRec).Time)))), .c (.d (dI (startsErr g (((beatIn (l.take 60)).getD q zRec).Time))))]), (172, tA ((eGrid g).map .d)), (173, tD (row 3 eRec zRec (beatIn (l.take 60)))), (174, I (q : Int)), (175, .one (.c (.ip 3 (fun j_ => nth (eRec ((beatIn (l.take 60)).getD q zRec)) j_)))), (176, .one (.c (.ip 2 (fun j_ => nth (eRec ((beatIn (l.take 60)).getD q zRec)) (1 + j_))))), (177, I (((beatIn (l.take 60)).getD q zRec).Time)), (178, .tup [.c (.d (row 1 eI 0 (gridStarts g (((beatIn (l.take 60)).getD q zRec).Time)))), .c (.d (dI (startsErr g (((beatIn (l.take 60)).getD q zRec).Time))))]), (179, tD (row 1 eI 0 (gridStarts g (((beatIn (l.take 60)).getD q zRec).Time)))), (180, I (startsErr g (((beatIn (l.take 60)).getD q zRec).Time)))], y6_0 g⟩ [11] (.inl rfl) ?_ ?_
 · exact (ar 4 (au (au (au (au (ar 3 AllUpTo.zero) (OpAt.val rfl (by kernel_rfl) (C' := 0 ≤ (q : Int) ∧ (q : Int) < ((beatIn (l.take 60)).length : Int)) (x := .one (.c (.ip 3 (fun j_ => nth (eRec ((beatIn (l.take 60)).getD q zRec)) j_)))) (by kernel_rfl) (by first | omega | (simp only [List.length_map]; omega)) rfl (by kernel_rfl) (by kernel_rfl) (TLe.refl _) (by kernel_rfl) (by kernel_rfl) (by kernel_rfl))) ot) ot) (oc (ok_starts14 g (((beatIn (l.take 60)).getD q zRec).Time)))))
 refine AOps.e ⟨[sp 2, (z6_17 l), (z6_62 g l q), (17, I (q : Int)), (18, tD (row 1 eI 0 (gridStarts g (((beatIn (l.take 60)).getD q zRec).Time))))], y6_0 g⟩ ?_
 refine AC.rR [0, 1, 2, 3, 4] ?_
 refine AOps.m [0, 1, 2, 3, 4] ⟨[sp 2, (z6_17 l), (13, I (IntKind.i64.wrap ((((mineN g (beatIn (l.take 60)) (wholeAll g (l.take 60)) (wholeAll g (l.take 60)).length : Nat) : Int) - ((startN g (beatIn (l.take 60)) q : Nat) : Int)) - ((gridStarts g (((beatIn (l.take 60)).getD q zRec).Time)).length : Int)))), (17, I (q : Int))], y6_0 g⟩ ?_
 refine AOps.le (st' := ⟨[sp 2, (z6_17 l), (z6_63 g l q), (17, I (q : Int))], y6_0 g⟩) (Le.of (lk rfl (lk rfl (LeS.cons rfl (TLe.i (by rw [wrap_in (n := ((((mineN g (beatIn (l.take 60)) (wholeAll g (l.take 60)) (wholeAll g (l.take 60)).length : Nat) : Int) - ((startN g (beatIn (l.take 60)) q : Nat) : Int)) - ((gridStarts g (((beatIn (l.take 60)).getD q zRec).Time)).length : Int))) (by omega) (by omega)] <;> omega)) (lk rfl LeS.nil)))) (ek rfl LeE.nil) (by kernel_rfl)) ?_
 refine AOps.done ?_
 refine AC.rR [0, 1, 2] ?_
 refine AOps.m [0, 1, 2] ⟨[sp 2, (z6_17 l), (z6_63 g l q), (17, I (IntKind.i64.wrap ((q : Int) + 1)))], y6_0 g⟩ ?_
 refine AOps.le (st' := ⟨[sp 2, (z6_17 l), (z6_63 g l q), (17, I ((q + 1 : Nat) : Int))], y6_0 g⟩) (Le.of (lk rfl (lk rfl (lk rfl (LeS.cons rfl (TLe.i (by rw [wrap_in (n := ((q : Int) + 1)) (by omega) (by omega)] <;> omega)) LeS.nil)))) (ek rfl LeE.nil) (by kernel_rfl)) ?_
 refine AOps.done ?_
 try refine blockA_n ?_
 refine roundA_n (q + 1) (by omega) (by show (beatIn (l.take 60)).length - (q + 1) < (beatIn (l.take 60)).length - q; omega) (Le.of (lk rfl (lk rfl (LeS.cons rfl (TLe.i ?_) (LeS.cons rfl (TLe.i ?_) LeS.nil)))) (ek rfl LeE.nil) (by kernel_rfl))
 iterate 2 (· first | omega | rfl | (rw [mineN_succ (by omega)]; omega) | (rw [startN_succ (by omega)]; omega) | exact mineN_end (by omega) (by omega))
 have h6 := h_; have r6 := h_; clear h_; try simp only [bb] at h6
 refine AC.exit ?_
 repeat (first | refine thenA_x ?_ | refine roundA_x ?_ | refine joinA_x ?_ | refine blockA_hit ?_ | refine blockA_miss (by decide) ?_)
 refine AC.rS [0, 1, 2, 3, 4, 5] ?_
 refine AOps.m [0, 1, 2] ⟨[(187, B ((((mineN g (beatIn (l.take 60)) (wholeAll g (l.take 60)) (wholeAll g (l.take 60)).length : Nat) : Int) - ((startN g (beatIn (l.take 60)) q : Nat) : Int)) == 0))], []⟩ ?_
 refine AOps.s [3] 4 187 188 189 true ((((mineN g (beatIn (l.take 60)) (wholeAll g (l.take 60)) (wholeAll g (l.take 60)).length : Nat) : Int) - ((startN g (beatIn (l.take 60)) q : Nat) : Int)) == 0) (true) [] (fun h_ => ?_) ?_
 clear h_
 refine AOps.ca (ok_awake) ?_
 rintro _ rfl
 exact scd
 refine AOps.e ⟨[(4, B (((((mineN g (beatIn (l.take 60)) (wholeAll g (l.take 60)) (wholeAll g (l.take 60)).length : Nat) : Int) - ((startN g (beatIn (l.take 60)) q : Nat) : Int)) == 0) && true))], []⟩ ?_
 refine AC.ret ?_
 exact rqr uEngineWhole (All2.cons (ULe.c (CLe.d (DLe.eq (congrArg dB (show (((((mineN g (beatIn (l.take 60)) (wholeAll g (l.take 60)) (wholeAll g (l.take 60)).length : Nat) : Int) - ((startN g (beatIn (l.take 60)) q : Nat) : Int)) == 0) && true) = (true) by first | rfl | exact absurd (whole_err hg hlb hrb) (by assumption) | exact absurd (whole_fold (j := j) hg hlb hrb hL0 (by omega)) (by assumption) | exact whole_end hg hlb hrb hL0 (by omega) | exact whole_late hg hlb hrb (by assumption)))))) All2.nil)
end Go.Proofs.Ytfpmgnkbklnkaaa.Eng
end
