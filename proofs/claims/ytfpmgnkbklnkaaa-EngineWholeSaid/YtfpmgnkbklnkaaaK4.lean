/- Part 4 of the engine that steps through the program, of the plain words and of what the program's functions come to; no condition. -/
import Derived.Shelf.Spec.SlicesInsertGrow
import Derived.Test.YtfpmgnkbklnkaaaProg
import Derived.Test.YtfpmgnkbklnkaaaK3
section
set_option linter.unusedSimpArgs false
set_option linter.unusedVariables false
set_option maxRecDepth 100000
set_option maxHeartbeats 4000000
namespace Go.Proofs.Ytfpmgnkbklnkaaa.Eng
open Go Go.Proofs
abbrev utake (s : ByteArray) : List U := [.c (.d (dI (takeN s))), .c (.d (dS (takeRest s))), .c (.d (dI (takeErr s)))]
abbrev z67_0 (s : ByteArray) (k : Nat) : Nat × T := (5, tD (dK .u64 ((vM s k : Nat) : Int)))
abbrev z67_1 (s : ByteArray) (k : Nat) : Nat × T := (7, tD (dK .u8 (((byteAt s k).toNat : Nat) : Int)))
abbrev z67_2 (s : ByteArray) (k : Nat) : Nat × T := (5, tD (dK .u64 (bitsOr .u64 ((vM s k : Nat) : Int) (IntKind.u64.wrap ((IntKind.u64.wrap (bitsAnd .u8 (((byteAt s k).toNat : Nat) : Int) (127 : Int))) * 2 ^ min ((IntKind.i64.wrap ((7 : Int) * (k : Int)))).toNat IntKind.u64.bits)))))
abbrev z67_3 (s : ByteArray) (k : Nat) : Nat × T := (5, tD (dK .u64 ((vM s (k + 1) : Nat) : Int)))
abbrev z67_4 (k : Nat) : Nat × T := (6, I ((k + 1 : Nat) : Int))
abbrev z67_5 (s : ByteArray) (k : Nat) : Nat × T := (2, I (bitsXor .i64 (IntKind.i64.wrap (Int.fdiv ((vM s (k + 1) : Nat) : Int) (2 ^ min ((1 : Int)).toNat IntKind.u64.bits))) (IntKind.i64.wrap (0 - (IntKind.i64.wrap (bitsAnd .u64 ((vM s (k + 1) : Nat) : Int) (1 : Int)))))))
/-- headgate/varint.Take. -/
theorem ok_take (s : ByteArray) :
 FnOk Try.prog 67 [.c (.d (dS s))] (fun r_ => r_ = .tup [.c (.d (dI (takeN s))), .c (.d (dS (takeRest s))), .c (.d (dI (takeErr s)))]) := by
 refine FnOk.go Try.func67 rfl 56 ?_
 intro w0 m0
 show AC _ _ ⟨[(0, tD (dS s))], []⟩ _
 refine AC.q ⟨[(0, tD (dS s))], []⟩ ?_
 refine AC.scope (ι := Nat) 0 (fun k => ⟨[(0, tD (dS s)), (z67_0 s k), (6, I (k : Int))], []⟩) (fun k => (k ≤ s.size ∧ k ≤ 10 ∧ ∀ i, i < k → 127 < byteN s i)) (fun k => 10 - k) rfl ?_ ?_
 intro k hi_
 obtain ⟨i1, i2, i3⟩ := hi_
 show AC _ _ ⟨[(0, tD (dS s)), (z67_0 s k), (6, I (k : Int))], []⟩ _
 refine AC.seq ?_
 refine AC.rS [0, 1, 2, 3, 4, 5, 6, 7] ?_
 refine AOps.m [0, 1, 2, 3, 4] ⟨[(0, tD (dS s)), (z67_0 s k), (6, I (k : Int)), (12, B ((k : Int) == (s.size : Int)))], []⟩ ?_
 refine AOps.s [5, 6] 7 12 14 15 false ((k : Int) == (s.size : Int)) ((k : Int) == 10) [0, 5, 6] (fun h_ => ?_) ?_
 clear h_
 refine AOps.m [5, 6] ⟨[(0, tD (dS s)), (z67_0 s k), (6, I (k : Int)), (12, B false), (14, B ((k : Int) == 10))], []⟩ ?_
 exact scd
 refine AOps.done ?_
 refine AC.cd (b := ((k : Int) == (s.size : Int)) || ((k : Int) == 10)) (fun h_ => ?_) (fun h_ => ?_)
 have h1 := h_; have r1 := h_; clear h_; try simp only [bb] at h1
 have hK : takeK s = k := takeK_eq i1 i2 i3 (fun h1 h2 => by omega)
 have hT := take_bad (take_no1 hK (by omega))
 refine AC.q ⟨[(2, I 0), (3, tD (dS (⟨#[]⟩ : ByteArray))), (4, I 2)], []⟩ ?_
 refine AC.ret ?_
 refine rqr (utake s) (All2.cons (ULe.c (CLe.d (DLe.eq (congrArg dI (show (0) = (takeN s) from ?_))))) (All2.cons (ULe.c (CLe.d (DLe.eq (congrArg dS (show ((⟨#[]⟩ : ByteArray)) = (takeRest s) from ?_))))) (All2.cons (ULe.c (CLe.d (DLe.eq (congrArg dI (show (2) = (takeErr s) from ?_))))) All2.nil)))
 iterate 3 (· first | exact hT.1.symm | exact hT.2.1.symm | exact hT.2.2.symm | (rw [hT.1, takeU_val hK]; exact xor_num (Nat.mod_lt _ (by decide))) | (rw [hT.2.1, hK]; rfl))
 have h1 := h_; have r1 := h_; clear h_; try simp only [bb] at h1
 refine AC.skip ?_
 refine AC.rS [0, 1, 2, 3] ?_
 refine AOps.ec (C' := (0 ≤ (k : Int) ∧ (k : Int) < (s.size : Int)) ∧ True) ⟨[(0, tD (dS s)), (z67_0 s k), (6, I (k : Int)), (z67_1 s k)], []⟩ (⟨by omega, trivial⟩) ?_
 refine AC.rS [0, 1, 2, 3, 4, 5, 6, 7, 8] ?_
 refine AOps.ec (C' := (0 ≤ (IntKind.i64.wrap ((7 : Int) * (k : Int)))) ∧ True) ⟨[(0, tD (dS s)), (z67_2 s k), (6, I (k : Int)), (z67_1 s k)], []⟩ (⟨by first | omega | (rw [wrap_in (by omega) (by omega)]; omega), trivial⟩) ?_
 refine AC.q ⟨[(0, tD (dS s)), (z67_2 s k), (6, I (IntKind.i64.wrap ((k : Int) + 1))), (z67_1 s k)], []⟩ ?_
 refine AC.seq ?_
 refine AC.le (st' := ⟨[(0, tD (dS s)), (z67_3 s k), (z67_4 k), (z67_1 s k)], []⟩) (Le.of (lk rfl (LeS.cons rfl (TLe.eq (congrArg (fun x_ => T.one (U.c (C.d (dK .u64 x_)))) (show (((bitsOr .u64 ((vM s k : Nat) : Int) (IntKind.u64.wrap ((IntKind.u64.wrap (bitsAnd .u8 (((byteAt s k).toNat : Nat) : Int) (127 : Int))) * 2 ^ min ((IntKind.i64.wrap ((7 : Int) * (k : Int)))).toNat IntKind.u64.bits)))) : Int) = (((vM s (k + 1) : Nat) : Int)) from ?_))) (LeS.cons rfl (TLe.i ?_) (lk rfl LeS.nil)))) LeE.nil (by kernel_rfl)) ?_
 iterate 2 (· first | exact or_step (by omega) | exact wrap_in (by omega) (by omega))
 refine AC.q ⟨[(0, tD (dS s)), (z67_3 s k), (z67_4 k), (z67_1 s k), (30, B (decide ((((byteAt s k).toNat : Nat) : Int) ≥ 128)))], []⟩ ?_
 refine AC.cd (b := decide ((((byteAt s k).toNat : Nat) : Int) ≥ 128)) (fun h_ => ?_) (fun h_ => ?_)
 have h2 := h_; have r2 := h_; clear h_; try simp only [bb] at h2
 refine AC.goto ?_
 repeat (first | refine thenA_g ?_ | refine joinA_g ?_ | refine blockA_g ?_)
 exact jumpA_hit ⟨(k + 1), (by refine ⟨by omega, by omega, fun i hi => ?_⟩; by_cases e : i = k; (subst e; show 127 < (byteAt s i).toNat; omega); exact i3 i (by omega)), (by show 10 - (k + 1) < 10 - k; omega), (Le.of (lk rfl (lk rfl (LeS.cons rfl (TLe.i (by first | rfl | omega)) LeS.nil))) LeE.nil (by kernel_rfl))⟩
 have h2 := h_; have r2 := h_; clear h_; try simp only [bb] at h2
 refine AC.skip ?_
 refine AC.seq ?_
 have hlow : byteN s k < 128 := by show (byteAt s k).toNat < 128; omega
 have hbk : byteN s k = (byteAt s k).toNat := rfl
 refine AC.rS [0, 1, 2, 3, 4, 5, 6, 7, 8, 9, 10, 11, 12, 13] ?_
 refine AOps.m [0, 1, 2] ⟨[(0, tD (dS s)), (z67_3 s k), (z67_4 k), (z67_1 s k), (33, B (decide (((k + 1 : Nat) : Int) > 1)))], []⟩ ?_
 refine AOps.s [3, 4] 5 33 35 36 true (decide (((k + 1 : Nat) : Int) > 1)) ((((byteAt s k).toNat : Nat) : Int) == 0) [0, 5, 6, 7] (fun h_ => ?_) ?_
 clear h_
 refine AOps.m [3, 4] ⟨[(0, tD (dS s)), (z67_3 s k), (z67_4 k), (z67_1 s k), (33, B true), (35, B ((((byteAt s k).toNat : Nat) : Int) == 0))], []⟩ ?_
 exact scd
 refine AOps.m [6] ⟨[(0, tD (dS s)), (z67_3 s k), (z67_4 k), (z67_1 s k), (37, B ((decide (((k + 1 : Nat) : Int) > 1)) && ((((byteAt s k).toNat : Nat) : Int) == 0)))], []⟩ ?_
 refine AOps.s [7, 8, 9, 10, 11, 12] 13 37 43 44 false ((decide (((k + 1 : Nat) : Int) > 1)) && ((((byteAt s k).toNat : Nat) : Int) == 0)) ((((k + 1 : Nat) : Int) == 10) && (decide ((((byteAt s k).toNat : Nat) : Int) > 1))) [0, 5, 6] (fun h_ => ?_) ?_
 clear h_
 refine AOps.m [7, 8, 9] ⟨[(0, tD (dS s)), (z67_3 s k), (z67_4 k), (z67_1 s k), (37, B false), (40, B (((k + 1 : Nat) : Int) == 10))], []⟩ ?_
 refine AOps.s [10, 11] 12 40 42 43 true (((k + 1 : Nat) : Int) == 10) (decide ((((byteAt s k).toNat : Nat) : Int) > 1)) [0, 5, 6, 37] (fun h_ => ?_) ?_
 clear h_
 refine AOps.m [10, 11] ⟨[(0, tD (dS s)), (z67_3 s k), (z67_4 k), (37, B false), (40, B true), (42, B (decide ((((byteAt s k).toNat : Nat) : Int) > 1)))], []⟩ ?_
 exact scd
 exact scd
 refine AOps.done ?_
 refine AC.cd (b := ((decide (((k + 1 : Nat) : Int) > 1)) && ((((byteAt s k).toNat : Nat) : Int) == 0)) || ((((k + 1 : Nat) : Int) == 10) && (decide ((((byteAt s k).toNat : Nat) : Int) > 1)))) (fun h_ => ?_) (fun h_ => ?_)
 have h3 := h_; have r3 := h_; clear h_; try simp only [bb] at h3
 have hT := take_bad (take67_bad (by omega) (by omega) i3 hlow (by omega))
 refine AC.q ⟨[(2, I 0), (3, tD (dS (⟨#[]⟩ : ByteArray))), (4, I 2)], []⟩ ?_
 refine AC.ret ?_
 refine rqr (utake s) (All2.cons (ULe.c (CLe.d (DLe.eq (congrArg dI (show (0) = (takeN s) from ?_))))) (All2.cons (ULe.c (CLe.d (DLe.eq (congrArg dS (show ((⟨#[]⟩ : ByteArray)) = (takeRest s) from ?_))))) (All2.cons (ULe.c (CLe.d (DLe.eq (congrArg dI (show (2) = (takeErr s) from ?_))))) All2.nil)))
 iterate 3 (· first | exact hT.1.symm | exact hT.2.1.symm | exact hT.2.2.symm | (rw [hT.1, takeU_val hK]; exact xor_num (Nat.mod_lt _ (by decide))) | (rw [hT.2.1, hK]; rfl))
 have h3 := h_; have r3 := h_; clear h_; try simp only [bb] at h3
 refine AC.skip ?_
 have hK := take67_K (by omega) (by omega) i3 hlow
 have hT := take_good (take67_ok (by omega) (by omega) i3 hlow (by omega))
 refine AC.dS 12 [] ⟨[(0, tD (dS s)), (z67_5 s k), (z67_3 s k), (z67_4 k), (45, tD (dK .u64 ((vM s (k + 1) : Nat) : Int))), (46, tD (dK .u64 (Int.fdiv ((vM s (k + 1) : Nat) : Int) (2 ^ min ((1 : Int)).toNat IntKind.u64.bits)))), (47, I (IntKind.i64.wrap (Int.fdiv ((vM s (k + 1) : Nat) : Int) (2 ^ min ((1 : Int)).toNat IntKind.u64.bits)))), (48, tD (dK .u64 ((vM s (k + 1) : Nat) : Int))), (49, tD (dK .u64 (bitsAnd .u64 ((vM s (k + 1) : Nat) : Int) (1 : Int)))), (50, I (IntKind.i64.wrap (bitsAnd .u64 ((vM s (k + 1) : Nat) : Int) (1 : Int)))), (51, I (IntKind.i64.wrap (0 - (IntKind.i64.wrap (bitsAnd .u64 ((vM s (k + 1) : Nat) : Int) (1 : Int)))))), (52, I (bitsXor .i64 (IntKind.i64.wrap (Int.fdiv ((vM s (k + 1) : Nat) : Int) (2 ^ min ((1 : Int)).toNat IntKind.u64.bits))) (IntKind.i64.wrap (0 - (IntKind.i64.wrap (bitsAnd .u64 ((vM s (k + 1) : Nat) : Int) (1 : Int))))))), (53, tD (dS s)), (54, I ((k + 1 : Nat) : Int)), (55, tD (dS (s.extract (((k + 1 : Nat) : Int) : Int).toNat ((s.size : Int) : Int).toNat)))], []⟩ [12, 13] (.inl rfl) ?_ ?_
 · exact (au (au (ar 8 (au (au AllUpTo.zero ot) (OpAt.val rfl (by kernel_rfl) (C' := 0 ≤ (1 : Int)) (x := tD (dK .u64 (Int.fdiv ((vM s (k + 1) : Nat) : Int) (2 ^ min ((1 : Int)).toNat IntKind.u64.bits)))) (by kernel_rfl) (by first | omega | (rw [wrap_in (by omega) (by omega)]; omega)) rfl (by kernel_rfl) (by kernel_rfl) (TLe.refl _) (by kernel_rfl) (by kernel_rfl) (by kernel_rfl)))) (OpAt.val rfl (by kernel_rfl) (C' := 0 ≤ (((k + 1 : Nat) : Int) : Int) ∧ (((k + 1 : Nat) : Int) : Int) ≤ (s.size : Int) ∧ (s.size : Int) ≤ (s.size : Int)) (x := tD (dS (s.extract (((k + 1 : Nat) : Int) : Int).toNat ((s.size : Int) : Int).toNat))) (by kernel_rfl) (by omega) rfl (by kernel_rfl) (by kernel_rfl) (TLe.refl _) (by kernel_rfl) (by kernel_rfl) (by kernel_rfl))) ot)
 refine AOps.e ⟨[(z67_5 s k), (3, tD (dS (s.extract (((k + 1 : Nat) : Int) : Int).toNat ((s.size : Int) : Int).toNat))), (4, I 0)], []⟩ ?_
 refine AC.ret ?_
 refine rqr (utake s) (All2.cons (ULe.c (CLe.d (DLe.eq (congrArg dI (show ((bitsXor .i64 (IntKind.i64.wrap (Int.fdiv ((vM s (k + 1) : Nat) : Int) (2 ^ min ((1 : Int)).toNat IntKind.u64.bits))) (IntKind.i64.wrap (0 - (IntKind.i64.wrap (bitsAnd .u64 ((vM s (k + 1) : Nat) : Int) (1 : Int))))))) = (takeN s) from ?_))))) (All2.cons (ULe.c (CLe.d (DLe.eq (congrArg dS (show ((s.extract (((k + 1 : Nat) : Int) : Int).toNat ((s.size : Int) : Int).toNat)) = (takeRest s) from ?_))))) (All2.cons (ULe.c (CLe.d (DLe.eq (congrArg dI (show (0) = (takeErr s) from ?_))))) All2.nil)))
 iterate 3 (· first | exact hT.1.symm | exact hT.2.1.symm | exact hT.2.2.symm | (rw [hT.1, takeU_val hK]; exact xor_num (Nat.mod_lt _ (by decide))) | (rw [hT.2.1, hK]; rfl))
 intro hps_
 refine AC.q ⟨[(0, tD (dS s)), (5, tD (dK .u64 0))], []⟩ ?_
 refine AC.q ⟨[(0, tD (dS s)), (5, tD (dK .u64 0)), (6, I 0)], []⟩ ?_
 refine AC.seq ?_
 refine AC.label ?_
 exact AC.le (Le.of (lk rfl (LeS.cons rfl (TLe.eq (congrArg (fun x_ => T.one (U.c (C.d (dK .u64 x_)))) (show ((0) : Int) = (((vM s 0 : Nat) : Int)) by rfl))) (LeS.cons rfl (TLe.i (by rfl)) LeS.nil))) LeE.nil (by kernel_rfl)) (hps_ (0) (by exact ⟨by omega, by omega, fun i hi => by omega⟩))
end Go.Proofs.Ytfpmgnkbklnkaaa.Eng
end
section
set_option linter.unusedSimpArgs false
set_option linter.unusedVariables false
set_option maxRecDepth 100000
set_option maxHeartbeats 4000000
namespace Go.Proofs.Ytfpmgnkbklnkaaa.Eng
open Go Go.Proofs
abbrev uvalue (r : Rec) : List U := [.c (.d (dI (valN r))), .c (.d (dB (valOk r)))]
/-- headgate/engine.Value. -/
theorem ok_value (r : Rec) :
 FnOk Try.prog 51 [.agg ((eRec r).map .d)] (fun r_ => r_ = .tup [.c (.d (dI (valN r))), .c (.d (dB (valOk r)))]) := by
 refine FnOk.go Try.func51 rfl 21 ?_
 intro w0 m0
 show AC _ _ ⟨[(0, tA ((eRec r).map .d))], []⟩ _
 refine AC.q ⟨[sp 1], [(1, .var ((eRec r).map .d))]⟩ ?_
 refine AC.rS [0, 1, 2, 3, 4, 5, 6, 7, 8, 9] ?_
 refine AOps.m [0, 1] ⟨[(9, tD (dS r.Text))], []⟩ ?_
 refine AOps.ca (ok_take r.Text) ?_
 rintro _ rfl
 refine AOps.e ⟨[(4, I (takeN r.Text)), (5, tD (dS (takeRest r.Text))), (6, I (takeErr r.Text))], []⟩ ?_
 refine AC.rS [0, 1, 2, 3, 4, 5, 6, 7, 8] ?_
 refine AOps.m [0, 1, 2, 3] ⟨[(5, tD (dS (takeRest r.Text))), (14, I (takeN r.Text)), (17, B ((takeErr r.Text) == 0))], []⟩ ?_
 refine AOps.s [4, 5] 6 17 19 20 true ((takeErr r.Text) == 0) ((takeRest r.Text).toList == (⟨#[]⟩ : ByteArray).toList) [14] (fun h_ => ?_) ?_
 clear h_
 refine AOps.m [4, 5] ⟨[(14, I (takeN r.Text)), (17, B true), (19, B ((takeRest r.Text).toList == (⟨#[]⟩ : ByteArray).toList))], []⟩ ?_
 exact scd
 refine AOps.e ⟨[(2, I (takeN r.Text)), (3, B (((takeErr r.Text) == 0) && ((takeRest r.Text).toList == (⟨#[]⟩ : ByteArray).toList)))], []⟩ ?_
 refine AC.ret ?_
 refine rqr (uvalue r) (All2.cons (ULe.c (CLe.d (DLe.eq (congrArg dI (show (takeN r.Text) = (valN r) from ?_))))) (All2.cons (ULe.c (CLe.d (DLe.eq (congrArg dB (show (((takeErr r.Text) == 0) && ((takeRest r.Text).toList == (⟨#[]⟩ : ByteArray).toList)) = (valOk r) from ?_))))) All2.nil))
 iterate 2 (· first | rfl | exact rest_empty)
end Go.Proofs.Ytfpmgnkbklnkaaa.Eng
end
section
set_option linter.unusedSimpArgs false
set_option linter.unusedVariables false
set_option maxRecDepth 100000
set_option maxHeartbeats 4000000
namespace Go.Proofs.Ytfpmgnkbklnkaaa.Eng
open Go Go.Proofs
abbrev z41D_0 (l : List Cell) : Nat × T := (0, tD (row 12 eCell zCell l))
abbrev z41D_1 : Nat × Blk := (1005, arow 46 12 eCell zCell ([] : List Cell))
/-- slices.Clone[[]headgate/api.Cell,headgate/api.Cell]. -/
theorem ok_cloneD (l : List Cell) (hl : l.length ≤ 1000) :
 FnG Try.prog 41 [.c (.d (row 12 eCell zCell l))] [] (fun r_ e_ => r_ = tG 5000 12 0 l.length ∧ e_ = [(5000, arow 46 12 eCell zCell l)]) := by
 refine FnG.intro Try.func41 rfl (by kernel_rfl) (by kernel_rfl) (by kernel_rfl) (by kernel_rfl) (N := 8) (by kernel_rfl) ?_
 intro w0 m0 F_ β_
 show AC _ _ ⟨[(z41D_0 l)], []⟩ _
 refine AC.q ⟨[(z41D_0 l)], []⟩ ?_
 refine AC.seq ?_
 refine AC.rS [0, 1] ?_
 refine AOps.m [0] ⟨[(z41D_0 l), (3, tD (row 12 eCell zCell l))], []⟩ ?_
 refine AOps.nilTest rfl (by kernel_rfl) rfl (e := 46) (by kernel_rfl) (n := l.length) (by kernel_rfl) rfl (by kernel_rfl) ?_
 intro nb4 hnb4
 refine AOps.n ⟨[(z41D_0 l), (4, B nb4)], []⟩ ?_
 refine AOps.done ?_
 refine AC.cd (b := nb4) (fun h_ => ?_) (fun h_ => ?_)
 have h1 := h_; have r1 := h_; clear h_; try simp only [bb] at h1
 refine AC.q ⟨[(2, tD (.v (.slice none 0 0)))], []⟩ ?_
 refine AC.nl 1002 2 46 12 (fun i_ j_ => nth (eCell (([] : List Cell).getD i_ zCell)) j_) ⟨[(2, tG 1002 12 0 (([] : List Cell).length))], [(1002, arow 46 12 eCell zCell ([] : List Cell))]⟩ ?_
 refine AC.ret ?_
 refine ResG.ret (Q := fun r_ e_ => r_ = tG 5000 12 0 l.length ∧ e_ = [(5000, arow 46 12 eCell zCell l)]) [(5000, 1002)] (us := [.c (.gs 1002 12 0 (([] : List Cell).length))]) (us' := [.c (.gs 5000 12 0 l.length)]) (env' := [(5000, arow 46 12 eCell zCell l)]) (by kernel_rfl) (us_cons (w' := .c (.gs 1002 12 0 l.length)) (by kernel_rfl) (ULe.c (CLe.gs (congrArg List.length (show (([] : List Cell)) = (l) from ?_)))) us_nil) (endE_cons (b' := arow 46 12 eCell zCell l) (by kernel_rfl) (by kernel_rfl) (BLe.eq (congrArg (arow 46 12 eCell zCell) (show (([] : List Cell)) = (l) from ?_))) endE_nil) (by kernel_rfl) ⟨rfl, rfl⟩
 iterate 2 (· first | rfl | (simp; done) | (have := hnb4 (by assumption); simp_all; done) | exact (List.eq_nil_of_length_eq_zero (hnb4 (by assumption))).symm)
 have h1 := h_; have r1 := h_; clear h_; try simp only [bb] at h1
 refine AC.skip ?_
 refine AC.rS [0, 1, 2, 3] ?_
 refine AOps.empty rfl (by kernel_rfl) rfl (e := 46) (sz := 12) (n := 1005) (by kernel_rfl) (by kernel_rfl) (fun i_ j_ => nth (eCell (([] : List Cell).getD i_ zCell)) j_) (by kernel_rfl) (by kernel_rfl) rfl (by kernel_rfl) ?_
 refine AOps.n ⟨[(z41D_0 l), (4, B nb4), (5, tG 1005 12 0 (([] : List Cell).length))], [(z41D_1)]⟩ ?_
 refine AOps.n ⟨[(z41D_0 l), (5, tG 1005 12 0 (([] : List Cell).length))], [(z41D_1)]⟩ ?_
 refine AOps.mc [1, 2] (C' := (([] : List Cell).length = ([] : List Cell).length ∧ ([] : List Cell).length + l.length ≤ 9223372036854775807 ∧ (([] : List Cell).length + l.length) * 96 ≤ 140737488355328) ∧ True) ⟨[(7, tG 1005 12 0 (([] : List Cell).length + l.length))], [(1005, .arr 46 12 (([] : List Cell).length + l.length) fun i_ j_ => bif Nat.blt i_ ([] : List Cell).length then nth (eCell (([] : List Cell).getD i_ zCell)) j_ else nth (eCell (l.getD (i_ - ([] : List Cell).length) zCell)) j_)]⟩ (⟨by simp; omega, trivial⟩) ?_
 refine AOps.le (st' := ⟨[(7, tG 1005 12 0 ((([] : List Cell) ++ l).length))], [(1005, arow 46 12 eCell zCell (([] : List Cell) ++ l))]⟩) (Le.of (LeS.cons rfl (TLe.gs (lenL _ _)) LeS.nil) (LeE.cons rfl (BLe.appL (e := 46) (sz := 12) (enc := eCell) (d := zCell) (L := ([] : List Cell)) (K := l)) LeE.nil) (by kernel_rfl)) ?_
 refine AOps.e ⟨[(2, tG 1005 12 0 ((([] : List Cell) ++ l).length))], [(1005, arow 46 12 eCell zCell (([] : List Cell) ++ l))]⟩ ?_
 refine AC.ret ?_
 refine ResG.ret (Q := fun r_ e_ => r_ = tG 5000 12 0 l.length ∧ e_ = [(5000, arow 46 12 eCell zCell l)]) [(5000, 1005)] (us := [.c (.gs 1005 12 0 ((([] : List Cell) ++ l).length))]) (us' := [.c (.gs 5000 12 0 l.length)]) (env' := [(5000, arow 46 12 eCell zCell l)]) (by kernel_rfl) (us_cons (w' := .c (.gs 1005 12 0 l.length)) (by kernel_rfl) (ULe.c (CLe.gs (congrArg List.length (show ((([] : List Cell) ++ l)) = (l) from ?_)))) us_nil) (endE_cons (b' := arow 46 12 eCell zCell l) (by kernel_rfl) (by kernel_rfl) (BLe.eq (congrArg (arow 46 12 eCell zCell) (show ((([] : List Cell) ++ l)) = (l) from ?_))) endE_nil) (by kernel_rfl) ⟨rfl, rfl⟩
 iterate 2 (· first | rfl | (simp; done) | (have := hnb4 (by assumption); simp_all; done) | exact (List.eq_nil_of_length_eq_zero (hnb4 (by assumption))).symm)
abbrev z41G_0 (l : List Cell) : Nat × T := (0, tG 9500 12 0 l.length)
abbrev z41G_1 (l : List Cell) : Nat × Blk := (9500, arow 46 12 eCell zCell l)
abbrev z41G_2 : Nat × T := (5, tG 1005 12 0 (([] : List Cell).length))
abbrev z41G_3 : Nat × Blk := (1005, arow 46 12 eCell zCell ([] : List Cell))
abbrev z41G_4 (l : List Cell) : Nat × Blk := (1005, arow 46 12 eCell zCell (([] : List Cell) ++ l))
/-- slices.Clone[[]headgate/api.Cell,headgate/api.Cell]. -/
theorem ok_cloneG (l : List Cell) (hl : l.length ≤ 1000) :
 FnG Try.prog 41 [.c (.gs 9500 12 0 l.length)] [(9500, arow 46 12 eCell zCell l)] (fun r_ e_ => r_ = tG 5000 12 0 l.length ∧ e_ = [(5000, arow 46 12 eCell zCell l), (9500, arow 46 12 eCell zCell l)]) := by
 refine FnG.intro Try.func41 rfl (by kernel_rfl) (by kernel_rfl) (by kernel_rfl) (by kernel_rfl) (N := 8) (by kernel_rfl) ?_
 intro w0 m0 F_ β_
 show AC _ _ ⟨[(z41G_0 l)], [(z41G_1 l)]⟩ _
 refine AC.q ⟨[(z41G_0 l)], [(z41G_1 l)]⟩ ?_
 refine AC.seq ?_
 refine AC.rS [0, 1] ?_
 refine AOps.m [0] ⟨[(z41G_0 l), (3, tG 9500 12 0 l.length)], [(z41G_1 l)]⟩ ?_
 refine AOps.nilTest rfl (by kernel_rfl) rfl (e := 46) (by kernel_rfl) (n := l.length) (by kernel_rfl) rfl (by kernel_rfl) ?_
 intro nb4 hnb4
 refine AOps.n ⟨[(z41G_0 l), (4, B nb4)], [(z41G_1 l)]⟩ ?_
 refine AOps.done ?_
 refine AC.cd (b := nb4) (fun h_ => ?_) (fun h_ => ?_)
 have h1 := h_; have r1 := h_; clear h_; try simp only [bb] at h1
 refine AC.q ⟨[(2, tD (.v (.slice none 0 0)))], [(z41G_1 l)]⟩ ?_
 refine AC.nl 1002 2 46 12 (fun i_ j_ => nth (eCell (([] : List Cell).getD i_ zCell)) j_) ⟨[(2, tG 1002 12 0 (([] : List Cell).length))], [(1002, arow 46 12 eCell zCell ([] : List Cell)), (z41G_1 l)]⟩ ?_
 refine AC.ret ?_
 refine ResG.ret (Q := fun r_ e_ => r_ = tG 5000 12 0 l.length ∧ e_ = [(5000, arow 46 12 eCell zCell l), (9500, arow 46 12 eCell zCell l)]) [(5000, 1002), (9500, 9500)] (us := [.c (.gs 1002 12 0 (([] : List Cell).length))]) (us' := [.c (.gs 5000 12 0 l.length)]) (env' := [(5000, arow 46 12 eCell zCell l), (9500, arow 46 12 eCell zCell l)]) (by kernel_rfl) (us_cons (w' := .c (.gs 1002 12 0 l.length)) (by kernel_rfl) (ULe.c (CLe.gs (congrArg List.length (show (([] : List Cell)) = (l) from ?_)))) us_nil) (endE_cons (b' := arow 46 12 eCell zCell l) (by kernel_rfl) (by kernel_rfl) (BLe.eq (congrArg (arow 46 12 eCell zCell) (show (([] : List Cell)) = (l) from ?_))) (endE_cons (b' := arow 46 12 eCell zCell l) (by kernel_rfl) (by kernel_rfl) (BLe.refl _) endE_nil)) (by kernel_rfl) ⟨rfl, rfl⟩
 iterate 2 (· first | rfl | (simp; done) | (have := hnb4 (by assumption); simp_all; done) | exact (List.eq_nil_of_length_eq_zero (hnb4 (by assumption))).symm)
 have h1 := h_; have r1 := h_; clear h_; try simp only [bb] at h1
 refine AC.skip ?_
 refine AC.rS [0, 1, 2, 3] ?_
 refine AOps.empty rfl (by kernel_rfl) rfl (e := 46) (sz := 12) (n := 1005) (by kernel_rfl) (by kernel_rfl) (fun i_ j_ => nth (eCell (([] : List Cell).getD i_ zCell)) j_) (by kernel_rfl) (by kernel_rfl) rfl (by kernel_rfl) ?_
 refine AOps.n ⟨[(z41G_0 l), (4, B nb4), (z41G_2)], [(z41G_3), (z41G_1 l)]⟩ ?_
 refine AOps.n ⟨[(z41G_0 l), (z41G_2)], [(z41G_3), (z41G_1 l)]⟩ ?_
 refine AOps.m [1] ⟨[(z41G_2), (6, tG 9500 12 0 l.length)], [(z41G_3), (z41G_1 l)]⟩ ?_
 refine AOps.cons (step_appendG rfl (by kernel_rfl) rfl rfl rfl rfl (e := 46) (sz0 := 12) (n0 := 1005) (n2 := 9500) (len := ([] : List Cell).length) (k := l.length) (bytes := 96) (by kernel_rfl) (by kernel_rfl) (by kernel_rfl) rfl rfl (by kernel_rfl) (by simp; omega) (by kernel_rfl) rfl (by kernel_rfl)) ?_
 refine AOps.le (st' := ⟨[(6, tG 9500 12 0 l.length), (7, tG 1005 12 0 ((([] : List Cell) ++ l).length))], [(z41G_4 l), (z41G_1 l)]⟩) (Le.of (lk rfl (LeS.cons rfl (TLe.gs (lenL _ _)) LeS.nil)) (LeE.cons rfl (BLe.appL (e := 46) (sz := 12) (enc := eCell) (d := zCell) (L := ([] : List Cell)) (K := l)) (ek rfl LeE.nil)) (by kernel_rfl)) ?_
 refine AOps.n ⟨[(7, tG 1005 12 0 ((([] : List Cell) ++ l).length))], [(z41G_4 l), (z41G_1 l)]⟩ ?_
 refine AOps.e ⟨[(2, tG 1005 12 0 ((([] : List Cell) ++ l).length))], [(z41G_4 l), (z41G_1 l)]⟩ ?_
 refine AC.ret ?_
 refine ResG.ret (Q := fun r_ e_ => r_ = tG 5000 12 0 l.length ∧ e_ = [(5000, arow 46 12 eCell zCell l), (9500, arow 46 12 eCell zCell l)]) [(5000, 1005), (9500, 9500)] (us := [.c (.gs 1005 12 0 ((([] : List Cell) ++ l).length))]) (us' := [.c (.gs 5000 12 0 l.length)]) (env' := [(5000, arow 46 12 eCell zCell l), (9500, arow 46 12 eCell zCell l)]) (by kernel_rfl) (us_cons (w' := .c (.gs 1005 12 0 l.length)) (by kernel_rfl) (ULe.c (CLe.gs (congrArg List.length (show ((([] : List Cell) ++ l)) = (l) from ?_)))) us_nil) (endE_cons (b' := arow 46 12 eCell zCell l) (by kernel_rfl) (by kernel_rfl) (BLe.eq (congrArg (arow 46 12 eCell zCell) (show ((([] : List Cell) ++ l)) = (l) from ?_))) (endE_cons (b' := arow 46 12 eCell zCell l) (by kernel_rfl) (by kernel_rfl) (BLe.refl _) endE_nil)) (by kernel_rfl) ⟨rfl, rfl⟩
 iterate 2 (· first | rfl | (simp; done) | (have := hnb4 (by assumption); simp_all; done) | exact (List.eq_nil_of_length_eq_zero (hnb4 (by assumption))).symm)
end Go.Proofs.Ytfpmgnkbklnkaaa.Eng
end
section
set_option linter.unusedSimpArgs false
set_option linter.unusedVariables false
set_option maxRecDepth 100000
set_option maxHeartbeats 4000000
namespace Go.Proofs.Ytfpmgnkbklnkaaa.Eng
open Go Go.Proofs
abbrev z54_0 (g : Grid) : Nat × Blk := (9000, .var ((eGrid g).map .d))
abbrev z54_1 (mark : Int) (late : Int) (bad : Int) (n : Int) (l : List Cell) : Nat × Blk := (9001, .var ([.d (dI mark), .d (dI late), .d (dI bad), .d (dI n), .gs 9600 12 0 l.length]))
abbrev z54_2 (l : List Cell) : Nat × Blk := (9600, arow 46 12 eCell zCell l)
/-- headgate/engine.Feed$1. -/
theorem ok_feed1 (at_ : Int) (g : Grid) (mark late bad n : Int) (l : List Cell) (hm : mark ≤ 9223372036854775807) :
 FnG Try.prog 54 [.c (.d (dI at_)), .c (.ptr 9000 0), .c (.ptr 9001 0)] [(9000, .var ((eGrid g).map .d)), (9001, .var ([.d (dI mark), .d (dI late), .d (dI bad), .d (dI n), .gs 9600 12 0 l.length])), (9600, arow 46 12 eCell zCell l)] (fun r_ e_ => r_ = B (gridClosed g at_ mark) ∧ e_ = [(9000, .var ((eGrid g).map .d)), (9001, .var ([.d (dI mark), .d (dI late), .d (dI bad), .d (dI n), .gs 9600 12 0 l.length])), (9600, arow 46 12 eCell zCell l)]) := by
 refine FnG.intro Try.func54 rfl (by kernel_rfl) (by kernel_rfl) (by kernel_rfl) (by kernel_rfl) (N := 10) (by kernel_rfl) ?_
 intro w0 m0 F_ β_
 show AC _ _ ⟨[(0, I at_), (1, tP 9000 0), (2, tP 9001 0)], [(z54_0 g), (z54_1 mark late bad n l), (z54_2 l)]⟩ _
 refine AC.q ⟨[(0, I at_), (1, tP 9000 0), (2, tP 9001 0)], [(z54_0 g), (z54_1 mark late bad n l), (z54_2 l)]⟩ ?_
 refine AC.rS [0, 1, 2, 3, 4, 5] ?_
 refine AOps.m [0, 1, 2, 3] ⟨[(5, tA ((eGrid g).map .d)), (6, I at_), (8, I mark)], [(z54_0 g), (z54_1 mark late bad n l), (z54_2 l)]⟩ ?_
 refine AOps.ca (ok_closed g at_ mark (by assumption)) ?_
 rintro _ rfl
 refine AOps.e ⟨[(4, B (gridClosed g at_ mark))], [(z54_0 g), (z54_1 mark late bad n l), (z54_2 l)]⟩ ?_
 refine AC.ret ?_
 exact ResG.ret (Q := fun r_ e_ => r_ = B (gridClosed g at_ mark) ∧ e_ = [(9000, .var ((eGrid g).map .d)), (9001, .var ([.d (dI mark), .d (dI late), .d (dI bad), .d (dI n), .gs 9600 12 0 l.length])), (9600, arow 46 12 eCell zCell l)]) [(9000, 9000), (9001, 9001), (9600, 9600)] (us := [.c (.d (dB (gridClosed g at_ mark)))]) (us' := [.c (.d (dB (gridClosed g at_ mark)))]) (env' := [(9000, .var ((eGrid g).map .d)), (9001, .var ([.d (dI mark), .d (dI late), .d (dI bad), .d (dI n), .gs 9600 12 0 l.length])), (9600, arow 46 12 eCell zCell l)]) (by kernel_rfl) (us_cons (w' := .c (.d (dB (gridClosed g at_ mark)))) (by kernel_rfl) (ULe.refl _) us_nil) (endE_cons (b' := .var ((eGrid g).map .d)) (by kernel_rfl) (by kernel_rfl) (BLe.refl _) (endE_cons (b' := .var ([.d (dI mark), .d (dI late), .d (dI bad), .d (dI n), .gs 9600 12 0 l.length])) (by kernel_rfl) (by kernel_rfl) (BLe.refl _) (endE_cons (b' := arow 46 12 eCell zCell l) (by kernel_rfl) (by kernel_rfl) (BLe.refl _) endE_nil))) (by kernel_rfl) ⟨rfl, rfl⟩
abbrev z83A_0 : Nat × T := (1, .one (.c (.fn 54 [.ptr 9000 0, .ptr 9001 0])))
abbrev y83A_0 (L : List Int) (g : Grid) (mark : Int) (late : Int) (bad : Int) (n : Int) (l : List Cell) : List (Nat × Blk) := [(9000, .var ((eGrid g).map .d)), (9001, .var ([.d (dI mark), .d (dI late), .d (dI bad), .d (dI n), .gs 9600 12 0 l.length])), (9500, arow 3 1 eI 0 L), (9600, arow 46 12 eCell zCell l)]
/-- slices.IndexFunc[[]int,int]. -/
theorem ok_indexfunc54 (L : List Int) (g : Grid) (mark late bad n : Int) (l : List Cell) (hm : mark ≤ 9223372036854775807) (hl : L.length ≤ 1000) :
 FnG Try.prog 83 [.c (.gs 9500 1 0 L.length), .c (.fn 54 [.ptr 9000 0, .ptr 9001 0])] [(9000, .var ((eGrid g).map .d)), (9001, .var ([.d (dI mark), .d (dI late), .d (dI bad), .d (dI n), .gs 9600 12 0 l.length])), (9500, arow 3 1 eI 0 L), (9600, arow 46 12 eCell zCell l)] (fun r_ e_ => r_ = I (idxF (cloI g mark) L) ∧ e_ = [(9000, .var ((eGrid g).map .d)), (9001, .var ([.d (dI mark), .d (dI late), .d (dI bad), .d (dI n), .gs 9600 12 0 l.length])), (9500, arow 3 1 eI 0 L), (9600, arow 46 12 eCell zCell l)]) := by
 refine FnG.intro Try.func83 rfl (by kernel_rfl) (by kernel_rfl) (by kernel_rfl) (by kernel_rfl) (N := 19) (by kernel_rfl) ?_
 intro w0 m0 F_ β_
 show AC _ _ ⟨[(0, tG 9500 1 0 L.length), (z83A_0)], y83A_0 L g mark late bad n l⟩ _
 refine AC.q ⟨[(0, tG 9500 1 0 L.length), (z83A_0)], y83A_0 L g mark late bad n l⟩ ?_
 refine AC.seq ?_
 refine AC.q ⟨[(0, tG 9500 1 0 L.length), (z83A_0), (7, I (L.length : Int)), (8, I 0)], y83A_0 L g mark late bad n l⟩ ?_
 refine AC.block ?_
 refine AC.loop (ι := Nat) (fun i => ⟨[(0, tG 9500 1 0 L.length), (z83A_0), (7, I (L.length : Int)), (8, I (i : Int))], y83A_0 L g mark late bad n l⟩) (fun i => (i ≤ L.length ∧ ∀ j, j < i → (cloI g mark) (L.getD j 0) = false)) (fun i => L.length - i) (0) (by refine ⟨by omega, fun j hj => ?_⟩; omega) (Le.of (lk rfl (lk rfl (lk rfl (LeS.cons rfl (TLe.i (by rfl)) LeS.nil)))) (ek rfl (ek rfl (ek rfl (ek rfl LeE.nil)))) (by kernel_rfl)) ?_
 intro i hi_
 obtain ⟨i1, i2⟩ := hi_
 show AC _ _ ⟨[(0, tG 9500 1 0 L.length), (z83A_0), (7, I (L.length : Int)), (8, I (i : Int))], y83A_0 L g mark late bad n l⟩ _
 refine AC.q ⟨[(0, tG 9500 1 0 L.length), (z83A_0), (7, I (L.length : Int)), (8, I (i : Int)), (9, B (decide ((i : Int) < (L.length : Int))))], y83A_0 L g mark late bad n l⟩ ?_
 refine AC.seq ?_
 refine AC.cd (b := decide ((i : Int) < (L.length : Int))) (fun h_ => ?_) (fun h_ => ?_)
 have h1 := h_; have r1 := h_; clear h_; try simp only [bb] at h1
 refine AC.skip ?_
 refine AC.seq ?_
 refine AC.block ?_
 refine AC.q ⟨[(0, tG 9500 1 0 L.length), (z83A_0), (5, I (i : Int)), (7, I (L.length : Int)), (8, I (i : Int))], y83A_0 L g mark late bad n l⟩ ?_
 refine AC.rS [0, 1, 2, 3, 4, 5] ?_
 refine AOps.mc [0, 1, 2, 3, 4] (C' := (0 ≤ (i : Int) ∧ (i : Int) < (L.length : Int)) ∧ (i < L.length) ∧ True) ⟨[(0, tG 9500 1 0 L.length), (z83A_0), (5, I (i : Int)), (7, I (L.length : Int)), (8, I (i : Int)), (11, .one (.c (.fn 54 [.ptr 9000 0, .ptr 9001 0]))), (15, I (L.getD i 0))], y83A_0 L g mark late bad n l⟩ (⟨by omega, by omega, trivial⟩) ?_
 refine AOps.callG [(9000, 9000), (9001, 9001), (9600, 9600)] rfl (by kernel_rfl) rfl rfl (f := 54) (caps := [.ptr 9000 0, .ptr 9001 0]) (by kernel_rfl) rfl (by kernel_rfl) (ok_feed1 (L.getD i 0) g mark late bad n l (by assumption)) (by kernel_rfl) (hand_cons (by kernel_rfl) (hand_cons (by kernel_rfl) (hand_cons (by kernel_rfl) hand_nil))) (by kernel_rfl) ?_
 rintro _ _ ⟨rfl, rfl⟩
 refine ⟨[(9000, 9000), (9001, 9001), (9600, 9600)], [0, 1, 5, 7, 8], [9500], by kernel_rfl, ?_⟩
 refine AOps.n ⟨[(0, tG 9500 1 0 L.length), (z83A_0), (5, I (i : Int)), (7, I (L.length : Int)), (8, I (i : Int)), (16, B (gridClosed g (L.getD i 0) mark))], y83A_0 L g mark late bad n l⟩ ?_
 refine AOps.done ?_
 refine AC.cd (b := gridClosed g (L.getD i 0) mark) (fun h_ => ?_) (fun h_ => ?_)
 have h2 := h_; have r2 := h_; clear h_; try simp only [bb] at h2
 refine AC.q ⟨[(4, I (i : Int))], y83A_0 L g mark late bad n l⟩ ?_
 refine AC.ret ?_
 exact ResG.ret (Q := fun r_ e_ => r_ = I (idxF (cloI g mark) L) ∧ e_ = [(9000, .var ((eGrid g).map .d)), (9001, .var ([.d (dI mark), .d (dI late), .d (dI bad), .d (dI n), .gs 9600 12 0 l.length])), (9500, arow 3 1 eI 0 L), (9600, arow 46 12 eCell zCell l)]) [(9000, 9000), (9001, 9001), (9500, 9500), (9600, 9600)] (us := [.c (.d (dI (i : Int)))]) (us' := [.c (.d (dI (idxF (cloI g mark) L)))]) (env' := [(9000, .var ((eGrid g).map .d)), (9001, .var ([.d (dI mark), .d (dI late), .d (dI bad), .d (dI n), .gs 9600 12 0 l.length])), (9500, arow 3 1 eI 0 L), (9600, arow 46 12 eCell zCell l)]) (by kernel_rfl) (us_cons (w' := .c (.d (dI (idxF (cloI g mark) L)))) (by kernel_rfl) (ULe.c (CLe.d (DLe.eq (congrArg dI (show ((i : Int)) = (idxF (cloI g mark) L) by first | rfl | exact (idxF_hit (p := (cloI g mark)) (by omega) i2 (by assumption)).symm | exact (idxF_none (p := (cloI g mark)) (fun j hj => i2 j (by omega))).symm))))) us_nil) (endE_cons (b' := .var ((eGrid g).map .d)) (by kernel_rfl) (by kernel_rfl) (BLe.refl _) (endE_cons (b' := .var ([.d (dI mark), .d (dI late), .d (dI bad), .d (dI n), .gs 9600 12 0 l.length])) (by kernel_rfl) (by kernel_rfl) (BLe.refl _) (endE_cons (b' := arow 3 1 eI 0 L) (by kernel_rfl) (by kernel_rfl) (BLe.refl _) (endE_cons (b' := arow 46 12 eCell zCell l) (by kernel_rfl) (by kernel_rfl) (BLe.refl _) endE_nil)))) (by kernel_rfl) ⟨rfl, rfl⟩
 have h2 := h_; have r2 := h_; clear h_; try simp only [bb] at h2
 refine AC.skip ?_
 refine AC.rR [0, 1] ?_
 refine AOps.m [0, 1] ⟨[(0, tG 9500 1 0 L.length), (z83A_0), (7, I (L.length : Int)), (8, I (IntKind.i64.wrap ((i : Int) + 1)))], y83A_0 L g mark late bad n l⟩ ?_
 refine AOps.le (st' := ⟨[(0, tG 9500 1 0 L.length), (z83A_0), (7, I (L.length : Int)), (8, I ((i + 1 : Nat) : Int))], y83A_0 L g mark late bad n l⟩) (Le.of (lk rfl (lk rfl (lk rfl (LeS.cons rfl (TLe.i (by rw [wrap_in (n := ((i : Int) + 1)) (by omega) (by omega)] <;> omega)) LeS.nil)))) (ek rfl (ek rfl (ek rfl (ek rfl LeE.nil)))) (by kernel_rfl)) ?_
 refine AOps.done ?_
 try refine blockA_n ?_
 exact roundA_n (i + 1) (by refine ⟨by omega, fun j hj => ?_⟩; by_cases e : j = i; (subst e; assumption); exact i2 j (by omega)) (by show L.length - (i + 1) < L.length - i; omega) (Le.of (lk rfl (lk rfl (lk rfl (LeS.cons rfl (TLe.i (by omega)) LeS.nil)))) (ek rfl (ek rfl (ek rfl (ek rfl LeE.nil)))) (by kernel_rfl))
 have h1 := h_; have r1 := h_; clear h_; try simp only [bb] at h1
 refine AC.exit ?_
 repeat (first | refine thenA_x ?_ | refine roundA_x ?_ | refine joinA_x ?_ | refine blockA_hit ?_ | refine blockA_miss (by decide) ?_)
 refine AC.q ⟨[(4, I (-1))], y83A_0 L g mark late bad n l⟩ ?_
 refine AC.ret ?_
 exact ResG.ret (Q := fun r_ e_ => r_ = I (idxF (cloI g mark) L) ∧ e_ = [(9000, .var ((eGrid g).map .d)), (9001, .var ([.d (dI mark), .d (dI late), .d (dI bad), .d (dI n), .gs 9600 12 0 l.length])), (9500, arow 3 1 eI 0 L), (9600, arow 46 12 eCell zCell l)]) [(9000, 9000), (9001, 9001), (9500, 9500), (9600, 9600)] (us := [.c (.d (dI (-1)))]) (us' := [.c (.d (dI (idxF (cloI g mark) L)))]) (env' := [(9000, .var ((eGrid g).map .d)), (9001, .var ([.d (dI mark), .d (dI late), .d (dI bad), .d (dI n), .gs 9600 12 0 l.length])), (9500, arow 3 1 eI 0 L), (9600, arow 46 12 eCell zCell l)]) (by kernel_rfl) (us_cons (w' := .c (.d (dI (idxF (cloI g mark) L)))) (by kernel_rfl) (ULe.c (CLe.d (DLe.eq (congrArg dI (show ((-1)) = (idxF (cloI g mark) L) by first | rfl | exact (idxF_hit (p := (cloI g mark)) (by omega) i2 (by assumption)).symm | exact (idxF_none (p := (cloI g mark)) (fun j hj => i2 j (by omega))).symm))))) us_nil) (endE_cons (b' := .var ((eGrid g).map .d)) (by kernel_rfl) (by kernel_rfl) (BLe.refl _) (endE_cons (b' := .var ([.d (dI mark), .d (dI late), .d (dI bad), .d (dI n), .gs 9600 12 0 l.length])) (by kernel_rfl) (by kernel_rfl) (BLe.refl _) (endE_cons (b' := arow 3 1 eI 0 L) (by kernel_rfl) (by kernel_rfl) (BLe.refl _) (endE_cons (b' := arow 46 12 eCell zCell l) (by kernel_rfl) (by kernel_rfl) (BLe.refl _) endE_nil)))) (by kernel_rfl) ⟨rfl, rfl⟩
abbrev z53_0 : Nat × T := (1, .one (.c (.fn 54 [.ptr 9000 0, .ptr 9001 0])))
abbrev z53_1 (g : Grid) : Nat × Blk := (9000, .var ((eGrid g).map .d))
abbrev z53_2 (mark : Int) (late : Int) (bad : Int) (n : Int) (l : List Cell) : Nat × Blk := (9001, .var ([.d (dI mark), .d (dI late), .d (dI bad), .d (dI n), .gs 9600 12 0 l.length]))
abbrev z53_3 (l : List Cell) : Nat × Blk := (9600, arow 46 12 eCell zCell l)
abbrev z53_4 (L : List Int) (g : Grid) (mark : Int) (j : Nat) : Nat × T := (5, I ((kept (cloI g mark) L j).length : Int))
abbrev z53_5 (L : List Int) (g : Grid) (mark : Int) (j : Nat) (M : List Int) : Nat × Blk := (5000, arow 3 1 eI 0 (M.set ((kept (cloI g mark) L j).length) (M.getD j 0)))
abbrev z53_6 (L : List Int) (g : Grid) (mark : Int) (j : Nat) : Nat × T := (38, tG 5000 1 ((kept (cloI g mark) L j).length) ((((L.length : Int) : Int) - ((kept (cloI g mark) L j).length : Int)).toNat))
abbrev z53_7 (L : List Int) (g : Grid) (mark : Int) (j : Nat) (M : List Int) : Nat × Blk := (5000, arow 3 1 eI 0 (M.take ((kept (cloI g mark) L j).length)))
abbrev y53_0 (L : List Int) (g : Grid) (mark : Int) (late : Int) (bad : Int) (n : Int) (l : List Cell) : List (Nat × Blk) := [(5000, arow 3 1 eI 0 L), (z53_1 g), (z53_2 mark late bad n l), (z53_3 l)]
abbrev y53_1 (g : Grid) (mark : Int) (late : Int) (bad : Int) (n : Int) (l : List Cell) (M : List Int) : List (Nat × Blk) := [(5000, arow 3 1 eI 0 M), (z53_1 g), (z53_2 mark late bad n l), (z53_3 l)]
/-- slices.DeleteFunc[[]int,int]. -/
theorem ok_deletefunc54 (L : List Int) (g : Grid) (mark late bad n : Int) (l : List Cell) (hm : mark ≤ 9223372036854775807) (hl : L.length ≤ 1000) :
 FnG Try.prog 53 [.c (.gs 5000 1 0 L.length), .c (.fn 54 [.ptr 9000 0, .ptr 9001 0])] [(5000, arow 3 1 eI 0 L), (9000, .var ((eGrid g).map .d)), (9001, .var ([.d (dI mark), .d (dI late), .d (dI bad), .d (dI n), .gs 9600 12 0 l.length])), (9600, arow 46 12 eCell zCell l)] (fun r_ e_ => r_ = tG 5000 1 0 ((L.filter fun x => !cloI g mark x).length) ∧ e_ = [(5000, arow 3 1 eI 0 (L.filter fun x => !cloI g mark x)), (9000, .var ((eGrid g).map .d)), (9001, .var ([.d (dI mark), .d (dI late), .d (dI bad), .d (dI n), .gs 9600 12 0 l.length])), (9600, arow 46 12 eCell zCell l)]) := by
 refine FnG.intro Try.func53 rfl (by kernel_rfl) (by kernel_rfl) (by kernel_rfl) (by kernel_rfl) (N := 42) (by kernel_rfl) ?_
 intro w0 m0 F_ β_
 show AC _ _ ⟨[(0, tG 5000 1 0 L.length), (z53_0)], y53_0 L g mark late bad n l⟩ _
 refine AC.q ⟨[(0, tG 5000 1 0 L.length), (z53_0)], y53_0 L g mark late bad n l⟩ ?_
 refine AC.rS [0, 1, 2, 3] ?_
 refine AOps.m [0, 1] ⟨[(0, tG 5000 1 0 L.length), (z53_0), (8, tG 5000 1 0 L.length), (9, .one (.c (.fn 54 [.ptr 9000 0, .ptr 9001 0])))], y53_0 L g mark late bad n l⟩ ?_
 refine AOps.callG [(9000, 9000), (9001, 9001), (9500, 5000), (9600, 9600)] rfl (by kernel_rfl) rfl rfl (f := 83) (caps := []) (by kernel_rfl) rfl (by kernel_rfl) (ok_indexfunc54 L g mark late bad n l (by assumption) (by assumption)) (by kernel_rfl) (hand_cons (by kernel_rfl) (hand_cons (by kernel_rfl) (hand_cons (by kernel_rfl) (hand_cons (by kernel_rfl) hand_nil)))) (by kernel_rfl) ?_
 rintro _ _ ⟨rfl, rfl⟩
 refine ⟨[(9000, 9000), (9001, 9001), (9500, 5000), (9600, 9600)], [0, 1], [], by kernel_rfl, ?_⟩
 refine AOps.n ⟨[(0, tG 5000 1 0 L.length), (z53_0), (10, I (idxF (cloI g mark) L))], y53_0 L g mark late bad n l⟩ ?_
 refine AOps.e ⟨[(0, tG 5000 1 0 L.length), (z53_0), (5, I (idxF (cloI g mark) L))], y53_0 L g mark late bad n l⟩ ?_
 refine AC.seq ?_
 refine AC.q ⟨[(0, tG 5000 1 0 L.length), (z53_0), (5, I (idxF (cloI g mark) L)), (12, B ((idxF (cloI g mark) L) == (-1)))], y53_0 L g mark late bad n l⟩ ?_
 refine AC.cd (b := (idxF (cloI g mark) L) == (-1)) (fun h_ => ?_) (fun h_ => ?_)
 have h1 := h_; have r1 := h_; clear h_; try simp only [bb] at h1
 refine AC.q ⟨[(4, tG 5000 1 0 L.length)], y53_0 L g mark late bad n l⟩ ?_
 refine AC.ret ?_
 refine ResG.ret (Q := fun r_ e_ => r_ = tG 5000 1 0 ((L.filter fun x => !cloI g mark x).length) ∧ e_ = [(5000, arow 3 1 eI 0 (L.filter fun x => !cloI g mark x)), (9000, .var ((eGrid g).map .d)), (9001, .var ([.d (dI mark), .d (dI late), .d (dI bad), .d (dI n), .gs 9600 12 0 l.length])), (9600, arow 46 12 eCell zCell l)]) [(5000, 5000), (9000, 9000), (9001, 9001), (9600, 9600)] (us := [.c (.gs 5000 1 0 L.length)]) (us' := [.c (.gs 5000 1 0 ((L.filter fun x => !cloI g mark x).length))]) (env' := [(5000, arow 3 1 eI 0 (L.filter fun x => !cloI g mark x)), (9000, .var ((eGrid g).map .d)), (9001, .var ([.d (dI mark), .d (dI late), .d (dI bad), .d (dI n), .gs 9600 12 0 l.length])), (9600, arow 46 12 eCell zCell l)]) (by kernel_rfl) (us_cons (w' := .c (.gs 5000 1 0 ((L.filter fun x => !cloI g mark x).length))) (by kernel_rfl) (ULe.c (CLe.gs (congrArg List.length (show (L) = ((L.filter fun x => !cloI g mark x)) from ?_)))) us_nil) (endE_cons (b' := arow 3 1 eI 0 (L.filter fun x => !cloI g mark x)) (by kernel_rfl) (by kernel_rfl) (BLe.eq (congrArg (arow 3 1 eI 0) (show (L) = ((L.filter fun x => !cloI g mark x)) from ?_))) (endE_cons (b' := .var ((eGrid g).map .d)) (by kernel_rfl) (by kernel_rfl) (BLe.refl _) (endE_cons (b' := .var ([.d (dI mark), .d (dI late), .d (dI bad), .d (dI n), .gs 9600 12 0 l.length])) (by kernel_rfl) (by kernel_rfl) (BLe.refl _) (endE_cons (b' := arow 46 12 eCell zCell l) (by kernel_rfl) (by kernel_rfl) (BLe.refl _) endE_nil)))) (by kernel_rfl) ⟨rfl, rfl⟩
 iterate 2 (· first | rfl | exact idxF_keep (by first | assumption | omega) | exact kept_all (by omega) | exact del_end i2 (by omega))
 have h1 := h_; have r1 := h_; clear h_; try simp only [bb] at h1
 refine AC.skip ?_
 refine AC.seq ?_
 have hD := del_init (p := (cloI g mark)) (L := L) 0 (by first | assumption | omega)
 have hD1 := hD.2.1; have hD2 := hD.2.2.1; have hD3 := hD.2.2.2.1
 refine AC.rS [0, 1, 2] ?_
 refine AOps.m [0, 1, 2] ⟨[(0, tG 5000 1 0 L.length), (z53_0), (5, I (idxF (cloI g mark) L)), (6, I (IntKind.i64.wrap ((idxF (cloI g mark) L) + 1)))], y53_0 L g mark late bad n l⟩ ?_
 refine AOps.le (st' := ⟨[(0, tG 5000 1 0 L.length), (z53_0), (5, I (idxF (cloI g mark) L)), (6, I ((idxF (cloI g mark) L) + 1))], y53_0 L g mark late bad n l⟩) (Le.of (lk rfl (lk rfl (lk rfl (LeS.cons rfl (TLe.i (by rw [wrap_in (n := ((idxF (cloI g mark) L) + 1)) (by omega) (by omega)] <;> omega)) LeS.nil)))) (ek rfl (ek rfl (ek rfl (ek rfl LeE.nil)))) (by kernel_rfl)) ?_
 refine AOps.done ?_
 refine AC.block ?_
 refine AC.loop (ι := Nat × List Int) (fun x_ => match x_ with | (j, M) => ⟨[(0, tG 5000 1 0 L.length), (z53_0), (z53_4 L g mark j), (6, I (j : Int))], y53_1 g mark late bad n l M⟩) (fun x_ => match x_ with | (j, M) => (j ≤ L.length ∧ DelI (cloI g mark) L j M)) (fun x_ => match x_ with | (j, M) => L.length - j) ((idxF (cloI g mark) L).toNat + 1, L) (by exact ⟨hD3, hD.1⟩) (Le.of (lk rfl (lk rfl (LeS.cons rfl (TLe.i ?_) (LeS.cons rfl (TLe.i ?_) LeS.nil)))) (ek rfl (ek rfl (ek rfl (ek rfl LeE.nil)))) (by kernel_rfl)) ?_
 iterate 2 (· first | rfl | exact hD1 | omega)
 intro x_ hi_
 obtain ⟨j, M⟩ := x_
 obtain ⟨i1, i2⟩ := hi_
 show AC _ _ ⟨[(0, tG 5000 1 0 L.length), (z53_0), (z53_4 L g mark j), (6, I (j : Int))], y53_1 g mark late bad n l M⟩ _
 have hML := i2.1
 have hKj := i2.2.2.2
 refine AC.seq ?_
 refine AC.q ⟨[(0, tG 5000 1 0 L.length), (z53_0), (z53_4 L g mark j), (6, I (j : Int)), (19, B (decide ((j : Int) < (L.length : Int))))], y53_1 g mark late bad n l M⟩ ?_
 refine AC.cd (b := decide ((j : Int) < (L.length : Int))) (fun h_ => ?_) (fun h_ => ?_)
 have h2 := h_; have r2 := h_; clear h_; try simp only [bb] at h2
 refine AC.skip ?_
 refine AC.seq ?_
 refine AC.block ?_
 refine AC.rS [0, 1, 2, 3, 4] ?_
 refine AOps.ec (C' := (0 ≤ (j : Int) ∧ (j : Int) < (L.length : Int)) ∧ (j < M.length) ∧ True) ⟨[(0, tG 5000 1 0 L.length), (z53_0), (z53_4 L g mark j), (6, I (j : Int)), (7, I (M.getD j 0))], y53_1 g mark late bad n l M⟩ (⟨by omega, by omega, trivial⟩) ?_
 refine AC.rS [0, 1, 2, 3] ?_
 refine AOps.m [0, 1] ⟨[(0, tG 5000 1 0 L.length), (z53_0), (z53_4 L g mark j), (6, I (j : Int)), (7, I (M.getD j 0)), (26, .one (.c (.fn 54 [.ptr 9000 0, .ptr 9001 0]))), (27, I (M.getD j 0))], y53_1 g mark late bad n l M⟩ ?_
 refine AOps.callG [(9000, 9000), (9001, 9001), (9600, 9600)] rfl (by kernel_rfl) rfl rfl (f := 54) (caps := [.ptr 9000 0, .ptr 9001 0]) (by kernel_rfl) rfl (by kernel_rfl) (ok_feed1 (M.getD j 0) g mark late bad n l (by assumption)) (by kernel_rfl) (hand_cons (by kernel_rfl) (hand_cons (by kernel_rfl) (hand_cons (by kernel_rfl) hand_nil))) (by kernel_rfl) ?_
 rintro _ _ ⟨rfl, rfl⟩
 refine ⟨[(9000, 9000), (9001, 9001), (9600, 9600)], [0, 1, 5, 6, 7], [5000], by kernel_rfl, ?_⟩
 refine AOps.n ⟨[(0, tG 5000 1 0 L.length), (z53_0), (z53_4 L g mark j), (6, I (j : Int)), (7, I (M.getD j 0)), (28, B (gridClosed g (M.getD j 0) mark))], y53_1 g mark late bad n l M⟩ ?_
 refine AOps.e ⟨[(0, tG 5000 1 0 L.length), (z53_0), (z53_4 L g mark j), (6, I (j : Int)), (7, I (M.getD j 0)), (29, B (!(gridClosed g (M.getD j 0) mark)))], y53_1 g mark late bad n l M⟩ ?_
 refine AC.cd (b := !(gridClosed g (M.getD j 0) mark)) (fun h_ => ?_) (fun h_ => ?_)
 have h3 := h_; have r3 := h_; clear h_; try simp only [bb] at h3
 refine AC.rS [0, 1, 2, 3, 4] ?_
 refine AOps.mc [0, 1, 2, 3] (C' := (0 ≤ ((kept (cloI g mark) L j).length : Int) ∧ ((kept (cloI g mark) L j).length : Int) < (L.length : Int)) ∧ True) ⟨[(0, tG 5000 1 0 L.length), (z53_0), (z53_4 L g mark j), (6, I (j : Int)), (32, I (M.getD j 0)), (33, .one (.c (.ep 5000 1 ((kept (cloI g mark) L j).length) 0)))], y53_1 g mark late bad n l M⟩ (⟨by omega, trivial⟩) ?_
 refine AOps.cons (step_storeE rfl (by kernel_rfl) rfl (n := 5000) (sz := 1) (i := ((kept (cloI g mark) L j).length)) (off := 0) (by kernel_rfl) (e := 3) (k := M.length) (get := fun i_ j_ => nth (eI (M.getD i_ 0)) j_) (l := [.d (dI (M.getD j 0))]) (c := [dI (M.getD j 0)]) rfl (by kernel_rfl) (by kernel_rfl) (by kernel_rfl) (by omega) (by kernel_rfl) rfl) ?_
 refine AOps.le (st' := ⟨[(0, tG 5000 1 0 L.length), (z53_0), (z53_4 L g mark j), (6, I (j : Int)), (32, I (M.getD j 0)), (33, .one (.c (.ep 5000 1 ((kept (cloI g mark) L j).length) 0)))], [(z53_5 L g mark j M), (z53_1 g), (z53_2 mark late bad n l), (z53_3 l)]⟩) (Le.of (lk rfl (lk rfl (lk rfl (lk rfl (lk rfl (lk rfl LeS.nil)))))) (LeE.cons rfl (BLe.setE (L := M) (x := (M.getD j 0)) (i := ((kept (cloI g mark) L j).length)) (off := 0) (by omega) (fun j_ hj_ => by (obtain rfl : j_ = 0 := (by omega)) <;> rfl)) (ek rfl (ek rfl (ek rfl LeE.nil)))) (by kernel_rfl)) ?_
 refine AOps.n ⟨[(0, tG 5000 1 0 L.length), (z53_0), (z53_4 L g mark j), (6, I (j : Int))], [(z53_5 L g mark j M), (z53_1 g), (z53_2 mark late bad n l), (z53_3 l)]⟩ ?_
 refine AOps.done ?_
 refine AC.rR [0, 1, 2] ?_
 refine AOps.m [0, 1, 2] ⟨[(0, tG 5000 1 0 L.length), (z53_0), (5, I (IntKind.i64.wrap (((kept (cloI g mark) L j).length : Int) + 1))), (6, I (j : Int))], [(z53_5 L g mark j M), (z53_1 g), (z53_2 mark late bad n l), (z53_3 l)]⟩ ?_
 refine AOps.le (st' := ⟨[(0, tG 5000 1 0 L.length), (z53_0), (5, I (((kept (cloI g mark) L j).length + 1 : Nat) : Int)), (6, I (j : Int))], [(z53_5 L g mark j M), (z53_1 g), (z53_2 mark late bad n l), (z53_3 l)]⟩) (Le.of (lk rfl (lk rfl (LeS.cons rfl (TLe.i (by rw [wrap_in (n := (((kept (cloI g mark) L j).length : Int) + 1)) (by omega) (by omega)] <;> omega)) (lk rfl LeS.nil)))) (ek rfl (ek rfl (ek rfl (ek rfl LeE.nil)))) (by kernel_rfl)) ?_
 refine AOps.done ?_
 refine AC.rR [0, 1, 2] ?_
 refine AOps.m [0, 1, 2] ⟨[(0, tG 5000 1 0 L.length), (z53_0), (5, I (((kept (cloI g mark) L j).length + 1 : Nat) : Int)), (6, I (IntKind.i64.wrap ((j : Int) + 1)))], [(z53_5 L g mark j M), (z53_1 g), (z53_2 mark late bad n l), (z53_3 l)]⟩ ?_
 refine AOps.le (st' := ⟨[(0, tG 5000 1 0 L.length), (z53_0), (5, I (((kept (cloI g mark) L j).length + 1 : Nat) : Int)), (6, I ((j + 1 : Nat) : Int))], [(z53_5 L g mark j M), (z53_1 g), (z53_2 mark late bad n l), (z53_3 l)]⟩) (Le.of (lk rfl (lk rfl (lk rfl (LeS.cons rfl (TLe.i (by rw [wrap_in (n := ((j : Int) + 1)) (by omega) (by omega)] <;> omega)) LeS.nil)))) (ek rfl (ek rfl (ek rfl (ek rfl LeE.nil)))) (by kernel_rfl)) ?_
 refine AOps.done ?_
 try refine blockA_n ?_
 refine roundA_n (j + 1, (M.set ((kept (cloI g mark) L j).length) (M.getD j 0))) (by first | exact ⟨by omega, del_keep i2 (by omega) (by assumption)⟩ | exact ⟨by omega, del_skip i2 (by omega) (by assumption)⟩) (by show L.length - (j + 1) < L.length - j; omega) (Le.of (lk rfl (lk rfl (LeS.cons rfl (TLe.i ?_) (LeS.cons rfl (TLe.i ?_) LeS.nil)))) (ek rfl (ek rfl (ek rfl (ek rfl LeE.nil)))) (by kernel_rfl))
 iterate 2 (· first | rfl | omega | exact keep_cnt i2 (by omega) (by assumption) | exact skip_cnt i2 (by omega) (by assumption))
 have h3 := h_; have r3 := h_; clear h_; try simp only [bb] at h3
 refine AC.skip ?_
 refine AC.rR [0, 1, 2] ?_
 refine AOps.m [0, 1, 2] ⟨[(0, tG 5000 1 0 L.length), (z53_0), (z53_4 L g mark j), (6, I (IntKind.i64.wrap ((j : Int) + 1)))], y53_1 g mark late bad n l M⟩ ?_
 refine AOps.le (st' := ⟨[(0, tG 5000 1 0 L.length), (z53_0), (z53_4 L g mark j), (6, I ((j + 1 : Nat) : Int))], y53_1 g mark late bad n l M⟩) (Le.of (lk rfl (lk rfl (lk rfl (LeS.cons rfl (TLe.i (by rw [wrap_in (n := ((j : Int) + 1)) (by omega) (by omega)] <;> omega)) LeS.nil)))) (ek rfl (ek rfl (ek rfl (ek rfl LeE.nil)))) (by kernel_rfl)) ?_
 refine AOps.done ?_
 try refine blockA_n ?_
 refine roundA_n (j + 1, M) (by first | exact ⟨by omega, del_keep i2 (by omega) (by assumption)⟩ | exact ⟨by omega, del_skip i2 (by omega) (by assumption)⟩) (by show L.length - (j + 1) < L.length - j; omega) (Le.of (lk rfl (lk rfl (LeS.cons rfl (TLe.i ?_) (LeS.cons rfl (TLe.i ?_) LeS.nil)))) (ek rfl (ek rfl (ek rfl (ek rfl LeE.nil)))) (by kernel_rfl))
 iterate 2 (· first | rfl | omega | exact keep_cnt i2 (by omega) (by assumption) | exact skip_cnt i2 (by omega) (by assumption))
 have h2 := h_; have r2 := h_; clear h_; try simp only [bb] at h2
 refine AC.exit ?_
 repeat (first | refine thenA_x ?_ | refine roundA_x ?_ | refine joinA_x ?_ | refine blockA_hit ?_ | refine blockA_miss (by decide) ?_)
 refine AC.rS [0, 1, 2, 3] ?_
 refine AOps.mc [0, 1, 2] (C' := (0 ≤ (((kept (cloI g mark) L j).length : Int) : Int) ∧ (((kept (cloI g mark) L j).length : Int) : Int) ≤ (L.length : Int) ∧ (L.length : Int) ≤ (L.length : Int) ∧ ((((kept (cloI g mark) L j).length : Int) : Int) = 0 ∨ (((kept (cloI g mark) L j).length : Int) : Int) < (L.length : Int))) ∧ True) ⟨[(0, tG 5000 1 0 L.length), (z53_4 L g mark j), (z53_6 L g mark j)], y53_1 g mark late bad n l M⟩ (⟨by omega, trivial⟩) ?_
 refine AOps.clear rfl (by kernel_rfl) rfl rfl rfl rfl rfl (n := 5000) (e := 3) (sz := 1) (lo := (kept (cloI g mark) L j).length) (len := (((L.length : Int) : Int) - ((kept (cloI g mark) L j).length : Int)).toNat) (by kernel_rfl) rfl (by kernel_rfl) (by kernel_rfl) (by omega) ?_
 refine AOps.le (st' := ⟨[(0, tG 5000 1 0 L.length), (z53_4 L g mark j), (z53_6 L g mark j)], [(z53_7 L g mark j M), (z53_1 g), (z53_2 mark late bad n l), (z53_3 l)]⟩) (Le.of (lk rfl (lk rfl (lk rfl LeS.nil))) (LeE.cons rfl (BLe.cutA (L := M) (by omega)) (ek rfl (ek rfl (ek rfl LeE.nil)))) (by kernel_rfl)) ?_
 refine AOps.n ⟨[(0, tG 5000 1 0 L.length), (z53_4 L g mark j)], [(z53_7 L g mark j M), (z53_1 g), (z53_2 mark late bad n l), (z53_3 l)]⟩ ?_
 refine AOps.done ?_
 refine AC.rS [0, 1, 2, 3] ?_
 refine AOps.mc [0, 1, 2] (C' := (0 ≤ (0 : Int) ∧ (0 : Int) ≤ ((kept (cloI g mark) L j).length : Int) ∧ ((kept (cloI g mark) L j).length : Int) ≤ (L.length : Int) ∧ ((0 : Int) = 0 ∨ (0 : Int) < ((kept (cloI g mark) L j).length : Int))) ∧ True) ⟨[(41, tG 5000 1 0 (((((kept (cloI g mark) L j).length : Int) : Int) - 0).toNat))], [(z53_7 L g mark j M), (z53_1 g), (z53_2 mark late bad n l), (z53_3 l)]⟩ (⟨by omega, trivial⟩) ?_
 refine AOps.le (st' := ⟨[(41, tG 5000 1 0 ((kept (cloI g mark) L j).length))], [(z53_7 L g mark j M), (z53_1 g), (z53_2 mark late bad n l), (z53_3 l)]⟩) (Le.of (LeS.cons rfl (TLe.gs (by omega)) LeS.nil) (ek rfl (ek rfl (ek rfl (ek rfl LeE.nil)))) (by kernel_rfl)) ?_
 refine AOps.e ⟨[(4, tG 5000 1 0 ((kept (cloI g mark) L j).length))], [(z53_7 L g mark j M), (z53_1 g), (z53_2 mark late bad n l), (z53_3 l)]⟩ ?_
 refine AC.ret ?_
 refine ResG.ret (Q := fun r_ e_ => r_ = tG 5000 1 0 ((L.filter fun x => !cloI g mark x).length) ∧ e_ = [(5000, arow 3 1 eI 0 (L.filter fun x => !cloI g mark x)), (9000, .var ((eGrid g).map .d)), (9001, .var ([.d (dI mark), .d (dI late), .d (dI bad), .d (dI n), .gs 9600 12 0 l.length])), (9600, arow 46 12 eCell zCell l)]) [(5000, 5000), (9000, 9000), (9001, 9001), (9600, 9600)] (us := [.c (.gs 5000 1 0 ((kept (cloI g mark) L j).length))]) (us' := [.c (.gs 5000 1 0 ((L.filter fun x => !cloI g mark x).length))]) (env' := [(5000, arow 3 1 eI 0 (L.filter fun x => !cloI g mark x)), (9000, .var ((eGrid g).map .d)), (9001, .var ([.d (dI mark), .d (dI late), .d (dI bad), .d (dI n), .gs 9600 12 0 l.length])), (9600, arow 46 12 eCell zCell l)]) (by kernel_rfl) (us_cons (w' := .c (.gs 5000 1 0 ((L.filter fun x => !cloI g mark x).length))) (by kernel_rfl) (ULe.c (CLe.gs (congrArg List.length (show ((kept (cloI g mark) L j)) = ((L.filter fun x => !cloI g mark x)) from ?_)))) us_nil) (endE_cons (b' := arow 3 1 eI 0 (L.filter fun x => !cloI g mark x)) (by kernel_rfl) (by kernel_rfl) (BLe.eq (congrArg (arow 3 1 eI 0) (show ((M.take ((kept (cloI g mark) L j).length))) = ((L.filter fun x => !cloI g mark x)) from ?_))) (endE_cons (b' := .var ((eGrid g).map .d)) (by kernel_rfl) (by kernel_rfl) (BLe.refl _) (endE_cons (b' := .var ([.d (dI mark), .d (dI late), .d (dI bad), .d (dI n), .gs 9600 12 0 l.length])) (by kernel_rfl) (by kernel_rfl) (BLe.refl _) (endE_cons (b' := arow 46 12 eCell zCell l) (by kernel_rfl) (by kernel_rfl) (BLe.refl _) endE_nil)))) (by kernel_rfl) ⟨rfl, rfl⟩
 iterate 2 (· first | rfl | exact idxF_keep (by first | assumption | omega) | exact kept_all (by omega) | exact del_end i2 (by omega))
end Go.Proofs.Ytfpmgnkbklnkaaa.Eng
end
section
set_option linter.unusedSimpArgs false
set_option linter.unusedVariables false
set_option maxRecDepth 100000
set_option maxHeartbeats 4000000
namespace Go.Proofs.Ytfpmgnkbklnkaaa.Eng
open Go Go.Proofs
abbrev z57_0 (O : List Cell) : Nat × Blk := (5001, arow 46 12 eCell zCell O)
abbrev z57_1 (g : Grid) : Nat × Blk := (9000, .var ((eGrid g).map .d))
abbrev z57_2 (mark : Int) (late : Int) (bad : Int) (n : Int) : Nat × Blk := (9001, .var ([.d (dI mark), .d (dI late), .d (dI bad), .d (dI n), .any]))
abbrev z57_3 (O : List Cell) : Nat × Blk := (9002, .var [.gs 5001 12 0 O.length])
/-- headgate/engine.Feed$2. -/
theorem ok_feed2 (c : Cell) (O : List Cell) (g : Grid) (mark late bad n : Int) (hm : mark ≤ 9223372036854775807) (hO : O.length ≤ 1000) :
 FnG Try.prog 57 [.agg ((eCell c).map .d), .c (.ptr 9000 0), .c (.ptr 9001 0), .c (.ptr 9002 0)] [(5001, arow 46 12 eCell zCell O), (9000, .var ((eGrid g).map .d)), (9001, .var ([.d (dI mark), .d (dI late), .d (dI bad), .d (dI n), .any])), (9002, .var [.gs 5001 12 0 O.length])] (fun r_ e_ => r_ = B (gridClosed g c.Start mark) ∧ e_ = [(5001, arow 46 12 eCell zCell (overTo g mark O c)), (9000, .var ((eGrid g).map .d)), (9001, .var ([.d (dI mark), .d (dI late), .d (dI bad), .d (dI n), .any])), (9002, .var [.gs 5001 12 0 ((overTo g mark O c).length)])]) := by
 refine FnG.intro Try.func57 rfl (by kernel_rfl) (by kernel_rfl) (by kernel_rfl) (by kernel_rfl) (N := 17) (by kernel_rfl) ?_
 intro w0 m0 F_ β_
 show AC _ _ ⟨[(0, tA ((eCell c).map .d)), (1, tP 9000 0), (2, tP 9001 0), (3, tP 9002 0)], [(z57_0 O), (z57_1 g), (z57_2 mark late bad n), (z57_3 O)]⟩ _
 refine AC.q ⟨[(1, tP 9000 0), (2, tP 9001 0), (3, tP 9002 0), sp 4], [(4, .var ((eCell c).map .d)), (z57_0 O), (z57_1 g), (z57_2 mark late bad n), (z57_3 O)]⟩ ?_
 refine AC.seq ?_
 refine AC.rS [0, 1, 2, 3, 4, 5, 6] ?_
 refine AOps.m [0, 1, 2, 3, 4] ⟨[(3, tP 9002 0), sp 4, (6, tA ((eGrid g).map .d)), (8, I c.Start), (10, I mark)], [(4, .var ((eCell c).map .d)), (z57_0 O), (z57_1 g), (z57_2 mark late bad n), (z57_3 O)]⟩ ?_
 refine AOps.ca (ok_closed g c.Start mark (by assumption)) ?_
 rintro _ rfl
 refine AOps.e ⟨[(3, tP 9002 0), sp 4, (12, B (!(gridClosed g c.Start mark)))], [(4, .var ((eCell c).map .d)), (z57_0 O), (z57_1 g), (z57_2 mark late bad n), (z57_3 O)]⟩ ?_
 refine AC.cd (b := !(gridClosed g c.Start mark)) (fun h_ => ?_) (fun h_ => ?_)
 have h1 := h_; have r1 := h_; clear h_; try simp only [bb] at h1
 refine AC.q ⟨[(5, B false)], [(z57_0 O), (z57_1 g), (z57_2 mark late bad n), (z57_3 O)]⟩ ?_
 refine AC.ret ?_
 refine ResG.ret (Q := fun r_ e_ => r_ = B (gridClosed g c.Start mark) ∧ e_ = [(5001, arow 46 12 eCell zCell (overTo g mark O c)), (9000, .var ((eGrid g).map .d)), (9001, .var ([.d (dI mark), .d (dI late), .d (dI bad), .d (dI n), .any])), (9002, .var [.gs 5001 12 0 ((overTo g mark O c).length)])]) [(5001, 5001), (9000, 9000), (9001, 9001), (9002, 9002)] (us := [.c (.d (dB false))]) (us' := [.c (.d (dB (gridClosed g c.Start mark)))]) (env' := [(5001, arow 46 12 eCell zCell (overTo g mark O c)), (9000, .var ((eGrid g).map .d)), (9001, .var ([.d (dI mark), .d (dI late), .d (dI bad), .d (dI n), .any])), (9002, .var [.gs 5001 12 0 ((overTo g mark O c).length)])]) (by kernel_rfl) (us_cons (w' := .c (.d (dB (gridClosed g c.Start mark)))) (by kernel_rfl) (ULe.c (CLe.d (DLe.eq (congrArg dB (show (false) = (gridClosed g c.Start mark) from ?_))))) us_nil) (endE_cons (b' := arow 46 12 eCell zCell (overTo g mark O c)) (by kernel_rfl) (by kernel_rfl) (BLe.eq (congrArg (arow 46 12 eCell zCell) (show (O) = ((overTo g mark O c)) from ?_))) (endE_cons (b' := .var ((eGrid g).map .d)) (by kernel_rfl) (by kernel_rfl) (BLe.refl _) (endE_cons (b' := .var ([.d (dI mark), .d (dI late), .d (dI bad), .d (dI n), .any])) (by kernel_rfl) (by kernel_rfl) (BLe.refl _) (endE_cons (b' := .var [.gs 5001 12 0 ((overTo g mark O c).length)]) (by kernel_rfl) (by kernel_rfl) (BLe.var (All2.cons (CLe.gs (congrArg List.length (show (O) = ((overTo g mark O c)) from ?_))) All2.nil)) endE_nil)))) (by kernel_rfl) ⟨rfl, rfl⟩
 iterate 3 (· first | rfl | exact (overTo_no (by assumption)).symm | exact (overTo_yes (by assumption)).symm | exact Eq.symm (by assumption))
 have h1 := h_; have r1 := h_; clear h_; try simp only [bb] at h1
 refine AC.skip ?_
 refine AC.rS [0, 1, 2, 3, 4] ?_
 refine AOps.mc [0, 1, 2, 3] (C' := (O.length = O.length ∧ O.length + 1 ≤ 9223372036854775807 ∧ (O.length + 1) * 96 ≤ 140737488355328) ∧ True) ⟨[(3, tP 9002 0), (16, tG 5001 12 0 (O.length + 1))], [(5001, .arr 46 12 (O.length + 1) fun i_ j_ => bif Nat.blt i_ O.length then nth (eCell (O.getD i_ zCell)) j_ else (fun i_ j_ => nth [dI c.Key, dI c.Start, dI c.A.Count, dI c.A.Sum, dI c.A.Min, dI c.A.Max, dI c.A.Hist.h0, dI c.A.Hist.h1, dI c.A.Hist.h2, dI c.A.Hist.h3, dI c.A.Re, dI c.A.Im] (i_ * 12 + j_)) (i_ - O.length) j_), (z57_1 g), (z57_2 mark late bad n), (9002, .var [.any])]⟩ (⟨by omega, trivial⟩) ?_
 refine AOps.le (st' := ⟨[(3, tP 9002 0), (16, tG 5001 12 0 ((O ++ [c]).length))], [(5001, arow 46 12 eCell zCell (O ++ [c])), (z57_1 g), (z57_2 mark late bad n), (9002, .var [.any])]⟩) (Le.of (lk rfl (LeS.cons rfl (TLe.gs (len1 _ _)) LeS.nil)) (LeE.cons rfl (BLe.app1 (e := 46) (sz := 12) (enc := eCell) (d := zCell) (L := O) (x := c) (g := fun i_ j_ => nth [dI c.Key, dI c.Start, dI c.A.Count, dI c.A.Sum, dI c.A.Min, dI c.A.Max, dI c.A.Hist.h0, dI c.A.Hist.h1, dI c.A.Hist.h2, dI c.A.Hist.h3, dI c.A.Re, dI c.A.Im] (i_ * 12 + j_)) (fun j_ hj_ => by simp only [Nat.zero_mul, Nat.zero_add] <;> rfl)) (ek rfl (ek rfl (ek rfl LeE.nil)))) (by kernel_rfl)) ?_
 refine AOps.e ⟨[], [(5001, arow 46 12 eCell zCell (O ++ [c])), (z57_1 g), (z57_2 mark late bad n), (9002, .var [.gs 5001 12 0 ((O ++ [c]).length)])]⟩ ?_
 refine AC.q ⟨[(5, B true)], [(5001, arow 46 12 eCell zCell (O ++ [c])), (z57_1 g), (z57_2 mark late bad n), (9002, .var [.gs 5001 12 0 ((O ++ [c]).length)])]⟩ ?_
 refine AC.ret ?_
 refine ResG.ret (Q := fun r_ e_ => r_ = B (gridClosed g c.Start mark) ∧ e_ = [(5001, arow 46 12 eCell zCell (overTo g mark O c)), (9000, .var ((eGrid g).map .d)), (9001, .var ([.d (dI mark), .d (dI late), .d (dI bad), .d (dI n), .any])), (9002, .var [.gs 5001 12 0 ((overTo g mark O c).length)])]) [(5001, 5001), (9000, 9000), (9001, 9001), (9002, 9002)] (us := [.c (.d (dB true))]) (us' := [.c (.d (dB (gridClosed g c.Start mark)))]) (env' := [(5001, arow 46 12 eCell zCell (overTo g mark O c)), (9000, .var ((eGrid g).map .d)), (9001, .var ([.d (dI mark), .d (dI late), .d (dI bad), .d (dI n), .any])), (9002, .var [.gs 5001 12 0 ((overTo g mark O c).length)])]) (by kernel_rfl) (us_cons (w' := .c (.d (dB (gridClosed g c.Start mark)))) (by kernel_rfl) (ULe.c (CLe.d (DLe.eq (congrArg dB (show (true) = (gridClosed g c.Start mark) from ?_))))) us_nil) (endE_cons (b' := arow 46 12 eCell zCell (overTo g mark O c)) (by kernel_rfl) (by kernel_rfl) (BLe.eq (congrArg (arow 46 12 eCell zCell) (show ((O ++ [c])) = ((overTo g mark O c)) from ?_))) (endE_cons (b' := .var ((eGrid g).map .d)) (by kernel_rfl) (by kernel_rfl) (BLe.refl _) (endE_cons (b' := .var ([.d (dI mark), .d (dI late), .d (dI bad), .d (dI n), .any])) (by kernel_rfl) (by kernel_rfl) (BLe.refl _) (endE_cons (b' := .var [.gs 5001 12 0 ((overTo g mark O c).length)]) (by kernel_rfl) (by kernel_rfl) (BLe.var (All2.cons (CLe.gs (congrArg List.length (show ((O ++ [c])) = ((overTo g mark O c)) from ?_))) All2.nil)) endE_nil)))) (by kernel_rfl) ⟨rfl, rfl⟩
 iterate 3 (· first | rfl | exact (overTo_no (by assumption)).symm | exact (overTo_yes (by assumption)).symm | exact Eq.symm (by assumption))
abbrev z86_0 (L : List Cell) : Nat × T := (0, tG 9500 12 0 L.length)
abbrev z86_1 : Nat × T := (1, .one (.c (.fn 57 [.ptr 9000 0, .ptr 9001 0, .ptr 9002 0])))
abbrev z86_2 (g : Grid) : Nat × Blk := (9000, .var ((eGrid g).map .d))
abbrev z86_3 (mark : Int) (late : Int) (bad : Int) (n : Int) : Nat × Blk := (9001, .var ([.d (dI mark), .d (dI late), .d (dI bad), .d (dI n), .any]))
abbrev z86_4 (L : List Cell) : Nat × Blk := (9500, arow 46 12 eCell zCell L)
abbrev z86_5 (L : List Cell) (O : List Cell) (g : Grid) (mark : Int) (i : Nat) : Nat × Blk := (5001, arow 46 12 eCell zCell (overTo g mark O (L.getD i zCell)))
abbrev z86_6 (L : List Cell) (O : List Cell) (g : Grid) (mark : Int) (i : Nat) : Nat × Blk := (9002, .var [.gs 5001 12 0 ((overTo g mark O (L.getD i zCell)).length)])
abbrev y86_0 (L : List Cell) (O : List Cell) (g : Grid) (mark : Int) (late : Int) (bad : Int) (n : Int) : List (Nat × Blk) := [(5001, arow 46 12 eCell zCell O), (z86_2 g), (z86_3 mark late bad n), (9002, .var [.gs 5001 12 0 O.length]), (z86_4 L)]
/-- slices.IndexFunc[[]headgate/api.Cell,headgate/api.Cell]. -/
theorem ok_indexfunc57 (L O : List Cell) (g : Grid) (mark late bad n : Int) (hm : mark ≤ 9223372036854775807) (hl : L.length ≤ 1000) (hO : O.length ≤ 1000) :
 FnG Try.prog 86 [.c (.gs 9500 12 0 L.length), .c (.fn 57 [.ptr 9000 0, .ptr 9001 0, .ptr 9002 0])] [(5001, arow 46 12 eCell zCell O), (9000, .var ((eGrid g).map .d)), (9001, .var ([.d (dI mark), .d (dI late), .d (dI bad), .d (dI n), .any])), (9002, .var [.gs 5001 12 0 O.length]), (9500, arow 46 12 eCell zCell L)] (fun r_ e_ => r_ = I (idxF (clo g mark) L) ∧ e_ = [(5001, arow 46 12 eCell zCell (overIdx g mark O L)), (9000, .var ((eGrid g).map .d)), (9001, .var ([.d (dI mark), .d (dI late), .d (dI bad), .d (dI n), .any])), (9002, .var [.gs 5001 12 0 ((overIdx g mark O L).length)]), (9500, arow 46 12 eCell zCell L)]) := by
 refine FnG.intro Try.func86 rfl (by kernel_rfl) (by kernel_rfl) (by kernel_rfl) (by kernel_rfl) (N := 19) (by kernel_rfl) ?_
 intro w0 m0 F_ β_
 show AC _ _ ⟨[(z86_0 L), (z86_1)], y86_0 L O g mark late bad n⟩ _
 refine AC.q ⟨[(z86_0 L), (z86_1)], y86_0 L O g mark late bad n⟩ ?_
 refine AC.seq ?_
 refine AC.q ⟨[(z86_0 L), (z86_1), (7, I (L.length : Int)), (8, I 0)], y86_0 L O g mark late bad n⟩ ?_
 refine AC.block ?_
 refine AC.loop (ι := Nat) (fun i => ⟨[(z86_0 L), (z86_1), (7, I (L.length : Int)), (8, I (i : Int))], y86_0 L O g mark late bad n⟩) (fun i => (i ≤ L.length ∧ ∀ j, j < i → clo g mark (L.getD j zCell) = false)) (fun i => L.length - i) (0) (by refine ⟨by omega, fun j hj => ?_⟩; omega) (Le.of (lk rfl (lk rfl (lk rfl (LeS.cons rfl (TLe.i (by rfl)) LeS.nil)))) (ek rfl (ek rfl (ek rfl (ek rfl (ek rfl LeE.nil))))) (by kernel_rfl)) ?_
 intro i hi_
 obtain ⟨i1, i2⟩ := hi_
 show AC _ _ ⟨[(z86_0 L), (z86_1), (7, I (L.length : Int)), (8, I (i : Int))], y86_0 L O g mark late bad n⟩ _
 refine AC.q ⟨[(z86_0 L), (z86_1), (7, I (L.length : Int)), (8, I (i : Int)), (9, B (decide ((i : Int) < (L.length : Int))))], y86_0 L O g mark late bad n⟩ ?_
 refine AC.seq ?_
 refine AC.cd (b := decide ((i : Int) < (L.length : Int))) (fun h_ => ?_) (fun h_ => ?_)
 have h1 := h_; have r1 := h_; clear h_; try simp only [bb] at h1
 refine AC.skip ?_
 refine AC.seq ?_
 refine AC.block ?_
 refine AC.q ⟨[(z86_0 L), (z86_1), (5, I (i : Int)), (7, I (L.length : Int)), (8, I (i : Int))], y86_0 L O g mark late bad n⟩ ?_
 refine AC.rS [0, 1, 2, 3, 4, 5] ?_
 refine AOps.mc [0, 1, 2, 3, 4] (C' := (0 ≤ (i : Int) ∧ (i : Int) < (L.length : Int)) ∧ (i < L.length) ∧ True) ⟨[(z86_0 L), (z86_1), (5, I (i : Int)), (7, I (L.length : Int)), (8, I (i : Int)), (11, .one (.c (.fn 57 [.ptr 9000 0, .ptr 9001 0, .ptr 9002 0]))), (15, tA ((eCell (L.getD i zCell)).map .d))], y86_0 L O g mark late bad n⟩ (⟨by omega, by omega, trivial⟩) ?_
 refine AOps.callG [(5001, 5001), (9000, 9000), (9001, 9001), (9002, 9002)] rfl (by kernel_rfl) rfl rfl (f := 57) (caps := [.ptr 9000 0, .ptr 9001 0, .ptr 9002 0]) (by kernel_rfl) rfl (by kernel_rfl) (ok_feed2 (L.getD i zCell) O g mark late bad n (by assumption) (by assumption)) (by kernel_rfl) (hand_cons (by kernel_rfl) (hand_cons (by kernel_rfl) (hand_cons (by kernel_rfl) (hand_cons (by kernel_rfl) hand_nil)))) (by kernel_rfl) ?_
 rintro _ _ ⟨rfl, rfl⟩
 refine ⟨[(5001, 5001), (9000, 9000), (9001, 9001), (9002, 9002)], [0, 1, 5, 7, 8], [9500], by kernel_rfl, ?_⟩
 refine AOps.n ⟨[(z86_0 L), (z86_1), (5, I (i : Int)), (7, I (L.length : Int)), (8, I (i : Int)), (16, B (gridClosed g (L.getD i zCell).Start mark))], [(z86_5 L O g mark i), (z86_2 g), (z86_3 mark late bad n), (z86_6 L O g mark i), (z86_4 L)]⟩ ?_
 refine AOps.done ?_
 refine AC.cd (b := gridClosed g (L.getD i zCell).Start mark) (fun h_ => ?_) (fun h_ => ?_)
 have h2 := h_; have r2 := h_; clear h_; try simp only [bb] at h2
 refine AC.q ⟨[(4, I (i : Int))], [(z86_5 L O g mark i), (z86_2 g), (z86_3 mark late bad n), (z86_6 L O g mark i), (z86_4 L)]⟩ ?_
 refine AC.ret ?_
 refine ResG.ret (Q := fun r_ e_ => r_ = I (idxF (clo g mark) L) ∧ e_ = [(5001, arow 46 12 eCell zCell (overIdx g mark O L)), (9000, .var ((eGrid g).map .d)), (9001, .var ([.d (dI mark), .d (dI late), .d (dI bad), .d (dI n), .any])), (9002, .var [.gs 5001 12 0 ((overIdx g mark O L).length)]), (9500, arow 46 12 eCell zCell L)]) [(5001, 5001), (9000, 9000), (9001, 9001), (9002, 9002), (9500, 9500)] (us := [.c (.d (dI (i : Int)))]) (us' := [.c (.d (dI (idxF (clo g mark) L)))]) (env' := [(5001, arow 46 12 eCell zCell (overIdx g mark O L)), (9000, .var ((eGrid g).map .d)), (9001, .var ([.d (dI mark), .d (dI late), .d (dI bad), .d (dI n), .any])), (9002, .var [.gs 5001 12 0 ((overIdx g mark O L).length)]), (9500, arow 46 12 eCell zCell L)]) (by kernel_rfl) (us_cons (w' := .c (.d (dI (idxF (clo g mark) L)))) (by kernel_rfl) (ULe.c (CLe.d (DLe.eq (congrArg dI (show ((i : Int)) = (idxF (clo g mark) L) from ?_))))) us_nil) (endE_cons (b' := arow 46 12 eCell zCell (overIdx g mark O L)) (by kernel_rfl) (by kernel_rfl) (BLe.eq (congrArg (arow 46 12 eCell zCell) (show ((overTo g mark O (L.getD i zCell))) = ((overIdx g mark O L)) from ?_))) (endE_cons (b' := .var ((eGrid g).map .d)) (by kernel_rfl) (by kernel_rfl) (BLe.refl _) (endE_cons (b' := .var ([.d (dI mark), .d (dI late), .d (dI bad), .d (dI n), .any])) (by kernel_rfl) (by kernel_rfl) (BLe.refl _) (endE_cons (b' := .var [.gs 5001 12 0 ((overIdx g mark O L).length)]) (by kernel_rfl) (by kernel_rfl) (BLe.var (All2.cons (CLe.gs (congrArg List.length (show ((overTo g mark O (L.getD i zCell))) = ((overIdx g mark O L)) from ?_))) All2.nil)) (endE_cons (b' := arow 46 12 eCell zCell L) (by kernel_rfl) (by kernel_rfl) (BLe.refl _) endE_nil))))) (by kernel_rfl) ⟨rfl, rfl⟩
 iterate 3 (· first | rfl | exact (idxF_hit (p := clo g mark) (by omega) i2 (by assumption)).symm | exact (idxF_none (p := clo g mark) (fun j hj => i2 j (by omega))).symm | exact overIdx_hit (by omega) i2 (by assumption) | exact overIdx_none (fun j hj => i2 j (by omega)))
 have h2 := h_; have r2 := h_; clear h_; try simp only [bb] at h2
 refine AC.skip ?_
 refine AC.rR [0, 1] ?_
 refine AOps.m [0, 1] ⟨[(z86_0 L), (z86_1), (7, I (L.length : Int)), (8, I (IntKind.i64.wrap ((i : Int) + 1)))], [(z86_5 L O g mark i), (z86_2 g), (z86_3 mark late bad n), (z86_6 L O g mark i), (z86_4 L)]⟩ ?_
 refine AOps.le (st' := ⟨[(z86_0 L), (z86_1), (7, I (L.length : Int)), (8, I ((i + 1 : Nat) : Int))], [(z86_5 L O g mark i), (z86_2 g), (z86_3 mark late bad n), (z86_6 L O g mark i), (z86_4 L)]⟩) (Le.of (lk rfl (lk rfl (lk rfl (LeS.cons rfl (TLe.i (by rw [wrap_in (n := ((i : Int) + 1)) (by omega) (by omega)] <;> omega)) LeS.nil)))) (ek rfl (ek rfl (ek rfl (ek rfl (ek rfl LeE.nil))))) (by kernel_rfl)) ?_
 refine AOps.done ?_
 try refine blockA_n ?_
 refine roundA_n (i + 1) (by refine ⟨by omega, fun j hj => ?_⟩; by_cases e : j = i; (subst e; assumption); exact i2 j (by omega)) (by show L.length - (i + 1) < L.length - i; omega) (Le.of (lk rfl (lk rfl (lk rfl (LeS.cons rfl (TLe.i ?_) LeS.nil)))) (LeE.cons rfl (BLe.eq (congrArg (arow 46 12 eCell zCell) ?_)) (ek rfl (ek rfl (LeE.cons rfl (BLe.var (All2.cons (CLe.gs (congrArg List.length ?_)) All2.nil)) (ek rfl LeE.nil))))) (by kernel_rfl))
 iterate 3 (· first | rfl | omega | exact overTo_no (by assumption))
 have h1 := h_; have r1 := h_; clear h_; try simp only [bb] at h1
 refine AC.exit ?_
 repeat (first | refine thenA_x ?_ | refine roundA_x ?_ | refine joinA_x ?_ | refine blockA_hit ?_ | refine blockA_miss (by decide) ?_)
 refine AC.q ⟨[(4, I (-1))], y86_0 L O g mark late bad n⟩ ?_
 refine AC.ret ?_
 refine ResG.ret (Q := fun r_ e_ => r_ = I (idxF (clo g mark) L) ∧ e_ = [(5001, arow 46 12 eCell zCell (overIdx g mark O L)), (9000, .var ((eGrid g).map .d)), (9001, .var ([.d (dI mark), .d (dI late), .d (dI bad), .d (dI n), .any])), (9002, .var [.gs 5001 12 0 ((overIdx g mark O L).length)]), (9500, arow 46 12 eCell zCell L)]) [(5001, 5001), (9000, 9000), (9001, 9001), (9002, 9002), (9500, 9500)] (us := [.c (.d (dI (-1)))]) (us' := [.c (.d (dI (idxF (clo g mark) L)))]) (env' := [(5001, arow 46 12 eCell zCell (overIdx g mark O L)), (9000, .var ((eGrid g).map .d)), (9001, .var ([.d (dI mark), .d (dI late), .d (dI bad), .d (dI n), .any])), (9002, .var [.gs 5001 12 0 ((overIdx g mark O L).length)]), (9500, arow 46 12 eCell zCell L)]) (by kernel_rfl) (us_cons (w' := .c (.d (dI (idxF (clo g mark) L)))) (by kernel_rfl) (ULe.c (CLe.d (DLe.eq (congrArg dI (show ((-1)) = (idxF (clo g mark) L) from ?_))))) us_nil) (endE_cons (b' := arow 46 12 eCell zCell (overIdx g mark O L)) (by kernel_rfl) (by kernel_rfl) (BLe.eq (congrArg (arow 46 12 eCell zCell) (show (O) = ((overIdx g mark O L)) from ?_))) (endE_cons (b' := .var ((eGrid g).map .d)) (by kernel_rfl) (by kernel_rfl) (BLe.refl _) (endE_cons (b' := .var ([.d (dI mark), .d (dI late), .d (dI bad), .d (dI n), .any])) (by kernel_rfl) (by kernel_rfl) (BLe.refl _) (endE_cons (b' := .var [.gs 5001 12 0 ((overIdx g mark O L).length)]) (by kernel_rfl) (by kernel_rfl) (BLe.var (All2.cons (CLe.gs (congrArg List.length (show (O) = ((overIdx g mark O L)) from ?_))) All2.nil)) (endE_cons (b' := arow 46 12 eCell zCell L) (by kernel_rfl) (by kernel_rfl) (BLe.refl _) endE_nil))))) (by kernel_rfl) ⟨rfl, rfl⟩
 iterate 3 (· first | rfl | exact (idxF_hit (p := clo g mark) (by omega) i2 (by assumption)).symm | exact (idxF_none (p := clo g mark) (fun j hj => i2 j (by omega))).symm | exact overIdx_hit (by omega) i2 (by assumption) | exact overIdx_none (fun j hj => i2 j (by omega)))
abbrev z56_0 (L : List Cell) : Nat × T := (0, tG 5000 12 0 L.length)
abbrev z56_1 : Nat × T := (1, .one (.c (.fn 57 [.ptr 9000 0, .ptr 9001 0, .ptr 9002 0])))
abbrev z56_2 (L : List Cell) : Nat × Blk := (5000, arow 46 12 eCell zCell L)
abbrev z56_3 (g : Grid) : Nat × Blk := (9000, .var ((eGrid g).map .d))
abbrev z56_4 (mark : Int) (late : Int) (bad : Int) (n : Int) : Nat × Blk := (9001, .var ([.d (dI mark), .d (dI late), .d (dI bad), .d (dI n), .any]))
abbrev z56_5 (O : List Cell) : Nat × Blk := (9002, .var [.gs 5001 12 0 O.length])
abbrev z56_6 (L : List Cell) (g : Grid) (mark : Int) (j : Nat) : Nat × T := (5, I ((kept (clo g mark) L j).length : Int))
abbrev z56_7 (M : List Cell) : Nat × Blk := (5000, arow 46 12 eCell zCell M)
abbrev z56_8 (L : List Cell) (O : List Cell) (g : Grid) (mark : Int) (j : Nat) : Nat × Blk := (5001, arow 46 12 eCell zCell (O ++ gone (clo g mark) L j))
abbrev z56_9 (L : List Cell) (O : List Cell) (g : Grid) (mark : Int) (j : Nat) : Nat × Blk := (9002, .var [.gs 5001 12 0 ((O ++ gone (clo g mark) L j).length)])
abbrev z56_10 (j : Nat) (M : List Cell) : Nat × Blk := (7, .var ((eCell (M.getD j zCell)).map .d))
abbrev z56_11 (L : List Cell) (O : List Cell) (g : Grid) (mark : Int) (j : Nat) (M : List Cell) : Nat × Blk := (5001, arow 46 12 eCell zCell (overTo g mark (O ++ gone (clo g mark) L j) (M.getD j zCell)))
abbrev z56_12 (L : List Cell) (O : List Cell) (g : Grid) (mark : Int) (j : Nat) (M : List Cell) : Nat × Blk := (9002, .var [.gs 5001 12 0 ((overTo g mark (O ++ gone (clo g mark) L j) (M.getD j zCell)).length)])
abbrev z56_13 (L : List Cell) (g : Grid) (mark : Int) (j : Nat) (M : List Cell) : Nat × Blk := (5000, arow 46 12 eCell zCell (M.set ((kept (clo g mark) L j).length) (M.getD j zCell)))
abbrev z56_14 (L : List Cell) (g : Grid) (mark : Int) (j : Nat) : Nat × T := (38, tG 5000 12 ((kept (clo g mark) L j).length) ((((L.length : Int) : Int) - ((kept (clo g mark) L j).length : Int)).toNat))
abbrev z56_15 (L : List Cell) (g : Grid) (mark : Int) (j : Nat) (M : List Cell) : Nat × Blk := (5000, arow 46 12 eCell zCell (M.take ((kept (clo g mark) L j).length)))
abbrev y56_0 (L : List Cell) (O : List Cell) (g : Grid) (mark : Int) (late : Int) (bad : Int) (n : Int) : List (Nat × Blk) := [(z56_2 L), (5001, arow 46 12 eCell zCell (overIdx g mark O L)), (z56_3 g), (z56_4 mark late bad n), (9002, .var [.gs 5001 12 0 ((overIdx g mark O L).length)])]
/-- slices.DeleteFunc[[]headgate/api.Cell,headgate/api.Cell]. -/
theorem ok_deletefunc57 (L O : List Cell) (g : Grid) (mark late bad n : Int) (hm : mark ≤ 9223372036854775807) (hl : L.length ≤ 1000) (hO : O.length = 0) :
 FnG Try.prog 56 [.c (.gs 5000 12 0 L.length), .c (.fn 57 [.ptr 9000 0, .ptr 9001 0, .ptr 9002 0])] [(5000, arow 46 12 eCell zCell L), (5001, arow 46 12 eCell zCell O), (9000, .var ((eGrid g).map .d)), (9001, .var ([.d (dI mark), .d (dI late), .d (dI bad), .d (dI n), .any])), (9002, .var [.gs 5001 12 0 O.length])] (fun r_ e_ => r_ = tG 5000 12 0 ((L.filter fun x => !clo g mark x).length) ∧ e_ = [(5000, arow 46 12 eCell zCell (L.filter fun x => !clo g mark x)), (5001, arow 46 12 eCell zCell (O ++ L.filter (clo g mark))), (9000, .var ((eGrid g).map .d)), (9001, .var ([.d (dI mark), .d (dI late), .d (dI bad), .d (dI n), .any])), (9002, .var [.gs 5001 12 0 ((O ++ L.filter (clo g mark)).length)])]) := by
 refine FnG.intro Try.func56 rfl (by kernel_rfl) (by kernel_rfl) (by kernel_rfl) (by kernel_rfl) (N := 42) (by kernel_rfl) ?_
 intro w0 m0 F_ β_
 show AC _ _ ⟨[(z56_0 L), (z56_1)], [(z56_2 L), (5001, arow 46 12 eCell zCell O), (z56_3 g), (z56_4 mark late bad n), (z56_5 O)]⟩ _
 refine AC.q ⟨[(z56_0 L), (z56_1)], [(z56_2 L), (5001, arow 46 12 eCell zCell O), (z56_3 g), (z56_4 mark late bad n), (z56_5 O)]⟩ ?_
 refine AC.rS [0, 1, 2, 3] ?_
 refine AOps.m [0, 1] ⟨[(z56_0 L), (z56_1), (8, tG 5000 12 0 L.length), (9, .one (.c (.fn 57 [.ptr 9000 0, .ptr 9001 0, .ptr 9002 0])))], [(z56_2 L), (5001, arow 46 12 eCell zCell O), (z56_3 g), (z56_4 mark late bad n), (z56_5 O)]⟩ ?_
 refine AOps.callG [(5001, 5001), (9000, 9000), (9001, 9001), (9002, 9002), (9500, 5000)] rfl (by kernel_rfl) rfl rfl (f := 86) (caps := []) (by kernel_rfl) rfl (by kernel_rfl) (ok_indexfunc57 L O g mark late bad n ?_ ?_ ?_) (by kernel_rfl) (hand_cons (by kernel_rfl) (hand_cons (by kernel_rfl) (hand_cons (by kernel_rfl) (hand_cons (by kernel_rfl) (hand_cons (by kernel_rfl) hand_nil))))) (by kernel_rfl) ?_
 iterate 3 (· first | assumption | omega | (simp only [List.length_append]; omega))
 rintro _ _ ⟨rfl, rfl⟩
 refine ⟨[(5001, 5001), (9000, 9000), (9001, 9001), (9002, 9002), (9500, 5000)], [0, 1], [], by kernel_rfl, ?_⟩
 refine AOps.n ⟨[(z56_0 L), (z56_1), (10, I (idxF (clo g mark) L))], y56_0 L O g mark late bad n⟩ ?_
 refine AOps.e ⟨[(z56_0 L), (z56_1), (5, I (idxF (clo g mark) L))], y56_0 L O g mark late bad n⟩ ?_
 refine AC.seq ?_
 refine AC.q ⟨[(z56_0 L), (z56_1), (5, I (idxF (clo g mark) L)), (12, B ((idxF (clo g mark) L) == (-1)))], y56_0 L O g mark late bad n⟩ ?_
 refine AC.cd (b := (idxF (clo g mark) L) == (-1)) (fun h_ => ?_) (fun h_ => ?_)
 have h1 := h_; have r1 := h_; clear h_; try simp only [bb] at h1
 refine AC.q ⟨[(4, tG 5000 12 0 L.length)], y56_0 L O g mark late bad n⟩ ?_
 refine AC.ret ?_
 refine ResG.ret (Q := fun r_ e_ => r_ = tG 5000 12 0 ((L.filter fun x => !clo g mark x).length) ∧ e_ = [(5000, arow 46 12 eCell zCell (L.filter fun x => !clo g mark x)), (5001, arow 46 12 eCell zCell (O ++ L.filter (clo g mark))), (9000, .var ((eGrid g).map .d)), (9001, .var ([.d (dI mark), .d (dI late), .d (dI bad), .d (dI n), .any])), (9002, .var [.gs 5001 12 0 ((O ++ L.filter (clo g mark)).length)])]) [(5000, 5000), (5001, 5001), (9000, 9000), (9001, 9001), (9002, 9002)] (us := [.c (.gs 5000 12 0 L.length)]) (us' := [.c (.gs 5000 12 0 ((L.filter fun x => !clo g mark x).length))]) (env' := [(5000, arow 46 12 eCell zCell (L.filter fun x => !clo g mark x)), (5001, arow 46 12 eCell zCell (O ++ L.filter (clo g mark))), (9000, .var ((eGrid g).map .d)), (9001, .var ([.d (dI mark), .d (dI late), .d (dI bad), .d (dI n), .any])), (9002, .var [.gs 5001 12 0 ((O ++ L.filter (clo g mark)).length)])]) (by kernel_rfl) (us_cons (w' := .c (.gs 5000 12 0 ((L.filter fun x => !clo g mark x).length))) (by kernel_rfl) (ULe.c (CLe.gs (congrArg List.length (show (L) = ((L.filter fun x => !clo g mark x)) from ?_)))) us_nil) (endE_cons (b' := arow 46 12 eCell zCell (L.filter fun x => !clo g mark x)) (by kernel_rfl) (by kernel_rfl) (BLe.eq (congrArg (arow 46 12 eCell zCell) (show (L) = ((L.filter fun x => !clo g mark x)) from ?_))) (endE_cons (b' := arow 46 12 eCell zCell (O ++ L.filter (clo g mark))) (by kernel_rfl) (by kernel_rfl) (BLe.eq (congrArg (arow 46 12 eCell zCell) (show ((overIdx g mark O L)) = ((O ++ L.filter (clo g mark))) from ?_))) (endE_cons (b' := .var ((eGrid g).map .d)) (by kernel_rfl) (by kernel_rfl) (BLe.refl _) (endE_cons (b' := .var ([.d (dI mark), .d (dI late), .d (dI bad), .d (dI n), .any])) (by kernel_rfl) (by kernel_rfl) (BLe.refl _) (endE_cons (b' := .var [.gs 5001 12 0 ((O ++ L.filter (clo g mark)).length)]) (by kernel_rfl) (by kernel_rfl) (BLe.var (All2.cons (CLe.gs (congrArg List.length (show ((overIdx g mark O L)) = ((O ++ L.filter (clo g mark))) from ?_))) All2.nil)) endE_nil))))) (by kernel_rfl) ⟨rfl, rfl⟩
 iterate 4 (· first | rfl | exact idxF_keep (by first | assumption | omega) | exact kept_all (by omega) | exact del_end i2 (by omega) | (rw [gone_all (by omega)]) | exact over_all0 (by first | assumption | omega))
 have h1 := h_; have r1 := h_; clear h_; try simp only [bb] at h1
 refine AC.skip ?_
 refine AC.seq ?_
 have hD := del_init (p := clo g mark) (L := L) zCell (by first | assumption | omega)
 have hD1 := hD.2.1; have hD2 := hD.2.2.1; have hD3 := hD.2.2.2.1
 refine AC.rS [0, 1, 2] ?_
 refine AOps.m [0, 1, 2] ⟨[(z56_0 L), (z56_1), (5, I (idxF (clo g mark) L)), (6, I (IntKind.i64.wrap ((idxF (clo g mark) L) + 1)))], y56_0 L O g mark late bad n⟩ ?_
 refine AOps.le (st' := ⟨[(z56_0 L), (z56_1), (5, I (idxF (clo g mark) L)), (6, I ((idxF (clo g mark) L) + 1))], y56_0 L O g mark late bad n⟩) (Le.of (lk rfl (lk rfl (lk rfl (LeS.cons rfl (TLe.i (by rw [wrap_in (n := ((idxF (clo g mark) L) + 1)) (by omega) (by omega)] <;> omega)) LeS.nil)))) (ek rfl (ek rfl (ek rfl (ek rfl (ek rfl LeE.nil))))) (by kernel_rfl)) ?_
 refine AOps.done ?_
 refine AC.block ?_
 refine AC.loop (ι := Nat × List Cell) (fun x_ => match x_ with | (j, M) => ⟨[(z56_0 L), (z56_1), (z56_6 L g mark j), (6, I (j : Int))], [(z56_7 M), (z56_8 L O g mark j), (z56_3 g), (z56_4 mark late bad n), (z56_9 L O g mark j)]⟩) (fun x_ => match x_ with | (j, M) => (j ≤ L.length ∧ DelI (clo g mark) L j M)) (fun x_ => match x_ with | (j, M) => L.length - j) ((idxF (clo g mark) L).toNat + 1, L) (by exact ⟨hD3, hD.1⟩) (Le.of (lk rfl (lk rfl (LeS.cons rfl (TLe.i ?_) (LeS.cons rfl (TLe.i ?_) LeS.nil)))) (ek rfl (LeE.cons rfl (BLe.eq (congrArg (arow 46 12 eCell zCell) ?_)) (ek rfl (ek rfl (LeE.cons rfl (BLe.var (All2.cons (CLe.gs (congrArg List.length ?_)) All2.nil)) LeE.nil))))) (by kernel_rfl)) ?_
 iterate 4 (· first | rfl | exact hD1 | exact overIdx_start (by first | assumption | omega) | omega)
 intro x_ hi_
 obtain ⟨j, M⟩ := x_
 obtain ⟨i1, i2⟩ := hi_
 show AC _ _ ⟨[(z56_0 L), (z56_1), (z56_6 L g mark j), (6, I (j : Int))], [(z56_7 M), (z56_8 L O g mark j), (z56_3 g), (z56_4 mark late bad n), (z56_9 L O g mark j)]⟩ _
 have hML := i2.1
 have hKj := i2.2.2.2
 have hgl := gone_len (clo g mark) L j
 refine AC.seq ?_
 refine AC.q ⟨[(z56_0 L), (z56_1), (z56_6 L g mark j), (6, I (j : Int)), (19, B (decide ((j : Int) < (L.length : Int))))], [(z56_7 M), (z56_8 L O g mark j), (z56_3 g), (z56_4 mark late bad n), (z56_9 L O g mark j)]⟩ ?_
 refine AC.cd (b := decide ((j : Int) < (L.length : Int))) (fun h_ => ?_) (fun h_ => ?_)
 have h2 := h_; have r2 := h_; clear h_; try simp only [bb] at h2
 refine AC.skip ?_
 refine AC.seq ?_
 refine AC.block ?_
 refine AC.rS [0, 1, 2, 3, 4, 5] ?_
 refine AOps.ec (C' := (0 ≤ (j : Int) ∧ (j : Int) < (L.length : Int)) ∧ (j < M.length) ∧ True) ⟨[(z56_0 L), (z56_1), (z56_6 L g mark j), (6, I (j : Int)), sp 7], [(z56_10 j M), (z56_7 M), (z56_8 L O g mark j), (z56_3 g), (z56_4 mark late bad n), (z56_9 L O g mark j)]⟩ (⟨by omega, by omega, trivial⟩) ?_
 refine AC.rS [0, 1, 2, 3] ?_
 refine AOps.m [0, 1] ⟨[(z56_0 L), (z56_1), (z56_6 L g mark j), (6, I (j : Int)), sp 7, (26, .one (.c (.fn 57 [.ptr 9000 0, .ptr 9001 0, .ptr 9002 0]))), (27, tA ((eCell (M.getD j zCell)).map .d))], [(z56_10 j M), (z56_7 M), (z56_8 L O g mark j), (z56_3 g), (z56_4 mark late bad n), (z56_9 L O g mark j)]⟩ ?_
 refine AOps.callG [(5001, 5001), (9000, 9000), (9001, 9001), (9002, 9002)] rfl (by kernel_rfl) rfl rfl (f := 57) (caps := [.ptr 9000 0, .ptr 9001 0, .ptr 9002 0]) (by kernel_rfl) rfl (by kernel_rfl) (ok_feed2 (M.getD j zCell) (O ++ gone (clo g mark) L j) g mark late bad n ?_ ?_) (by kernel_rfl) (hand_cons (by kernel_rfl) (hand_cons (by kernel_rfl) (hand_cons (by kernel_rfl) (hand_cons (by kernel_rfl) hand_nil)))) (by kernel_rfl) ?_
 iterate 2 (· first | assumption | omega | (simp only [List.length_append]; omega))
 rintro _ _ ⟨rfl, rfl⟩
 refine ⟨[(5001, 5001), (9000, 9000), (9001, 9001), (9002, 9002)], [0, 1, 5, 6, 7], [7, 5000], by kernel_rfl, ?_⟩
 refine AOps.n ⟨[(z56_0 L), (z56_1), (z56_6 L g mark j), (6, I (j : Int)), sp 7, (28, B (gridClosed g (M.getD j zCell).Start mark))], [(z56_10 j M), (z56_7 M), (z56_11 L O g mark j M), (z56_3 g), (z56_4 mark late bad n), (z56_12 L O g mark j M)]⟩ ?_
 refine AOps.e ⟨[(z56_0 L), (z56_1), (z56_6 L g mark j), (6, I (j : Int)), sp 7, (29, B (!(gridClosed g (M.getD j zCell).Start mark)))], [(z56_10 j M), (z56_7 M), (z56_11 L O g mark j M), (z56_3 g), (z56_4 mark late bad n), (z56_12 L O g mark j M)]⟩ ?_
 refine AC.cd (b := !(gridClosed g (M.getD j zCell).Start mark)) (fun h_ => ?_) (fun h_ => ?_)
 have h3 := h_; have r3 := h_; clear h_; try simp only [bb] at h3
 refine AC.rS [0, 1, 2, 3, 4] ?_
 refine AOps.mc [0, 1, 2, 3] (C' := (0 ≤ ((kept (clo g mark) L j).length : Int) ∧ ((kept (clo g mark) L j).length : Int) < (L.length : Int)) ∧ True) ⟨[(z56_0 L), (z56_1), (z56_6 L g mark j), (6, I (j : Int)), (32, tA ((eCell (M.getD j zCell)).map .d)), (33, .one (.c (.ep 5000 12 ((kept (clo g mark) L j).length) 0)))], [(z56_7 M), (z56_11 L O g mark j M), (z56_3 g), (z56_4 mark late bad n), (z56_12 L O g mark j M)]⟩ (⟨by omega, trivial⟩) ?_
 refine AOps.cons (step_storeE rfl (by kernel_rfl) rfl (n := 5000) (sz := 12) (i := ((kept (clo g mark) L j).length)) (off := 0) (by kernel_rfl) (e := 46) (k := M.length) (get := fun i_ j_ => nth (eCell (M.getD i_ zCell)) j_) (l := (eCell (M.getD j zCell)).map .d) (c := eCell (M.getD j zCell)) rfl (by kernel_rfl) (by kernel_rfl) (by kernel_rfl) (by omega) (by kernel_rfl) rfl) ?_
 refine AOps.le (st' := ⟨[(z56_0 L), (z56_1), (z56_6 L g mark j), (6, I (j : Int)), (32, tA ((eCell (M.getD j zCell)).map .d)), (33, .one (.c (.ep 5000 12 ((kept (clo g mark) L j).length) 0)))], [(z56_13 L g mark j M), (z56_11 L O g mark j M), (z56_3 g), (z56_4 mark late bad n), (z56_12 L O g mark j M)]⟩) (Le.of (lk rfl (lk rfl (lk rfl (lk rfl (lk rfl (lk rfl LeS.nil)))))) (LeE.cons rfl (BLe.setE (L := M) (x := (M.getD j zCell)) (i := ((kept (clo g mark) L j).length)) (off := 0) (by omega) (fun j_ hj_ => by (rcases (show j_ = 0 ∨ j_ = 1 ∨ j_ = 2 ∨ j_ = 3 ∨ j_ = 4 ∨ j_ = 5 ∨ j_ = 6 ∨ j_ = 7 ∨ j_ = 8 ∨ j_ = 9 ∨ j_ = 10 ∨ j_ = 11 by omega) with rfl | rfl | rfl | rfl | rfl | rfl | rfl | rfl | rfl | rfl | rfl | rfl) <;> rfl)) (ek rfl (ek rfl (ek rfl (ek rfl LeE.nil))))) (by kernel_rfl)) ?_
 refine AOps.n ⟨[(z56_0 L), (z56_1), (z56_6 L g mark j), (6, I (j : Int))], [(z56_13 L g mark j M), (z56_11 L O g mark j M), (z56_3 g), (z56_4 mark late bad n), (z56_12 L O g mark j M)]⟩ ?_
 refine AOps.done ?_
 refine AC.rR [0, 1, 2] ?_
 refine AOps.m [0, 1, 2] ⟨[(z56_0 L), (z56_1), (5, I (IntKind.i64.wrap (((kept (clo g mark) L j).length : Int) + 1))), (6, I (j : Int))], [(z56_13 L g mark j M), (z56_11 L O g mark j M), (z56_3 g), (z56_4 mark late bad n), (z56_12 L O g mark j M)]⟩ ?_
 refine AOps.le (st' := ⟨[(z56_0 L), (z56_1), (5, I (((kept (clo g mark) L j).length + 1 : Nat) : Int)), (6, I (j : Int))], [(z56_13 L g mark j M), (z56_11 L O g mark j M), (z56_3 g), (z56_4 mark late bad n), (z56_12 L O g mark j M)]⟩) (Le.of (lk rfl (lk rfl (LeS.cons rfl (TLe.i (by rw [wrap_in (n := (((kept (clo g mark) L j).length : Int) + 1)) (by omega) (by omega)] <;> omega)) (lk rfl LeS.nil)))) (ek rfl (ek rfl (ek rfl (ek rfl (ek rfl LeE.nil))))) (by kernel_rfl)) ?_
 refine AOps.done ?_
 refine AC.rR [0, 1, 2] ?_
 refine AOps.m [0, 1, 2] ⟨[(z56_0 L), (z56_1), (5, I (((kept (clo g mark) L j).length + 1 : Nat) : Int)), (6, I (IntKind.i64.wrap ((j : Int) + 1)))], [(z56_13 L g mark j M), (z56_11 L O g mark j M), (z56_3 g), (z56_4 mark late bad n), (z56_12 L O g mark j M)]⟩ ?_
 refine AOps.le (st' := ⟨[(z56_0 L), (z56_1), (5, I (((kept (clo g mark) L j).length + 1 : Nat) : Int)), (6, I ((j + 1 : Nat) : Int))], [(z56_13 L g mark j M), (z56_11 L O g mark j M), (z56_3 g), (z56_4 mark late bad n), (z56_12 L O g mark j M)]⟩) (Le.of (lk rfl (lk rfl (lk rfl (LeS.cons rfl (TLe.i (by rw [wrap_in (n := ((j : Int) + 1)) (by omega) (by omega)] <;> omega)) LeS.nil)))) (ek rfl (ek rfl (ek rfl (ek rfl (ek rfl LeE.nil))))) (by kernel_rfl)) ?_
 refine AOps.done ?_
 try refine blockA_n ?_
 refine roundA_n (j + 1, (M.set ((kept (clo g mark) L j).length) (M.getD j zCell))) (by first | exact ⟨by omega, del_keep i2 (by omega) (by assumption)⟩ | exact ⟨by omega, del_skip i2 (by omega) (by assumption)⟩) (by show L.length - (j + 1) < L.length - j; omega) (Le.of (lk rfl (lk rfl (LeS.cons rfl (TLe.i ?_) (LeS.cons rfl (TLe.i ?_) LeS.nil)))) (ek rfl (LeE.cons rfl (BLe.eq (congrArg (arow 46 12 eCell zCell) ?_)) (ek rfl (ek rfl (LeE.cons rfl (BLe.var (All2.cons (CLe.gs (congrArg List.length ?_)) All2.nil)) LeE.nil))))) (by kernel_rfl))
 iterate 4 (· first | rfl | omega | exact keep_cnt i2 (by omega) (by assumption) | exact skip_cnt i2 (by omega) (by assumption) | exact over_keep i2 (by omega) (by assumption) | exact over_skip i2 (by omega) (by assumption))
 have h3 := h_; have r3 := h_; clear h_; try simp only [bb] at h3
 refine AC.skip ?_
 refine AC.rR [0, 1, 2] ?_
 refine AOps.m [0, 1, 2] ⟨[(z56_0 L), (z56_1), (z56_6 L g mark j), (6, I (IntKind.i64.wrap ((j : Int) + 1)))], [(z56_7 M), (z56_11 L O g mark j M), (z56_3 g), (z56_4 mark late bad n), (z56_12 L O g mark j M)]⟩ ?_
 refine AOps.le (st' := ⟨[(z56_0 L), (z56_1), (z56_6 L g mark j), (6, I ((j + 1 : Nat) : Int))], [(z56_7 M), (z56_11 L O g mark j M), (z56_3 g), (z56_4 mark late bad n), (z56_12 L O g mark j M)]⟩) (Le.of (lk rfl (lk rfl (lk rfl (LeS.cons rfl (TLe.i (by rw [wrap_in (n := ((j : Int) + 1)) (by omega) (by omega)] <;> omega)) LeS.nil)))) (ek rfl (ek rfl (ek rfl (ek rfl (ek rfl LeE.nil))))) (by kernel_rfl)) ?_
 refine AOps.done ?_
 try refine blockA_n ?_
 refine roundA_n (j + 1, M) (by first | exact ⟨by omega, del_keep i2 (by omega) (by assumption)⟩ | exact ⟨by omega, del_skip i2 (by omega) (by assumption)⟩) (by show L.length - (j + 1) < L.length - j; omega) (Le.of (lk rfl (lk rfl (LeS.cons rfl (TLe.i ?_) (LeS.cons rfl (TLe.i ?_) LeS.nil)))) (ek rfl (LeE.cons rfl (BLe.eq (congrArg (arow 46 12 eCell zCell) ?_)) (ek rfl (ek rfl (LeE.cons rfl (BLe.var (All2.cons (CLe.gs (congrArg List.length ?_)) All2.nil)) LeE.nil))))) (by kernel_rfl))
 iterate 4 (· first | rfl | omega | exact keep_cnt i2 (by omega) (by assumption) | exact skip_cnt i2 (by omega) (by assumption) | exact over_keep i2 (by omega) (by assumption) | exact over_skip i2 (by omega) (by assumption))
 have h2 := h_; have r2 := h_; clear h_; try simp only [bb] at h2
 refine AC.exit ?_
 repeat (first | refine thenA_x ?_ | refine roundA_x ?_ | refine joinA_x ?_ | refine blockA_hit ?_ | refine blockA_miss (by decide) ?_)
 refine AC.rS [0, 1, 2, 3] ?_
 refine AOps.mc [0, 1, 2] (C' := (0 ≤ (((kept (clo g mark) L j).length : Int) : Int) ∧ (((kept (clo g mark) L j).length : Int) : Int) ≤ (L.length : Int) ∧ (L.length : Int) ≤ (L.length : Int) ∧ ((((kept (clo g mark) L j).length : Int) : Int) = 0 ∨ (((kept (clo g mark) L j).length : Int) : Int) < (L.length : Int))) ∧ True) ⟨[(z56_0 L), (z56_6 L g mark j), (z56_14 L g mark j)], [(z56_7 M), (z56_8 L O g mark j), (z56_3 g), (z56_4 mark late bad n), (z56_9 L O g mark j)]⟩ (⟨by omega, trivial⟩) ?_
 refine AOps.clear rfl (by kernel_rfl) rfl rfl rfl rfl rfl (n := 5000) (e := 46) (sz := 12) (lo := (kept (clo g mark) L j).length) (len := (((L.length : Int) : Int) - ((kept (clo g mark) L j).length : Int)).toNat) (by kernel_rfl) rfl (by kernel_rfl) (by kernel_rfl) (by omega) ?_
 refine AOps.le (st' := ⟨[(z56_0 L), (z56_6 L g mark j), (z56_14 L g mark j)], [(z56_15 L g mark j M), (z56_8 L O g mark j), (z56_3 g), (z56_4 mark late bad n), (z56_9 L O g mark j)]⟩) (Le.of (lk rfl (lk rfl (lk rfl LeS.nil))) (LeE.cons rfl (BLe.cutA (L := M) (by omega)) (ek rfl (ek rfl (ek rfl (ek rfl LeE.nil))))) (by kernel_rfl)) ?_
 refine AOps.n ⟨[(z56_0 L), (z56_6 L g mark j)], [(z56_15 L g mark j M), (z56_8 L O g mark j), (z56_3 g), (z56_4 mark late bad n), (z56_9 L O g mark j)]⟩ ?_
 refine AOps.done ?_
 refine AC.rS [0, 1, 2, 3] ?_
 refine AOps.mc [0, 1, 2] (C' := (0 ≤ (0 : Int) ∧ (0 : Int) ≤ ((kept (clo g mark) L j).length : Int) ∧ ((kept (clo g mark) L j).length : Int) ≤ (L.length : Int) ∧ ((0 : Int) = 0 ∨ (0 : Int) < ((kept (clo g mark) L j).length : Int))) ∧ True) ⟨[(41, tG 5000 12 0 (((((kept (clo g mark) L j).length : Int) : Int) - 0).toNat))], [(z56_15 L g mark j M), (z56_8 L O g mark j), (z56_3 g), (z56_4 mark late bad n), (z56_9 L O g mark j)]⟩ (⟨by omega, trivial⟩) ?_
 refine AOps.le (st' := ⟨[(41, tG 5000 12 0 ((kept (clo g mark) L j).length))], [(z56_15 L g mark j M), (z56_8 L O g mark j), (z56_3 g), (z56_4 mark late bad n), (z56_9 L O g mark j)]⟩) (Le.of (LeS.cons rfl (TLe.gs (by omega)) LeS.nil) (ek rfl (ek rfl (ek rfl (ek rfl (ek rfl LeE.nil))))) (by kernel_rfl)) ?_
 refine AOps.e ⟨[(4, tG 5000 12 0 ((kept (clo g mark) L j).length))], [(z56_15 L g mark j M), (z56_8 L O g mark j), (z56_3 g), (z56_4 mark late bad n), (z56_9 L O g mark j)]⟩ ?_
 refine AC.ret ?_
 refine ResG.ret (Q := fun r_ e_ => r_ = tG 5000 12 0 ((L.filter fun x => !clo g mark x).length) ∧ e_ = [(5000, arow 46 12 eCell zCell (L.filter fun x => !clo g mark x)), (5001, arow 46 12 eCell zCell (O ++ L.filter (clo g mark))), (9000, .var ((eGrid g).map .d)), (9001, .var ([.d (dI mark), .d (dI late), .d (dI bad), .d (dI n), .any])), (9002, .var [.gs 5001 12 0 ((O ++ L.filter (clo g mark)).length)])]) [(5000, 5000), (5001, 5001), (9000, 9000), (9001, 9001), (9002, 9002)] (us := [.c (.gs 5000 12 0 ((kept (clo g mark) L j).length))]) (us' := [.c (.gs 5000 12 0 ((L.filter fun x => !clo g mark x).length))]) (env' := [(5000, arow 46 12 eCell zCell (L.filter fun x => !clo g mark x)), (5001, arow 46 12 eCell zCell (O ++ L.filter (clo g mark))), (9000, .var ((eGrid g).map .d)), (9001, .var ([.d (dI mark), .d (dI late), .d (dI bad), .d (dI n), .any])), (9002, .var [.gs 5001 12 0 ((O ++ L.filter (clo g mark)).length)])]) (by kernel_rfl) (us_cons (w' := .c (.gs 5000 12 0 ((L.filter fun x => !clo g mark x).length))) (by kernel_rfl) (ULe.c (CLe.gs (congrArg List.length (show ((kept (clo g mark) L j)) = ((L.filter fun x => !clo g mark x)) from ?_)))) us_nil) (endE_cons (b' := arow 46 12 eCell zCell (L.filter fun x => !clo g mark x)) (by kernel_rfl) (by kernel_rfl) (BLe.eq (congrArg (arow 46 12 eCell zCell) (show ((M.take ((kept (clo g mark) L j).length))) = ((L.filter fun x => !clo g mark x)) from ?_))) (endE_cons (b' := arow 46 12 eCell zCell (O ++ L.filter (clo g mark))) (by kernel_rfl) (by kernel_rfl) (BLe.eq (congrArg (arow 46 12 eCell zCell) (show ((O ++ gone (clo g mark) L j)) = ((O ++ L.filter (clo g mark))) from ?_))) (endE_cons (b' := .var ((eGrid g).map .d)) (by kernel_rfl) (by kernel_rfl) (BLe.refl _) (endE_cons (b' := .var ([.d (dI mark), .d (dI late), .d (dI bad), .d (dI n), .any])) (by kernel_rfl) (by kernel_rfl) (BLe.refl _) (endE_cons (b' := .var [.gs 5001 12 0 ((O ++ L.filter (clo g mark)).length)]) (by kernel_rfl) (by kernel_rfl) (BLe.var (All2.cons (CLe.gs (congrArg List.length (show ((O ++ gone (clo g mark) L j)) = ((O ++ L.filter (clo g mark))) from ?_))) All2.nil)) endE_nil))))) (by kernel_rfl) ⟨rfl, rfl⟩
 iterate 4 (· first | rfl | exact idxF_keep (by first | assumption | omega) | exact kept_all (by omega) | exact del_end i2 (by omega) | (rw [gone_all (by omega)]) | exact over_all0 (by first | assumption | omega))
end Go.Proofs.Ytfpmgnkbklnkaaa.Eng
end
section
set_option linter.unusedSimpArgs false
set_option linter.unusedVariables false
set_option maxRecDepth 100000
set_option maxHeartbeats 4000000
namespace Go.Proofs.Ytfpmgnkbklnkaaa.Eng
open Go Go.Proofs
abbrev z52G_0 (g : Grid) : Nat × Blk := (2, .var ((eGrid g).map .d))
abbrev z52G_1 : Nat × T := (6, tD (.v (.slice none 0 0)))
abbrev z52G_2 (g : Grid) : Nat × T := (24, I (Int.tdiv g.Size g.Hop))
abbrev z52G_3 (g : Grid) (t : Int) (k : Nat) : Nat × T := (6, tG 1006 1 0 ((startsTo g t k).length))
abbrev z52G_4 (g : Grid) (t : Int) (k : Nat) : Nat × Blk := (1006, arow 3 1 eI 0 (startsTo g t k ++ [(((t - (Int.tmod t g.Hop)) - g.Size) + (g.Hop * ((k : Int) + 1)))]))
abbrev z52G_5 (g : Grid) (t : Int) (k : Nat) : Nat × T := (6, tG 1006 1 0 ((startsTo g t k ++ [(((t - (Int.tmod t g.Hop)) - g.Size) + (g.Hop * ((k : Int) + 1)))]).length))
abbrev y52G_0 (g : Grid) (t : Int) (k : Nat) : List (Nat × Blk) := [(z52G_0 g), (1006, arow 3 1 eI 0 (startsTo g t k))]
/-- headgate/grid.Starts. -/
theorem ok_startsG (g : Grid) (t : Int) :
 FnG Try.prog 52 [.agg ((eGrid g).map .d), .c (.d (dI t))] [] (fun r_ e_ => r_ = .tup [.c (.gs 5000 1 0 ((gridStarts g t).length)), .c (.d (dI (startsErr g t)))] ∧ e_ = [(5000, arow 3 1 eI 0 (gridStarts g t))]) := by
 refine FnG.intro Try.func52 rfl (by kernel_rfl) (by kernel_rfl) (by kernel_rfl) (by kernel_rfl) (N := 51) (by kernel_rfl) ?_
 intro w0 m0 F_ β_
 show AC _ _ ⟨[(0, tA ((eGrid g).map .d)), (1, I t)], []⟩ _
 refine AC.q ⟨[(1, I t), sp 2], [(z52G_0 g)]⟩ ?_
 refine AC.seq ?_
 refine AC.rS [0, 1, 2, 3, 4, 5, 6, 7, 8, 9, 10] ?_
 refine AOps.m [0] ⟨[(1, I t), sp 2, (9, tA ((eGrid g).map .d))], [(z52G_0 g)]⟩ ?_
 refine AOps.ca (ok_check g) ?_
 rintro _ rfl
 refine AOps.m [2, 3] ⟨[(1, I t), sp 2, (12, B ((gridCheck g) != 0))], [(z52G_0 g)]⟩ ?_
 refine AOps.s [4, 5] 6 12 14 15 false ((gridCheck g) != 0) (decide (t < 0)) [1, 2] (fun h_ => ?_) ?_
 clear h_
 refine AOps.m [4, 5] ⟨[(1, I t), sp 2, (12, B false), (14, B (decide (t < 0)))], [(z52G_0 g)]⟩ ?_
 exact scd
 refine AOps.m [7] ⟨[(1, I t), sp 2, (16, B (((gridCheck g) != 0) || (decide (t < 0))))], [(z52G_0 g)]⟩ ?_
 refine AOps.s [8, 9] 10 16 18 19 false (((gridCheck g) != 0) || (decide (t < 0))) (decide (t > 1099511627776)) [1, 2] (fun h_ => ?_) ?_
 clear h_
 refine AOps.m [8, 9] ⟨[(1, I t), sp 2, (16, B false), (18, B (decide (t > 1099511627776)))], [(z52G_0 g)]⟩ ?_
 exact scd
 refine AOps.done ?_
 refine AC.cd (b := (((gridCheck g) != 0) || (decide (t < 0))) || (decide (t > 1099511627776))) (fun h_ => ?_) (fun h_ => ?_)
 have h1 := h_; have r1 := h_; clear h_; try simp only [bb] at h1
 refine AC.q ⟨[(4, tD (.v (.slice none 0 0))), (5, I 1)], []⟩ ?_
 refine AC.nl 1004 4 3 1 (fun i_ j_ => nth (eI (([] : List Int).getD i_ 0)) j_) ⟨[(4, tG 1004 1 0 (([] : List Int).length)), (5, I 1)], [(1004, arow 3 1 eI 0 ([] : List Int))]⟩ ?_
 refine AC.ret ?_
 refine ResG.ret (Q := fun r_ e_ => r_ = .tup [.c (.gs 5000 1 0 ((gridStarts g t).length)), .c (.d (dI (startsErr g t)))] ∧ e_ = [(5000, arow 3 1 eI 0 (gridStarts g t))]) [(5000, 1004)] (us := [.c (.gs 1004 1 0 (([] : List Int).length)), .c (.d (dI 1))]) (us' := [.c (.gs 5000 1 0 ((gridStarts g t).length)), .c (.d (dI (startsErr g t)))]) (env' := [(5000, arow 3 1 eI 0 (gridStarts g t))]) (by kernel_rfl) (us_cons (w' := .c (.gs 1004 1 0 ((gridStarts g t).length))) (by kernel_rfl) (ULe.c (CLe.gs (congrArg List.length (show (([] : List Int)) = ((gridStarts g t)) from ?_)))) (us_cons (w' := .c (.d (dI (startsErr g t)))) (by kernel_rfl) (ULe.c (CLe.d (DLe.eq (congrArg dI (show (1) = (startsErr g t) from ?_))))) us_nil)) (endE_cons (b' := arow 3 1 eI 0 (gridStarts g t)) (by kernel_rfl) (by kernel_rfl) (BLe.eq (congrArg (arow 3 1 eI 0) (show (([] : List Int)) = ((gridStarts g t)) from ?_))) endE_nil) (by kernel_rfl) ⟨rfl, rfl⟩
 iterate 3 (· first | (rw [gridStarts, if_pos (time_yes (by assumption) (by omega) (by omega))]; congr 1; omega) | (rw [startsErr, if_pos (time_yes (by assumption) (by omega) (by omega))]) | (rw [gridStarts, if_neg (time_no (by omega))]) | (rw [startsErr, if_neg (time_no (by omega))]))
 have h1 := h_; have r1 := h_; clear h_; try simp only [bb] at h1
 refine AC.skip ?_
 have hM : gridMay g = true := gridCheck_ok (by omega)
 have hG := gridMay_spec hM; have hK := gridMay_mod hM; have hT := tmod_b (t := t) (h := g.Hop) (by omega) (by omega)
 refine AC.q ⟨[(1, I t), sp 2, (z52G_1)], [(z52G_0 g)]⟩ ?_
 refine AC.seq ?_
 refine AC.rS [0, 1, 2, 3, 4, 5] ?_
 refine AOps.mc [0, 1, 2, 3, 4, 5] (C' := (g.Hop ≠ 0) ∧ True) ⟨[(1, I t), sp 2, (z52G_1), (24, I (IntKind.i64.wrap (Int.tdiv g.Size g.Hop))), (25, I 0)], [(z52G_0 g)]⟩ (⟨by omega, trivial⟩) ?_
 refine AOps.le (st' := ⟨[(1, I t), sp 2, (z52G_1), (z52G_2 g), (25, I 0)], [(z52G_0 g)]⟩) (Le.of (lk rfl (lk rfl (lk rfl (LeS.cons rfl (TLe.i (by rw [wrap_in (n := (Int.tdiv g.Size g.Hop)) (by omega) (by omega)] <;> omega)) (lk rfl LeS.nil))))) (ek rfl LeE.nil) (by kernel_rfl)) ?_
 refine AOps.done ?_
 refine AC.block ?_
 refine AC.nl 1006 6 3 1 (fun i_ j_ => nth (eI (([] : List Int).getD i_ 0)) j_) ⟨[(1, I t), sp 2, (6, tG 1006 1 0 (([] : List Int).length)), (z52G_2 g), (25, I 0)], [(z52G_0 g), (1006, arow 3 1 eI 0 ([] : List Int))]⟩ ?_
 refine AC.loop (ι := Nat) (fun k => ⟨[(1, I t), sp 2, (z52G_3 g t k), (z52G_2 g), (25, I (k : Int))], y52G_0 g t k⟩) (fun k => ((k : Int) ≤ Int.tdiv g.Size g.Hop)) (fun k => (Int.tdiv g.Size g.Hop).toNat - k) (0) (by omega) (Le.of (lk rfl (lk rfl (LeS.cons rfl (TLe.gs (congrArg List.length ?_)) (lk rfl (LeS.cons rfl (TLe.i (by omega)) LeS.nil))))) (ek rfl (LeE.cons rfl (BLe.eq (congrArg (arow 3 1 eI 0) ?_)) LeE.nil)) (by kernel_rfl)) ?_
 iterate 2 (· first | rfl | (rw [startsTo_succ, if_pos (by unfold stF; omega)]; rfl) | (rw [startsTo_succ, if_neg (by unfold stF; omega)]))
 intro k hi_
 have i1 : (k : Int) ≤ Int.tdiv g.Size g.Hop := hi_; clear hi_
 show AC _ _ ⟨[(1, I t), sp 2, (z52G_3 g t k), (z52G_2 g), (25, I (k : Int))], y52G_0 g t k⟩ _
 have hm := mulb (a := g.Hop) (A := 1048576) (b := (k : Int) + 1) (B := 9) (by omega) (by omega) (by omega) (by omega)
 have hl_ := startsTo_len g t k
 refine AC.q ⟨[(1, I t), sp 2, (z52G_3 g t k), (z52G_2 g), (25, I (k : Int)), (26, B (decide ((k : Int) < (Int.tdiv g.Size g.Hop))))], y52G_0 g t k⟩ ?_
 refine AC.seq ?_
 refine AC.cd (b := decide ((k : Int) < (Int.tdiv g.Size g.Hop))) (fun h_ => ?_) (fun h_ => ?_)
 have h2 := h_; have r2 := h_; clear h_; try simp only [bb] at h2
 refine AC.skip ?_
 refine AC.seq ?_
 refine AC.block ?_
 refine AC.q ⟨[(1, I t), sp 2, (z52G_3 g t k), (7, I (k : Int)), (z52G_2 g), (25, I (k : Int))], y52G_0 g t k⟩ ?_
 refine AC.dS 14 [] ⟨[(1, I t), sp 2, (z52G_3 g t k), (7, I (k : Int)), (z52G_2 g), (25, I (k : Int)), (28, I t), (29, I t), (30, tP 2 1), (31, I g.Hop), (32, I (Int.tmod t g.Hop)), (33, I (IntKind.i64.wrap (t - (Int.tmod t g.Hop)))), (34, tP 2 0), (35, I g.Size), (36, I (IntKind.i64.wrap ((IntKind.i64.wrap (t - (Int.tmod t g.Hop))) - g.Size))), (37, tP 2 1), (38, I g.Hop), (39, I (k : Int)), (40, I (IntKind.i64.wrap ((k : Int) + 1))), (41, I (IntKind.i64.wrap (g.Hop * (IntKind.i64.wrap ((k : Int) + 1)))))], y52G_0 g t k⟩ [14, 15] (.inl rfl) ?_ ?_
 · exact (ar 9 (au (au (ar 3 AllUpTo.zero) ot) (OpAt.val rfl (by kernel_rfl) (C' := g.Hop ≠ 0) (x := I (Int.tmod t g.Hop)) (by kernel_rfl) (by omega) rfl (by kernel_rfl) (by kernel_rfl) (TLe.refl _) (by kernel_rfl) (by kernel_rfl) (by kernel_rfl))))
 refine AOps.m [14, 15] ⟨[(1, I t), sp 2, (z52G_3 g t k), (8, I (IntKind.i64.wrap ((IntKind.i64.wrap ((IntKind.i64.wrap (t - (Int.tmod t g.Hop))) - g.Size)) + (IntKind.i64.wrap (g.Hop * (IntKind.i64.wrap ((k : Int) + 1))))))), (z52G_2 g), (25, I (k : Int))], y52G_0 g t k⟩ ?_
 refine AOps.le (st' := ⟨[(1, I t), sp 2, (z52G_3 g t k), (8, I (((t - (Int.tmod t g.Hop)) - g.Size) + (g.Hop * ((k : Int) + 1)))), (z52G_2 g), (25, I (k : Int))], y52G_0 g t k⟩) (Le.of (lk rfl (lk rfl (lk rfl (LeS.cons rfl (TLe.i (by rw [wrap_in (n := ((k : Int) + 1)) (by omega) (by omega), wrap_in (n := (g.Hop * ((k : Int) + 1))) (by omega) (by omega), wrap_in (n := (t - (Int.tmod t g.Hop))) (by omega) (by omega), wrap_in (n := ((t - (Int.tmod t g.Hop)) - g.Size)) (by omega) (by omega), wrap_in (n := (((t - (Int.tmod t g.Hop)) - g.Size) + (g.Hop * ((k : Int) + 1)))) (by omega) (by omega)] <;> omega)) (lk rfl (lk rfl LeS.nil)))))) (ek rfl (ek rfl LeE.nil)) (by kernel_rfl)) ?_
 refine AOps.done ?_
 refine AC.q ⟨[(1, I t), sp 2, (z52G_3 g t k), (8, I (((t - (Int.tmod t g.Hop)) - g.Size) + (g.Hop * ((k : Int) + 1)))), (z52G_2 g), (25, I (k : Int)), (44, B (decide ((((t - (Int.tmod t g.Hop)) - g.Size) + (g.Hop * ((k : Int) + 1))) ≥ 0)))], y52G_0 g t k⟩ ?_
 refine AC.cd (b := decide ((((t - (Int.tmod t g.Hop)) - g.Size) + (g.Hop * ((k : Int) + 1))) ≥ 0)) (fun h_ => ?_) (fun h_ => ?_)
 have h3 := h_; have r3 := h_; clear h_; try simp only [bb] at h3
 refine AC.rR [0, 1, 2, 3, 4] ?_
 refine AOps.mc [0, 1, 2, 3] (C' := ((startsTo g t k).length = (startsTo g t k).length ∧ (startsTo g t k).length + 1 ≤ 9223372036854775807 ∧ ((startsTo g t k).length + 1) * 8 ≤ 140737488355328) ∧ True) ⟨[(1, I t), sp 2, (z52G_2 g), (25, I (k : Int)), (48, tG 1006 1 0 ((startsTo g t k).length + 1))], [(z52G_0 g), (1006, .arr 3 1 ((startsTo g t k).length + 1) fun i_ j_ => bif Nat.blt i_ (startsTo g t k).length then nth (eI ((startsTo g t k).getD i_ 0)) j_ else (fun i_ j_ => nth [dI (((t - (Int.tmod t g.Hop)) - g.Size) + (g.Hop * ((k : Int) + 1)))] (i_ * 1 + j_)) (i_ - (startsTo g t k).length) j_)]⟩ (⟨by omega, trivial⟩) ?_
 refine AOps.le (st' := ⟨[(1, I t), sp 2, (z52G_2 g), (25, I (k : Int)), (48, tG 1006 1 0 ((startsTo g t k ++ [(((t - (Int.tmod t g.Hop)) - g.Size) + (g.Hop * ((k : Int) + 1)))]).length))], [(z52G_0 g), (z52G_4 g t k)]⟩) (Le.of (lk rfl (lk rfl (lk rfl (lk rfl (LeS.cons rfl (TLe.gs (len1 _ _)) LeS.nil))))) (ek rfl (LeE.cons rfl (BLe.app1 (e := 3) (sz := 1) (enc := eI) (d := 0) (L := startsTo g t k) (x := (((t - (Int.tmod t g.Hop)) - g.Size) + (g.Hop * ((k : Int) + 1)))) (g := fun i_ j_ => nth [dI (((t - (Int.tmod t g.Hop)) - g.Size) + (g.Hop * ((k : Int) + 1)))] (i_ * 1 + j_)) (fun j_ hj_ => by simp only [Nat.zero_mul, Nat.zero_add] <;> rfl)) LeE.nil)) (by kernel_rfl)) ?_
 refine AOps.e ⟨[(1, I t), sp 2, (z52G_5 g t k), (z52G_2 g), (25, I (k : Int))], [(z52G_0 g), (z52G_4 g t k)]⟩ ?_
 refine AC.rR [0, 1] ?_
 refine AOps.m [0, 1] ⟨[(1, I t), sp 2, (z52G_5 g t k), (z52G_2 g), (25, I (IntKind.i64.wrap ((k : Int) + 1)))], [(z52G_0 g), (z52G_4 g t k)]⟩ ?_
 refine AOps.le (st' := ⟨[(1, I t), sp 2, (z52G_5 g t k), (z52G_2 g), (25, I ((k + 1 : Nat) : Int))], [(z52G_0 g), (z52G_4 g t k)]⟩) (Le.of (lk rfl (lk rfl (lk rfl (lk rfl (LeS.cons rfl (TLe.i (by rw [wrap_in (n := ((k : Int) + 1)) (by omega) (by omega)] <;> omega)) LeS.nil))))) (ek rfl (ek rfl LeE.nil)) (by kernel_rfl)) ?_
 refine AOps.done ?_
 try refine blockA_n ?_
 refine roundA_n (k + 1) (by omega) (by show (Int.tdiv g.Size g.Hop).toNat - (k + 1) < (Int.tdiv g.Size g.Hop).toNat - k; omega) (Le.of (lk rfl (lk rfl (LeS.cons rfl (TLe.gs (congrArg List.length ?_)) (lk rfl (LeS.cons rfl (TLe.i (by omega)) LeS.nil))))) (ek rfl (LeE.cons rfl (BLe.eq (congrArg (arow 3 1 eI 0) ?_)) LeE.nil)) (by kernel_rfl))
 iterate 2 (· first | rfl | (rw [startsTo_succ, if_pos (by unfold stF; omega)]; rfl) | (rw [startsTo_succ, if_neg (by unfold stF; omega)]))
 have h3 := h_; have r3 := h_; clear h_; try simp only [bb] at h3
 refine AC.skip ?_
 refine AC.rR [0, 1] ?_
 refine AOps.m [0, 1] ⟨[(1, I t), sp 2, (z52G_3 g t k), (z52G_2 g), (25, I (IntKind.i64.wrap ((k : Int) + 1)))], y52G_0 g t k⟩ ?_
 refine AOps.le (st' := ⟨[(1, I t), sp 2, (z52G_3 g t k), (z52G_2 g), (25, I ((k + 1 : Nat) : Int))], y52G_0 g t k⟩) (Le.of (lk rfl (lk rfl (lk rfl (lk rfl (LeS.cons rfl (TLe.i (by rw [wrap_in (n := ((k : Int) + 1)) (by omega) (by omega)] <;> omega)) LeS.nil))))) (ek rfl (ek rfl LeE.nil)) (by kernel_rfl)) ?_
 refine AOps.done ?_
 try refine blockA_n ?_
 refine roundA_n (k + 1) (by omega) (by show (Int.tdiv g.Size g.Hop).toNat - (k + 1) < (Int.tdiv g.Size g.Hop).toNat - k; omega) (Le.of (lk rfl (lk rfl (LeS.cons rfl (TLe.gs (congrArg List.length ?_)) (lk rfl (LeS.cons rfl (TLe.i (by omega)) LeS.nil))))) (ek rfl (LeE.cons rfl (BLe.eq (congrArg (arow 3 1 eI 0) ?_)) LeE.nil)) (by kernel_rfl))
 iterate 2 (· first | rfl | (rw [startsTo_succ, if_pos (by unfold stF; omega)]; rfl) | (rw [startsTo_succ, if_neg (by unfold stF; omega)]))
 have h2 := h_; have r2 := h_; clear h_; try simp only [bb] at h2
 refine AC.exit ?_
 repeat (first | refine thenA_x ?_ | refine roundA_x ?_ | refine joinA_x ?_ | refine blockA_hit ?_ | refine blockA_miss (by decide) ?_)
 refine AC.q ⟨[(4, tG 1006 1 0 ((startsTo g t k).length)), (5, I 0)], [(1006, arow 3 1 eI 0 (startsTo g t k))]⟩ ?_
 refine AC.ret ?_
 refine ResG.ret (Q := fun r_ e_ => r_ = .tup [.c (.gs 5000 1 0 ((gridStarts g t).length)), .c (.d (dI (startsErr g t)))] ∧ e_ = [(5000, arow 3 1 eI 0 (gridStarts g t))]) [(5000, 1006)] (us := [.c (.gs 1006 1 0 ((startsTo g t k).length)), .c (.d (dI 0))]) (us' := [.c (.gs 5000 1 0 ((gridStarts g t).length)), .c (.d (dI (startsErr g t)))]) (env' := [(5000, arow 3 1 eI 0 (gridStarts g t))]) (by kernel_rfl) (us_cons (w' := .c (.gs 1006 1 0 ((gridStarts g t).length))) (by kernel_rfl) (ULe.c (CLe.gs (congrArg List.length (show ((startsTo g t k)) = ((gridStarts g t)) from ?_)))) (us_cons (w' := .c (.d (dI (startsErr g t)))) (by kernel_rfl) (ULe.c (CLe.d (DLe.eq (congrArg dI (show (0) = (startsErr g t) from ?_))))) us_nil)) (endE_cons (b' := arow 3 1 eI 0 (gridStarts g t)) (by kernel_rfl) (by kernel_rfl) (BLe.eq (congrArg (arow 3 1 eI 0) (show (startsTo g t k) = ((gridStarts g t)) from ?_))) endE_nil) (by kernel_rfl) ⟨rfl, rfl⟩
 iterate 3 (· first | (rw [gridStarts, if_pos (time_yes (by assumption) (by omega) (by omega))]; congr 1; omega) | (rw [startsErr, if_pos (time_yes (by assumption) (by omega) (by omega))]) | (rw [gridStarts, if_neg (time_no (by omega))]) | (rw [startsErr, if_neg (time_no (by omega))]))
end Go.Proofs.Ytfpmgnkbklnkaaa.Eng
end
section
set_option linter.unusedSimpArgs false
set_option linter.unusedVariables false
set_option maxRecDepth 100000
set_option maxHeartbeats 4000000
namespace Go.Proofs.Ytfpmgnkbklnkaaa.Eng
open Go Go.Proofs
abbrev z84_0 (L : List Cell) : Nat × T := (0, tG 9500 12 0 L.length)
abbrev z84_1 : Nat × T := (2, .one (.c (.fn 47 [])))
abbrev z84_2 (L : List Cell) : Nat × Blk := (9500, arow 46 12 eCell zCell L)
abbrev z84_3 (c : Cell) : Nat × Blk := (4, .var ((eCell c).map .d))
abbrev z84_4 (lo : Nat) (hi : Nat) : Nat × T := (11, I (((lo + hi) / 2 : Nat) : Int))
abbrev y84_0 (L : List Cell) (c : Cell) : List (Nat × Blk) := [(z84_3 c), (z84_2 L)]
/-- slices.BinarySearchFunc[[]headgate/api.Cell,headgate/api.Cell,headgate/api.Cell]. -/
theorem ok_bsearch (L : List Cell) (c : Cell) (hl : L.length ≤ 1000) (hs : Srt L) :
 FnG Try.prog 84 [.c (.gs 9500 12 0 L.length), .agg ((eCell c).map .d), .c (.fn 47 [])] [(9500, arow 46 12 eCell zCell L)] (fun r_ e_ => r_ = .tup [.c (.d (dI ((aheadN L c : Nat) : Int))), .c (.d (dB (hasC L c)))] ∧ e_ = [(9500, arow 46 12 eCell zCell L)]) := by
 refine FnG.intro Try.func84 rfl (by kernel_rfl) (by kernel_rfl) (by kernel_rfl) (by kernel_rfl) (N := 49) (by kernel_rfl) ?_
 intro w0 m0 F_ β_
 show AC _ _ ⟨[(z84_0 L), (1, tA ((eCell c).map .d)), (z84_1)], [(z84_2 L)]⟩ _
 refine AC.q ⟨[(z84_0 L), (z84_1), sp 4], y84_0 L c⟩ ?_
 refine AC.q ⟨[(z84_0 L), (z84_1), sp 4, (8, I (L.length : Int))], y84_0 L c⟩ ?_
 refine AC.q ⟨[(z84_0 L), (z84_1), sp 4, (8, I (L.length : Int)), (9, I 0), (10, I (L.length : Int))], y84_0 L c⟩ ?_
 refine AC.seq ?_
 refine AC.block ?_
 refine AC.loop (ι := Nat × Nat) (fun x_ => match x_ with | (lo, hi) => ⟨[(z84_0 L), (z84_1), sp 4, (8, I (L.length : Int)), (9, I (lo : Int)), (10, I (hi : Int))], y84_0 L c⟩) (fun x_ => match x_ with | (lo, hi) => (SrcI L c lo hi)) (fun x_ => match x_ with | (lo, hi) => hi - lo) (0, L.length) (by exact src_init L c) (Le.of (lk rfl (lk rfl (lk rfl (lk rfl (LeS.cons rfl (TLe.i (by rfl)) (lk rfl LeS.nil)))))) (ek rfl (ek rfl LeE.nil)) (by kernel_rfl)) ?_
 intro x_ hi_
 obtain ⟨lo, hi⟩ := x_
 have i1 : SrcI L c lo hi := hi_; clear hi_
 show AC _ _ ⟨[(z84_0 L), (z84_1), sp 4, (8, I (L.length : Int)), (9, I (lo : Int)), (10, I (hi : Int))], y84_0 L c⟩ _
 have hb1 := i1.1; have hb2 := i1.2.1
 refine AC.seq ?_
 refine AC.q ⟨[(z84_0 L), (z84_1), sp 4, (8, I (L.length : Int)), (9, I (lo : Int)), (10, I (hi : Int)), (17, B (decide ((lo : Int) < (hi : Int))))], y84_0 L c⟩ ?_
 refine AC.cd (b := decide ((lo : Int) < (hi : Int))) (fun h_ => ?_) (fun h_ => ?_)
 have h1 := h_; have r1 := h_; clear h_; try simp only [bb] at h1
 refine AC.skip ?_
 refine AC.block ?_
 refine AC.rS [0, 1, 2, 3, 4, 5, 6] ?_
 refine AOps.ec (C' := (0 ≤ (1 : Int)) ∧ True) ⟨[(z84_0 L), (z84_1), sp 4, (8, I (L.length : Int)), (9, I (lo : Int)), (10, I (hi : Int)), (11, I (IntKind.i64.wrap (Int.fdiv (IntKind.u64.wrap (IntKind.i64.wrap ((lo : Int) + (hi : Int)))) (2 ^ min ((1 : Int)).toNat IntKind.u64.bits))))], y84_0 L c⟩ (⟨by omega, trivial⟩) ?_
 refine AC.le (st' := ⟨[(z84_0 L), (z84_1), sp 4, (8, I (L.length : Int)), (9, I (lo : Int)), (10, I (hi : Int)), (z84_4 lo hi)], y84_0 L c⟩) (Le.of (lk rfl (lk rfl (lk rfl (lk rfl (lk rfl (lk rfl (LeS.cons rfl (TLe.i (by exact mid_eq (by omega))) LeS.nil))))))) (ek rfl (ek rfl LeE.nil)) (by kernel_rfl)) ?_
 refine AC.dS 6 [] ⟨[(z84_0 L), (z84_1), sp 4, (8, I (L.length : Int)), (9, I (lo : Int)), (10, I (hi : Int)), (z84_4 lo hi), (24, .one (.c (.fn 47 []))), (25, tG 9500 12 0 L.length), (26, I (((lo + hi) / 2 : Nat) : Int)), (27, .one (.c (.ep 9500 12 ((lo + hi) / 2) 0))), (28, tA ((eCell (L.getD ((lo + hi) / 2) zCell)).map .d)), (29, tA ((eCell c).map .d))], y84_0 L c⟩ [6, 7] (.inl rfl) ?_ ?_
 · exact (au (au (au (au (ar 2 AllUpTo.zero) ot) (OpAt.val rfl (by kernel_rfl) (C' := 0 ≤ (((lo + hi) / 2 : Nat) : Int) ∧ (((lo + hi) / 2 : Nat) : Int) < (L.length : Int)) (x := .one (.c (.ep 9500 12 ((lo + hi) / 2) 0))) (by kernel_rfl) (by omega) rfl (by kernel_rfl) (by kernel_rfl) (TLe.refl _) (by kernel_rfl) (by kernel_rfl) (by kernel_rfl))) (OpAt.val rfl (by kernel_rfl) (C' := ((lo + hi) / 2) < L.length) (x := tA ((eCell (L.getD ((lo + hi) / 2) zCell)).map .d)) (by kernel_rfl) (by omega) rfl (by kernel_rfl) (by kernel_rfl) (TLe.refl _) (by kernel_rfl) (by kernel_rfl) (by kernel_rfl))) ot)
 refine AOps.ca (ok_order (L.getD ((lo + hi) / 2) zCell) c) ?_
 rintro _ rfl
 refine AOps.e ⟨[(z84_0 L), (z84_1), sp 4, (8, I (L.length : Int)), (9, I (lo : Int)), (10, I (hi : Int)), (z84_4 lo hi), (31, B (decide ((orI [cmpI (L.getD ((lo + hi) / 2) zCell).Start c.Start, cmpI (L.getD ((lo + hi) / 2) zCell).Key c.Key]) < 0)))], y84_0 L c⟩ ?_
 refine AC.cd (b := decide ((orI [cmpI (L.getD ((lo + hi) / 2) zCell).Start c.Start, cmpI (L.getD ((lo + hi) / 2) zCell).Key c.Key]) < 0)) (fun h_ => ?_) (fun h_ => ?_)
 have h2 := h_; have r2 := h_; clear h_; try simp only [bb] at h2
 refine AC.qR ⟨[(z84_0 L), (z84_1), sp 4, (8, I (L.length : Int)), (9, I (IntKind.i64.wrap ((((lo + hi) / 2 : Nat) : Int) + 1))), (10, I (hi : Int))], y84_0 L c⟩ ?_
 try refine blockA_n ?_
 exact roundA_n ((lo + hi) / 2 + 1, hi) (by first | exact src_lo hs i1 (by omega) (by assumption) | exact src_hi hs i1 (by omega) (by omega)) (by show hi - ((lo + hi) / 2 + 1) < hi - lo; omega) (Le.of (lk rfl (lk rfl (lk rfl (lk rfl (LeS.cons rfl (TLe.i (by first | rfl | omega | (rw [wrap_in (by omega) (by omega)]; omega))) (lk rfl LeS.nil)))))) (ek rfl (ek rfl LeE.nil)) (by kernel_rfl))
 have h2 := h_; have r2 := h_; clear h_; try simp only [bb] at h2
 refine AC.qR ⟨[(z84_0 L), (z84_1), sp 4, (8, I (L.length : Int)), (9, I (lo : Int)), (10, I (((lo + hi) / 2 : Nat) : Int))], y84_0 L c⟩ ?_
 try refine blockA_n ?_
 exact roundA_n (lo, (lo + hi) / 2) (by first | exact src_lo hs i1 (by omega) (by assumption) | exact src_hi hs i1 (by omega) (by omega)) (by show ((lo + hi) / 2) - lo < hi - lo; omega) (Le.of (lk rfl (lk rfl (lk rfl (lk rfl (lk rfl (LeS.cons rfl (TLe.i (by first | rfl | omega | (rw [wrap_in (by omega) (by omega)]; omega))) LeS.nil)))))) (ek rfl (ek rfl LeE.nil)) (by kernel_rfl))
 have h1 := h_; have r1 := h_; clear h_; try simp only [bb] at h1
 refine AC.exit ?_
 repeat (first | refine thenA_x ?_ | refine roundA_x ?_ | refine joinA_x ?_ | refine blockA_hit ?_ | refine blockA_miss (by decide) ?_)
 refine AC.split (decide ((lo : Int) < (L.length : Int))) (fun h_ => ?_) (fun h_ => ?_)
 have hs1 := h_
 have h2 := h_; have r2 := h_; clear h_; try simp only [bb] at h2
 refine AC.dS 15 [] ⟨[(z84_0 L), (z84_1), sp 4, (6, I (lo : Int)), (8, I (L.length : Int)), (9, I (lo : Int)), (35, I (lo : Int)), (36, I (lo : Int)), (37, I (L.length : Int)), (38, B true), (39, B true), (40, .one (.c (.fn 47 []))), (41, tG 9500 12 0 L.length), (42, I (lo : Int)), (43, .one (.c (.ep 9500 12 lo 0))), (44, tA ((eCell (L.getD lo zCell)).map .d)), (45, tA ((eCell c).map .d)), (46, I (orI [cmpI (L.getD lo zCell).Start c.Start, cmpI (L.getD lo zCell).Key c.Key])), (47, B ((orI [cmpI (L.getD lo zCell).Start c.Start, cmpI (L.getD lo zCell).Key c.Key]) == 0)), (48, B ((orI [cmpI (L.getD lo zCell).Start c.Start, cmpI (L.getD lo zCell).Key c.Key]) == 0))], y84_0 L c⟩ [15] (.inl rfl) ?_ ?_
 · exact (ar 3 (au (au (au (au (ar 4 (au (au (ar 2 AllUpTo.zero) ot) (OpAt.val rfl (by kernel_rfl) (C' := True) (x := B (decide ((lo : Int) < (L.length : Int)))) (by kernel_rfl) (trivial) rfl (by kernel_rfl) (x' := B true) (by kernel_rfl) (TLe.b hs1) (by kernel_rfl) (by kernel_rfl) (by kernel_rfl)))) (OpAt.val rfl (by kernel_rfl) (C' := 0 ≤ (lo : Int) ∧ (lo : Int) < (L.length : Int)) (x := .one (.c (.ep 9500 12 lo 0))) (by kernel_rfl) (by omega) rfl (by kernel_rfl) (by kernel_rfl) (TLe.refl _) (by kernel_rfl) (by kernel_rfl) (by kernel_rfl))) (OpAt.val rfl (by kernel_rfl) (C' := lo < L.length) (x := tA ((eCell (L.getD lo zCell)).map .d)) (by kernel_rfl) (by omega) rfl (by kernel_rfl) (by kernel_rfl) (TLe.refl _) (by kernel_rfl) (by kernel_rfl) (by kernel_rfl))) ot) (oc (ok_order (L.getD lo zCell) c))))
 refine AOps.e ⟨[(6, I (lo : Int)), (7, B ((orI [cmpI (L.getD lo zCell).Start c.Start, cmpI (L.getD lo zCell).Key c.Key]) == 0))], [(z84_2 L)]⟩ ?_
 refine AC.ret ?_
 refine ResG.ret (Q := fun r_ e_ => r_ = .tup [.c (.d (dI ((aheadN L c : Nat) : Int))), .c (.d (dB (hasC L c)))] ∧ e_ = [(9500, arow 46 12 eCell zCell L)]) [(9500, 9500)] (us := [.c (.d (dI (lo : Int))), .c (.d (dB ((orI [cmpI (L.getD lo zCell).Start c.Start, cmpI (L.getD lo zCell).Key c.Key]) == 0)))]) (us' := [.c (.d (dI ((aheadN L c : Nat) : Int))), .c (.d (dB (hasC L c)))]) (env' := [(9500, arow 46 12 eCell zCell L)]) (by kernel_rfl) (us_cons (w' := .c (.d (dI ((aheadN L c : Nat) : Int)))) (by kernel_rfl) (ULe.c (CLe.d (DLe.eq (congrArg dI (show ((lo : Int)) = (((aheadN L c : Nat) : Int)) from ?_))))) (us_cons (w' := .c (.d (dB (hasC L c)))) (by kernel_rfl) (ULe.c (CLe.d (DLe.eq (congrArg dB (show ((orI [cmpI (L.getD lo zCell).Start c.Start, cmpI (L.getD lo zCell).Key c.Key]) == 0) = (hasC L c) from ?_))))) us_nil)) (endE_cons (b' := arow 46 12 eCell zCell L) (by kernel_rfl) (by kernel_rfl) (BLe.refl _) endE_nil) (by kernel_rfl) ⟨rfl, rfl⟩
 iterate 2 (· first | rfl | (rw [src_end i1 (by omega)]) | exact src_has1 i1 (by omega) (by omega) | exact src_has0 i1 (by omega) (by omega))
 have hs1 := h_
 have h2 := h_; have r2 := h_; clear h_; try simp only [bb] at h2
 refine AC.dS 15 [] ⟨[(z84_0 L), (z84_1), sp 4, (6, I (lo : Int)), (8, I (L.length : Int)), (9, I (lo : Int)), (35, I (lo : Int)), (36, I (lo : Int)), (37, I (L.length : Int)), (38, B false), (39, B false), (40, tD (.v (undef))), (41, tD (.v (undef))), (42, tD (.v (undef))), (43, tD (.v (undef))), (44, tD (.v (undef))), (45, tD (.v (undef))), (46, tD (.v (undef))), (47, tD (.v (undef))), (48, B false)], y84_0 L c⟩ [15] (.inl rfl) ?_ ?_
 · exact (ar 11 (au (au (ar 2 AllUpTo.zero) ot) (OpAt.val rfl (by kernel_rfl) (C' := True) (x := B (decide ((lo : Int) < (L.length : Int)))) (by kernel_rfl) (trivial) rfl (by kernel_rfl) (x' := B false) (by kernel_rfl) (TLe.b hs1) (by kernel_rfl) (by kernel_rfl) (by kernel_rfl))))
 refine AOps.e ⟨[(6, I (lo : Int)), (7, B false)], [(z84_2 L)]⟩ ?_
 refine AC.ret ?_
 refine ResG.ret (Q := fun r_ e_ => r_ = .tup [.c (.d (dI ((aheadN L c : Nat) : Int))), .c (.d (dB (hasC L c)))] ∧ e_ = [(9500, arow 46 12 eCell zCell L)]) [(9500, 9500)] (us := [.c (.d (dI (lo : Int))), .c (.d (dB false))]) (us' := [.c (.d (dI ((aheadN L c : Nat) : Int))), .c (.d (dB (hasC L c)))]) (env' := [(9500, arow 46 12 eCell zCell L)]) (by kernel_rfl) (us_cons (w' := .c (.d (dI ((aheadN L c : Nat) : Int)))) (by kernel_rfl) (ULe.c (CLe.d (DLe.eq (congrArg dI (show ((lo : Int)) = (((aheadN L c : Nat) : Int)) from ?_))))) (us_cons (w' := .c (.d (dB (hasC L c)))) (by kernel_rfl) (ULe.c (CLe.d (DLe.eq (congrArg dB (show (false) = (hasC L c) from ?_))))) us_nil)) (endE_cons (b' := arow 46 12 eCell zCell L) (by kernel_rfl) (by kernel_rfl) (BLe.refl _) endE_nil) (by kernel_rfl) ⟨rfl, rfl⟩
 iterate 2 (· first | rfl | (rw [src_end i1 (by omega)]) | exact src_has1 i1 (by omega) (by omega) | exact src_has0 i1 (by omega) (by omega))
end Go.Proofs.Ytfpmgnkbklnkaaa.Eng
end
section
set_option linter.unusedVariables false
set_option linter.unusedSimpArgs false
namespace Go.Proofs.Ytfpmgnkbklnkaaa.Eng
open Go Go.Proofs Go.RowKit Go.Lib
/-- 'copy' between plain rows of elements of size cells. -/
theorem run_copy_rowK {P : Program} (w : World) (dT sT ty elem : TypeId) (size : Nat) (g o dLen dCap : Nat) (a : Addr) (sLen sCap : Nat) (cur : Array Value) (t : TypeId) (cs : List Value)
    (hu : P.underlying dT = some (.slice elem)) (hs : tsize P elem = some size)
    (hg : w.heap[g]? = some (.cells cur t (0, 0))) (k : Nat) (hk : k = Nat.min sLen dLen) (hn : cs.length = k * size)
    (hsrc : ∀ j v, cs[j]? = some v → w.cell? (a.add j) = some v) (hfit : o + cs.length ≤ cur.size) (h1 : ∀ v ∈ cs, v.oneCell' = true) :
    (Builtin.copy_ #[dT, sT] ty #[.slice (some ⟨g, o, none⟩) dLen dCap, .slice (some a) sLen sCap]).run P w =
      .ok (goInt k) (w.setRow g (cur.toList.take o ++ cs ++ cur.toList.drop (o + cs.length)).toArray) := by
  have hl := run_loadCells_list (P := P) w a cs hsrc
  have hst := run_storeCells_at P g o t cs 0 cur w hg (by simpa using hfit) h1
  subst hk
  rw [hn] at hl
  simp [Builtin.copy_, run_underlying hu, Builtin.lenOf, Builtin.firstCells, run_sizeOf hs, hl, hst]
theorem t26 : Try.prog.underlying 26 = some (.slice 46) := by kernel_rfl
theorem s46 : tsize Try.prog 46 = some 12 := by kernel_rfl
set_option maxHeartbeats 4000000 in
set_option maxRecDepth 100000 in
theorem raw_shift (b n c i vb vc : Nat) (w : World) (hi : i < n) (hroom : n + 1 ≤ c) (hc63 : c ≤ 9223372036854775807)
    (hov : ∀ lb cb, (callFunc 89 #[.slice (some ⟨vb, 0, none⟩) 1 vc, .slice (some ⟨b, (i + 1) * 12, none⟩) lb cb]).run Try.prog w = .ok (.value (.bool false)) w)
    (W1 W2 : World)
    (hcp1 : ∀ ty dc sc, (Builtin.copy_ #[26, 26] ty #[.slice (some ⟨b, (i + 1) * 12, none⟩) (n - i) dc, .slice (some ⟨b, i * 12, none⟩) (n + 1 - i) sc]).run Try.prog w.drew = .ok (goInt (n - i : Nat)) W1)
    (hcp2 : ∀ ty dc, (Builtin.copy_ #[26, 26] ty #[.slice (some ⟨b, i * 12, none⟩) (n + 1 - i) dc, .slice (some ⟨vb, 0, none⟩) 1 vc]).run Try.prog W1 = .ok (goInt 1) W2) :
    Calls Try.prog 70 #[.slice (some ⟨b, 0, none⟩) n c, .int .i64 i, .slice (some ⟨vb, 0, none⟩) 1 vc] w fun e w' =>
      e = .returned (.slice (some ⟨b, 0, none⟩) (n + 1) c) ∧ w' = W2 := by
  have hz2 : ¬ ((i : Int) = (n : Int)) := by omega
  have hw1 : IntKind.i64.wrap ((i : Int) + 1) = (i : Int) + 1 := by rw [IntKind.wrap_i64]; omega
  have hb1 : (0 : Int) ≤ (i : Int) + 1 := by omega
  have hin : i ≤ n := by omega
  have htn : ((i : Int) + 1).toNat = i + 1 := by omega
  have hb2 : ¬ (c = i + 1) := by omega
  have hb3 : (i : Int) ≤ (n : Int) + 1 := by omega
  have hb4 : ¬ (c = i) := by omega
  have mixed : Try.prog.follows .mixedOrders = true := by kernel_rfl
  go_enter Try.func70, Try.ntmps70
  go_wp2_with (simp only [hov])
  go_region_law_o (refine step_copy_runI rfl _ _ 26 26 rfl _ _ (by simp [Act.eval, Act.put]) (by simp [Act.eval, Act.put]) (hcp1 _ _ _) ?_)
  go_wp2_with (at_builtin; refine wpList_copy_runI _ rfl _ _ 26 26 rfl _ _ rfl rfl (hcp2 _ _) ?_)
  go_ret
  exact ⟨rfl, rfl⟩
set_option maxHeartbeats 4000000 in
set_option maxRecDepth 100000 in
theorem raw_grow (b n c i vb vc nb cap : Nat) (w : World) (hi : i < n) (hnc : n ≤ c) (hroom : c < n + 1) (hc63 : c ≤ 9223372036854775800) (hcap : n + 1 ≤ cap) (hcap63 : cap ≤ 9223372036854775807) (W1 W2 W3 : World)
    (hrz : ∀ ty, (Builtin.append_ #[26, 3] ty #[.slice (some ⟨b, 0, none⟩) i c, .int .i64 ((n : Int) + 1 - (i : Int))]).run Try.prog w = .ok (.slice (some ⟨nb, 0, none⟩) (n + 1) cap) W1)
    (hcpA : ∀ ty dc, (Builtin.copy_ #[26, 26] ty #[.slice (some ⟨nb, i * 12, none⟩) (n + 1 - i) dc, .slice (some ⟨vb, 0, none⟩) 1 vc]).run Try.prog W1 = .ok (goInt 1) W2)
    (hcpB : ∀ ty dc sc, (Builtin.copy_ #[26, 26] ty #[.slice (some ⟨nb, (i + 1) * 12, none⟩) (n - i) dc, .slice (some ⟨b, i * 12, none⟩) (n - i) sc]).run Try.prog W2.drew = .ok (goInt (n - i : Nat)) W3) :
    Calls Try.prog 70 #[.slice (some ⟨b, 0, none⟩) n c, .int .i64 i, .slice (some ⟨vb, 0, none⟩) 1 vc] w fun e w' =>
      e = .returned (.slice (some ⟨nb, 0, none⟩) (n + 1) cap) ∧ w' = W3 := by
  have hz2 : ¬ ((i : Int) = (n : Int)) := by omega
  have hz3 : (c : Int) < (n : Int) + 1 := by omega
  have hw1 : IntKind.i64.wrap ((i : Int) + 1) = (i : Int) + 1 := by rw [IntKind.wrap_i64]; omega
  have hb1 : (0 : Int) ≤ (i : Int) + 1 := by omega
  have hin : i ≤ n := by omega
  have htn : ((i : Int) + 1).toNat = i + 1 := by omega
  have hGi : ¬ (cap = i) := by omega
  have hGim : ¬ (cap = i + 1) := by omega
  have hci : ¬ (c = i) := by omega
  have hb3 : (i : Int) ≤ (n : Int) := by omega
  have hdd : n + 1 - (i + 1) = n - i := by omega
  have mixed : Try.prog.follows .mixedOrders = true := by kernel_rfl
  go_enter Try.func70, Try.ntmps70
  go_wp2_with (first
    | (at_builtin; refine Lib.wpList_append_run _ rfl _ _ _ _ rfl _ _ rfl rfl _ _ (hrz _) ?_)
    | (at_builtin; refine wpList_copy_runI _ rfl _ _ 26 26 rfl _ _ rfl rfl (hcpA _ _) ?_))
  go_region_law_o (refine step_copy_runI rfl _ _ 26 26 rfl _ _ (by simp [Act.eval, Act.put]) (by simp [Act.eval, Act.put]) (hcpB _ _ _) ?_)
  go_wp2
  go_ret
  exact ⟨rfl, rfl⟩
set_option maxHeartbeats 4000000 in
set_option maxRecDepth 100000 in
theorem raw_end (A : Option Addr) (n c vb vc cap : Nat) (A' : Option Addr) (w W1 : World) (hnc : n ≤ c)
    (hr : (Builtin.append_ #[26, 26] 26 #[.slice A n c, .slice (some ⟨vb, 0, none⟩) 1 vc]).run Try.prog w = .ok (.slice A' (n + 1) cap) W1) :
    Calls Try.prog 70 #[.slice A n c, .int .i64 n, .slice (some ⟨vb, 0, none⟩) 1 vc] w fun e w' =>
      e = .returned (.slice A' (n + 1) cap) ∧ w' = W1 := by
  go_enter Try.func70, Try.ntmps70
  go_wp2_with (at_builtin; refine Lib.wpList_append_run _ rfl _ _ _ _ rfl _ _ rfl rfl _ _ hr ?_)
  all_goals (go_ret; exact ⟨rfl, rfl⟩)
end Go.Proofs.Ytfpmgnkbklnkaaa.Eng
end
section
set_option linter.unusedVariables false
set_option linter.unusedSimpArgs false
namespace Go.Proofs.Ytfpmgnkbklnkaaa.Eng
open Go Go.Proofs Go.RowKit Go.Lib
section
variable {α : Type}
theorem list_shift {l news seg : List α} {a : Nat} (hn : news.length = 12) (hl : a + 12 + seg.length ≤ l.length) (X1 : List α) (hX : X1 = l.take (a + 12) ++ seg ++ l.drop (a + 12 + seg.length)) :
    (X1.take a ++ news ++ X1.drop (a + 12)) = l.take a ++ news ++ seg ++ l.drop (a + 12 + seg.length) := by
  have h1 : X1.take a = l.take a := by
    rw [hX, List.append_assoc, List.take_append_of_le_length (by rw [List.length_take]; omega), List.take_take, Nat.min_eq_left (by omega)]
  have h2 : X1.drop (a + 12) = seg ++ l.drop (a + 12 + seg.length) := by
    rw [hX, List.append_assoc]
    exact List.drop_left' (by rw [List.length_take]; omega)
  rw [h1, h2, ← List.append_assoc]
theorem list_grow {R news seg : List α} {a : Nat} (hn : news.length = 12) (hl : a + 12 + seg.length ≤ R.length) (X2 X3 : List α) (h2 : X2 = R.take a ++ news ++ R.drop (a + 12)) (h3 : X3 = X2.take (a + 12) ++ seg ++ X2.drop (a + 12 + seg.length)) :
    X3.take (a + 12 + seg.length) = R.take a ++ news ++ seg := by
  have e1 : X2.take (a + 12) = R.take a ++ news := by
    rw [h2]
    exact List.take_left' (by rw [List.length_append, List.length_take]; omega)
  rw [h3, e1]
  exact List.take_left' (by simp only [List.length_append, List.length_take]; omega)
end
theorem i46 : Try.prog.info? 46 = some ((Try.prog.info? 46).getD default) := by kernel_rfl
/-- The row with the element in it. -/
theorem ins_rep {m : Mem} {L vs : List Cell} {i : Nat} {xs news : List Value} (hi : i ≤ L.length) (hv : vs.length = 1) (hxl : xs.length = L.length * 12) (hnl : news.length = 12)
    (hx : ∀ p, p < L.length → ∀ j, j < 12 → ∃ x, xs[p * 12 + j]? = some x ∧ (nth (eCell (L.getD p zCell)) j).rep m x)
    (hn : ∀ j, j < 12 → ∃ x, news[j]? = some x ∧ (nth (eCell (vs.getD 0 zCell)) j).rep m x) :
    ∀ p, p < (ins L vs (i : Int)).length → ∀ j, j < 12 → ∃ x, (xs.take (i * 12) ++ news ++ xs.drop (i * 12))[p * 12 + j]? = some x ∧ (nth (eCell ((ins L vs (i : Int)).getD p zCell)) j).rep m x := by
  intro p hp j hj
  have hlen : (ins L vs (i : Int)).length = L.length + 1 := by simp [hv]; omega
  have hi12 : i * 12 ≤ xs.length := by rw [hxl]; omega
  have htk : (xs.take (i * 12)).length = i * 12 := by rw [List.length_take]; omega
  have hins : ∀ q, (ins L vs (i : Int)).getD q zCell = if q < i then L.getD q zCell else if q = i then vs.getD 0 zCell else L.getD (q - 1) zCell := by
    intro q
    have htl : (L.take i).length = i := by rw [List.length_take]; omega
    simp only [ins, Int.toNat_natCast, List.append_assoc, List.getD]
    split
    · rename_i h
      rw [List.getElem?_append_left (by omega), List.getElem?_take_of_lt h]
    · rename_i h
      rw [List.getElem?_append_right (by omega), htl]
      split
      · rename_i h2
        subst h2
        rw [Nat.sub_self, List.getElem?_append_left (by omega)]
      · rename_i h2
        rw [List.getElem?_append_right (by omega), hv, List.getElem?_drop]
        congr 2; omega
  rw [hins p, List.append_assoc]
  by_cases h1 : p < i
  · obtain ⟨x, hx1, hx2⟩ := hx p (by omega) j hj
    refine ⟨x, ?_, by rw [if_pos h1]; exact hx2⟩
    rw [List.getElem?_append_left (by omega), List.getElem?_take_of_lt (by omega)]
    exact hx1
  · by_cases h2 : p = i
    · subst h2
      obtain ⟨x, hx1, hx2⟩ := hn j hj
      refine ⟨x, ?_, by rw [if_neg (by omega), if_pos rfl]; exact hx2⟩
      rw [List.getElem?_append_right (by omega), htk, List.getElem?_append_left (by omega), show p * 12 + j - p * 12 = j by omega]
      exact hx1
    · obtain ⟨x, hx1, hx2⟩ := hx (p - 1) (by omega) j hj
      refine ⟨x, ?_, by rw [if_neg h1, if_neg h2]; exact hx2⟩
      rw [List.getElem?_append_right (by omega), htk, List.getElem?_append_right (by omega), hnl, List.getElem?_drop, show i * 12 + (p * 12 + j - i * 12 - 12) = (p - 1) * 12 + j by omega]
      exact hx1
theorem insert_fin {L vs : List Cell} {i : Nat} {m : Mem} {β : Bt} {w w' : World} (hi : i ≤ L.length) (hv : vs.length = 1) (hg : Good m w) (he : RE m β w [(5000, arow 46 12 eCell zCell L), (5001, arow 46 12 eCell zCell vs)])
    {A' : Option Addr} {cap' : Nat} {xs news : List Value} (hxl : xs.length = L.length * 12) (hnl : news.length = 12) (h1x : ∀ v ∈ xs, v.oneCell' = true) (h1n : ∀ v ∈ news, v.oneCell' = true)
    (hx : ∀ p, p < L.length → ∀ j, j < 12 → ∃ x, xs[p * 12 + j]? = some x ∧ (nth (eCell (L.getD p zCell)) j).rep m x)
    (hn : ∀ j, j < 12 → ∃ x, news[j]? = some x ∧ (nth (eCell (vs.getD 0 zCell)) j).rep m x)
    (hgr : w.grownBy w' ((β 5000).A.map (·.block))) (hA : ∀ ad, A' = some ad → (β 5000).A.map (·.block) = some ad.block ∨ w.heap.size ≤ ad.block)
    (hown : w'.ownsRow 0 46 12 (.slice A' (L.length + 1) cap') (L.length + 1) (xs.take (i * 12) ++ news ++ xs.drop (i * 12))) :
    ∃ v m' β' r env', (Ending.returned (.slice A' (L.length + 1) cap') : Ending) = .returned v ∧ (r = .one (.c (.gs 5000 12 0 (ins L vs (i : Int)).length)) ∧ env' = [(5000, arow 46 12 eCell zCell (ins L vs (i : Int)))]) ∧ T.rep m' β' r v ∧ (∀ n ∈ r.names, inE env' n = true) ∧ Ext w.heap.size m m' ∧ Good m' w' ∧
      Fr (blocksOf β [(5000, arow 46 12 eCell zCell L), (5001, arow 46 12 eCell zCell vs)]) w w' ∧ RE m' β' w' env' ∧ (∀ n, 9000 ≤ n → β' n = β n) ∧
      ∀ n, inE env' n = true → ∀ ad, (β' n).A = some ad → w.heap.size ≤ ad.block ∨ blocksOf β [(5000, arow 46 12 eCell zCell L), (5001, arow 46 12 eCell zCell vs)] ad.block := by
  have hlen : (ins L vs (i : Int)).length = L.length + 1 := by simp [hv]; omega
  have irep := ins_rep hi hv hxl hnl hx hn
  generalize ins L vs (i : Int) = I at irep hlen ⊢
  have h5 : inE [(5000, arow 46 12 eCell zCell L), (5001, arow 46 12 eCell zCell vs)] 5000 = true := by simp [inE, look]
  have hin : ∀ n, inE [(5000, arow 46 12 eCell zCell I)] n = true → n = 5000 := by
    intro n hn
    simp only [inE, look] at hn
    cases e : Nat.beq 5000 n with
    | true => exact (Nat.eq_of_beq_eq_true e).symm
    | false => rw [e] at hn; cases hn
  have hgood : Good m w' := by
    intro ad v hv
    have hlt := hg.lt hv
    have hne : some ad.block ≠ (β 5000).A.map (·.block) := by
      intro e
      cases hb : (β 5000).A with
      | none => rw [hb] at e; cases e
      | some bd =>
        rw [hb] at e
        simp only [Option.map_some, Option.some.injEq] at e
        have := he.nomem 5000 h5 bd hb ad.off ad.spot
        rw [← e, show (⟨ad.block, ad.off, ad.spot⟩ : Addr) = ad from rfl, hv] at this
        cases this
    rw [World.cell?_of_block (w := w) (hgr.block _ hlt hne)]
    exact hg ad v hv
  refine ⟨_, m, setB β 5000 ⟨A', cap'⟩, _, _, rfl, ⟨rfl, rfl⟩, ?_, ?_, Ext.refl _ _, hgood, ?_, ⟨?_, ?_, ?_, ?_⟩, fun n hn => setB_other _ _ _ (by omega), ?_⟩
  · have hA0 : at_ A' (0 * 12) = A' := by
      rcases hown.2 with ⟨h0, h1⟩ | ⟨g, cap, cur, hv, _⟩
      · omega
      · injection hv with hv; simp [hv, at_]
    have hcap : L.length + 1 ≤ cap' := by
      rcases hown.2 with ⟨h0, h1⟩ | ⟨g, cap, cur, hv, _, _, h, _⟩
      · omega
      · injection hv with _ _ hv; omega
    exact ⟨by simp only [setB_same, hA0, hlen, Nat.sub_zero], by simp only [setB_same, hlen]; omega⟩
  · intro n hn
    simp [T.names, U.names, C.names] at hn
    subst hn
    simp [inE, look]
  · refine ⟨hgr.os, hgr.tape, hgr.output, hgr.size, fun k hk hF => hgr.block k hk fun e => hF ?_⟩
    cases hb : (β 5000).A with
    | none => rw [hb] at e; cases e
    | some bd =>
      rw [hb] at e
      simp only [Option.map_some, Option.some.injEq] at e
      exact ⟨5000, bd, h5, hb, e.symm⟩
  · intro n b hb
    have hn := hin n (inE_of hb)
    subst hn
    simp [look] at hb
    subst hb
    refine ⟨_, by rw [setB_same, hlen]; exact hown, ?_, irep⟩
    intro u hu
    rcases List.mem_append.1 hu with hu | hu
    · rcases List.mem_append.1 hu with hu | hu
      · exact h1x u (List.mem_of_mem_take hu)
      · exact h1n u hu
    · exact h1x u (List.mem_of_mem_drop hu)
  · intro n hn ad had o s
    have hn := hin n hn
    subst hn
    rw [setB_same] at had
    rcases hA ad had with h1 | h1
    · cases hb : (β 5000).A with
      | none => rw [hb] at h1; cases h1
      | some bd =>
        rw [hb] at h1
        simp only [Option.map_some, Option.some.injEq] at h1
        rw [← h1]
        exact he.nomem 5000 h5 bd hb o s
    · cases hm : m ⟨ad.block, o, s⟩ with
      | none => rfl
      | some v => have := hg.lt hm; simp at this; omega
  · intro n k hn hk hne
    exact absurd ((hin n hn).trans (hin k hk).symm) hne
  · intro k b hb n hn
    have hk := hin k (inE_of hb)
    subst hk
    simp [look] at hb
    subst hb
    cases hn
  · intro n hn ad had
    have hn := hin n hn
    subst hn
    rw [setB_same] at had
    rcases hA ad had with h1 | h1
    · right
      cases hb : (β 5000).A with
      | none => rw [hb] at h1; cases h1
      | some bd =>
        rw [hb] at h1
        simp only [Option.map_some, Option.some.injEq] at h1
        exact ⟨5000, bd, h5, hb, h1⟩
    · exact .inl h1
theorem plain_frozen {w : World} {g o : Nat} {cur : Array Value} {t : TypeId} (h : w.heap[g]? = some (.cells cur t (0, 0))) : w.frozen? ⟨g, o, none⟩ = false := by simp [World.frozen?, h]
theorem slice_args {m : Mem} {β : Bt} {n k : Nat} {v : Value} {w : World} {e : TypeId} {xs : List Value} (h : C.rep m β (.gs n 12 0 k) v) (ho : w.ownsRow 0 e 12 (.slice (β n).A k (β n).cap) k xs) : v = .slice (β n).A k (β n).cap := by
  obtain ⟨hv, _⟩ := h
  rw [hv]
  rcases ho.2 with ⟨h0, _⟩ | ⟨g, cap, cur, hv, _⟩
  · injection h0 with h0; simp [h0, at_]
  · injection hv with hv; simp [hv, at_]
set_option maxRecDepth 100000 in
set_option maxHeartbeats 2000000 in
theorem ok_insert (L vs : List Cell) (i : Int) (h0 : 0 ≤ i) (hi : i ≤ (L.length : Int)) (hl : L.length ≤ 1000) (hv : vs.length = 1) :
    FnG Try.prog 70 [.c (.gs 5000 12 0 L.length), .c (.d (dI i)), .c (.gs 5001 12 0 vs.length)] [(5000, arow 46 12 eCell zCell L), (5001, arow 46 12 eCell zCell vs)]
      (fun r_ e_ => r_ = .one (.c (.gs 5000 12 0 (ins L vs i).length)) ∧ e_ = [(5000, arow 46 12 eCell zCell (ins L vs i))]) := by
  obtain ⟨k, rfl⟩ : ∃ k : Nat, i = k := ⟨i.toNat, by omega⟩
  refine ⟨⟨_, Try.func70, by kernel_rfl, by kernel_rfl⟩, ?_, fun m β w vals hg ha he => ?_⟩
  · intro q b hb n hn
    have hb := look_mem hb
    simp only [List.mem_cons, Prod.mk.injEq, List.not_mem_nil, or_false] at hb
    rcases hb with ⟨_, rfl⟩ | ⟨_, rfl⟩ <;> cases hn
  obtain ⟨xs, hown, h1x, hx⟩ := he.env 5000 _ rfl
  obtain ⟨xs2, hown2, h1n, hx2⟩ := he.env 5001 _ rfl
  rcases vals with _ | ⟨v1, _ | ⟨v2, _ | ⟨v3, _ | ⟨v4, r⟩⟩⟩⟩
  · cases ha
  · cases ha with | cons _ t => cases t
  · cases ha with | cons _ t => cases t with | cons _ t => cases t
  rotate_left
  · cases ha with | cons _ t => cases t with | cons _ t => cases t with | cons _ t => cases t
  cases ha with
  | cons a1 t =>
  cases t with
  | cons a2 t =>
  cases t with
  | cons a3 t =>
  clear t
  have e1 := slice_args (m := m) a1 hown
  have e3 := slice_args (m := m) a3 hown2
  obtain rfl : v2 = .int .i64 (k : Int) := a2
  rw [hv] at e3 hown2
  subst e1 e3
  have hkL : k ≤ L.length := by omega
  have hxl : xs.length = L.length * 12 := hown.1
  have hnl : xs2.length = 12 := by rw [hown2.1]
  have hn : ∀ j, j < 12 → ∃ x, xs2[j]? = some x ∧ (nth (eCell (vs.getD 0 zCell)) j).rep m x := fun j hj => by
    have := hx2 0 (by omega) j hj
    simpa using this
  rcases hown2.2 with ⟨_, h1⟩ | ⟨g2, cap2, cur2, hv2, _, hheap2, hkc2, hcm2, hcs2, htk2⟩
  · omega
  have hA2 : (β 5001).A = some ⟨g2, 0, none⟩ := by injection hv2
  have hc2 : (β 5001).cap = cap2 := by injection hv2
  rw [hA2, hc2]
  have hnews : ∀ j u, xs2[j]? = some u → w.cell? ((⟨g2, 0, none⟩ : Addr).add j) = some u := fun j u hj => by
    have hjl : j < 12 := by have := (List.getElem?_eq_some_iff.1 hj).1; omega
    rw [show (⟨g2, 0, none⟩ : Addr).add j = ⟨g2, j, none⟩ by simp only [Addr.add]; split <;> simp_all]
    rw [hA2, hc2] at hown2
    rw [hown2.cellAt j (by omega)]; exact hj
  obtain ⟨ii, hii, hbytes, z, hz, hzs, hsz⟩ : ∃ ii, Try.prog.info? 46 = some ii ∧ ii.bytes = 96 ∧ ∃ z, ii.zero = some z ∧ z.cells.size = 12 ∧ ii.size = 12 := by
    have h : (match Try.prog.info? 46 with | some i => Nat.beq i.bytes 96 && Nat.beq i.size 12 && (match i.zero with | some z => Nat.beq z.cells.size 12 | none => false) | none => false) = true := by kernel_rfl
    split at h
    · rename_i ii hii
      simp only [Bool.and_eq_true] at h
      have h2 := h.2
      split at h2
      · rename_i z hz
        exact ⟨ii, hii, Nat.eq_of_beq_eq_true h.1.1, z, hz, Nat.eq_of_beq_eq_true h2, Nat.eq_of_beq_eq_true h.1.2⟩
      · cases h2
    · cases h
  by_cases hend : k = L.length
  · -- at the end
    subst hend
    obtain ⟨v', w', hrun, hown', hgr, hblk⟩ := append_run (P := Try.prog) (w := w) 26 26 46 ii z 12 96 t26 hii hz hsz hbytes hzs (by decide) _ L.length xs hown (some ⟨g2, 0, none⟩) 1 cap2 xs2 (by omega) (.inr ⟨_, rfl, hnews⟩) h1n (by simp [maxLen]; omega) (by omega)
    obtain ⟨A', cap', rfl⟩ : ∃ A' cap', v' = .slice A' (L.length + 1) cap' := by
      rcases hown'.2 with ⟨_, h0⟩ | ⟨g, cap, cur, rfl, _⟩
      · omega
      · exact ⟨_, _, rfl⟩
    have hnc : L.length ≤ (β 5000).cap := by
      rcases hown.2 with ⟨h0, h00⟩ | ⟨g, cap, cur, hvv, _, _, hle, _⟩
      · omega
      · injection hvv with _ _ hvv; omega
    refine (raw_end (β 5000).A L.length (β 5000).cap g2 cap2 cap' A' w w' hnc hrun).mono ?_
    · rintro e w'' ⟨rfl, rfl⟩
      have htk : xs.take (L.length * 12) ++ xs2 ++ xs.drop (L.length * 12) = xs ++ xs2 := by
        rw [List.take_of_length_le (by omega), List.drop_of_length_le (by omega), List.append_nil]
      refine insert_fin (i := L.length) hkL hv hg he hxl hnl h1x h1n hx hn (by rw [← ownBlock_slice]; exact hgr) ?_ (by rw [htk]; exact hown')
      intro ad had
      subst had
      rcases hblk with h1 | h1
      · left
        rw [ownBlock_slice, ownBlock_slice] at h1
        rw [← h1]; rfl
      · right
        rw [ownBlock_slice] at h1
        simp at h1; omega
  · have hlt : k < L.length := by omega
    rcases hown.2 with ⟨_, h1⟩ | ⟨g, cap, cur, hvv, _, hheap, hkc, hcm, hcs, htk⟩
    · omega
    have hA : (β 5000).A = some ⟨g, 0, none⟩ := by injection hvv
    have hc : (β 5000).cap = cap := by injection hvv
    have hne : g2 ≠ g := by
      have := he.dist 5000 5001 rfl rfl (by decide) _ _ hA hA2
      exact fun e => this e.symm
    rw [hA, hc]
    rw [hA, hc] at hown
    have hcell : ∀ j u, xs[j]? = some u → w.cell? ⟨g, j, none⟩ = some u := fun j u hj => by
      have hjl : j < L.length * 12 := by have := (List.getElem?_eq_some_iff.1 hj).1; omega
      rw [hown.cellAt j hjl]; exact hj
    have hadd : ∀ (b o j : Nat), (⟨b, o, none⟩ : Addr).add j = ⟨b, o + j, none⟩ := fun b o j => by simp only [Addr.add]; split <;> simp_all
    have hlc : cur.toList.length = cap * 12 := by simpa using hcs
    have hsegl : (xs.drop (k * 12)).length = (L.length - k) * 12 := by rw [List.length_drop, hxl]; omega
    have hseg1 : ∀ v ∈ xs.drop (k * 12), v.oneCell' = true := fun v hv => h1x v (List.mem_of_mem_drop hv)
    have hxt : xs.take (k * 12) = cur.toList.take (k * 12) := by rw [← htk, List.take_take, Nat.min_eq_left (by omega)]
    by_cases hroom : L.length + 1 ≤ cap
    · -- in place
      have hov : ∀ lb cb, (callFunc 89 #[.slice (some ⟨g2, 0, none⟩) 1 cap2, .slice (some ⟨g, (k + 1) * 12, none⟩) lb cb]).run Try.prog w = .ok (.value (.bool false)) w := fun lb cb => by
        rw [run_callFunc_extern Try.func89 (by kernel_rfl) (by kernel_rfl) (by kernel_rfl) (e := Extern.SlicesOverlaps.overlaps #[26, 26] #[4]) (by kernel_rfl),
          Lib.run_overlaps_apart w 26 4 46 t26 12 (fun w => run_sizeOf s46) ⟨g2, 0, none⟩ ⟨g, (k + 1) * 12, none⟩ 1 cap2 lb cb hne 46 46 cur2.size cur.size (by simp [World.shape?, hheap2]) (by simp [World.shape?, hheap]) (by omega) (plain_frozen hheap2) (plain_frozen hheap2)]
        rfl
      let X1 : List Value := cur.toList.take ((k + 1) * 12) ++ xs.drop (k * 12) ++ cur.toList.drop ((k + 1) * 12 + (xs.drop (k * 12)).length)
      let X2 : List Value := X1.take (k * 12) ++ xs2 ++ X1.drop (k * 12 + xs2.length)
      have hX1l : X1.length = cap * 12 := by simp only [X1, List.length_append, List.length_take, List.length_drop, hlc, hsegl]; omega
      have hX2l : X2.length = cap * 12 := by simp only [X2, List.length_append, List.length_take, List.length_drop, hX1l, hnl]; omega
      have hw1 : (w.drew.setRow g X1.toArray).heap[g]? = some (.cells X1.toArray 46 (0, 0)) := setRow_heap w.drew g cur _ 46 _ hheap
      have hw2 : ((w.drew.setRow g X1.toArray).setRow g X2.toArray).heap[g]? = some (.cells X2.toArray 46 (0, 0)) := setRow_heap _ g X1.toArray _ 46 _ hw1
      have hcp1 : ∀ ty dc sc, (Builtin.copy_ #[26, 26] ty #[.slice (some ⟨g, (k + 1) * 12, none⟩) (L.length - k) dc, .slice (some ⟨g, k * 12, none⟩) (L.length + 1 - k) sc]).run Try.prog w.drew = .ok (goInt (L.length - k : Nat)) (w.drew.setRow g X1.toArray) := fun ty dc sc =>
        run_copy_rowK w.drew 26 26 ty 46 12 g ((k + 1) * 12) (L.length - k) dc ⟨g, k * 12, none⟩ (L.length + 1 - k) sc cur 46 (xs.drop (k * 12)) t26 s46 hheap (L.length - k) (by simp only [Nat.min_def]; split <;> omega) hsegl
          (fun j v hj => by rw [hadd]; exact hcell _ v (by rwa [List.getElem?_drop] at hj)) (by rw [hsegl, hcs]; omega) hseg1
      have hcp2 : ∀ ty dc, (Builtin.copy_ #[26, 26] ty #[.slice (some ⟨g, k * 12, none⟩) (L.length + 1 - k) dc, .slice (some ⟨g2, 0, none⟩) 1 cap2]).run Try.prog (w.drew.setRow g X1.toArray) = .ok (goInt 1) ((w.drew.setRow g X1.toArray).setRow g X2.toArray) := fun ty dc =>
        run_copy_rowK (w.drew.setRow g X1.toArray) 26 26 ty 46 12 g (k * 12) (L.length + 1 - k) dc ⟨g2, 0, none⟩ 1 cap2 X1.toArray 46 xs2 t26 s46 hw1 1 (by simp only [Nat.min_def]; split <;> omega) (by omega)
          (fun j v hj => by
            rw [World.cell?_of_block (w := w.drew) (by rw [hadd]; exact setRow_other w.drew g g2 _ hne)]
            exact hnews j v hj) (by simp only [List.size_toArray, hX1l, hnl]; omega) h1n
      refine (raw_shift g L.length cap k g2 cap2 w hlt hroom (by simpa [maxLen] using hcm) hov _ _ hcp1 hcp2).mono ?_
      rintro e w'' ⟨rfl, rfl⟩
      have hother : ∀ q, q ≠ g → ((w.drew.setRow g X1.toArray).setRow g X2.toArray).heap[q]? = w.heap[q]? := fun q hq => by rw [setRow_other _ g q _ hq, setRow_other _ g q _ hq]; rfl
      have hkey : X2 = cur.toList.take (k * 12) ++ xs2 ++ xs.drop (k * 12) ++ cur.toList.drop (k * 12 + 12 + (xs.drop (k * 12)).length) := by
        have := list_shift (l := cur.toList) (news := xs2) (seg := xs.drop (k * 12)) (a := k * 12) hnl (by rw [hsegl, hlc]; omega) X1 (by simp only [X1]; rw [show (k + 1) * 12 = k * 12 + 12 by omega])
        simp only [X2, hnl]
        exact this
      refine insert_fin (i := k) hkL hv hg he hxl hnl h1x h1n hx hn ⟨rfl, rfl, rfl, by simp [World.setRow], fun q hq hqn => hother q (fun e => hqn (by rw [hA, e]; rfl))⟩ ?_ ⟨?_, .inr ⟨g, cap, X2.toArray, rfl, Nat.zero_le _, hw2, hroom, hcm, by simp [hX2l], ?_⟩⟩
      · intro ad had
        left; rw [hA]; obtain rfl := Option.some.inj had; rfl
      · simp only [List.length_append, List.length_take, hsegl, hnl, hxl]; omega
      · rw [hkey, hxt]
        exact List.take_left' (by simp only [List.length_append, List.length_take, hsegl, hnl, hlc]; omega)
    · -- a new row
      obtain ⟨kk, hkk⟩ : ∃ kk, kk = L.length + 1 - k := ⟨_, rfl⟩
      have hsum : k + kk = L.length + 1 := by omega
      have hold : (Builtin.firstCells ii.size k (.slice (some ⟨g, 0, none⟩) k cap)).run Try.prog w.drew = .ok (xs.take (k * 12)).toArray w.drew := by
        rw [hsz]
        refine run_firstCells_some (w := w.drew) 12 k ⟨g, 0, none⟩ k cap (xs.take (k * 12)) (by rw [List.length_take]; omega) fun j v hj => ?_
        rw [hadd, Nat.zero_add]
        have hjl : j < k * 12 := by
          have := (List.getElem?_eq_some_iff.1 hj).1
          rw [List.length_take] at this; omega
        rw [List.getElem?_take_of_lt hjl] at hj
        exact hcell j v hj
      have hgz := fun ty => Lib.run_append_grow_zeros (P := Try.prog) w 26 3 ty 46 ii z .i64 .i64 t26 (by kernel_rfl) hii hz (some ⟨g, 0, none⟩) k cap (xs.take (k * 12)) hold kk (by omega) (by omega) (by omega) (by omega) (by rw [hbytes]; omega) (by rw [hbytes, hsum]; exact growslice_fits (by omega) (by omega))
      rw [hsum] at hgz
      obtain ⟨G, hG⟩ : ∃ G, G = grownCap w (L.length + 1) cap 46 := ⟨_, rfl⟩
      obtain ⟨ROW, hROW⟩ : ∃ ROW : Array Value, ROW = (xs.take (k * 12)).toArray ++ Builtin.zeroCells z.cells kk ++ Builtin.zeroCells z.cells (G - (L.length + 1)) := ⟨_, rfl⟩
      rw [← hG, ← hROW] at hgz
      have hGn : L.length + 1 ≤ G := by rw [hG]; exact grownCap_ge w _ _ _
      have hGm : G ≤ maxLen := by rw [hG]; exact grownCap_le_maxLen w (L.length + 1) cap 46 (by unfold maxLen; omega)
      have hRl : ROW.size = G * 12 := by
        rw [hROW]
        simp only [Array.size_append, List.size_toArray, List.length_take, Builtin.zeroCells, Array.size_map, Array.size_range, hzs, hxl]
        omega
      have hRt : ROW.toList.take (k * 12) = xs.take (k * 12) := by
        rw [hROW]
        simp only [Array.toList_append, List.append_assoc]
        exact List.take_left' (by simp only [List.length_take]; omega)
      let X2 : List Value := ROW.toList.take (k * 12) ++ xs2 ++ ROW.toList.drop (k * 12 + xs2.length)
      let X3 : List Value := X2.toArray.toList.take ((k + 1) * 12) ++ xs.drop (k * 12) ++ X2.toArray.toList.drop ((k + 1) * 12 + (xs.drop (k * 12)).length)
      have hRll : ROW.toList.length = G * 12 := by simpa using hRl
      have hX2l : X2.length = G * 12 := by simp only [X2, List.length_append, List.length_take, List.length_drop, hRll, hnl]; omega
      have hX3l : X3.length = G * 12 := by simp only [X3, List.length_append, List.length_take, List.length_drop, hX2l, hsegl]; omega
      have hgl : g < w.heap.size := by
        rcases Nat.lt_or_ge g w.heap.size with h1 | h1
        · exact h1
        · rw [Array.getElem?_eq_none h1] at hheap; cases hheap
      have hg2l : g2 < w.heap.size := by
        rcases Nat.lt_or_ge g2 w.heap.size with h1 | h1
        · exact h1
        · rw [Array.getElem?_eq_none h1] at hheap2; cases hheap2
      have hw1 : (w.drew.alloc (.cells ROW 46)).heap[w.heap.size]? = some (.cells ROW 46 (0, 0)) := heap_alloc_new w.drew _
      have hw1o : ∀ q, q < w.heap.size → (w.drew.alloc (.cells ROW 46)).heap[q]? = w.heap[q]? := fun q hq => by first | exact heap_alloc_old w.drew _ q hq | exact heap_alloc_old w.drew _ hq
      have hw2 : ((w.drew.alloc (.cells ROW 46)).setRow w.heap.size X2.toArray).heap[w.heap.size]? = some (.cells X2.toArray 46 (0, 0)) := setRow_heap _ _ ROW _ 46 _ hw1
      have hw3 : ((((w.drew.alloc (.cells ROW 46)).setRow w.heap.size X2.toArray).drew).setRow w.heap.size X3.toArray).heap[w.heap.size]? = some (.cells X3.toArray 46 (0, 0)) := setRow_heap _ _ X2.toArray _ 46 _ hw2
      have hw2o : ∀ q, q < w.heap.size → ((w.drew.alloc (.cells ROW 46)).setRow w.heap.size X2.toArray).heap[q]? = w.heap[q]? := fun q hq => by rw [setRow_other _ _ q _ (by omega)]; exact hw1o q hq
      have hcpA : ∀ ty dc, (Builtin.copy_ #[26, 26] ty #[.slice (some ⟨w.heap.size, k * 12, none⟩) (L.length + 1 - k) dc, .slice (some ⟨g2, 0, none⟩) 1 cap2]).run Try.prog (w.drew.alloc (.cells ROW 46)) = .ok (goInt 1) ((w.drew.alloc (.cells ROW 46)).setRow w.heap.size X2.toArray) := fun ty dc =>
        run_copy_rowK _ 26 26 ty 46 12 w.heap.size (k * 12) (L.length + 1 - k) dc ⟨g2, 0, none⟩ 1 cap2 ROW 46 xs2 t26 s46 hw1 1 (by simp only [Nat.min_def]; split <;> omega) (by omega)
          (fun j v hj => by
            rw [World.cell?_of_block (w := w) (by rw [hadd]; exact hw1o g2 hg2l)]
            exact hnews j v hj) (by rw [hRl, hnl]; omega) h1n
      have hcpB : ∀ ty dc sc, (Builtin.copy_ #[26, 26] ty #[.slice (some ⟨w.heap.size, (k + 1) * 12, none⟩) (L.length - k) dc, .slice (some ⟨g, k * 12, none⟩) (L.length - k) sc]).run Try.prog ((w.drew.alloc (.cells ROW 46)).setRow w.heap.size X2.toArray).drew = .ok (goInt (L.length - k : Nat)) ((((w.drew.alloc (.cells ROW 46)).setRow w.heap.size X2.toArray).drew).setRow w.heap.size X3.toArray) := fun ty dc sc =>
        run_copy_rowK ((w.drew.alloc (.cells ROW 46)).setRow w.heap.size X2.toArray).drew 26 26 ty 46 12 w.heap.size ((k + 1) * 12) (L.length - k) dc ⟨g, k * 12, none⟩ (L.length - k) sc X2.toArray 46 (xs.drop (k * 12)) t26 s46 hw2 (L.length - k) (by simp only [Nat.min_def]; split <;> omega) hsegl
          (fun j v hj => by
            rw [hadd, World.cell?_of_block (w := w) (hw2o g hgl)]
            exact hcell _ v (by rwa [List.getElem?_drop] at hj)) (by simp only [List.size_toArray, hX2l, hsegl]; omega) hseg1
      have hkki : ((kk : Nat) : Int) = (L.length : Int) + 1 - (k : Int) := by omega
      refine (raw_grow g L.length cap k g2 cap2 w.heap.size G w hlt hkc (by omega) (by omega) hGn (by simpa [maxLen] using hGm) _ _ _ (fun ty => by rw [← hkki]; exact hgz ty) hcpA hcpB).mono ?_
      rintro e w'' ⟨rfl, rfl⟩
      have hkey : X3.take (k * 12 + 12 + (xs.drop (k * 12)).length) = ROW.toList.take (k * 12) ++ xs2 ++ xs.drop (k * 12) :=
        list_grow (R := ROW.toList) (news := xs2) (seg := xs.drop (k * 12)) (a := k * 12) hnl (by rw [hsegl, hRll]; omega) X2 X3 (by simp only [X2, hnl]) (by simp only [X3, List.toList_toArray]; rw [show (k + 1) * 12 = k * 12 + 12 by omega])
      refine insert_fin (i := k) hkL hv hg he hxl hnl h1x h1n hx hn ⟨rfl, rfl, rfl, by simp [World.setRow], fun q hq hqn => by rw [setRow_other _ _ q _ (by omega)]; exact hw2o q hq⟩ ?_ ⟨?_, .inr ⟨w.heap.size, G, X3.toArray, rfl, Nat.zero_le _, hw3, hGn, hGm, by simp [hX3l], ?_⟩⟩
      · intro ad had
        right; obtain rfl := Option.some.inj had; exact Nat.le_refl _
      · simp only [List.length_append, List.length_take, hsegl, hnl, hxl]; omega
      · rw [show (L.length + 1) * 12 = k * 12 + 12 + (xs.drop (k * 12)).length by rw [hsegl]; omega, ← hRt]
        exact hkey
end Go.Proofs.Ytfpmgnkbklnkaaa.Eng
end
section
set_option linter.unusedSimpArgs false
set_option linter.unusedVariables false
set_option maxRecDepth 100000
set_option maxHeartbeats 4000000
namespace Go.Proofs.Ytfpmgnkbklnkaaa.Eng
open Go Go.Proofs
abbrev z55_0 (l : List Cell) : Nat × Blk := (5000, arow 46 12 eCell zCell l)
abbrev z55_1 (l : List Cell) (mark : Int) (late : Int) (bad : Int) (n : Int) : Nat × Blk := (9000, .var ([.d (dI mark), .d (dI late), .d (dI bad), .d (dI n), .gs 5000 12 0 l.length]))
abbrev z55_2 (starts : List Int) : Nat × T := (20, tD (row 1 eI 0 starts))
abbrev z55_3 (starts : List Int) : Nat × T := (21, I (starts.length : Int))
abbrev z55_4 (key : Int) (v : Int) (starts : List Int) (l : List Cell) (i : Nat) : Nat × T := (9, tG 2190 12 0 ((takeTo key v starts l i).length))
abbrev z55_5 (key : Int) (v : Int) (starts : List Int) (l : List Cell) (i : Nat) : Nat × Blk := (2190, arow 46 12 eCell zCell (takeTo key v starts l i))
abbrev z55_6 (key : Int) (starts : List Int) (i : Nat) : Nat × Blk := (12, .var ((eCell (newCell key (starts.getD i 0))).map .d))
abbrev z55_7 (key : Int) (v : Int) (starts : List Int) (l : List Cell) (i : Nat) : Nat × T := (13, I ((aheadN (takeTo key v starts l i) (newCell key (starts.getD i 0)) : Nat) : Int))
abbrev z55_8 (key : Int) (v : Int) (starts : List Int) (l : List Cell) (i : Nat) : Nat × T := (38, I ((aheadN (takeTo key v starts l i) (newCell key (starts.getD i 0)) : Nat) : Int))
abbrev z55_9 (key : Int) (v : Int) (starts : List Int) (l : List Cell) (i : Nat) : Nat × Blk := (2190, arow 46 12 eCell zCell (ins (takeTo key v starts l i) [(newCell key (starts.getD i 0))] ((aheadN (takeTo key v starts l i) (newCell key (starts.getD i 0)) : Nat) : Int)))
abbrev z55_10 (key : Int) (v : Int) (starts : List Int) (l : List Cell) (i : Nat) : Nat × T := (9, tG 2190 12 0 ((ins (takeTo key v starts l i) [(newCell key (starts.getD i 0))] ((aheadN (takeTo key v starts l i) (newCell key (starts.getD i 0)) : Nat) : Int)).length))
abbrev z55_11 (key : Int) (v : Int) (starts : List Int) (l : List Cell) (i : Nat) : Nat × T := (50, tA ((eAgg (aggAdd (((ins (takeTo key v starts l i) [(newCell key (starts.getD i 0))] ((aheadN (takeTo key v starts l i) (newCell key (starts.getD i 0)) : Nat) : Int)).getD (aheadN (takeTo key v starts l i) (newCell key (starts.getD i 0))) zCell).A) v)).map .d))
abbrev z55_12 (key : Int) (v : Int) (starts : List Int) (l : List Cell) (i : Nat) : Nat × T := (52, .one (.c (.ep 2190 12 (aheadN (takeTo key v starts l i) (newCell key (starts.getD i 0))) 2)))
abbrev z55_13 (key : Int) (v : Int) (starts : List Int) (l : List Cell) (i : Nat) : Nat × T := (9, tG 2190 12 0 (((ins (takeTo key v starts l i) [(newCell key (starts.getD i 0))] ((aheadN (takeTo key v starts l i) (newCell key (starts.getD i 0)) : Nat) : Int)).set (aheadN (takeTo key v starts l i) (newCell key (starts.getD i 0))) (⟨((ins (takeTo key v starts l i) [(newCell key (starts.getD i 0))] ((aheadN (takeTo key v starts l i) (newCell key (starts.getD i 0)) : Nat) : Int)).getD (aheadN (takeTo key v starts l i) (newCell key (starts.getD i 0))) zCell).Key, ((ins (takeTo key v starts l i) [(newCell key (starts.getD i 0))] ((aheadN (takeTo key v starts l i) (newCell key (starts.getD i 0)) : Nat) : Int)).getD (aheadN (takeTo key v starts l i) (newCell key (starts.getD i 0))) zCell).Start, aggAdd (((ins (takeTo key v starts l i) [(newCell key (starts.getD i 0))] ((aheadN (takeTo key v starts l i) (newCell key (starts.getD i 0)) : Nat) : Int)).getD (aheadN (takeTo key v starts l i) (newCell key (starts.getD i 0))) zCell).A) v⟩ : Cell)).length))
abbrev z55_14 (key : Int) (v : Int) (starts : List Int) (l : List Cell) (i : Nat) : Nat × Blk := (2190, arow 46 12 eCell zCell ((ins (takeTo key v starts l i) [(newCell key (starts.getD i 0))] ((aheadN (takeTo key v starts l i) (newCell key (starts.getD i 0)) : Nat) : Int)).set (aheadN (takeTo key v starts l i) (newCell key (starts.getD i 0))) (⟨((ins (takeTo key v starts l i) [(newCell key (starts.getD i 0))] ((aheadN (takeTo key v starts l i) (newCell key (starts.getD i 0)) : Nat) : Int)).getD (aheadN (takeTo key v starts l i) (newCell key (starts.getD i 0))) zCell).Key, ((ins (takeTo key v starts l i) [(newCell key (starts.getD i 0))] ((aheadN (takeTo key v starts l i) (newCell key (starts.getD i 0)) : Nat) : Int)).getD (aheadN (takeTo key v starts l i) (newCell key (starts.getD i 0))) zCell).Start, aggAdd (((ins (takeTo key v starts l i) [(newCell key (starts.getD i 0))] ((aheadN (takeTo key v starts l i) (newCell key (starts.getD i 0)) : Nat) : Int)).getD (aheadN (takeTo key v starts l i) (newCell key (starts.getD i 0))) zCell).A) v⟩ : Cell)))
abbrev z55_15 (key : Int) (v : Int) (starts : List Int) (l : List Cell) (i : Nat) : Nat × T := (9, tG 2190 12 0 (((takeTo key v starts l i).set (aheadN (takeTo key v starts l i) (newCell key (starts.getD i 0))) (⟨((takeTo key v starts l i).getD (aheadN (takeTo key v starts l i) (newCell key (starts.getD i 0))) zCell).Key, ((takeTo key v starts l i).getD (aheadN (takeTo key v starts l i) (newCell key (starts.getD i 0))) zCell).Start, aggAdd (((takeTo key v starts l i).getD (aheadN (takeTo key v starts l i) (newCell key (starts.getD i 0))) zCell).A) v⟩ : Cell)).length))
abbrev z55_16 (key : Int) (v : Int) (starts : List Int) (l : List Cell) (i : Nat) : Nat × Blk := (2190, arow 46 12 eCell zCell ((takeTo key v starts l i).set (aheadN (takeTo key v starts l i) (newCell key (starts.getD i 0))) (⟨((takeTo key v starts l i).getD (aheadN (takeTo key v starts l i) (newCell key (starts.getD i 0))) zCell).Key, ((takeTo key v starts l i).getD (aheadN (takeTo key v starts l i) (newCell key (starts.getD i 0))) zCell).Start, aggAdd (((takeTo key v starts l i).getD (aheadN (takeTo key v starts l i) (newCell key (starts.getD i 0))) zCell).A) v⟩ : Cell)))
/-- headgate/engine.take. -/
theorem ok_taking (key v : Int) (starts : List Int) (l : List Cell) (mark late bad n : Int) (hs : Srt l) (hr : ∀ c ∈ l, AggR c.A) (hl : l.length ≤ 64) (hst : starts.length ≤ 8) (hv_ : R64 v) :
 FnG Try.prog 55 [.c (.ptr 9000 0), .c (.d (dI key)), .c (.d (dI v)), .c (.d (row 1 eI 0 starts))] [(5000, arow 46 12 eCell zCell l), (9000, .var ([.d (dI mark), .d (dI late), .d (dI bad), .d (dI n), .gs 5000 12 0 l.length]))] (fun r_ e_ => r_ = B (takeFits key v starts l) ∧ e_ = [(5000, arow 46 12 eCell zCell (takeL key v starts l)), (9000, .var ([.d (dI mark), .d (dI late), .d (dI bad), .d (dI n), .gs 5000 12 0 ((takeL key v starts l).length)]))]) := by
 refine FnG.intro Try.func55 rfl (by kernel_rfl) (by kernel_rfl) (by kernel_rfl) (by kernel_rfl) (N := 61) (by kernel_rfl) ?_
 intro w0 m0 F_ β_
 show AC _ _ ⟨[(0, tP 9000 0), (1, I key), (2, I v), (3, tD (row 1 eI 0 starts))], [(z55_0 l), (z55_1 l mark late bad n)]⟩ _
 refine AC.q ⟨[(0, tP 9000 0), (1, I key), (2, I v), (3, tD (row 1 eI 0 starts))], [(z55_0 l), (z55_1 l mark late bad n)]⟩ ?_
 refine AC.rS [0, 1, 2, 3, 4, 5] ?_
 refine AOps.m [0, 1, 2, 3] ⟨[(0, tP 9000 0), (1, I key), (2, I v), (3, tD (row 1 eI 0 starts)), (18, tG 5000 12 0 l.length)], [(z55_0 l), (z55_1 l mark late bad n)]⟩ ?_
 refine AOps.callG [(9500, 5000)] rfl (by kernel_rfl) rfl rfl (f := 41) (caps := []) (by kernel_rfl) rfl (by kernel_rfl) (ok_cloneG l (by omega)) (by kernel_rfl) (hand_cons (by kernel_rfl) hand_nil) (by kernel_rfl) ?_
 rintro _ _ ⟨rfl, rfl⟩
 refine ⟨[(5000, 2190), (9500, 5000)], [0, 1, 2, 3], [9000], by kernel_rfl, ?_⟩
 refine AOps.n ⟨[(0, tP 9000 0), (1, I key), (2, I v), (3, tD (row 1 eI 0 starts)), (19, tG 2190 12 0 l.length)], [(2190, arow 46 12 eCell zCell l), (z55_0 l), (z55_1 l mark late bad n)]⟩ ?_
 refine AOps.e ⟨[(0, tP 9000 0), (1, I key), (2, I v), (3, tD (row 1 eI 0 starts)), (9, tG 2190 12 0 l.length)], [(2190, arow 46 12 eCell zCell l), (z55_0 l), (z55_1 l mark late bad n)]⟩ ?_
 refine AC.seq ?_
 refine AC.q ⟨[(0, tP 9000 0), (1, I key), (2, I v), (9, tG 2190 12 0 l.length), (z55_2 starts), (z55_3 starts), (22, I 0)], [(2190, arow 46 12 eCell zCell l), (z55_0 l), (z55_1 l mark late bad n)]⟩ ?_
 refine AC.block ?_
 refine AC.loop (ι := Nat) (fun i => ⟨[(0, tP 9000 0), (1, I key), (2, I v), (z55_4 key v starts l i), (z55_2 starts), (z55_3 starts), (22, I (i : Int))], [(z55_5 key v starts l i), (z55_0 l), (z55_1 l mark late bad n)]⟩) (fun i => (i ≤ starts.length)) (fun i => starts.length - i) (0) (by omega) (Le.of (lk rfl (lk rfl (lk rfl (LeS.cons rfl (TLe.gs (congrArg List.length (by rfl))) (lk rfl (lk rfl (LeS.cons rfl (TLe.i (by omega)) LeS.nil))))))) (LeE.cons rfl (BLe.eq (congrArg (arow 46 12 eCell zCell) (by rfl))) (ek rfl (ek rfl LeE.nil))) (by kernel_rfl)) ?_
 intro i hi_
 have i1 : i ≤ starts.length := hi_; clear hi_
 show AC _ _ ⟨[(0, tP 9000 0), (1, I key), (2, I v), (z55_4 key v starts l i), (z55_2 starts), (z55_3 starts), (22, I (i : Int))], [(z55_5 key v starts l i), (z55_0 l), (z55_1 l mark late bad n)]⟩ _
 have hT := takeTo_spec (key := key) (starts := starts) hs hv_ hr i i1
 have hTl := hT.2.2
 have hAle := aheadN_le (takeTo key v starts l i) (newCell key (starts.getD i 0))
 refine AC.q ⟨[(0, tP 9000 0), (1, I key), (2, I v), (z55_4 key v starts l i), (z55_2 starts), (z55_3 starts), (22, I (i : Int)), (23, B (decide ((i : Int) < (starts.length : Int))))], [(z55_5 key v starts l i), (z55_0 l), (z55_1 l mark late bad n)]⟩ ?_
 refine AC.seq ?_
 refine AC.cd (b := decide ((i : Int) < (starts.length : Int))) (fun h_ => ?_) (fun h_ => ?_)
 have h1 := h_; have r1 := h_; clear h_; try simp only [bb] at h1
 refine AC.skip ?_
 refine AC.seq ?_
 refine AC.block ?_
 refine AC.rS [0, 1, 2] ?_
 refine AOps.ec (C' := (0 ≤ (i : Int) ∧ (i : Int) < (starts.length : Int)) ∧ True) ⟨[(0, tP 9000 0), (1, I key), (2, I v), (z55_4 key v starts l i), (11, I (starts.getD i 0)), (z55_2 starts), (z55_3 starts), (22, I (i : Int))], [(z55_5 key v starts l i), (z55_0 l), (z55_1 l mark late bad n)]⟩ (⟨by first | omega | exact hI, trivial⟩) ?_
 refine AC.q ⟨[(0, tP 9000 0), (1, I key), (2, I v), (z55_4 key v starts l i), sp 12, (z55_2 starts), (z55_3 starts), (22, I (i : Int))], [(12, .var ([.d (dI key), .d (dI (starts.getD i 0)), .d (dI 0), .d (dI 0), .d (dI 0), .d (dI 0), .d (dI 0), .d (dI 0), .d (dI 0), .d (dI 0), .d (dI 0), .d (dI 0)])), (z55_5 key v starts l i), (z55_0 l), (z55_1 l mark late bad n)]⟩ ?_
 refine AC.le (st' := ⟨[(0, tP 9000 0), (1, I key), (2, I v), (z55_4 key v starts l i), sp 12, (z55_2 starts), (z55_3 starts), (22, I (i : Int))], [(z55_6 key starts i), (z55_5 key v starts l i), (z55_0 l), (z55_1 l mark late bad n)]⟩) (Le.of (lk rfl (lk rfl (lk rfl (lk rfl (lk rfl (lk rfl (lk rfl (lk rfl LeS.nil)))))))) (LeE.cons rfl (BLe.eq (congrArg (fun x => Blk.var ((eCell x).map .d)) (show ((⟨key, (starts.getD i 0), (⟨0, 0, 0, 0, (⟨0, 0, 0, 0⟩ : H4), 0, 0⟩ : Agg)⟩ : Cell)) = ((newCell key (starts.getD i 0))) by rfl))) (ek rfl (ek rfl (ek rfl LeE.nil)))) (by kernel_rfl)) ?_
 refine AC.rS [0, 1, 2, 3, 4, 5, 6, 7] ?_
 refine AOps.m [0, 1] ⟨[(0, tP 9000 0), (1, I key), (2, I v), (z55_4 key v starts l i), sp 12, (z55_2 starts), (z55_3 starts), (22, I (i : Int)), (30, tG 2190 12 0 ((takeTo key v starts l i).length)), (31, tA ((eCell (newCell key (starts.getD i 0))).map .d))], [(z55_6 key starts i), (z55_5 key v starts l i), (z55_0 l), (z55_1 l mark late bad n)]⟩ ?_
 refine AOps.callG [(9500, 2190)] rfl (by kernel_rfl) rfl rfl (f := 84) (caps := []) (by kernel_rfl) rfl (by kernel_rfl) (ok_bsearch (takeTo key v starts l i) (newCell key (starts.getD i 0)) ?_ ?_) (by kernel_rfl) (hand_cons (by kernel_rfl) hand_nil) (by kernel_rfl) ?_
 iterate 2 (· first | omega | exact hT.1)
 rintro _ _ ⟨rfl, rfl⟩
 refine ⟨[(9500, 2190)], [0, 1, 2, 9, 12, 20, 21, 22], [12, 5000, 9000], by kernel_rfl, ?_⟩
 refine AOps.n ⟨[(0, tP 9000 0), (1, I key), (2, I v), (z55_4 key v starts l i), sp 12, (z55_2 starts), (z55_3 starts), (22, I (i : Int)), (32, .tup [.c (.d (dI ((aheadN (takeTo key v starts l i) (newCell key (starts.getD i 0)) : Nat) : Int))), .c (.d (dB (hasC (takeTo key v starts l i) (newCell key (starts.getD i 0)))))])], [(z55_6 key starts i), (z55_5 key v starts l i), (z55_0 l), (z55_1 l mark late bad n)]⟩ ?_
 refine AOps.e ⟨[(0, tP 9000 0), (1, I key), (2, I v), (z55_4 key v starts l i), sp 12, (z55_7 key v starts l i), (14, B (hasC (takeTo key v starts l i) (newCell key (starts.getD i 0)))), (z55_2 starts), (z55_3 starts), (22, I (i : Int))], [(z55_6 key starts i), (z55_5 key v starts l i), (z55_0 l), (z55_1 l mark late bad n)]⟩ ?_
 refine AC.seq ?_
 refine AC.q ⟨[(0, tP 9000 0), (1, I key), (2, I v), (z55_4 key v starts l i), sp 12, (z55_7 key v starts l i), (z55_2 starts), (z55_3 starts), (22, I (i : Int)), (36, B (!(hasC (takeTo key v starts l i) (newCell key (starts.getD i 0)))))], [(z55_6 key starts i), (z55_5 key v starts l i), (z55_0 l), (z55_1 l mark late bad n)]⟩ ?_
 refine AC.cd (b := !(hasC (takeTo key v starts l i) (newCell key (starts.getD i 0)))) (fun h_ => ?_) (fun h_ => ?_)
 have h2 := h_; have r2 := h_; clear h_; try simp only [bb] at h2
 refine AC.rR [0, 1, 2, 3, 4, 5] ?_
 refine AOps.m [0, 1, 2] ⟨[(0, tP 9000 0), (1, I key), (2, I v), (z55_7 key v starts l i), (z55_2 starts), (z55_3 starts), (22, I (i : Int)), (37, tG 2190 12 0 ((takeTo key v starts l i).length)), (z55_8 key v starts l i), (39, tA ((eCell (newCell key (starts.getD i 0))).map .d))], [(z55_5 key v starts l i), (z55_0 l), (z55_1 l mark late bad n)]⟩ ?_
 refine AOps.cons (step_rowLit rfl (by kernel_rfl) rfl (l := eCell (newCell key (starts.getD i 0))) (s := 12) (by kernel_rfl) (e := 46) (n := 1040) (by kernel_rfl) (by kernel_rfl) (by kernel_rfl) (by kernel_rfl) rfl (by kernel_rfl)) ?_
 refine AOps.le (st' := ⟨[(0, tP 9000 0), (1, I key), (2, I v), (z55_7 key v starts l i), (z55_2 starts), (z55_3 starts), (22, I (i : Int)), (37, tG 2190 12 0 ((takeTo key v starts l i).length)), (z55_8 key v starts l i), (39, tA ((eCell (newCell key (starts.getD i 0))).map .d)), (40, tG 1040 12 0 ([(newCell key (starts.getD i 0))].length))], [(1040, arow 46 12 eCell zCell [(newCell key (starts.getD i 0))]), (z55_5 key v starts l i), (z55_0 l), (z55_1 l mark late bad n)]⟩) (Le.of (lk rfl (lk rfl (lk rfl (lk rfl (lk rfl (lk rfl (lk rfl (lk rfl (lk rfl (lk rfl (lk rfl LeS.nil))))))))))) (LeE.cons rfl (BLe.lit1 (x := (newCell key (starts.getD i 0))) (c := eCell (newCell key (starts.getD i 0))) (fun j_ hj_ => by (rcases (show j_ = 0 ∨ j_ = 1 ∨ j_ = 2 ∨ j_ = 3 ∨ j_ = 4 ∨ j_ = 5 ∨ j_ = 6 ∨ j_ = 7 ∨ j_ = 8 ∨ j_ = 9 ∨ j_ = 10 ∨ j_ = 11 by omega) with rfl | rfl | rfl | rfl | rfl | rfl | rfl | rfl | rfl | rfl | rfl | rfl) <;> rfl)) (ek rfl (ek rfl (ek rfl LeE.nil)))) (by kernel_rfl)) ?_
 refine AOps.n ⟨[(0, tP 9000 0), (1, I key), (2, I v), (z55_7 key v starts l i), (z55_2 starts), (z55_3 starts), (22, I (i : Int)), (37, tG 2190 12 0 ((takeTo key v starts l i).length)), (z55_8 key v starts l i), (40, tG 1040 12 0 ([(newCell key (starts.getD i 0))].length))], [(1040, arow 46 12 eCell zCell [(newCell key (starts.getD i 0))]), (z55_5 key v starts l i), (z55_0 l), (z55_1 l mark late bad n)]⟩ ?_
 refine AOps.callG [(5000, 2190), (5001, 1040)] rfl (by kernel_rfl) rfl rfl (f := 70) (caps := []) (by kernel_rfl) rfl (by kernel_rfl) (ok_insert (takeTo key v starts l i) [(newCell key (starts.getD i 0))] ((aheadN (takeTo key v starts l i) (newCell key (starts.getD i 0)) : Nat) : Int) ?_ ?_ ?_ ?_) (by kernel_rfl) (hand_cons (by kernel_rfl) (hand_cons (by kernel_rfl) hand_nil)) (by kernel_rfl) ?_
 iterate 4 (· first | omega | rfl)
 rintro _ _ ⟨rfl, rfl⟩
 refine ⟨[(5000, 2190)], [0, 1, 2, 13, 20, 21, 22], [5000, 9000], by kernel_rfl, ?_⟩
 refine AOps.n ⟨[(0, tP 9000 0), (1, I key), (2, I v), (z55_7 key v starts l i), (z55_2 starts), (z55_3 starts), (22, I (i : Int)), (41, tG 2190 12 0 ((ins (takeTo key v starts l i) [(newCell key (starts.getD i 0))] ((aheadN (takeTo key v starts l i) (newCell key (starts.getD i 0)) : Nat) : Int)).length))], [(z55_9 key v starts l i), (z55_0 l), (z55_1 l mark late bad n)]⟩ ?_
 refine AOps.e ⟨[(0, tP 9000 0), (1, I key), (2, I v), (z55_10 key v starts l i), (z55_7 key v starts l i), (z55_2 starts), (z55_3 starts), (22, I (i : Int))], [(z55_9 key v starts l i), (z55_0 l), (z55_1 l mark late bad n)]⟩ ?_
 have hI : (aheadN (takeTo key v starts l i) (newCell key (starts.getD i 0))) < (ins (takeTo key v starts l i) [(newCell key (starts.getD i 0))] ((aheadN (takeTo key v starts l i) (newCell key (starts.getD i 0)) : Nat) : Int)).length := by first | exact hasC_lt (by assumption) | (rw [ins_len (by omega)]; omega)
 have hAR : AggR ((ins (takeTo key v starts l i) [(newCell key (starts.getD i 0))] ((aheadN (takeTo key v starts l i) (newCell key (starts.getD i 0)) : Nat) : Int)).getD (aheadN (takeTo key v starts l i) (newCell key (starts.getD i 0))) zCell).A := by first | exact hT.2.1 _ (getD_mem zCell (hasC_lt (by assumption))) | (rw [ins_get (by omega)]; exact zAgg_R)
 refine AC.rR [0, 1, 2, 3, 4, 5, 6, 7, 8, 9, 10, 11] ?_
 refine AOps.mc [0, 1, 2, 3, 4, 5, 6, 7] (C' := (0 ≤ ((aheadN (takeTo key v starts l i) (newCell key (starts.getD i 0)) : Nat) : Int) ∧ ((aheadN (takeTo key v starts l i) (newCell key (starts.getD i 0)) : Nat) : Int) < ((ins (takeTo key v starts l i) [(newCell key (starts.getD i 0))] ((aheadN (takeTo key v starts l i) (newCell key (starts.getD i 0)) : Nat) : Int)).length : Int)) ∧ ((aheadN (takeTo key v starts l i) (newCell key (starts.getD i 0))) < (ins (takeTo key v starts l i) [(newCell key (starts.getD i 0))] ((aheadN (takeTo key v starts l i) (newCell key (starts.getD i 0)) : Nat) : Int)).length) ∧ True) ⟨[(0, tP 9000 0), (1, I key), (2, I v), (z55_10 key v starts l i), (z55_2 starts), (z55_3 starts), (22, I (i : Int)), (42, tG 2190 12 0 ((ins (takeTo key v starts l i) [(newCell key (starts.getD i 0))] ((aheadN (takeTo key v starts l i) (newCell key (starts.getD i 0)) : Nat) : Int)).length)), (43, I ((aheadN (takeTo key v starts l i) (newCell key (starts.getD i 0)) : Nat) : Int)), (48, tA ((eAgg (((ins (takeTo key v starts l i) [(newCell key (starts.getD i 0))] ((aheadN (takeTo key v starts l i) (newCell key (starts.getD i 0)) : Nat) : Int)).getD (aheadN (takeTo key v starts l i) (newCell key (starts.getD i 0))) zCell).A)).map .d)), (49, I v)], [(z55_9 key v starts l i), (z55_0 l), (z55_1 l mark late bad n)]⟩ (⟨by first | omega | exact hI, by first | omega | exact hI, trivial⟩) ?_
 refine AOps.ca (ok_add (((ins (takeTo key v starts l i) [(newCell key (starts.getD i 0))] ((aheadN (takeTo key v starts l i) (newCell key (starts.getD i 0)) : Nat) : Int)).getD (aheadN (takeTo key v starts l i) (newCell key (starts.getD i 0))) zCell).A) v ?_ ?_) ?_
 iterate 2 (· first | assumption | exact hAR)
 rintro _ rfl
 refine AOps.mc [9, 10] (C' := (0 ≤ ((aheadN (takeTo key v starts l i) (newCell key (starts.getD i 0)) : Nat) : Int) ∧ ((aheadN (takeTo key v starts l i) (newCell key (starts.getD i 0)) : Nat) : Int) < ((ins (takeTo key v starts l i) [(newCell key (starts.getD i 0))] ((aheadN (takeTo key v starts l i) (newCell key (starts.getD i 0)) : Nat) : Int)).length : Int)) ∧ True) ⟨[(0, tP 9000 0), (1, I key), (2, I v), (z55_10 key v starts l i), (z55_2 starts), (z55_3 starts), (22, I (i : Int)), (z55_11 key v starts l i), (z55_12 key v starts l i)], [(z55_9 key v starts l i), (z55_0 l), (z55_1 l mark late bad n)]⟩ (⟨by first | omega | exact hI, trivial⟩) ?_
 refine AOps.cons (step_storeE rfl (by kernel_rfl) rfl (n := 2190) (sz := 12) (i := (aheadN (takeTo key v starts l i) (newCell key (starts.getD i 0)))) (off := 2) (by kernel_rfl) (e := 46) (k := (ins (takeTo key v starts l i) [(newCell key (starts.getD i 0))] ((aheadN (takeTo key v starts l i) (newCell key (starts.getD i 0)) : Nat) : Int)).length) (get := fun i_ j_ => nth (eCell ((ins (takeTo key v starts l i) [(newCell key (starts.getD i 0))] ((aheadN (takeTo key v starts l i) (newCell key (starts.getD i 0)) : Nat) : Int)).getD i_ zCell)) j_) (l := (eAgg (aggAdd (((ins (takeTo key v starts l i) [(newCell key (starts.getD i 0))] ((aheadN (takeTo key v starts l i) (newCell key (starts.getD i 0)) : Nat) : Int)).getD (aheadN (takeTo key v starts l i) (newCell key (starts.getD i 0))) zCell).A) v)).map .d) (c := eAgg (aggAdd (((ins (takeTo key v starts l i) [(newCell key (starts.getD i 0))] ((aheadN (takeTo key v starts l i) (newCell key (starts.getD i 0)) : Nat) : Int)).getD (aheadN (takeTo key v starts l i) (newCell key (starts.getD i 0))) zCell).A) v)) rfl (by kernel_rfl) (by kernel_rfl) (by kernel_rfl) (by first | omega | exact hI) (by kernel_rfl) rfl) ?_
 refine AOps.le (st' := ⟨[(0, tP 9000 0), (1, I key), (2, I v), (z55_13 key v starts l i), (z55_2 starts), (z55_3 starts), (22, I (i : Int)), (z55_11 key v starts l i), (z55_12 key v starts l i)], [(z55_14 key v starts l i), (z55_0 l), (z55_1 l mark late bad n)]⟩) (Le.of (lk rfl (lk rfl (lk rfl (LeS.cons rfl (TLe.gs (by simp only [List.length_set])) (lk rfl (lk rfl (lk rfl (lk rfl (lk rfl LeS.nil))))))))) (LeE.cons rfl (BLe.setE (L := (ins (takeTo key v starts l i) [(newCell key (starts.getD i 0))] ((aheadN (takeTo key v starts l i) (newCell key (starts.getD i 0)) : Nat) : Int))) (x := (⟨((ins (takeTo key v starts l i) [(newCell key (starts.getD i 0))] ((aheadN (takeTo key v starts l i) (newCell key (starts.getD i 0)) : Nat) : Int)).getD (aheadN (takeTo key v starts l i) (newCell key (starts.getD i 0))) zCell).Key, ((ins (takeTo key v starts l i) [(newCell key (starts.getD i 0))] ((aheadN (takeTo key v starts l i) (newCell key (starts.getD i 0)) : Nat) : Int)).getD (aheadN (takeTo key v starts l i) (newCell key (starts.getD i 0))) zCell).Start, aggAdd (((ins (takeTo key v starts l i) [(newCell key (starts.getD i 0))] ((aheadN (takeTo key v starts l i) (newCell key (starts.getD i 0)) : Nat) : Int)).getD (aheadN (takeTo key v starts l i) (newCell key (starts.getD i 0))) zCell).A) v⟩ : Cell)) (i := (aheadN (takeTo key v starts l i) (newCell key (starts.getD i 0)))) (off := 2) (by first | omega | exact hI) (fun j_ hj_ => by (rcases (show j_ = 0 ∨ j_ = 1 ∨ j_ = 2 ∨ j_ = 3 ∨ j_ = 4 ∨ j_ = 5 ∨ j_ = 6 ∨ j_ = 7 ∨ j_ = 8 ∨ j_ = 9 ∨ j_ = 10 ∨ j_ = 11 by omega) with rfl | rfl | rfl | rfl | rfl | rfl | rfl | rfl | rfl | rfl | rfl | rfl) <;> rfl)) (ek rfl (ek rfl LeE.nil))) (by kernel_rfl)) ?_
 refine AOps.n ⟨[(0, tP 9000 0), (1, I key), (2, I v), (z55_13 key v starts l i), (z55_2 starts), (z55_3 starts), (22, I (i : Int))], [(z55_14 key v starts l i), (z55_0 l), (z55_1 l mark late bad n)]⟩ ?_
 refine AOps.done ?_
 refine AC.rR [0, 1] ?_
 refine AOps.m [0, 1] ⟨[(0, tP 9000 0), (1, I key), (2, I v), (z55_13 key v starts l i), (z55_2 starts), (z55_3 starts), (22, I (IntKind.i64.wrap ((i : Int) + 1)))], [(z55_14 key v starts l i), (z55_0 l), (z55_1 l mark late bad n)]⟩ ?_
 refine AOps.le (st' := ⟨[(0, tP 9000 0), (1, I key), (2, I v), (z55_13 key v starts l i), (z55_2 starts), (z55_3 starts), (22, I ((i + 1 : Nat) : Int))], [(z55_14 key v starts l i), (z55_0 l), (z55_1 l mark late bad n)]⟩) (Le.of (lk rfl (lk rfl (lk rfl (lk rfl (lk rfl (lk rfl (LeS.cons rfl (TLe.i (by rw [wrap_in (n := ((i : Int) + 1)) (by omega) (by omega)] <;> omega)) LeS.nil))))))) (ek rfl (ek rfl (ek rfl LeE.nil))) (by kernel_rfl)) ?_
 refine AOps.done ?_
 try refine blockA_n ?_
 refine roundA_n (i + 1) (by omega) (by show starts.length - (i + 1) < starts.length - i; omega) (Le.of (lk rfl (lk rfl (lk rfl (LeS.cons rfl (TLe.gs (congrArg List.length ?_)) (lk rfl (lk rfl (LeS.cons rfl (TLe.i ?_) LeS.nil))))))) (LeE.cons rfl (BLe.eq (congrArg (arow 46 12 eCell zCell) ?_)) (ek rfl (ek rfl LeE.nil))) (by kernel_rfl))
 iterate 3 (· first | rfl | omega | exact take_found (by omega) (by assumption) | exact take_fresh (by omega) (by assumption) _ rfl _ rfl)
 have h2 := h_; have r2 := h_; clear h_; try simp only [bb] at h2
 refine AC.skip ?_
 have hI : (aheadN (takeTo key v starts l i) (newCell key (starts.getD i 0))) < (takeTo key v starts l i).length := by first | exact hasC_lt (by assumption) | (rw [ins_len (by omega)]; omega)
 have hAR : AggR ((takeTo key v starts l i).getD (aheadN (takeTo key v starts l i) (newCell key (starts.getD i 0))) zCell).A := by first | exact hT.2.1 _ (getD_mem zCell (hasC_lt (by assumption))) | (rw [ins_get (by omega)]; exact zAgg_R)
 refine AC.rR [0, 1, 2, 3, 4, 5, 6, 7, 8, 9, 10, 11] ?_
 refine AOps.mc [0, 1, 2, 3, 4, 5, 6, 7] (C' := (0 ≤ ((aheadN (takeTo key v starts l i) (newCell key (starts.getD i 0)) : Nat) : Int) ∧ ((aheadN (takeTo key v starts l i) (newCell key (starts.getD i 0)) : Nat) : Int) < ((takeTo key v starts l i).length : Int)) ∧ ((aheadN (takeTo key v starts l i) (newCell key (starts.getD i 0))) < (takeTo key v starts l i).length) ∧ True) ⟨[(0, tP 9000 0), (1, I key), (2, I v), (z55_4 key v starts l i), (z55_2 starts), (z55_3 starts), (22, I (i : Int)), (42, tG 2190 12 0 ((takeTo key v starts l i).length)), (43, I ((aheadN (takeTo key v starts l i) (newCell key (starts.getD i 0)) : Nat) : Int)), (48, tA ((eAgg (((takeTo key v starts l i).getD (aheadN (takeTo key v starts l i) (newCell key (starts.getD i 0))) zCell).A)).map .d)), (49, I v)], [(z55_5 key v starts l i), (z55_0 l), (z55_1 l mark late bad n)]⟩ (⟨by first | omega | exact hI, by first | omega | exact hI, trivial⟩) ?_
 refine AOps.ca (ok_add (((takeTo key v starts l i).getD (aheadN (takeTo key v starts l i) (newCell key (starts.getD i 0))) zCell).A) v ?_ ?_) ?_
 iterate 2 (· first | assumption | exact hAR)
 rintro _ rfl
 refine AOps.mc [9, 10] (C' := (0 ≤ ((aheadN (takeTo key v starts l i) (newCell key (starts.getD i 0)) : Nat) : Int) ∧ ((aheadN (takeTo key v starts l i) (newCell key (starts.getD i 0)) : Nat) : Int) < ((takeTo key v starts l i).length : Int)) ∧ True) ⟨[(0, tP 9000 0), (1, I key), (2, I v), (z55_4 key v starts l i), (z55_2 starts), (z55_3 starts), (22, I (i : Int)), (50, tA ((eAgg (aggAdd (((takeTo key v starts l i).getD (aheadN (takeTo key v starts l i) (newCell key (starts.getD i 0))) zCell).A) v)).map .d)), (z55_12 key v starts l i)], [(z55_5 key v starts l i), (z55_0 l), (z55_1 l mark late bad n)]⟩ (⟨by first | omega | exact hI, trivial⟩) ?_
 refine AOps.cons (step_storeE rfl (by kernel_rfl) rfl (n := 2190) (sz := 12) (i := (aheadN (takeTo key v starts l i) (newCell key (starts.getD i 0)))) (off := 2) (by kernel_rfl) (e := 46) (k := (takeTo key v starts l i).length) (get := fun i_ j_ => nth (eCell ((takeTo key v starts l i).getD i_ zCell)) j_) (l := (eAgg (aggAdd (((takeTo key v starts l i).getD (aheadN (takeTo key v starts l i) (newCell key (starts.getD i 0))) zCell).A) v)).map .d) (c := eAgg (aggAdd (((takeTo key v starts l i).getD (aheadN (takeTo key v starts l i) (newCell key (starts.getD i 0))) zCell).A) v)) rfl (by kernel_rfl) (by kernel_rfl) (by kernel_rfl) (by first | omega | exact hI) (by kernel_rfl) rfl) ?_
 refine AOps.le (st' := ⟨[(0, tP 9000 0), (1, I key), (2, I v), (z55_15 key v starts l i), (z55_2 starts), (z55_3 starts), (22, I (i : Int)), (50, tA ((eAgg (aggAdd (((takeTo key v starts l i).getD (aheadN (takeTo key v starts l i) (newCell key (starts.getD i 0))) zCell).A) v)).map .d)), (z55_12 key v starts l i)], [(z55_16 key v starts l i), (z55_0 l), (z55_1 l mark late bad n)]⟩) (Le.of (lk rfl (lk rfl (lk rfl (LeS.cons rfl (TLe.gs (by simp only [List.length_set])) (lk rfl (lk rfl (lk rfl (lk rfl (lk rfl LeS.nil))))))))) (LeE.cons rfl (BLe.setE (L := (takeTo key v starts l i)) (x := (⟨((takeTo key v starts l i).getD (aheadN (takeTo key v starts l i) (newCell key (starts.getD i 0))) zCell).Key, ((takeTo key v starts l i).getD (aheadN (takeTo key v starts l i) (newCell key (starts.getD i 0))) zCell).Start, aggAdd (((takeTo key v starts l i).getD (aheadN (takeTo key v starts l i) (newCell key (starts.getD i 0))) zCell).A) v⟩ : Cell)) (i := (aheadN (takeTo key v starts l i) (newCell key (starts.getD i 0)))) (off := 2) (by first | omega | exact hI) (fun j_ hj_ => by (rcases (show j_ = 0 ∨ j_ = 1 ∨ j_ = 2 ∨ j_ = 3 ∨ j_ = 4 ∨ j_ = 5 ∨ j_ = 6 ∨ j_ = 7 ∨ j_ = 8 ∨ j_ = 9 ∨ j_ = 10 ∨ j_ = 11 by omega) with rfl | rfl | rfl | rfl | rfl | rfl | rfl | rfl | rfl | rfl | rfl | rfl) <;> rfl)) (ek rfl (ek rfl LeE.nil))) (by kernel_rfl)) ?_
 refine AOps.n ⟨[(0, tP 9000 0), (1, I key), (2, I v), (z55_15 key v starts l i), (z55_2 starts), (z55_3 starts), (22, I (i : Int))], [(z55_16 key v starts l i), (z55_0 l), (z55_1 l mark late bad n)]⟩ ?_
 refine AOps.done ?_
 refine AC.rR [0, 1] ?_
 refine AOps.m [0, 1] ⟨[(0, tP 9000 0), (1, I key), (2, I v), (z55_15 key v starts l i), (z55_2 starts), (z55_3 starts), (22, I (IntKind.i64.wrap ((i : Int) + 1)))], [(z55_16 key v starts l i), (z55_0 l), (z55_1 l mark late bad n)]⟩ ?_
 refine AOps.le (st' := ⟨[(0, tP 9000 0), (1, I key), (2, I v), (z55_15 key v starts l i), (z55_2 starts), (z55_3 starts), (22, I ((i + 1 : Nat) : Int))], [(z55_16 key v starts l i), (z55_0 l), (z55_1 l mark late bad n)]⟩) (Le.of (lk rfl (lk rfl (lk rfl (lk rfl (lk rfl (lk rfl (LeS.cons rfl (TLe.i (by rw [wrap_in (n := ((i : Int) + 1)) (by omega) (by omega)] <;> omega)) LeS.nil))))))) (ek rfl (ek rfl (ek rfl LeE.nil))) (by kernel_rfl)) ?_
 refine AOps.done ?_
 try refine blockA_n ?_
 refine roundA_n (i + 1) (by omega) (by show starts.length - (i + 1) < starts.length - i; omega) (Le.of (lk rfl (lk rfl (lk rfl (LeS.cons rfl (TLe.gs (congrArg List.length ?_)) (lk rfl (lk rfl (LeS.cons rfl (TLe.i ?_) LeS.nil))))))) (LeE.cons rfl (BLe.eq (congrArg (arow 46 12 eCell zCell) ?_)) (ek rfl (ek rfl LeE.nil))) (by kernel_rfl))
 iterate 3 (· first | rfl | omega | exact take_found (by omega) (by assumption) | exact take_fresh (by omega) (by assumption) _ rfl _ rfl)
 have h1 := h_; have r1 := h_; clear h_; try simp only [bb] at h1
 refine AC.exit ?_
 repeat (first | refine thenA_x ?_ | refine roundA_x ?_ | refine joinA_x ?_ | refine blockA_hit ?_ | refine blockA_miss (by decide) ?_)
 refine AC.seq ?_
 have hi_ : i = starts.length := by omega
 refine AC.q ⟨[(0, tP 9000 0), (z55_4 key v starts l i), (56, B (decide (((takeTo key v starts l i).length : Int) > 64)))], [(z55_5 key v starts l i), (z55_0 l), (z55_1 l mark late bad n)]⟩ ?_
 refine AC.cd (b := decide (((takeTo key v starts l i).length : Int) > 64)) (fun h_ => ?_) (fun h_ => ?_)
 have h2 := h_; have r2 := h_; clear h_; try simp only [bb] at h2
 refine AC.q ⟨[(8, B false)], [(z55_0 l), (z55_1 l mark late bad n)]⟩ ?_
 refine AC.ret ?_
 refine ResG.ret (Q := fun r_ e_ => r_ = B (takeFits key v starts l) ∧ e_ = [(5000, arow 46 12 eCell zCell (takeL key v starts l)), (9000, .var ([.d (dI mark), .d (dI late), .d (dI bad), .d (dI n), .gs 5000 12 0 ((takeL key v starts l).length)]))]) [(5000, 5000), (9000, 9000)] (us := [.c (.d (dB false))]) (us' := [.c (.d (dB (takeFits key v starts l)))]) (env' := [(5000, arow 46 12 eCell zCell (takeL key v starts l)), (9000, .var ([.d (dI mark), .d (dI late), .d (dI bad), .d (dI n), .gs 5000 12 0 ((takeL key v starts l).length)]))]) (by kernel_rfl) (us_cons (w' := .c (.d (dB (takeFits key v starts l)))) (by kernel_rfl) (ULe.c (CLe.d (DLe.eq (congrArg dB (show (false) = (takeFits key v starts l) from ?_))))) us_nil) (endE_cons (b' := arow 46 12 eCell zCell (takeL key v starts l)) (by kernel_rfl) (by kernel_rfl) (BLe.eq (congrArg (arow 46 12 eCell zCell) (show (l) = ((takeL key v starts l)) from ?_))) (endE_cons (b' := .var ([.d (dI mark), .d (dI late), .d (dI bad), .d (dI n), .gs 5000 12 0 ((takeL key v starts l).length)])) (by kernel_rfl) (by kernel_rfl) (BLe.var (ck (ck (ck (ck (All2.cons (CLe.gs (congrArg List.length (show (l) = ((takeL key v starts l)) from ?_))) All2.nil)))))) endE_nil)) (by kernel_rfl) ⟨rfl, rfl⟩
 iterate 3 (· first | rfl | exact takeL_yes (i := i) (by omega) (by omega) | exact takeL_no (i := i) (by omega) (by omega) | exact fits_yes (i := i) (by omega) (by omega) | exact fits_no (i := i) (by omega) (by omega))
 have h2 := h_; have r2 := h_; clear h_; try simp only [bb] at h2
 refine AC.skip ?_
 refine AC.q ⟨[], [(z55_5 key v starts l i), (z55_0 l), (9000, .var ([.d (dI mark), .d (dI late), .d (dI bad), .d (dI n), .gs 2190 12 0 ((takeTo key v starts l i).length)]))]⟩ ?_
 refine AC.q ⟨[(8, B true)], [(z55_5 key v starts l i), (z55_0 l), (9000, .var ([.d (dI mark), .d (dI late), .d (dI bad), .d (dI n), .gs 2190 12 0 ((takeTo key v starts l i).length)]))]⟩ ?_
 refine AC.ret ?_
 refine ResG.ret (Q := fun r_ e_ => r_ = B (takeFits key v starts l) ∧ e_ = [(5000, arow 46 12 eCell zCell (takeL key v starts l)), (9000, .var ([.d (dI mark), .d (dI late), .d (dI bad), .d (dI n), .gs 5000 12 0 ((takeL key v starts l).length)]))]) [(5000, 2190), (9000, 9000)] (us := [.c (.d (dB true))]) (us' := [.c (.d (dB (takeFits key v starts l)))]) (env' := [(5000, arow 46 12 eCell zCell (takeL key v starts l)), (9000, .var ([.d (dI mark), .d (dI late), .d (dI bad), .d (dI n), .gs 5000 12 0 ((takeL key v starts l).length)]))]) (by kernel_rfl) (us_cons (w' := .c (.d (dB (takeFits key v starts l)))) (by kernel_rfl) (ULe.c (CLe.d (DLe.eq (congrArg dB (show (true) = (takeFits key v starts l) from ?_))))) us_nil) (endE_cons (b' := arow 46 12 eCell zCell (takeL key v starts l)) (by kernel_rfl) (by kernel_rfl) (BLe.eq (congrArg (arow 46 12 eCell zCell) (show ((takeTo key v starts l i)) = ((takeL key v starts l)) from ?_))) (endE_cons (b' := .var ([.d (dI mark), .d (dI late), .d (dI bad), .d (dI n), .gs 2190 12 0 ((takeL key v starts l).length)])) (by kernel_rfl) (by kernel_rfl) (BLe.var (ck (ck (ck (ck (All2.cons (CLe.gs (congrArg List.length (show ((takeTo key v starts l i)) = ((takeL key v starts l)) from ?_))) All2.nil)))))) endE_nil)) (by kernel_rfl) ⟨rfl, rfl⟩
 iterate 3 (· first | rfl | exact takeL_yes (i := i) (by omega) (by omega) | exact takeL_no (i := i) (by omega) (by omega) | exact fits_yes (i := i) (by omega) (by omega) | exact fits_no (i := i) (by omega) (by omega))
end Go.Proofs.Ytfpmgnkbklnkaaa.Eng
end
section
set_option linter.unusedSimpArgs false
set_option linter.unusedVariables false
set_option maxRecDepth 100000
set_option maxHeartbeats 4000000
namespace Go.Proofs.Ytfpmgnkbklnkaaa.Eng
open Go Go.Proofs
abbrev ufeed (g : Grid) (s : State) (r : Rec) : List U := [.agg ((eState (feedSt g s r)).map .d), .c (.d (row 12 eCell zCell (feedOver g s r))), .c (.d (dI (feedErr g s r)))]
abbrev z27_0 (g : Grid) : Nat × Blk := (3, .var ((eGrid g).map .d))
abbrev z27_1 (r : Rec) : Nat × Blk := (5, .var ((eRec r).map .d))
abbrev z27_2 : Nat × Blk := (6, .var ([.d (dI 0), .d (dI 0), .d (dI 0), .d (dI 0), .d (.v (.slice none 0 0))]))
abbrev z27_3 : Nat × T := (7, tD (.v (.slice none 0 0)))
abbrev z27_4 (s : State) : Nat × Blk := (2390, arow 46 12 eCell zCell s.L)
abbrev z27_5 (s : State) : Nat × Blk := (4, .var ([.d (dI s.Mark), .d (dI s.Late), .d (dI s.Bad), .d (dI (s.N + 1)), .gs 2390 12 0 s.L.length]))
abbrev z27_6 (g : Grid) (s : State) (r : Rec) : Nat × T := (11, tG 2610 1 0 (((gridStarts g r.Time).filter fun x => !cloI g s.Mark x).length))
abbrev z27_7 (s : State) (r : Rec) : Nat × Blk := (4, .var ([.d (dI (if r.Time > s.Mark then r.Time else s.Mark)), .d (dI (s.Late + 1)), .d (dI s.Bad), .d (dI (s.N + 1)), .gs 2390 12 0 s.L.length]))
abbrev z27_8 : Nat × Blk := (13, .var [.d (.v (.slice none 0 0))])
abbrev z27_9 : Nat × T := (90, .one (.c (.fn 57 [.ptr 3 0, .ptr 4 0, .ptr 13 0])))
abbrev z27_10 : Nat × Blk := (13, .var [.gs 3013 12 0 (([] : List Cell).length)])
abbrev z27_11 : Nat × Blk := (3013, arow 46 12 eCell zCell ([] : List Cell))
abbrev z27_12 (s : State) (r : Rec) : Nat × Blk := (4, .var ([.d (dI (if r.Time > s.Mark then r.Time else s.Mark)), .d (dI (s.Late + 1)), .d (dI s.Bad), .d (dI (s.N + 1)), .any]))
abbrev z27_13 (g : Grid) (s : State) (r : Rec) : Nat × Blk := (13, .var [.gs 3013 12 0 ((([] : List Cell) ++ s.L.filter (clo g (if r.Time > s.Mark then r.Time else s.Mark))).length)])
abbrev z27_14 (g : Grid) (s : State) (r : Rec) : Nat × Blk := (2390, arow 46 12 eCell zCell (s.L.filter fun x => !clo g (if r.Time > s.Mark then r.Time else s.Mark) x))
abbrev z27_15 (g : Grid) (s : State) (r : Rec) : Nat × Blk := (3013, arow 46 12 eCell zCell (([] : List Cell) ++ s.L.filter (clo g (if r.Time > s.Mark then r.Time else s.Mark))))
abbrev z27_16 (g : Grid) (s : State) (r : Rec) : Nat × Blk := (4, .var ([.d (dI (if r.Time > s.Mark then r.Time else s.Mark)), .d (dI (s.Late + 1)), .d (dI s.Bad), .d (dI (s.N + 1)), .d (row 12 eCell zCell (s.L.filter fun x => !clo g (if r.Time > s.Mark then r.Time else s.Mark) x))]))
abbrev z27_17 (g : Grid) (s : State) (r : Rec) : Nat × Blk := (13, .var [.d (row 12 eCell zCell (([] : List Cell) ++ s.L.filter (clo g (if r.Time > s.Mark then r.Time else s.Mark))))])
abbrev z27_18 (g : Grid) (s : State) (r : Rec) : Nat × T := (93, tA [.d (dI (if r.Time > s.Mark then r.Time else s.Mark)), .d (dI (s.Late + 1)), .d (dI s.Bad), .d (dI (s.N + 1)), .d (row 12 eCell zCell (s.L.filter fun x => !clo g (if r.Time > s.Mark then r.Time else s.Mark) x))])
abbrev z27_19 (g : Grid) (s : State) (r : Rec) : Nat × T := (94, tD (row 12 eCell zCell (([] : List Cell) ++ s.L.filter (clo g (if r.Time > s.Mark then r.Time else s.Mark)))))
abbrev z27_20 (g : Grid) (s : State) (r : Rec) : Nat × Blk := (6, .var ([.d (dI (if r.Time > s.Mark then r.Time else s.Mark)), .d (dI (s.Late + 1)), .d (dI s.Bad), .d (dI (s.N + 1)), .d (row 12 eCell zCell (s.L.filter fun x => !clo g (if r.Time > s.Mark then r.Time else s.Mark) x))]))
abbrev z27_21 (g : Grid) (s : State) (r : Rec) : Nat × Blk := (4, .var ([.d (dI s.Mark), .d (dI s.Late), .d (dI s.Bad), .d (dI (s.N + 1)), .gs 2390 12 0 ((takeL r.Key (valN r) ((gridStarts g r.Time).filter fun x => !cloI g s.Mark x) s.L).length)]))
abbrev z27_22 (g : Grid) (s : State) (r : Rec) : Nat × Blk := (2390, arow 46 12 eCell zCell (takeL r.Key (valN r) ((gridStarts g r.Time).filter fun x => !cloI g s.Mark x) s.L))
abbrev z27_23 (g : Grid) (s : State) (r : Rec) : Nat × Blk := (4, .var ([.d (dI (if r.Time > s.Mark then r.Time else s.Mark)), .d (dI (s.Late + 1)), .d (dI s.Bad), .d (dI (s.N + 1)), .gs 2390 12 0 ((takeL r.Key (valN r) ((gridStarts g r.Time).filter fun x => !cloI g s.Mark x) s.L).length)]))
abbrev z27_24 (g : Grid) (s : State) (r : Rec) : Nat × T := (89, tG 2390 12 0 ((takeL r.Key (valN r) ((gridStarts g r.Time).filter fun x => !cloI g s.Mark x) s.L).length))
abbrev z27_25 (g : Grid) (s : State) (r : Rec) : Nat × T := (91, tG 2390 12 0 (((takeL r.Key (valN r) ((gridStarts g r.Time).filter fun x => !cloI g s.Mark x) s.L).filter fun x => !clo g (if r.Time > s.Mark then r.Time else s.Mark) x).length))
abbrev z27_26 (g : Grid) (s : State) (r : Rec) : Nat × Blk := (13, .var [.gs 3013 12 0 ((([] : List Cell) ++ (takeL r.Key (valN r) ((gridStarts g r.Time).filter fun x => !cloI g s.Mark x) s.L).filter (clo g (if r.Time > s.Mark then r.Time else s.Mark))).length)])
abbrev z27_27 (g : Grid) (s : State) (r : Rec) : Nat × Blk := (2390, arow 46 12 eCell zCell ((takeL r.Key (valN r) ((gridStarts g r.Time).filter fun x => !cloI g s.Mark x) s.L).filter fun x => !clo g (if r.Time > s.Mark then r.Time else s.Mark) x))
abbrev z27_28 (g : Grid) (s : State) (r : Rec) : Nat × Blk := (3013, arow 46 12 eCell zCell (([] : List Cell) ++ (takeL r.Key (valN r) ((gridStarts g r.Time).filter fun x => !cloI g s.Mark x) s.L).filter (clo g (if r.Time > s.Mark then r.Time else s.Mark))))
abbrev z27_29 (g : Grid) (s : State) (r : Rec) : Nat × Blk := (4, .var ([.d (dI (if r.Time > s.Mark then r.Time else s.Mark)), .d (dI (s.Late + 1)), .d (dI s.Bad), .d (dI (s.N + 1)), .d (row 12 eCell zCell ((takeL r.Key (valN r) ((gridStarts g r.Time).filter fun x => !cloI g s.Mark x) s.L).filter fun x => !clo g (if r.Time > s.Mark then r.Time else s.Mark) x))]))
abbrev z27_30 (g : Grid) (s : State) (r : Rec) : Nat × Blk := (13, .var [.d (.sl 12 ((([] : List Cell) ++ (takeL r.Key (valN r) ((gridStarts g r.Time).filter fun x => !cloI g s.Mark x) s.L).filter (clo g (if r.Time > s.Mark then r.Time else s.Mark))).length) (fun i_ j_ => nth (eCell ((([] : List Cell) ++ (takeL r.Key (valN r) ((gridStarts g r.Time).filter fun x => !cloI g s.Mark x) s.L).filter (clo g (if r.Time > s.Mark then r.Time else s.Mark))).getD (0 + i_) zCell)) j_))])
abbrev z27_31 (g : Grid) (s : State) (r : Rec) : Nat × Blk := (13, .var [.d (row 12 eCell zCell (([] : List Cell) ++ (takeL r.Key (valN r) ((gridStarts g r.Time).filter fun x => !cloI g s.Mark x) s.L).filter (clo g (if r.Time > s.Mark then r.Time else s.Mark))))])
abbrev z27_32 (g : Grid) (s : State) (r : Rec) : Nat × T := (93, tA [.d (dI (if r.Time > s.Mark then r.Time else s.Mark)), .d (dI (s.Late + 1)), .d (dI s.Bad), .d (dI (s.N + 1)), .d (row 12 eCell zCell ((takeL r.Key (valN r) ((gridStarts g r.Time).filter fun x => !cloI g s.Mark x) s.L).filter fun x => !clo g (if r.Time > s.Mark then r.Time else s.Mark) x))])
abbrev z27_33 (g : Grid) (s : State) (r : Rec) : Nat × T := (94, tD (row 12 eCell zCell (([] : List Cell) ++ (takeL r.Key (valN r) ((gridStarts g r.Time).filter fun x => !cloI g s.Mark x) s.L).filter (clo g (if r.Time > s.Mark then r.Time else s.Mark)))))
abbrev z27_34 (g : Grid) (s : State) (r : Rec) : Nat × Blk := (6, .var ([.d (dI (if r.Time > s.Mark then r.Time else s.Mark)), .d (dI (s.Late + 1)), .d (dI s.Bad), .d (dI (s.N + 1)), .d (row 12 eCell zCell ((takeL r.Key (valN r) ((gridStarts g r.Time).filter fun x => !cloI g s.Mark x) s.L).filter fun x => !clo g (if r.Time > s.Mark then r.Time else s.Mark) x))]))
abbrev z27_35 (g : Grid) (s : State) (r : Rec) : Nat × T := (7, tD (row 12 eCell zCell (([] : List Cell) ++ (takeL r.Key (valN r) ((gridStarts g r.Time).filter fun x => !cloI g s.Mark x) s.L).filter (clo g (if r.Time > s.Mark then r.Time else s.Mark)))))
abbrev z27_36 (g : Grid) (s : State) (r : Rec) : Nat × Blk := (4, .var ([.d (dI (if r.Time > s.Mark then r.Time else s.Mark)), .d (dI s.Late), .d (dI s.Bad), .d (dI (s.N + 1)), .gs 2390 12 0 ((takeL r.Key (valN r) ((gridStarts g r.Time).filter fun x => !cloI g s.Mark x) s.L).length)]))
abbrev z27_37 (s : State) (r : Rec) : Nat × Blk := (4, .var ([.d (dI (if r.Time > s.Mark then r.Time else s.Mark)), .d (dI s.Late), .d (dI s.Bad), .d (dI (s.N + 1)), .any]))
abbrev z27_38 (g : Grid) (s : State) (r : Rec) : Nat × Blk := (4, .var ([.d (dI (if r.Time > s.Mark then r.Time else s.Mark)), .d (dI s.Late), .d (dI s.Bad), .d (dI (s.N + 1)), .d (row 12 eCell zCell ((takeL r.Key (valN r) ((gridStarts g r.Time).filter fun x => !cloI g s.Mark x) s.L).filter fun x => !clo g (if r.Time > s.Mark then r.Time else s.Mark) x))]))
abbrev z27_39 (g : Grid) (s : State) (r : Rec) : Nat × T := (93, tA [.d (dI (if r.Time > s.Mark then r.Time else s.Mark)), .d (dI s.Late), .d (dI s.Bad), .d (dI (s.N + 1)), .d (row 12 eCell zCell ((takeL r.Key (valN r) ((gridStarts g r.Time).filter fun x => !cloI g s.Mark x) s.L).filter fun x => !clo g (if r.Time > s.Mark then r.Time else s.Mark) x))])
abbrev z27_40 (g : Grid) (s : State) (r : Rec) : Nat × Blk := (6, .var ([.d (dI (if r.Time > s.Mark then r.Time else s.Mark)), .d (dI s.Late), .d (dI s.Bad), .d (dI (s.N + 1)), .d (row 12 eCell zCell ((takeL r.Key (valN r) ((gridStarts g r.Time).filter fun x => !cloI g s.Mark x) s.L).filter fun x => !clo g (if r.Time > s.Mark then r.Time else s.Mark) x))]))
abbrev y27_0 (g : Grid) (s : State) (r : Rec) : List (Nat × Blk) := [(z27_0 g), (4, .var ((eState s).map .d)), (z27_1 r), (z27_2)]
abbrev y27_1 (g : Grid) (s : State) (r : Rec) : List (Nat × Blk) := [(z27_0 g), (z27_5 s), (z27_1 r), (z27_2), (z27_4 s)]
abbrev y27_2 (g : Grid) (s : State) (r : Rec) : List (Nat × Blk) := [(z27_0 g), (z27_5 s), (z27_1 r), (z27_2), (z27_4 s), (2610, arow 3 1 eI 0 (gridStarts g r.Time))]
abbrev y27_3 (g : Grid) (s : State) (r : Rec) : List (Nat × Blk) := [(z27_0 g), (z27_5 s), (z27_1 r), (z27_2), (z27_4 s), (2610, arow 3 1 eI 0 ((gridStarts g r.Time).filter fun x => !cloI g s.Mark x))]
/-- headgate/engine.Feed. -/
theorem ok_feed (g : Grid) (s : State) (r : Rec) (hls : s.L.length ≤ 1000000) (hr : ∀ c ∈ s.L, AggR c.A) :
 FnOk Try.prog 27 [.agg ((eGrid g).map .d), .agg ((eState s).map .d), .agg ((eRec r).map .d)] (fun r_ => r_ = .tup [.agg ((eState (feedSt g s r)).map .d), .c (.d (row 12 eCell zCell (feedOver g s r))), .c (.d (dI (feedErr g s r)))]) := by
 refine FnOk.go Try.func27 rfl 95 ?_
 intro w0 m0
 show AC _ _ ⟨[(0, tA ((eGrid g).map .d)), (1, tA ((eState s).map .d)), (2, tA ((eRec r).map .d))], []⟩ _
 refine AC.q ⟨[sp 3, sp 4, sp 5, sp 6], y27_0 g s r⟩ ?_
 refine AC.seq ?_
 refine AC.rS [0, 1, 2, 3, 4, 5, 6, 7, 8, 9, 10, 11, 12, 13, 14, 15, 16, 17] ?_
 refine AOps.m [0, 1] ⟨[sp 3, sp 4, sp 5, sp 6, (14, tA ((eGrid g).map .d)), (15, tA ((eState s).map .d))], y27_0 g s r⟩ ?_
 refine AOps.ca (ok_statecheck g s (by omega)) ?_
 rintro _ rfl
 refine AOps.m [3, 4] ⟨[sp 3, sp 4, sp 5, sp 6, (18, B ((stateCheck g s) != 0))], y27_0 g s r⟩ ?_
 refine AOps.s [5, 6, 7, 8, 9, 10, 11] 12 18 25 26 false ((stateCheck g s) != 0) (!(allIn [r.Key, r.Time])) [3, 4, 5, 6] (fun h_ => ?_) ?_
 have h1 := h_; have r1 := h_; clear h_; try simp only [bb] at h1
 refine AOps.m [5, 6, 7, 8, 9] ⟨[sp 3, sp 4, sp 5, sp 6, (18, B false), (23, tD (.sl 1 2 (fun i_ j_ => nth [dI r.Key, dI r.Time] (i_ * 1 + j_))))], y27_0 g s r⟩ ?_
 refine AOps.le (st' := ⟨[sp 3, sp 4, sp 5, sp 6, (18, B false), (23, tD (row 1 eI 0 [r.Key, r.Time]))], y27_0 g s r⟩) (Le.of (lk rfl (lk rfl (lk rfl (lk rfl (lk rfl (LeS.cons rfl (TLe.one (ULe.c (CLe.d (DLe.sl rfl (fun i_ hi_ j_ hj_ => by rcases (show i_ = 0 ∨ i_ = 1 by omega) with rfl | rfl <;> (obtain rfl : j_ = 0 := by omega) <;> rfl))))) LeS.nil)))))) (ek rfl (ek rfl (ek rfl (ek rfl LeE.nil)))) (by kernel_rfl)) ?_
 refine AOps.ca (ok_within [r.Key, r.Time] (by simp)) ?_
 rintro _ rfl
 refine AOps.m [11] ⟨[sp 3, sp 4, sp 5, sp 6, (18, B false), (25, B (!(allIn [r.Key, r.Time])))], y27_0 g s r⟩ ?_
 exact scd
 refine AOps.m [13] ⟨[sp 3, sp 4, sp 5, sp 6, (27, B (((stateCheck g s) != 0) || (!(allIn [r.Key, r.Time]))))], y27_0 g s r⟩ ?_
 refine AOps.s [14, 15, 16] 17 27 30 31 false (((stateCheck g s) != 0) || (!(allIn [r.Key, r.Time]))) (decide (r.Key > 1048576)) [3, 4, 5, 6] (fun h_ => ?_) ?_
 clear h_
 refine AOps.m [14, 15, 16] ⟨[sp 3, sp 4, sp 5, sp 6, (27, B false), (30, B (decide (r.Key > 1048576)))], y27_0 g s r⟩ ?_
 exact scd
 refine AOps.done ?_
 refine AC.cd (b := (((stateCheck g s) != 0) || (!(allIn [r.Key, r.Time]))) || (decide (r.Key > 1048576))) (fun h_ => ?_) (fun h_ => ?_)
 have h2 := h_; have r2 := h_; clear h_; try simp only [bb] at h2
 have hM : feedMay g s r = false := flip_t (feedG g s r) (by assumption)
 have hF := feed_bad hM
 refine AC.q ⟨[sp 6, (z27_3), (8, I 1)], [(z27_2)]⟩ ?_
 refine AC.ret ?_
 refine rqr (ufeed g s r) (All2.cons (ULe.agg (All2.cons (CLe.d (DLe.eq (congrArg dI (show (0) = ((feedSt g s r).Mark) from ?_)))) (All2.cons (CLe.d (DLe.eq (congrArg dI (show (0) = ((feedSt g s r).Late) from ?_)))) (All2.cons (CLe.d (DLe.eq (congrArg dI (show (0) = ((feedSt g s r).Bad) from ?_)))) (All2.cons (CLe.d (DLe.eq (congrArg dI (show (0) = ((feedSt g s r).N) from ?_)))) (All2.cons (CLe.d (DLe.nilrow (by first | (rw [hF.1]; done) | (rw [hF.2.1]; done) | (rw [hF.2.2]; done) | (rw [hF.1]; rfl) | (rw [hF.2.1]; rfl)))) All2.nil)))))) (All2.cons (ULe.c (CLe.d (DLe.nilrow (by first | (rw [hF.1]; done) | (rw [hF.2.1]; done) | (rw [hF.2.2]; done) | (rw [hF.1]; rfl) | (rw [hF.2.1]; rfl))))) (All2.cons (ULe.c (CLe.d (DLe.eq (congrArg dI (show (1) = (feedErr g s r) from ?_))))) All2.nil)))
 iterate 5 (· first | (rw [hF.1]; done) | (rw [hF.2.1]; done) | (rw [hF.2.2]; done) | (rw [hF.1]; rfl) | (rw [hF.2.1]; rfl))
 have h2 := h_; have r2 := h_; clear h_; try simp only [bb] at h2
 refine AC.skip ?_
 refine AC.seq ?_
 have hM : feedMay g s r = true := flip_f (feedG g s r) (by assumption)
 have hSM : stateMay g s = true := by simp only [feedMay, Bool.and_eq_true] at hM; exact hM.1
 have hS := headMay_spec (stateMay_iff.1 hSM).1
 have hSrt := may_srt hSM
 have h64 := hS.2.2.2.2.2.2
 have hmk : s.Mark ≤ 1099511627776 := by rcases hS.2.1 with e | e; omega; exact (inN_b e).2
 have hn1 := inN_b hS.2.2.1; have hn2 := inN_b hS.2.2.2.1; have hn3 := inN_b hS.2.2.2.2.1
 have hrt : r.Time ≤ 1099511627776 := by simp only [feedMay, recMay, Bool.and_eq_true] at hM; exact (inN_b hM.2.2).2
 refine AC.q ⟨[sp 3, sp 4, sp 5, sp 6, (35, B (s.N == 1099511627776))], y27_0 g s r⟩ ?_
 refine AC.cd (b := s.N == 1099511627776) (fun h_ => ?_) (fun h_ => ?_)
 have h3 := h_; have r3 := h_; clear h_; try simp only [bb] at h3
 have hF := feed_full hM (by omega)
 refine AC.q ⟨[sp 6, (z27_3), (8, I 6)], [(z27_2)]⟩ ?_
 refine AC.ret ?_
 refine rqr (ufeed g s r) (All2.cons (ULe.agg (All2.cons (CLe.d (DLe.eq (congrArg dI (show (0) = ((feedSt g s r).Mark) from ?_)))) (All2.cons (CLe.d (DLe.eq (congrArg dI (show (0) = ((feedSt g s r).Late) from ?_)))) (All2.cons (CLe.d (DLe.eq (congrArg dI (show (0) = ((feedSt g s r).Bad) from ?_)))) (All2.cons (CLe.d (DLe.eq (congrArg dI (show (0) = ((feedSt g s r).N) from ?_)))) (All2.cons (CLe.d (DLe.nilrow (by first | (rw [hF.1]; done) | (rw [hF.2.1]; done) | (rw [hF.2.2]; done) | (rw [hF.1]; rfl) | (rw [hF.2.1]; rfl)))) All2.nil)))))) (All2.cons (ULe.c (CLe.d (DLe.nilrow (by first | (rw [hF.1]; done) | (rw [hF.2.1]; done) | (rw [hF.2.2]; done) | (rw [hF.1]; rfl) | (rw [hF.2.1]; rfl))))) (All2.cons (ULe.c (CLe.d (DLe.eq (congrArg dI (show (6) = (feedErr g s r) from ?_))))) All2.nil)))
 iterate 5 (· first | (rw [hF.1]; done) | (rw [hF.2.1]; done) | (rw [hF.2.2]; done) | (rw [hF.1]; rfl) | (rw [hF.2.1]; rfl))
 have h3 := h_; have r3 := h_; clear h_; try simp only [bb] at h3
 refine AC.skip ?_
 refine AC.rS [0, 1, 2, 3, 4] ?_
 refine AOps.m [0, 1] ⟨[sp 3, sp 4, sp 5, sp 6, (38, tD (row 12 eCell zCell s.L))], y27_0 g s r⟩ ?_
 refine AOps.callG [] rfl (by kernel_rfl) rfl rfl (f := 41) (caps := []) (by kernel_rfl) rfl (by kernel_rfl) (ok_cloneD s.L (by omega)) (by kernel_rfl) hand_nil (by kernel_rfl) ?_
 rintro _ _ ⟨rfl, rfl⟩
 refine ⟨[(5000, 2390)], [3, 4, 5, 6], [3, 4, 5, 6], by kernel_rfl, ?_⟩
 refine AOps.n ⟨[sp 3, sp 4, sp 5, sp 6, (39, tG 2390 12 0 s.L.length)], [(z27_0 g), (4, .var ((eState s).map .d)), (z27_1 r), (z27_2), (z27_4 s)]⟩ ?_
 refine AOps.e ⟨[sp 3, sp 4, sp 5, sp 6], [(z27_0 g), (4, .var ([.d (dI s.Mark), .d (dI s.Late), .d (dI s.Bad), .d (dI s.N), .gs 2390 12 0 s.L.length])), (z27_1 r), (z27_2), (z27_4 s)]⟩ ?_
 refine AC.rS [0, 1, 2, 3, 4] ?_
 refine AOps.m [0, 1, 2, 3, 4] ⟨[sp 3, sp 4, sp 5, sp 6], [(z27_0 g), (4, .var ([.d (dI s.Mark), .d (dI s.Late), .d (dI s.Bad), .d (dI (IntKind.i64.wrap (s.N + 1))), .gs 2390 12 0 s.L.length])), (z27_1 r), (z27_2), (z27_4 s)]⟩ ?_
 refine AOps.le (st' := ⟨[sp 3, sp 4, sp 5, sp 6], y27_1 g s r⟩) (Le.of (lk rfl (lk rfl (lk rfl (lk rfl LeS.nil)))) (ek rfl (LeE.cons rfl (BLe.eq (by rw [wrap_in (n := (s.N + 1)) (by omega) (by omega)] <;> simp)) (ek rfl (ek rfl (ek rfl LeE.nil))))) (by kernel_rfl)) ?_
 refine AOps.done ?_
 refine AC.rS [0, 1, 2, 3, 4, 5, 6] ?_
 refine AOps.m [0] ⟨[sp 3, sp 4, sp 5, sp 6, (46, tA ((eRec r).map .d))], y27_1 g s r⟩ ?_
 refine AOps.ca (ok_value r) ?_
 rintro _ rfl
 refine AOps.e ⟨[sp 3, sp 4, sp 5, sp 6, (9, I (valN r)), (10, B (valOk r))], y27_1 g s r⟩ ?_
 refine AC.seq ?_
 refine AC.q ⟨[sp 3, sp 4, sp 5, sp 6, (9, I (valN r)), (51, B (!(valOk r)))], y27_1 g s r⟩ ?_
 refine AC.cd (b := !(valOk r)) (fun h_ => ?_) (fun h_ => ?_)
 have h4 := h_; have r4 := h_; clear h_; try simp only [bb] at h4
 have hF := feed_none hM (by omega) (by assumption)
 refine AC.rS [0, 1, 2, 3, 4] ?_
 refine AOps.m [0, 1, 2, 3, 4] ⟨[sp 4, sp 6], [(4, .var ([.d (dI s.Mark), .d (dI s.Late), .d (dI (IntKind.i64.wrap (s.Bad + 1))), .d (dI (s.N + 1)), .gs 2390 12 0 s.L.length])), (z27_2), (z27_4 s)]⟩ ?_
 refine AOps.le (st' := ⟨[sp 4, sp 6], [(4, .var ([.d (dI s.Mark), .d (dI s.Late), .d (dI (s.Bad + 1)), .d (dI (s.N + 1)), .gs 2390 12 0 s.L.length])), (z27_2), (z27_4 s)]⟩) (Le.of (lk rfl (lk rfl LeS.nil)) (LeE.cons rfl (BLe.eq (by rw [wrap_in (n := (s.Bad + 1)) (by omega) (by omega)] <;> simp)) (ek rfl (ek rfl LeE.nil))) (by kernel_rfl)) ?_
 refine AOps.done ?_
 refine AC.q ⟨[sp 6, (z27_3), (8, I 0)], [(6, .var ([.d (dI s.Mark), .d (dI s.Late), .d (dI (s.Bad + 1)), .d (dI (s.N + 1)), .gs 2390 12 0 s.L.length])), (z27_4 s)]⟩ ?_
 refine AC.fz 2390 (0 + s.L.length ≤ s.L.length ∧ True) ⟨[sp 6, (z27_3), (8, I 0)], [(6, .var ([.d (dI s.Mark), .d (dI s.Late), .d (dI (s.Bad + 1)), .d (dI (s.N + 1)), .d (.sl 12 s.L.length (fun i_ j_ => nth (eCell (s.L.getD (0 + i_) zCell)) j_))]))]⟩ ⟨by omega, trivial⟩ ?_ rfl
 refine AC.le (st' := ⟨[sp 6, (z27_3), (8, I 0)], [(6, .var ([.d (dI s.Mark), .d (dI s.Late), .d (dI (s.Bad + 1)), .d (dI (s.N + 1)), .d (row 12 eCell zCell s.L)]))]⟩) (Le.of (lk rfl (lk rfl (lk rfl LeS.nil))) (LeE.cons rfl (BLe.var (ck (ck (ck (ck (All2.cons (CLe.d (DLe.row0)) All2.nil)))))) LeE.nil) (by kernel_rfl)) ?_
 refine AC.ret ?_
 refine rqr (ufeed g s r) (All2.cons (ULe.eq (congrArg (fun x => U.agg ((eState x).map .d)) (show ((⟨s.Mark, s.Late, (s.Bad + 1), (s.N + 1), s.L⟩ : State)) = (feedSt g s r) from ?_))) (All2.cons (ULe.c (CLe.d (DLe.nilrow (by first | (rw [hF.1]; done) | (rw [hF.2.1]; done) | (rw [hF.2.2]; done) | (rw [hF.1]; rfl) | (rw [hF.2.1]; rfl))))) (All2.cons (ULe.c (CLe.d (DLe.eq (congrArg dI (show (0) = (feedErr g s r) from ?_))))) All2.nil)))
 iterate 2 (· first | (rw [hF.1]; done) | (rw [hF.2.1]; done) | (rw [hF.2.2]; done) | (rw [hF.1]; rfl) | (rw [hF.2.1]; rfl))
 have h4 := h_; have r4 := h_; clear h_; try simp only [bb] at h4
 refine AC.skip ?_
 have hg8 := gridStarts_len g r.Time
 have ho8 := openS_len g s r
 refine AC.rS [0, 1, 2, 3, 4, 5, 6, 7, 8] ?_
 refine AOps.m [0, 1, 2] ⟨[sp 3, sp 4, sp 5, sp 6, (9, I (valN r)), (58, tA ((eGrid g).map .d)), (60, I r.Time)], y27_1 g s r⟩ ?_
 refine AOps.callG [] rfl (by kernel_rfl) rfl rfl (f := 52) (caps := []) (by kernel_rfl) rfl (by kernel_rfl) (ok_startsG g r.Time) (by kernel_rfl) hand_nil (by kernel_rfl) ?_
 rintro _ _ ⟨rfl, rfl⟩
 refine ⟨[(5000, 2610)], [3, 4, 5, 6, 9], [3, 4, 5, 6, 2390], by kernel_rfl, ?_⟩
 refine AOps.n ⟨[sp 3, sp 4, sp 5, sp 6, (9, I (valN r)), (61, .tup [.c (.gs 2610 1 0 ((gridStarts g r.Time).length)), .c (.d (dI (startsErr g r.Time)))])], y27_2 g s r⟩ ?_
 refine AOps.e ⟨[sp 3, sp 4, sp 5, sp 6, (9, I (valN r)), (11, tG 2610 1 0 ((gridStarts g r.Time).length))], y27_2 g s r⟩ ?_
 refine AC.rS [0, 1, 2, 3] ?_
 refine AOps.m [0, 1] ⟨[sp 3, sp 4, sp 5, sp 6, (9, I (valN r)), (64, tG 2610 1 0 ((gridStarts g r.Time).length)), (65, .one (.c (.fn 54 [.ptr 3 0, .ptr 4 0])))], y27_2 g s r⟩ ?_
 refine AOps.callG [(5000, 2610), (9000, 3), (9001, 4), (9600, 2390)] rfl (by kernel_rfl) rfl rfl (f := 53) (caps := []) (by kernel_rfl) rfl (by kernel_rfl) (ok_deletefunc54 (gridStarts g r.Time) g s.Mark s.Late s.Bad (s.N + 1) s.L (by omega) (by omega)) (by kernel_rfl) (hand_cons (by kernel_rfl) (hand_cons (by kernel_rfl) (hand_cons (by kernel_rfl) (hand_cons (by kernel_rfl) hand_nil)))) (by kernel_rfl) ?_
 rintro _ _ ⟨rfl, rfl⟩
 refine ⟨[(5000, 2610), (9000, 3), (9001, 4), (9600, 2390)], [3, 4, 5, 6, 9], [5, 6], by kernel_rfl, ?_⟩
 refine AOps.n ⟨[sp 3, sp 4, sp 5, sp 6, (9, I (valN r)), (66, tG 2610 1 0 (((gridStarts g r.Time).filter fun x => !cloI g s.Mark x).length))], y27_3 g s r⟩ ?_
 refine AOps.e ⟨[sp 3, sp 4, sp 5, sp 6, (9, I (valN r)), (z27_6 g s r)], y27_3 g s r⟩ ?_
 refine AC.seq ?_
 refine AC.rS [0, 1, 2, 3, 4, 5, 6, 7, 8, 9, 10] ?_
 refine AOps.m [0, 1, 2, 3] ⟨[sp 3, sp 4, sp 5, sp 6, (9, I (valN r)), (z27_6 g s r), (70, B ((((gridStarts g r.Time).filter fun x => !cloI g s.Mark x).length : Int) == 0))], y27_3 g s r⟩ ?_
 refine AOps.split ((((gridStarts g r.Time).filter fun x => !cloI g s.Mark x).length : Int) == 0) (fun h_ => ?_) (fun h_ => ?_)
 have hf5 := h_
 have h5 := h_; have r5 := h_; clear h_; try simp only [bb] at h5
 refine AOps.le (st' := ⟨[sp 3, sp 4, sp 5, sp 6, (9, I (valN r)), (z27_6 g s r), (70, B true)], y27_3 g s r⟩) (Le.of (lk rfl (lk rfl (lk rfl (lk rfl (lk rfl (lk rfl (LeS.cons rfl (TLe.b (by exact hf5)) LeS.nil))))))) (ek rfl (ek rfl (ek rfl (ek rfl (ek rfl (ek rfl LeE.nil)))))) (by kernel_rfl)) ?_
 refine AOps.e ⟨[sp 3, sp 4, sp 5, sp 6, (77, B true)], y27_1 g s r⟩ ?_
 refine AC.cd (b := true) (fun h_ => ?_) (fun h_ => ?_)
 clear h_
 refine AC.rR [0, 1, 2, 3, 4] ?_
 refine AOps.m [0, 1, 2, 3, 4] ⟨[sp 3, sp 4, sp 5, sp 6], [(z27_0 g), (4, .var ([.d (dI s.Mark), .d (dI (IntKind.i64.wrap (s.Late + 1))), .d (dI s.Bad), .d (dI (s.N + 1)), .gs 2390 12 0 s.L.length])), (z27_1 r), (z27_2), (z27_4 s)]⟩ ?_
 refine AOps.le (st' := ⟨[sp 3, sp 4, sp 5, sp 6], [(z27_0 g), (4, .var ([.d (dI s.Mark), .d (dI (s.Late + 1)), .d (dI s.Bad), .d (dI (s.N + 1)), .gs 2390 12 0 s.L.length])), (z27_1 r), (z27_2), (z27_4 s)]⟩) (Le.of (lk rfl (lk rfl (lk rfl (lk rfl LeS.nil)))) (ek rfl (LeE.cons rfl (BLe.eq (by rw [wrap_in (n := (s.Late + 1)) (by omega) (by omega)] <;> simp)) (ek rfl (ek rfl (ek rfl LeE.nil))))) (by kernel_rfl)) ?_
 refine AOps.done ?_
 refine AC.q ⟨[sp 3, sp 4, sp 6], [(z27_0 g), (z27_7 s r), (z27_2), (z27_4 s)]⟩ ?_
 refine AC.q ⟨[sp 3, sp 4, sp 6, sp 13], [(z27_0 g), (z27_7 s r), (z27_2), (z27_8), (z27_4 s)]⟩ ?_
 have hl1 : s.L = feedL g s r := by first | exact eng_L0 (by show (List.filter (fun x => !cloI g s.Mark x) (gridStarts g r.Time)).length = 0; omega) | exact eng_L1 (by show ¬ (List.filter (fun x => !cloI g s.Mark x) (gridStarts g r.Time)).length = 0; omega)
 have hl2 : (s.Late + 1) = (if feedDrop g s r then s.Late + 1 else s.Late) := by first | exact eng_late0 (by show (List.filter (fun x => !cloI g s.Mark x) (gridStarts g r.Time)).length = 0; omega) | exact eng_late1 (by show ¬ (List.filter (fun x => !cloI g s.Mark x) (gridStarts g r.Time)).length = 0; omega) (by assumption) | exact eng_late2 (by show ¬ (List.filter (fun x => !cloI g s.Mark x) (gridStarts g r.Time)).length = 0; omega) (by assumption)
 have hl3 : (if r.Time > s.Mark then r.Time else s.Mark) = feedMark s r := rfl
 have hF := feed_some (g := g) hM (by omega) (by assumption) hl1 hl2 hl3
 have hL1 : (s.L).length ≤ 72 := by rw [hl1]; exact (feedL_spec g s r hr (by omega)).1
 have hmm : (if r.Time > s.Mark then r.Time else s.Mark) ≤ 9223372036854775807 := by split <;> omega
 refine AC.rS [0, 1, 2, 3, 4, 5] ?_
 refine AOps.m [0, 1, 2] ⟨[sp 4, sp 6, sp 13, (89, tG 2390 12 0 s.L.length), (z27_9)], [(z27_0 g), (z27_7 s r), (z27_2), (z27_8), (z27_4 s)]⟩ ?_
 refine AOps.nilcell 13 3013 0 46 12 (fun i_ j_ => nth (eCell (([] : List Cell).getD i_ zCell)) j_) [4, 6, 13, 89, 90] [3, 4, 6, 13, 2390, 3013] (st' := ⟨[sp 4, sp 6, sp 13, (89, tG 2390 12 0 s.L.length), (z27_9)], [(z27_0 g), (z27_7 s r), (z27_2), (z27_10), (z27_4 s), (z27_11)]⟩) rfl (by kernel_rfl) (by kernel_rfl) (by kernel_rfl) (by kernel_rfl) (by kernel_rfl) ?_
 refine AOps.le (st' := ⟨[sp 4, sp 6, sp 13, (89, tG 2390 12 0 s.L.length), (z27_9)], [(z27_0 g), (z27_12 s r), (z27_2), (z27_10), (z27_4 s), (z27_11)]⟩) (Le.of (lk rfl (lk rfl (lk rfl (lk rfl (lk rfl LeS.nil))))) (ek rfl (LeE.cons rfl (BLe.var (ck (ck (ck (ck (All2.cons (CLe.any _) All2.nil)))))) (ek rfl (ek rfl (ek rfl (ek rfl LeE.nil)))))) (by kernel_rfl)) ?_
 refine AOps.callG [(5000, 2390), (5001, 3013), (9000, 3), (9001, 4), (9002, 13)] rfl (by kernel_rfl) rfl rfl (f := 56) (caps := []) (by kernel_rfl) rfl (by kernel_rfl) (ok_deletefunc57 s.L ([] : List Cell) g (if r.Time > s.Mark then r.Time else s.Mark) (s.Late + 1) s.Bad (s.N + 1) ?_ ?_ ?_) (by kernel_rfl) (hand_cons (by kernel_rfl) (hand_cons (by kernel_rfl) (hand_cons (by kernel_rfl) (hand_cons (by kernel_rfl) (hand_cons (by kernel_rfl) hand_nil))))) (by kernel_rfl) ?_
 iterate 3 (· first | omega | exact hmm | rfl)
 rintro _ _ ⟨rfl, rfl⟩
 refine ⟨[(5000, 2390), (5001, 3013), (9000, 3), (9001, 4), (9002, 13)], [4, 6, 13], [6], by kernel_rfl, ?_⟩
 refine AOps.n ⟨[sp 4, sp 6, sp 13, (91, tG 2390 12 0 ((s.L.filter fun x => !clo g (if r.Time > s.Mark then r.Time else s.Mark) x).length))], [(z27_12 s r), (z27_2), (z27_13 g s r), (z27_14 g s r), (z27_15 g s r)]⟩ ?_
 refine AOps.e ⟨[sp 4, sp 6, sp 13], [(4, .var ([.d (dI (if r.Time > s.Mark then r.Time else s.Mark)), .d (dI (s.Late + 1)), .d (dI s.Bad), .d (dI (s.N + 1)), .gs 2390 12 0 ((s.L.filter fun x => !clo g (if r.Time > s.Mark then r.Time else s.Mark) x).length)])), (z27_2), (z27_13 g s r), (z27_14 g s r), (z27_15 g s r)]⟩ ?_
 refine AC.fz 2390 (0 + (s.L.filter fun x => !clo g (if r.Time > s.Mark then r.Time else s.Mark) x).length ≤ (s.L.filter fun x => !clo g (if r.Time > s.Mark then r.Time else s.Mark) x).length ∧ True) ⟨[sp 4, sp 6, sp 13], [(4, .var ([.d (dI (if r.Time > s.Mark then r.Time else s.Mark)), .d (dI (s.Late + 1)), .d (dI s.Bad), .d (dI (s.N + 1)), .d (.sl 12 ((s.L.filter fun x => !clo g (if r.Time > s.Mark then r.Time else s.Mark) x).length) (fun i_ j_ => nth (eCell ((s.L.filter fun x => !clo g (if r.Time > s.Mark then r.Time else s.Mark) x).getD (0 + i_) zCell)) j_))])), (z27_2), (z27_13 g s r), (z27_15 g s r)]⟩ ⟨by omega, trivial⟩ ?_ rfl
 refine AC.le (st' := ⟨[sp 4, sp 6, sp 13], [(z27_16 g s r), (z27_2), (z27_13 g s r), (z27_15 g s r)]⟩) (Le.of (lk rfl (lk rfl (lk rfl LeS.nil))) (LeE.cons rfl (BLe.var (ck (ck (ck (ck (All2.cons (CLe.d (DLe.row0)) All2.nil)))))) (ek rfl (ek rfl (ek rfl LeE.nil)))) (by kernel_rfl)) ?_
 refine AC.fz 3013 (0 + (([] : List Cell) ++ s.L.filter (clo g (if r.Time > s.Mark then r.Time else s.Mark))).length ≤ (([] : List Cell) ++ s.L.filter (clo g (if r.Time > s.Mark then r.Time else s.Mark))).length ∧ True) ⟨[sp 4, sp 6, sp 13], [(z27_16 g s r), (z27_2), (13, .var [.d (.sl 12 ((([] : List Cell) ++ s.L.filter (clo g (if r.Time > s.Mark then r.Time else s.Mark))).length) (fun i_ j_ => nth (eCell ((([] : List Cell) ++ s.L.filter (clo g (if r.Time > s.Mark then r.Time else s.Mark))).getD (0 + i_) zCell)) j_))])]⟩ ⟨by omega, trivial⟩ ?_ rfl
 refine AC.le (st' := ⟨[sp 4, sp 6, sp 13], [(z27_16 g s r), (z27_2), (z27_17 g s r)]⟩) (Le.of (lk rfl (lk rfl (lk rfl LeS.nil))) (ek rfl (ek rfl (LeE.cons rfl (BLe.var (All2.cons (CLe.d (DLe.row0)) All2.nil)) LeE.nil))) (by kernel_rfl)) ?_
 refine AC.drawXS (by kernel_rfl) 3 2 [] ⟨[sp 4, sp 6, sp 13, (z27_18 g s r), (z27_19 g s r)], [(z27_16 g s r), (z27_2), (z27_17 g s r)]⟩ ⟨[sp 4, sp 6, sp 13, (z27_18 g s r), (z27_19 g s r)], [(z27_16 g s r), (z27_20 g s r), (z27_17 g s r)]⟩ (l := [sp 4, sp 6, sp 13]) (e := [(z27_16 g s r), (z27_2), (z27_17 g s r)]) (by kernel_rfl) (by kernel_rfl) (by kernel_rfl) (by kernel_rfl) (by kernel_rfl) (by kernel_rfl) (StoreAt.mk' rfl (by kernel_rfl) rfl (n := 6) (off := 0) (by kernel_rfl) (l := [.d (dI 0), .d (dI 0), .d (dI 0), .d (dI 0), .d (.v (.slice none 0 0))]) (c := [.d (dI (if r.Time > s.Mark then r.Time else s.Mark)), .d (dI (s.Late + 1)), .d (dI s.Bad), .d (dI (s.N + 1)), .d (row 12 eCell zCell (s.L.filter fun x => !clo g (if r.Time > s.Mark then r.Time else s.Mark) x))]) (by kernel_rfl) (by kernel_rfl) (by kernel_rfl) (by kernel_rfl) rfl (by kernel_rfl) rfl (env_but (A := [(4, .var ([.d (dI (if r.Time > s.Mark then r.Time else s.Mark)), .d (dI (s.Late + 1)), .d (dI s.Bad), .d (dI (s.N + 1)), .d (row 12 eCell zCell (s.L.filter fun x => !clo g (if r.Time > s.Mark then r.Time else s.Mark) x))]))]) (B := [(13, .var [.d (row 12 eCell zCell (([] : List Cell) ++ s.L.filter (clo g (if r.Time > s.Mark then r.Time else s.Mark))))])]) (b0 := .var ([.d (dI 0), .d (dI 0), .d (dI 0), .d (dI 0), .d (.v (.slice none 0 0))])) (b1 := .var ([.d (dI (if r.Time > s.Mark then r.Time else s.Mark)), .d (dI (s.Late + 1)), .d (dI s.Bad), .d (dI (s.N + 1)), .d (row 12 eCell zCell (s.L.filter fun x => !clo g (if r.Time > s.Mark then r.Time else s.Mark) x))]))) (by kernel_rfl) (by kernel_rfl)) (.inl rfl) ?_ (r := [3, 4]) (by kernel_rfl) (by kernel_rfl) ?_
 · exact (au (au (au AllUpTo.zero (.inr ⟨.inl ot, .inr (by kernel_rfl)⟩)) (.inr ⟨.inl ot, .inl ot⟩)) (.inl rfl))
 refine AOps.e ⟨[sp 6, (7, tD (row 12 eCell zCell (([] : List Cell) ++ s.L.filter (clo g (if r.Time > s.Mark then r.Time else s.Mark))))), (8, I 0)], [(z27_20 g s r)]⟩ ?_
 refine AC.ret ?_
 refine rqr (ufeed g s r) (All2.cons (ULe.eq (congrArg (fun x => U.agg ((eState x).map .d)) (show ((⟨(if r.Time > s.Mark then r.Time else s.Mark), (s.Late + 1), s.Bad, (s.N + 1), (s.L.filter fun x => !clo g (if r.Time > s.Mark then r.Time else s.Mark) x)⟩ : State)) = (feedSt g s r) from ?_))) (All2.cons (ULe.c (CLe.d (DLe.eq (congrArg (row 12 eCell zCell) (show ((([] : List Cell) ++ s.L.filter (clo g (if r.Time > s.Mark then r.Time else s.Mark)))) = (feedOver g s r) from ?_))))) (All2.cons (ULe.c (CLe.d (DLe.eq (congrArg dI (show (0) = (feedErr g s r) from ?_))))) All2.nil)))
 iterate 3 (· first | (rw [hF.1]; done) | (rw [hF.2.1]; done) | (rw [hF.2.2]; done) | (rw [hF.1]; rfl) | (rw [hF.2.1]; rfl))
 cases h_
 have hf5 := h_
 have h5 := h_; have r5 := h_; clear h_; try simp only [bb] at h5
 refine AOps.le (st' := ⟨[sp 3, sp 4, sp 5, sp 6, (9, I (valN r)), (z27_6 g s r), (70, B false)], y27_3 g s r⟩) (Le.of (lk rfl (lk rfl (lk rfl (lk rfl (lk rfl (lk rfl (LeS.cons rfl (TLe.b (by exact hf5)) LeS.nil))))))) (ek rfl (ek rfl (ek rfl (ek rfl (ek rfl (ek rfl LeE.nil)))))) (by kernel_rfl)) ?_
 refine AOps.m [4, 5, 6, 7] ⟨[sp 3, sp 4, sp 5, sp 6, (70, B false), (72, I r.Key), (73, I (valN r)), (74, tG 2610 1 0 (((gridStarts g r.Time).filter fun x => !cloI g s.Mark x).length))], y27_3 g s r⟩ ?_
 refine AOps.freezeN 2610 [3, 4, 5, 6, 70, 72, 73, 74] [3, 4, 5, 6, 2390] (C' := 0 + ((gridStarts g r.Time).filter fun x => !cloI g s.Mark x).length ≤ ((gridStarts g r.Time).filter fun x => !cloI g s.Mark x).length ∧ True) (st' := ⟨[sp 3, sp 4, sp 5, sp 6, (70, B false), (72, I r.Key), (73, I (valN r)), (74, tD (.sl 1 (((gridStarts g r.Time).filter fun x => !cloI g s.Mark x).length) (fun i_ j_ => nth (eI (((gridStarts g r.Time).filter fun x => !cloI g s.Mark x).getD (0 + i_) 0)) j_)))], y27_1 g s r⟩) rfl rfl (by kernel_rfl) (by kernel_rfl) (by kernel_rfl) ⟨by omega, trivial⟩ ?_
 refine AOps.le (st' := ⟨[sp 3, sp 4, sp 5, sp 6, (70, B false), (72, I r.Key), (73, I (valN r)), (74, tD (row 1 eI 0 ((gridStarts g r.Time).filter fun x => !cloI g s.Mark x)))], y27_1 g s r⟩) (Le.of (lk rfl (lk rfl (lk rfl (lk rfl (lk rfl (lk rfl (lk rfl (LeS.cons rfl (TLe.one (ULe.c (CLe.d (DLe.row0)))) LeS.nil)))))))) (ek rfl (ek rfl (ek rfl (ek rfl (ek rfl LeE.nil))))) (by kernel_rfl)) ?_
 refine AOps.callG [(5000, 2390), (9000, 4)] rfl (by kernel_rfl) rfl rfl (f := 55) (caps := []) (by kernel_rfl) rfl (by kernel_rfl) (ok_taking r.Key (valN r) ((gridStarts g r.Time).filter fun x => !cloI g s.Mark x) s.L s.Mark s.Late s.Bad (s.N + 1) ?_ ?_ ?_ ?_ ?_) (by kernel_rfl) (hand_cons (by kernel_rfl) (hand_cons (by kernel_rfl) hand_nil)) (by kernel_rfl) ?_
 iterate 5 (· first | exact hSrt | assumption | omega | exact valN_in r)
 rintro _ _ ⟨rfl, rfl⟩
 refine ⟨[(5000, 2390), (9000, 4)], [3, 4, 5, 6, 70], [3, 5, 6], by kernel_rfl, ?_⟩
 refine AOps.n ⟨[sp 3, sp 4, sp 5, sp 6, (70, B false), (75, B (takeFits r.Key (valN r) ((gridStarts g r.Time).filter fun x => !cloI g s.Mark x) s.L))], [(z27_0 g), (z27_21 g s r), (z27_1 r), (z27_2), (z27_22 g s r)]⟩ ?_
 refine AOps.e ⟨[sp 3, sp 4, sp 5, sp 6, (77, B (!(takeFits r.Key (valN r) ((gridStarts g r.Time).filter fun x => !cloI g s.Mark x) s.L)))], [(z27_0 g), (z27_21 g s r), (z27_1 r), (z27_2), (z27_22 g s r)]⟩ ?_
 refine AC.cd (b := !(takeFits r.Key (valN r) ((gridStarts g r.Time).filter fun x => !cloI g s.Mark x) s.L)) (fun h_ => ?_) (fun h_ => ?_)
 have h6 := h_; have r6 := h_; clear h_; try simp only [bb] at h6
 refine AC.rR [0, 1, 2, 3, 4] ?_
 refine AOps.m [0, 1, 2, 3, 4] ⟨[sp 3, sp 4, sp 5, sp 6], [(z27_0 g), (4, .var ([.d (dI s.Mark), .d (dI (IntKind.i64.wrap (s.Late + 1))), .d (dI s.Bad), .d (dI (s.N + 1)), .gs 2390 12 0 ((takeL r.Key (valN r) ((gridStarts g r.Time).filter fun x => !cloI g s.Mark x) s.L).length)])), (z27_1 r), (z27_2), (z27_22 g s r)]⟩ ?_
 refine AOps.le (st' := ⟨[sp 3, sp 4, sp 5, sp 6], [(z27_0 g), (4, .var ([.d (dI s.Mark), .d (dI (s.Late + 1)), .d (dI s.Bad), .d (dI (s.N + 1)), .gs 2390 12 0 ((takeL r.Key (valN r) ((gridStarts g r.Time).filter fun x => !cloI g s.Mark x) s.L).length)])), (z27_1 r), (z27_2), (z27_22 g s r)]⟩) (Le.of (lk rfl (lk rfl (lk rfl (lk rfl LeS.nil)))) (ek rfl (LeE.cons rfl (BLe.eq (by rw [wrap_in (n := (s.Late + 1)) (by omega) (by omega)] <;> simp)) (ek rfl (ek rfl (ek rfl LeE.nil))))) (by kernel_rfl)) ?_
 refine AOps.done ?_
 refine AC.q ⟨[sp 3, sp 4, sp 6], [(z27_0 g), (z27_23 g s r), (z27_2), (z27_22 g s r)]⟩ ?_
 refine AC.q ⟨[sp 3, sp 4, sp 6, sp 13], [(z27_0 g), (z27_23 g s r), (z27_2), (z27_8), (z27_22 g s r)]⟩ ?_
 have hl1 : (takeL r.Key (valN r) ((gridStarts g r.Time).filter fun x => !cloI g s.Mark x) s.L) = feedL g s r := by first | exact eng_L0 (by show (List.filter (fun x => !cloI g s.Mark x) (gridStarts g r.Time)).length = 0; omega) | exact eng_L1 (by show ¬ (List.filter (fun x => !cloI g s.Mark x) (gridStarts g r.Time)).length = 0; omega)
 have hl2 : (s.Late + 1) = (if feedDrop g s r then s.Late + 1 else s.Late) := by first | exact eng_late0 (by show (List.filter (fun x => !cloI g s.Mark x) (gridStarts g r.Time)).length = 0; omega) | exact eng_late1 (by show ¬ (List.filter (fun x => !cloI g s.Mark x) (gridStarts g r.Time)).length = 0; omega) (by assumption) | exact eng_late2 (by show ¬ (List.filter (fun x => !cloI g s.Mark x) (gridStarts g r.Time)).length = 0; omega) (by assumption)
 have hl3 : (if r.Time > s.Mark then r.Time else s.Mark) = feedMark s r := rfl
 have hF := feed_some (g := g) hM (by omega) (by assumption) hl1 hl2 hl3
 have hL1 : ((takeL r.Key (valN r) ((gridStarts g r.Time).filter fun x => !cloI g s.Mark x) s.L)).length ≤ 72 := by rw [hl1]; exact (feedL_spec g s r hr (by omega)).1
 have hmm : (if r.Time > s.Mark then r.Time else s.Mark) ≤ 9223372036854775807 := by split <;> omega
 refine AC.rS [0, 1, 2, 3, 4, 5] ?_
 refine AOps.m [0, 1, 2] ⟨[sp 4, sp 6, sp 13, (z27_24 g s r), (z27_9)], [(z27_0 g), (z27_23 g s r), (z27_2), (z27_8), (z27_22 g s r)]⟩ ?_
 refine AOps.nilcell 13 3013 0 46 12 (fun i_ j_ => nth (eCell (([] : List Cell).getD i_ zCell)) j_) [4, 6, 13, 89, 90] [3, 4, 6, 13, 2390, 3013] (st' := ⟨[sp 4, sp 6, sp 13, (z27_24 g s r), (z27_9)], [(z27_0 g), (z27_23 g s r), (z27_2), (z27_10), (z27_22 g s r), (z27_11)]⟩) rfl (by kernel_rfl) (by kernel_rfl) (by kernel_rfl) (by kernel_rfl) (by kernel_rfl) ?_
 refine AOps.le (st' := ⟨[sp 4, sp 6, sp 13, (z27_24 g s r), (z27_9)], [(z27_0 g), (z27_12 s r), (z27_2), (z27_10), (z27_22 g s r), (z27_11)]⟩) (Le.of (lk rfl (lk rfl (lk rfl (lk rfl (lk rfl LeS.nil))))) (ek rfl (LeE.cons rfl (BLe.var (ck (ck (ck (ck (All2.cons (CLe.any _) All2.nil)))))) (ek rfl (ek rfl (ek rfl (ek rfl LeE.nil)))))) (by kernel_rfl)) ?_
 refine AOps.callG [(5000, 2390), (5001, 3013), (9000, 3), (9001, 4), (9002, 13)] rfl (by kernel_rfl) rfl rfl (f := 56) (caps := []) (by kernel_rfl) rfl (by kernel_rfl) (ok_deletefunc57 (takeL r.Key (valN r) ((gridStarts g r.Time).filter fun x => !cloI g s.Mark x) s.L) ([] : List Cell) g (if r.Time > s.Mark then r.Time else s.Mark) (s.Late + 1) s.Bad (s.N + 1) ?_ ?_ ?_) (by kernel_rfl) (hand_cons (by kernel_rfl) (hand_cons (by kernel_rfl) (hand_cons (by kernel_rfl) (hand_cons (by kernel_rfl) (hand_cons (by kernel_rfl) hand_nil))))) (by kernel_rfl) ?_
 iterate 3 (· first | omega | exact hmm | rfl)
 rintro _ _ ⟨rfl, rfl⟩
 refine ⟨[(5000, 2390), (5001, 3013), (9000, 3), (9001, 4), (9002, 13)], [4, 6, 13], [6], by kernel_rfl, ?_⟩
 refine AOps.n ⟨[sp 4, sp 6, sp 13, (z27_25 g s r)], [(z27_12 s r), (z27_2), (z27_26 g s r), (z27_27 g s r), (z27_28 g s r)]⟩ ?_
 refine AOps.e ⟨[sp 4, sp 6, sp 13], [(4, .var ([.d (dI (if r.Time > s.Mark then r.Time else s.Mark)), .d (dI (s.Late + 1)), .d (dI s.Bad), .d (dI (s.N + 1)), .gs 2390 12 0 (((takeL r.Key (valN r) ((gridStarts g r.Time).filter fun x => !cloI g s.Mark x) s.L).filter fun x => !clo g (if r.Time > s.Mark then r.Time else s.Mark) x).length)])), (z27_2), (z27_26 g s r), (z27_27 g s r), (z27_28 g s r)]⟩ ?_
 refine AC.fz 2390 (0 + ((takeL r.Key (valN r) ((gridStarts g r.Time).filter fun x => !cloI g s.Mark x) s.L).filter fun x => !clo g (if r.Time > s.Mark then r.Time else s.Mark) x).length ≤ ((takeL r.Key (valN r) ((gridStarts g r.Time).filter fun x => !cloI g s.Mark x) s.L).filter fun x => !clo g (if r.Time > s.Mark then r.Time else s.Mark) x).length ∧ True) ⟨[sp 4, sp 6, sp 13], [(4, .var ([.d (dI (if r.Time > s.Mark then r.Time else s.Mark)), .d (dI (s.Late + 1)), .d (dI s.Bad), .d (dI (s.N + 1)), .d (.sl 12 (((takeL r.Key (valN r) ((gridStarts g r.Time).filter fun x => !cloI g s.Mark x) s.L).filter fun x => !clo g (if r.Time > s.Mark then r.Time else s.Mark) x).length) (fun i_ j_ => nth (eCell (((takeL r.Key (valN r) ((gridStarts g r.Time).filter fun x => !cloI g s.Mark x) s.L).filter fun x => !clo g (if r.Time > s.Mark then r.Time else s.Mark) x).getD (0 + i_) zCell)) j_))])), (z27_2), (z27_26 g s r), (z27_28 g s r)]⟩ ⟨by omega, trivial⟩ ?_ rfl
 refine AC.le (st' := ⟨[sp 4, sp 6, sp 13], [(z27_29 g s r), (z27_2), (z27_26 g s r), (z27_28 g s r)]⟩) (Le.of (lk rfl (lk rfl (lk rfl LeS.nil))) (LeE.cons rfl (BLe.var (ck (ck (ck (ck (All2.cons (CLe.d (DLe.row0)) All2.nil)))))) (ek rfl (ek rfl (ek rfl LeE.nil)))) (by kernel_rfl)) ?_
 refine AC.fz 3013 (0 + (([] : List Cell) ++ (takeL r.Key (valN r) ((gridStarts g r.Time).filter fun x => !cloI g s.Mark x) s.L).filter (clo g (if r.Time > s.Mark then r.Time else s.Mark))).length ≤ (([] : List Cell) ++ (takeL r.Key (valN r) ((gridStarts g r.Time).filter fun x => !cloI g s.Mark x) s.L).filter (clo g (if r.Time > s.Mark then r.Time else s.Mark))).length ∧ True) ⟨[sp 4, sp 6, sp 13], [(z27_29 g s r), (z27_2), (z27_30 g s r)]⟩ ⟨by omega, trivial⟩ ?_ rfl
 refine AC.le (st' := ⟨[sp 4, sp 6, sp 13], [(z27_29 g s r), (z27_2), (z27_31 g s r)]⟩) (Le.of (lk rfl (lk rfl (lk rfl LeS.nil))) (ek rfl (ek rfl (LeE.cons rfl (BLe.var (All2.cons (CLe.d (DLe.row0)) All2.nil)) LeE.nil))) (by kernel_rfl)) ?_
 refine AC.drawXS (by kernel_rfl) 3 2 [] ⟨[sp 4, sp 6, sp 13, (z27_32 g s r), (z27_33 g s r)], [(z27_29 g s r), (z27_2), (z27_31 g s r)]⟩ ⟨[sp 4, sp 6, sp 13, (z27_32 g s r), (z27_33 g s r)], [(z27_29 g s r), (z27_34 g s r), (z27_31 g s r)]⟩ (l := [sp 4, sp 6, sp 13]) (e := [(z27_29 g s r), (z27_2), (z27_31 g s r)]) (by kernel_rfl) (by kernel_rfl) (by kernel_rfl) (by kernel_rfl) (by kernel_rfl) (by kernel_rfl) (StoreAt.mk' rfl (by kernel_rfl) rfl (n := 6) (off := 0) (by kernel_rfl) (l := [.d (dI 0), .d (dI 0), .d (dI 0), .d (dI 0), .d (.v (.slice none 0 0))]) (c := [.d (dI (if r.Time > s.Mark then r.Time else s.Mark)), .d (dI (s.Late + 1)), .d (dI s.Bad), .d (dI (s.N + 1)), .d (row 12 eCell zCell ((takeL r.Key (valN r) ((gridStarts g r.Time).filter fun x => !cloI g s.Mark x) s.L).filter fun x => !clo g (if r.Time > s.Mark then r.Time else s.Mark) x))]) (by kernel_rfl) (by kernel_rfl) (by kernel_rfl) (by kernel_rfl) rfl (by kernel_rfl) rfl (env_but (A := [(4, .var ([.d (dI (if r.Time > s.Mark then r.Time else s.Mark)), .d (dI (s.Late + 1)), .d (dI s.Bad), .d (dI (s.N + 1)), .d (row 12 eCell zCell ((takeL r.Key (valN r) ((gridStarts g r.Time).filter fun x => !cloI g s.Mark x) s.L).filter fun x => !clo g (if r.Time > s.Mark then r.Time else s.Mark) x))]))]) (B := [(13, .var [.d (row 12 eCell zCell (([] : List Cell) ++ (takeL r.Key (valN r) ((gridStarts g r.Time).filter fun x => !cloI g s.Mark x) s.L).filter (clo g (if r.Time > s.Mark then r.Time else s.Mark))))])]) (b0 := .var ([.d (dI 0), .d (dI 0), .d (dI 0), .d (dI 0), .d (.v (.slice none 0 0))])) (b1 := .var ([.d (dI (if r.Time > s.Mark then r.Time else s.Mark)), .d (dI (s.Late + 1)), .d (dI s.Bad), .d (dI (s.N + 1)), .d (row 12 eCell zCell ((takeL r.Key (valN r) ((gridStarts g r.Time).filter fun x => !cloI g s.Mark x) s.L).filter fun x => !clo g (if r.Time > s.Mark then r.Time else s.Mark) x))]))) (by kernel_rfl) (by kernel_rfl)) (.inl rfl) ?_ (r := [3, 4]) (by kernel_rfl) (by kernel_rfl) ?_
 · exact (au (au (au AllUpTo.zero (.inr ⟨.inl ot, .inr (by kernel_rfl)⟩)) (.inr ⟨.inl ot, .inl ot⟩)) (.inl rfl))
 refine AOps.e ⟨[sp 6, (z27_35 g s r), (8, I 0)], [(z27_34 g s r)]⟩ ?_
 refine AC.ret ?_
 refine rqr (ufeed g s r) (All2.cons (ULe.eq (congrArg (fun x => U.agg ((eState x).map .d)) (show ((⟨(if r.Time > s.Mark then r.Time else s.Mark), (s.Late + 1), s.Bad, (s.N + 1), ((takeL r.Key (valN r) ((gridStarts g r.Time).filter fun x => !cloI g s.Mark x) s.L).filter fun x => !clo g (if r.Time > s.Mark then r.Time else s.Mark) x)⟩ : State)) = (feedSt g s r) from ?_))) (All2.cons (ULe.c (CLe.d (DLe.eq (congrArg (row 12 eCell zCell) (show ((([] : List Cell) ++ (takeL r.Key (valN r) ((gridStarts g r.Time).filter fun x => !cloI g s.Mark x) s.L).filter (clo g (if r.Time > s.Mark then r.Time else s.Mark)))) = (feedOver g s r) from ?_))))) (All2.cons (ULe.c (CLe.d (DLe.eq (congrArg dI (show (0) = (feedErr g s r) from ?_))))) All2.nil)))
 iterate 3 (· first | (rw [hF.1]; done) | (rw [hF.2.1]; done) | (rw [hF.2.2]; done) | (rw [hF.1]; rfl) | (rw [hF.2.1]; rfl))
 have h6 := h_; have r6 := h_; clear h_; try simp only [bb] at h6
 refine AC.skip ?_
 refine AC.q ⟨[sp 3, sp 4, sp 6], [(z27_0 g), (z27_36 g s r), (z27_2), (z27_22 g s r)]⟩ ?_
 refine AC.q ⟨[sp 3, sp 4, sp 6, sp 13], [(z27_0 g), (z27_36 g s r), (z27_2), (z27_8), (z27_22 g s r)]⟩ ?_
 have hl1 : (takeL r.Key (valN r) ((gridStarts g r.Time).filter fun x => !cloI g s.Mark x) s.L) = feedL g s r := by first | exact eng_L0 (by show (List.filter (fun x => !cloI g s.Mark x) (gridStarts g r.Time)).length = 0; omega) | exact eng_L1 (by show ¬ (List.filter (fun x => !cloI g s.Mark x) (gridStarts g r.Time)).length = 0; omega)
 have hl2 : s.Late = (if feedDrop g s r then s.Late + 1 else s.Late) := by first | exact eng_late0 (by show (List.filter (fun x => !cloI g s.Mark x) (gridStarts g r.Time)).length = 0; omega) | exact eng_late1 (by show ¬ (List.filter (fun x => !cloI g s.Mark x) (gridStarts g r.Time)).length = 0; omega) (by assumption) | exact eng_late2 (by show ¬ (List.filter (fun x => !cloI g s.Mark x) (gridStarts g r.Time)).length = 0; omega) (by assumption)
 have hl3 : (if r.Time > s.Mark then r.Time else s.Mark) = feedMark s r := rfl
 have hF := feed_some (g := g) hM (by omega) (by assumption) hl1 hl2 hl3
 have hL1 : ((takeL r.Key (valN r) ((gridStarts g r.Time).filter fun x => !cloI g s.Mark x) s.L)).length ≤ 72 := by rw [hl1]; exact (feedL_spec g s r hr (by omega)).1
 have hmm : (if r.Time > s.Mark then r.Time else s.Mark) ≤ 9223372036854775807 := by split <;> omega
 refine AC.rS [0, 1, 2, 3, 4, 5] ?_
 refine AOps.m [0, 1, 2] ⟨[sp 4, sp 6, sp 13, (z27_24 g s r), (z27_9)], [(z27_0 g), (z27_36 g s r), (z27_2), (z27_8), (z27_22 g s r)]⟩ ?_
 refine AOps.nilcell 13 3013 0 46 12 (fun i_ j_ => nth (eCell (([] : List Cell).getD i_ zCell)) j_) [4, 6, 13, 89, 90] [3, 4, 6, 13, 2390, 3013] (st' := ⟨[sp 4, sp 6, sp 13, (z27_24 g s r), (z27_9)], [(z27_0 g), (z27_36 g s r), (z27_2), (z27_10), (z27_22 g s r), (z27_11)]⟩) rfl (by kernel_rfl) (by kernel_rfl) (by kernel_rfl) (by kernel_rfl) (by kernel_rfl) ?_
 refine AOps.le (st' := ⟨[sp 4, sp 6, sp 13, (z27_24 g s r), (z27_9)], [(z27_0 g), (z27_37 s r), (z27_2), (z27_10), (z27_22 g s r), (z27_11)]⟩) (Le.of (lk rfl (lk rfl (lk rfl (lk rfl (lk rfl LeS.nil))))) (ek rfl (LeE.cons rfl (BLe.var (ck (ck (ck (ck (All2.cons (CLe.any _) All2.nil)))))) (ek rfl (ek rfl (ek rfl (ek rfl LeE.nil)))))) (by kernel_rfl)) ?_
 refine AOps.callG [(5000, 2390), (5001, 3013), (9000, 3), (9001, 4), (9002, 13)] rfl (by kernel_rfl) rfl rfl (f := 56) (caps := []) (by kernel_rfl) rfl (by kernel_rfl) (ok_deletefunc57 (takeL r.Key (valN r) ((gridStarts g r.Time).filter fun x => !cloI g s.Mark x) s.L) ([] : List Cell) g (if r.Time > s.Mark then r.Time else s.Mark) s.Late s.Bad (s.N + 1) ?_ ?_ ?_) (by kernel_rfl) (hand_cons (by kernel_rfl) (hand_cons (by kernel_rfl) (hand_cons (by kernel_rfl) (hand_cons (by kernel_rfl) (hand_cons (by kernel_rfl) hand_nil))))) (by kernel_rfl) ?_
 iterate 3 (· first | omega | exact hmm | rfl)
 rintro _ _ ⟨rfl, rfl⟩
 refine ⟨[(5000, 2390), (5001, 3013), (9000, 3), (9001, 4), (9002, 13)], [4, 6, 13], [6], by kernel_rfl, ?_⟩
 refine AOps.n ⟨[sp 4, sp 6, sp 13, (z27_25 g s r)], [(z27_37 s r), (z27_2), (z27_26 g s r), (z27_27 g s r), (z27_28 g s r)]⟩ ?_
 refine AOps.e ⟨[sp 4, sp 6, sp 13], [(4, .var ([.d (dI (if r.Time > s.Mark then r.Time else s.Mark)), .d (dI s.Late), .d (dI s.Bad), .d (dI (s.N + 1)), .gs 2390 12 0 (((takeL r.Key (valN r) ((gridStarts g r.Time).filter fun x => !cloI g s.Mark x) s.L).filter fun x => !clo g (if r.Time > s.Mark then r.Time else s.Mark) x).length)])), (z27_2), (z27_26 g s r), (z27_27 g s r), (z27_28 g s r)]⟩ ?_
 refine AC.fz 2390 (0 + ((takeL r.Key (valN r) ((gridStarts g r.Time).filter fun x => !cloI g s.Mark x) s.L).filter fun x => !clo g (if r.Time > s.Mark then r.Time else s.Mark) x).length ≤ ((takeL r.Key (valN r) ((gridStarts g r.Time).filter fun x => !cloI g s.Mark x) s.L).filter fun x => !clo g (if r.Time > s.Mark then r.Time else s.Mark) x).length ∧ True) ⟨[sp 4, sp 6, sp 13], [(4, .var ([.d (dI (if r.Time > s.Mark then r.Time else s.Mark)), .d (dI s.Late), .d (dI s.Bad), .d (dI (s.N + 1)), .d (.sl 12 (((takeL r.Key (valN r) ((gridStarts g r.Time).filter fun x => !cloI g s.Mark x) s.L).filter fun x => !clo g (if r.Time > s.Mark then r.Time else s.Mark) x).length) (fun i_ j_ => nth (eCell (((takeL r.Key (valN r) ((gridStarts g r.Time).filter fun x => !cloI g s.Mark x) s.L).filter fun x => !clo g (if r.Time > s.Mark then r.Time else s.Mark) x).getD (0 + i_) zCell)) j_))])), (z27_2), (z27_26 g s r), (z27_28 g s r)]⟩ ⟨by omega, trivial⟩ ?_ rfl
 refine AC.le (st' := ⟨[sp 4, sp 6, sp 13], [(z27_38 g s r), (z27_2), (z27_26 g s r), (z27_28 g s r)]⟩) (Le.of (lk rfl (lk rfl (lk rfl LeS.nil))) (LeE.cons rfl (BLe.var (ck (ck (ck (ck (All2.cons (CLe.d (DLe.row0)) All2.nil)))))) (ek rfl (ek rfl (ek rfl LeE.nil)))) (by kernel_rfl)) ?_
 refine AC.fz 3013 (0 + (([] : List Cell) ++ (takeL r.Key (valN r) ((gridStarts g r.Time).filter fun x => !cloI g s.Mark x) s.L).filter (clo g (if r.Time > s.Mark then r.Time else s.Mark))).length ≤ (([] : List Cell) ++ (takeL r.Key (valN r) ((gridStarts g r.Time).filter fun x => !cloI g s.Mark x) s.L).filter (clo g (if r.Time > s.Mark then r.Time else s.Mark))).length ∧ True) ⟨[sp 4, sp 6, sp 13], [(z27_38 g s r), (z27_2), (z27_30 g s r)]⟩ ⟨by omega, trivial⟩ ?_ rfl
 refine AC.le (st' := ⟨[sp 4, sp 6, sp 13], [(z27_38 g s r), (z27_2), (z27_31 g s r)]⟩) (Le.of (lk rfl (lk rfl (lk rfl LeS.nil))) (ek rfl (ek rfl (LeE.cons rfl (BLe.var (All2.cons (CLe.d (DLe.row0)) All2.nil)) LeE.nil))) (by kernel_rfl)) ?_
 refine AC.drawXS (by kernel_rfl) 3 2 [] ⟨[sp 4, sp 6, sp 13, (z27_39 g s r), (z27_33 g s r)], [(z27_38 g s r), (z27_2), (z27_31 g s r)]⟩ ⟨[sp 4, sp 6, sp 13, (z27_39 g s r), (z27_33 g s r)], [(z27_38 g s r), (z27_40 g s r), (z27_31 g s r)]⟩ (l := [sp 4, sp 6, sp 13]) (e := [(z27_38 g s r), (z27_2), (z27_31 g s r)]) (by kernel_rfl) (by kernel_rfl) (by kernel_rfl) (by kernel_rfl) (by kernel_rfl) (by kernel_rfl) (StoreAt.mk' rfl (by kernel_rfl) rfl (n := 6) (off := 0) (by kernel_rfl) (l := [.d (dI 0), .d (dI 0), .d (dI 0), .d (dI 0), .d (.v (.slice none 0 0))]) (c := [.d (dI (if r.Time > s.Mark then r.Time else s.Mark)), .d (dI s.Late), .d (dI s.Bad), .d (dI (s.N + 1)), .d (row 12 eCell zCell ((takeL r.Key (valN r) ((gridStarts g r.Time).filter fun x => !cloI g s.Mark x) s.L).filter fun x => !clo g (if r.Time > s.Mark then r.Time else s.Mark) x))]) (by kernel_rfl) (by kernel_rfl) (by kernel_rfl) (by kernel_rfl) rfl (by kernel_rfl) rfl (env_but (A := [(4, .var ([.d (dI (if r.Time > s.Mark then r.Time else s.Mark)), .d (dI s.Late), .d (dI s.Bad), .d (dI (s.N + 1)), .d (row 12 eCell zCell ((takeL r.Key (valN r) ((gridStarts g r.Time).filter fun x => !cloI g s.Mark x) s.L).filter fun x => !clo g (if r.Time > s.Mark then r.Time else s.Mark) x))]))]) (B := [(13, .var [.d (row 12 eCell zCell (([] : List Cell) ++ (takeL r.Key (valN r) ((gridStarts g r.Time).filter fun x => !cloI g s.Mark x) s.L).filter (clo g (if r.Time > s.Mark then r.Time else s.Mark))))])]) (b0 := .var ([.d (dI 0), .d (dI 0), .d (dI 0), .d (dI 0), .d (.v (.slice none 0 0))])) (b1 := .var ([.d (dI (if r.Time > s.Mark then r.Time else s.Mark)), .d (dI s.Late), .d (dI s.Bad), .d (dI (s.N + 1)), .d (row 12 eCell zCell ((takeL r.Key (valN r) ((gridStarts g r.Time).filter fun x => !cloI g s.Mark x) s.L).filter fun x => !clo g (if r.Time > s.Mark then r.Time else s.Mark) x))]))) (by kernel_rfl) (by kernel_rfl)) (.inl rfl) ?_ (r := [3, 4]) (by kernel_rfl) (by kernel_rfl) ?_
 · exact (au (au (au AllUpTo.zero (.inr ⟨.inl ot, .inr (by kernel_rfl)⟩)) (.inr ⟨.inl ot, .inl ot⟩)) (.inl rfl))
 refine AOps.e ⟨[sp 6, (z27_35 g s r), (8, I 0)], [(z27_40 g s r)]⟩ ?_
 refine AC.ret ?_
 refine rqr (ufeed g s r) (All2.cons (ULe.eq (congrArg (fun x => U.agg ((eState x).map .d)) (show ((⟨(if r.Time > s.Mark then r.Time else s.Mark), s.Late, s.Bad, (s.N + 1), ((takeL r.Key (valN r) ((gridStarts g r.Time).filter fun x => !cloI g s.Mark x) s.L).filter fun x => !clo g (if r.Time > s.Mark then r.Time else s.Mark) x)⟩ : State)) = (feedSt g s r) from ?_))) (All2.cons (ULe.c (CLe.d (DLe.eq (congrArg (row 12 eCell zCell) (show ((([] : List Cell) ++ (takeL r.Key (valN r) ((gridStarts g r.Time).filter fun x => !cloI g s.Mark x) s.L).filter (clo g (if r.Time > s.Mark then r.Time else s.Mark)))) = (feedOver g s r) from ?_))))) (All2.cons (ULe.c (CLe.d (DLe.eq (congrArg dI (show (0) = (feedErr g s r) from ?_))))) All2.nil)))
 iterate 3 (· first | (rw [hF.1]; done) | (rw [hF.2.1]; done) | (rw [hF.2.2]; done) | (rw [hF.1]; rfl) | (rw [hF.2.1]; rfl))
end Go.Proofs.Ytfpmgnkbklnkaaa.Eng
end
section
set_option linter.unusedSimpArgs false
set_option linter.unusedVariables false
set_option maxRecDepth 100000
set_option maxHeartbeats 4000000
namespace Go.Proofs.Ytfpmgnkbklnkaaa.Eng
open Go Go.Proofs
abbrev urun (g : Grid) (s : State) (l : List Rec) : List U := [.agg ((eState ((runAll g s l).1)).map .d), .c (.d (row 12 eCell zCell ((runAll g s l).2.1))), .c (.d (dI ((runAll g s l).2.2)))]
abbrev z14_0 (l : List Rec) : Nat × T := (2, tD (row 3 eRec zRec l))
abbrev z14_1 (g : Grid) : Nat × Blk := (3, .var ((eGrid g).map .d))
abbrev z14_2 : Nat × Blk := (6, .var ([.d (dI 0), .d (dI 0), .d (dI 0), .d (dI 0), .d (.v (.slice none 0 0))]))
abbrev z14_3 (s : State) : Nat × Blk := (4, .var ([.d (dI s.Mark), .d (dI s.Late), .d (dI s.Bad), .d (dI s.N), .d (row 12 eCell zCell s.L)]))
abbrev z14_4 (l : List Rec) : Nat × T := (24, tD (row 3 eRec zRec l))
abbrev z14_5 (g : Grid) (s : State) (l : List Rec) (i : Nat) : Nat × T := (9, tG 1009 12 0 (((runTo g s l i).2.1).length))
abbrev z14_6 (g : Grid) (s : State) (l : List Rec) (i : Nat) : Nat × Blk := (4, .var ((eState ((runTo g s l i).1)).map .d))
abbrev z14_7 (g : Grid) (s : State) (l : List Rec) (i : Nat) : Nat × Blk := (1009, arow 46 12 eCell zCell ((runTo g s l i).2.1))
abbrev z14_8 (g : Grid) (s : State) (l : List Rec) (i : Nat) : Nat × T := (13, tD (row 12 eCell zCell (feedOver g ((runTo g s l i).1) (l.getD i zRec))))
abbrev z14_9 (g : Grid) (s : State) (l : List Rec) (i : Nat) : Nat × Blk := (4, .var ((eState (feedSt g ((runTo g s l i).1) (l.getD i zRec))).map .d))
abbrev z14_10 (g : Grid) (s : State) (l : List Rec) (i : Nat) : Nat × T := (9, tG 1009 12 0 (((runTo g s l i).2.1 ++ feedOver g ((runTo g s l i).1) (l.getD i zRec)).length))
abbrev y14_0 (g : Grid) (s : State) : List (Nat × Blk) := [(z14_1 g), (4, .var ((eState s).map .d)), (z14_2)]
abbrev y14_1 (g : Grid) (s : State) (l : List Rec) (i : Nat) : List (Nat × Blk) := [(z14_1 g), (z14_6 g s l i), (z14_2), (z14_7 g s l i)]
abbrev y14_2 (g : Grid) (s : State) (l : List Rec) (i : Nat) : List (Nat × Blk) := [(z14_1 g), (z14_9 g s l i), (z14_2), (1009, arow 46 12 eCell zCell ((runTo g s l i).2.1 ++ feedOver g ((runTo g s l i).1) (l.getD i zRec)))]
/-- headgate/engine.Run. -/
theorem ok_run (g : Grid) (s : State) (l : List Rec) (hls : s.L.length ≤ 1000) (hr : ∀ c ∈ s.L, AggR c.A) (hl : l.length ≤ 1000) :
 FnOk Try.prog 14 [.agg ((eGrid g).map .d), .agg ((eState s).map .d), .c (.d (row 3 eRec zRec l))] (fun r_ => r_ = .tup [.agg ((eState ((runAll g s l).1)).map .d), .c (.d (row 12 eCell zCell ((runAll g s l).2.1))), .c (.d (dI ((runAll g s l).2.2)))]) := by
 refine FnOk.go Try.func14 rfl 49 ?_
 intro w0 m0
 show AC _ _ ⟨[(0, tA ((eGrid g).map .d)), (1, tA ((eState s).map .d)), (z14_0 l)], []⟩ _
 refine AC.q ⟨[(z14_0 l), sp 3, sp 4, sp 6], y14_0 g s⟩ ?_
 refine AC.seq ?_
 refine AC.rS [0, 1, 2, 3] ?_
 refine AOps.m [0, 1] ⟨[(z14_0 l), sp 3, sp 4, sp 6, (15, tA ((eGrid g).map .d)), (16, tA ((eState s).map .d))], y14_0 g s⟩ ?_
 refine AOps.ca (ok_statecheck g s (by omega)) ?_
 rintro _ rfl
 refine AOps.e ⟨[(z14_0 l), sp 3, sp 4, sp 6, (18, B ((stateCheck g s) != 0))], y14_0 g s⟩ ?_
 refine AC.cd (b := (stateCheck g s) != 0) (fun h_ => ?_) (fun h_ => ?_)
 have h1 := h_; have r1 := h_; clear h_; try simp only [bb] at h1
 have hF := run_no (l := l) (statecheck_no (by assumption))
 refine AC.q ⟨[sp 6, (7, tD (.v (.slice none 0 0))), (8, I 1)], [(z14_2)]⟩ ?_
 refine AC.ret ?_
 refine rqr (urun g s l) (All2.cons (ULe.agg (All2.cons (CLe.d (DLe.eq (congrArg dI (show (0) = (((runAll g s l).1).Mark) from ?_)))) (All2.cons (CLe.d (DLe.eq (congrArg dI (show (0) = (((runAll g s l).1).Late) from ?_)))) (All2.cons (CLe.d (DLe.eq (congrArg dI (show (0) = (((runAll g s l).1).Bad) from ?_)))) (All2.cons (CLe.d (DLe.eq (congrArg dI (show (0) = (((runAll g s l).1).N) from ?_)))) (All2.cons (CLe.d (DLe.nilrow (by first | (rw [hF]; done) | (rw [hF]; rfl) | (rw [hF]; exact i2.1.symm)))) All2.nil)))))) (All2.cons (ULe.c (CLe.d (DLe.nilrow (by first | (rw [hF]; done) | (rw [hF]; rfl) | (rw [hF]; exact i2.1.symm))))) (All2.cons (ULe.c (CLe.d (DLe.eq (congrArg dI (show (1) = ((runAll g s l).2.2) from ?_))))) All2.nil)))
 iterate 5 (· first | (rw [hF]; done) | (rw [hF]; rfl) | (rw [hF]; exact i2.1.symm))
 have h1 := h_; have r1 := h_; clear h_; try simp only [bb] at h1
 refine AC.skip ?_
 have hSM : stateMay g s = true := statecheck_yes (by assumption)
 refine AC.rS [0, 1, 2, 3, 4] ?_
 refine AOps.m [0, 1] ⟨[(z14_0 l), sp 3, sp 4, sp 6, (21, tD (row 12 eCell zCell s.L))], y14_0 g s⟩ ?_
 refine AOps.callG [] rfl (by kernel_rfl) rfl rfl (f := 41) (caps := []) (by kernel_rfl) rfl (by kernel_rfl) (ok_cloneD s.L (by omega)) (by kernel_rfl) hand_nil (by kernel_rfl) ?_
 rintro _ _ ⟨rfl, rfl⟩
 refine ⟨[(5000, 2220)], [2, 3, 4, 6], [3, 4, 6], by kernel_rfl, ?_⟩
 refine AOps.n ⟨[(z14_0 l), sp 3, sp 4, sp 6, (22, tG 2220 12 0 s.L.length)], [(z14_1 g), (4, .var ((eState s).map .d)), (z14_2), (2220, arow 46 12 eCell zCell s.L)]⟩ ?_
 refine AOps.e ⟨[(z14_0 l), sp 3, sp 4, sp 6], [(z14_1 g), (4, .var ([.d (dI s.Mark), .d (dI s.Late), .d (dI s.Bad), .d (dI s.N), .gs 2220 12 0 s.L.length])), (z14_2), (2220, arow 46 12 eCell zCell s.L)]⟩ ?_
 refine AC.fz 2220 (0 + s.L.length ≤ s.L.length ∧ True) ⟨[(z14_0 l), sp 3, sp 4, sp 6], [(z14_1 g), (4, .var ([.d (dI s.Mark), .d (dI s.Late), .d (dI s.Bad), .d (dI s.N), .d (.sl 12 s.L.length (fun i_ j_ => nth (eCell (s.L.getD (0 + i_) zCell)) j_))])), (z14_2)]⟩ ⟨by omega, trivial⟩ ?_ rfl
 refine AC.le (st' := ⟨[(z14_0 l), sp 3, sp 4, sp 6], [(z14_1 g), (z14_3 s), (z14_2)]⟩) (Le.of (lk rfl (lk rfl (lk rfl (lk rfl LeS.nil)))) (ek rfl (LeE.cons rfl (BLe.var (ck (ck (ck (ck (All2.cons (CLe.d (DLe.row0)) All2.nil)))))) (ek rfl LeE.nil))) (by kernel_rfl)) ?_
 refine AC.q ⟨[(z14_0 l), sp 3, sp 4, sp 6, (9, tD (.v (.slice none 0 0)))], [(z14_1 g), (z14_3 s), (z14_2)]⟩ ?_
 refine AC.seq ?_
 refine AC.q ⟨[sp 3, sp 4, sp 6, (9, tD (.v (.slice none 0 0))), (z14_4 l), (25, I (l.length : Int)), (26, I 0)], [(z14_1 g), (z14_3 s), (z14_2)]⟩ ?_
 refine AC.block ?_
 refine AC.nl 1009 9 46 12 (fun i_ j_ => nth (eCell (([] : List Cell).getD i_ zCell)) j_) ⟨[sp 3, sp 4, sp 6, (9, tG 1009 12 0 (([] : List Cell).length)), (z14_4 l), (25, I (l.length : Int)), (26, I 0)], [(z14_1 g), (z14_3 s), (z14_2), (1009, arow 46 12 eCell zCell ([] : List Cell))]⟩ ?_
 refine AC.loop (ι := Nat) (fun i => ⟨[sp 3, sp 4, sp 6, (z14_5 g s l i), (z14_4 l), (25, I (l.length : Int)), (26, I (i : Int))], y14_1 g s l i⟩) (fun i => (i ≤ l.length ∧ RunI g s l i)) (fun i => l.length - i) (0) (by exact ⟨by omega, RunI_zero hr⟩) (Le.of (lk rfl (lk rfl (lk rfl (LeS.cons rfl (TLe.gs (congrArg List.length (by first | rfl | (rw [runTo_ok (by omega) i2.1 (by assumption)]; done)))) (lk rfl (lk rfl (LeS.cons rfl (TLe.i ?_) LeS.nil))))))) (ek rfl (LeE.cons rfl (BLe.var (All2.cons (CLe.d (DLe.eq (congrArg dI ?_))) (All2.cons (CLe.d (DLe.eq (congrArg dI ?_))) (All2.cons (CLe.d (DLe.eq (congrArg dI ?_))) (All2.cons (CLe.d (DLe.eq (congrArg dI ?_))) (All2.cons (CLe.d (DLe.eq (congrArg (row 12 eCell zCell) (by first | rfl | (rw [runTo_ok (by omega) i2.1 (by assumption)]; done))))) All2.nil)))))) (ek rfl (LeE.cons rfl (BLe.eq (congrArg (arow 46 12 eCell zCell) (by first | rfl | (rw [runTo_ok (by omega) i2.1 (by assumption)]; done)))) LeE.nil)))) (by kernel_rfl)) ?_
 iterate 5 (· first | rfl | omega | (rw [runTo_ok (by omega) i2.1 (by assumption)]; done))
 intro i hi_
 obtain ⟨i1, i2⟩ := hi_
 show AC _ _ ⟨[sp 3, sp 4, sp 6, (z14_5 g s l i), (z14_4 l), (25, I (l.length : Int)), (26, I (i : Int))], y14_1 g s l i⟩ _
 have hRL := (run_L (g := g) (l := l) hSM hr i i1).2
 refine AC.q ⟨[sp 3, sp 4, sp 6, (z14_5 g s l i), (z14_4 l), (25, I (l.length : Int)), (26, I (i : Int)), (27, B (decide ((i : Int) < (l.length : Int))))], y14_1 g s l i⟩ ?_
 refine AC.seq ?_
 refine AC.cd (b := decide ((i : Int) < (l.length : Int))) (fun h_ => ?_) (fun h_ => ?_)
 have h2 := h_; have r2 := h_; clear h_; try simp only [bb] at h2
 refine AC.skip ?_
 refine AC.seq ?_
 refine AC.block ?_
 refine AC.rS [0, 1, 2, 3] ?_
 refine AOps.ec (C' := (0 ≤ (i : Int) ∧ (i : Int) < (l.length : Int)) ∧ True) ⟨[sp 3, sp 4, sp 6, (z14_5 g s l i), sp 11, (z14_4 l), (25, I (l.length : Int)), (26, I (i : Int))], [(z14_1 g), (z14_6 g s l i), (z14_2), (11, .var ((eRec (l.getD i zRec)).map .d)), (z14_7 g s l i)]⟩ (⟨by omega, trivial⟩) ?_
 refine AC.rS [0, 1, 2, 3, 4, 5, 6, 7, 8, 9, 10, 11] ?_
 refine AOps.m [0, 1, 2] ⟨[sp 3, sp 4, sp 6, (z14_5 g s l i), (z14_4 l), (25, I (l.length : Int)), (26, I (i : Int)), (31, tA ((eGrid g).map .d)), (32, tA ((eState ((runTo g s l i).1)).map .d)), (33, tA ((eRec (l.getD i zRec)).map .d))], y14_1 g s l i⟩ ?_
 refine AOps.ca (ok_feed g ((runTo g s l i).1) (l.getD i zRec) ?_ ?_) ?_
 iterate 2 (· first | exact i2.2.1 | omega)
 rintro _ rfl
 refine AOps.e ⟨[sp 3, sp 4, sp 6, (z14_5 g s l i), sp 12, (z14_8 g s l i), (14, I (feedErr g ((runTo g s l i).1) (l.getD i zRec))), (z14_4 l), (25, I (l.length : Int)), (26, I (i : Int))], [(z14_1 g), (z14_6 g s l i), (z14_2), (12, .var ((eState (feedSt g ((runTo g s l i).1) (l.getD i zRec))).map .d)), (z14_7 g s l i)]⟩ ?_
 refine AC.seq ?_
 refine AC.q ⟨[sp 3, sp 4, sp 6, (z14_5 g s l i), sp 12, (z14_8 g s l i), (14, I (feedErr g ((runTo g s l i).1) (l.getD i zRec))), (z14_4 l), (25, I (l.length : Int)), (26, I (i : Int)), (39, B ((feedErr g ((runTo g s l i).1) (l.getD i zRec)) != 0))], [(z14_1 g), (z14_6 g s l i), (z14_2), (12, .var ((eState (feedSt g ((runTo g s l i).1) (l.getD i zRec))).map .d)), (z14_7 g s l i)]⟩ ?_
 refine AC.cd (b := (feedErr g ((runTo g s l i).1) (l.getD i zRec)) != 0) (fun h_ => ?_) (fun h_ => ?_)
 have h3 := h_; have r3 := h_; clear h_; try simp only [bb] at h3
 have hF := run_err hSM (by omega) i2.1 (by assumption)
 refine AC.q ⟨[sp 6, (7, tD (.v (.slice none 0 0))), (8, I (feedErr g ((runTo g s l i).1) (l.getD i zRec)))], [(z14_2)]⟩ ?_
 refine AC.ret ?_
 refine rqr (urun g s l) (All2.cons (ULe.agg (All2.cons (CLe.d (DLe.eq (congrArg dI (show (0) = (((runAll g s l).1).Mark) from ?_)))) (All2.cons (CLe.d (DLe.eq (congrArg dI (show (0) = (((runAll g s l).1).Late) from ?_)))) (All2.cons (CLe.d (DLe.eq (congrArg dI (show (0) = (((runAll g s l).1).Bad) from ?_)))) (All2.cons (CLe.d (DLe.eq (congrArg dI (show (0) = (((runAll g s l).1).N) from ?_)))) (All2.cons (CLe.d (DLe.nilrow (by first | (rw [hF]; done) | (rw [hF]; rfl) | (rw [hF]; exact i2.1.symm)))) All2.nil)))))) (All2.cons (ULe.c (CLe.d (DLe.nilrow (by first | (rw [hF]; done) | (rw [hF]; rfl) | (rw [hF]; exact i2.1.symm))))) (All2.cons (ULe.c (CLe.d (DLe.eq (congrArg dI (show (feedErr g ((runTo g s l i).1) (l.getD i zRec)) = ((runAll g s l).2.2) from ?_))))) All2.nil)))
 iterate 5 (· first | (rw [hF]; done) | (rw [hF]; rfl) | (rw [hF]; exact i2.1.symm))
 have h3 := h_; have r3 := h_; clear h_; try simp only [bb] at h3
 refine AC.skip ?_
 refine AC.q ⟨[sp 3, sp 4, sp 6, (z14_5 g s l i), (z14_8 g s l i), (z14_4 l), (25, I (l.length : Int)), (26, I (i : Int))], [(z14_1 g), (z14_9 g s l i), (z14_2), (z14_7 g s l i)]⟩ ?_
 refine AC.rR [0, 1, 2, 3] ?_
 refine AOps.mc [0, 1, 2] (C' := (((runTo g s l i).2.1).length = ((runTo g s l i).2.1).length ∧ ((runTo g s l i).2.1).length + (feedOver g ((runTo g s l i).1) (l.getD i zRec)).length ≤ 9223372036854775807 ∧ (((runTo g s l i).2.1).length + (feedOver g ((runTo g s l i).1) (l.getD i zRec)).length) * 96 ≤ 140737488355328) ∧ True) ⟨[sp 3, sp 4, sp 6, (z14_4 l), (25, I (l.length : Int)), (26, I (i : Int)), (45, tG 1009 12 0 (((runTo g s l i).2.1).length + (feedOver g ((runTo g s l i).1) (l.getD i zRec)).length))], [(z14_1 g), (z14_9 g s l i), (z14_2), (1009, .arr 46 12 (((runTo g s l i).2.1).length + (feedOver g ((runTo g s l i).1) (l.getD i zRec)).length) fun i_ j_ => bif Nat.blt i_ ((runTo g s l i).2.1).length then nth (eCell (((runTo g s l i).2.1).getD i_ zCell)) j_ else nth (eCell ((feedOver g ((runTo g s l i).1) (l.getD i zRec)).getD (i_ - ((runTo g s l i).2.1).length) zCell)) j_)]⟩ (⟨by have hv_ := feedOver_len (g := g) (r := l.getD i zRec) i2.2.1; have hw_ := i2.2.2; omega, trivial⟩) ?_
 refine AOps.le (st' := ⟨[sp 3, sp 4, sp 6, (z14_4 l), (25, I (l.length : Int)), (26, I (i : Int)), (45, tG 1009 12 0 (((runTo g s l i).2.1 ++ feedOver g ((runTo g s l i).1) (l.getD i zRec)).length))], y14_2 g s l i⟩) (Le.of (lk rfl (lk rfl (lk rfl (lk rfl (lk rfl (lk rfl (LeS.cons rfl (TLe.gs (lenL _ _)) LeS.nil))))))) (ek rfl (ek rfl (ek rfl (LeE.cons rfl (BLe.appL (e := 46) (sz := 12) (enc := eCell) (d := zCell) (L := (runTo g s l i).2.1) (K := feedOver g ((runTo g s l i).1) (l.getD i zRec))) LeE.nil)))) (by kernel_rfl)) ?_
 refine AOps.e ⟨[sp 3, sp 4, sp 6, (z14_10 g s l i), (z14_4 l), (25, I (l.length : Int)), (26, I (i : Int))], y14_2 g s l i⟩ ?_
 refine AC.rR [0, 1] ?_
 refine AOps.m [0, 1] ⟨[sp 3, sp 4, sp 6, (z14_10 g s l i), (z14_4 l), (25, I (l.length : Int)), (26, I (IntKind.i64.wrap ((i : Int) + 1)))], y14_2 g s l i⟩ ?_
 refine AOps.le (st' := ⟨[sp 3, sp 4, sp 6, (z14_10 g s l i), (z14_4 l), (25, I (l.length : Int)), (26, I ((i + 1 : Nat) : Int))], y14_2 g s l i⟩) (Le.of (lk rfl (lk rfl (lk rfl (lk rfl (lk rfl (lk rfl (LeS.cons rfl (TLe.i (by rw [wrap_in (n := ((i : Int) + 1)) (by omega) (by omega)] <;> omega)) LeS.nil))))))) (ek rfl (ek rfl (ek rfl (ek rfl LeE.nil)))) (by kernel_rfl)) ?_
 refine AOps.done ?_
 try refine blockA_n ?_
 refine roundA_n (i + 1) (by exact ⟨by omega, RunI_succ i2 (by omega) (by assumption)⟩) (by show l.length - (i + 1) < l.length - i; omega) (Le.of (lk rfl (lk rfl (lk rfl (LeS.cons rfl (TLe.gs (congrArg List.length (by first | rfl | (rw [runTo_ok (by omega) i2.1 (by assumption)]; done)))) (lk rfl (lk rfl (LeS.cons rfl (TLe.i ?_) LeS.nil))))))) (ek rfl (LeE.cons rfl (BLe.var (All2.cons (CLe.d (DLe.eq (congrArg dI ?_))) (All2.cons (CLe.d (DLe.eq (congrArg dI ?_))) (All2.cons (CLe.d (DLe.eq (congrArg dI ?_))) (All2.cons (CLe.d (DLe.eq (congrArg dI ?_))) (All2.cons (CLe.d (DLe.eq (congrArg (row 12 eCell zCell) (by first | rfl | (rw [runTo_ok (by omega) i2.1 (by assumption)]; done))))) All2.nil)))))) (ek rfl (LeE.cons rfl (BLe.eq (congrArg (arow 46 12 eCell zCell) (by first | rfl | (rw [runTo_ok (by omega) i2.1 (by assumption)]; done)))) LeE.nil)))) (by kernel_rfl))
 iterate 5 (· first | rfl | omega | (rw [runTo_ok (by omega) i2.1 (by assumption)]; done))
 have h2 := h_; have r2 := h_; clear h_; try simp only [bb] at h2
 refine AC.exit ?_
 repeat (first | refine thenA_x ?_ | refine roundA_x ?_ | refine joinA_x ?_ | refine blockA_hit ?_ | refine blockA_miss (by decide) ?_)
 have hF := run_all (l := l) (i := i) hSM (by omega)
 refine AC.q ⟨[sp 6, (7, tG 1009 12 0 (((runTo g s l i).2.1).length)), (8, I 0)], [(6, .var ((eState ((runTo g s l i).1)).map .d)), (z14_7 g s l i)]⟩ ?_
 refine AC.fz 1009 (0 + ((runTo g s l i).2.1).length ≤ ((runTo g s l i).2.1).length ∧ True) ⟨[sp 6, (7, tD (.sl 12 (((runTo g s l i).2.1).length) (fun i_ j_ => nth (eCell (((runTo g s l i).2.1).getD (0 + i_) zCell)) j_))), (8, I 0)], [(6, .var ((eState ((runTo g s l i).1)).map .d))]⟩ ⟨by omega, trivial⟩ ?_ rfl
 refine AC.le (st' := ⟨[sp 6, (7, tD (row 12 eCell zCell ((runTo g s l i).2.1))), (8, I 0)], [(6, .var ((eState ((runTo g s l i).1)).map .d))]⟩) (Le.of (lk rfl (LeS.cons rfl (TLe.one (ULe.c (CLe.d (DLe.row0)))) (lk rfl LeS.nil))) (ek rfl LeE.nil) (by kernel_rfl)) ?_
 refine AC.ret ?_
 refine rqr (urun g s l) (All2.cons (ULe.eq (congrArg (fun x => U.agg ((eState x).map .d)) (show ((runTo g s l i).1) = ((runAll g s l).1) from ?_))) (All2.cons (ULe.c (CLe.d (DLe.eq (congrArg (row 12 eCell zCell) (show ((runTo g s l i).2.1) = ((runAll g s l).2.1) from ?_))))) (All2.cons (ULe.c (CLe.d (DLe.eq (congrArg dI (show (0) = ((runAll g s l).2.2) from ?_))))) All2.nil)))
 iterate 3 (· first | (rw [hF]; done) | (rw [hF]; rfl) | (rw [hF]; exact i2.1.symm))
end Go.Proofs.Ytfpmgnkbklnkaaa.Eng
end
