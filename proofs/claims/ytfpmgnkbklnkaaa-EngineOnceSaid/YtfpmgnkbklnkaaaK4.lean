/- Part 4 of the engine that steps through the program, of the plain words and of what the program's functions come to; no condition. -/
import Derived.Test.YtfpmgnkbklnkaaaProg
import Derived.Test.YtfpmgnkbklnkaaaK3
section
set_option linter.unusedSimpArgs false
set_option linter.unusedVariables false
set_option maxRecDepth 100000
set_option maxHeartbeats 4000000
namespace Go.Proofs.Ytfpmgnkbklnkaaa.Eng
open Go Go.Proofs
abbrev uput (l : List Cell) (key : Int) (start : Int) (v : Int) : List U := [.c (.d (row 12 eCell zCell (putC key start v l)))]
abbrev z75_0 (l : List Cell) : Nat × T := (0, tD (row 12 eCell zCell l))
abbrev z75_1 (key : Int) (start : Int) : Nat × Blk := (9, .var ([.d (dI key), .d (dI start), .d (dI 0), .d (dI 0), .d (dI 0), .d (dI 0), .d (dI 0), .d (dI 0), .d (dI 0), .d (dI 0), .d (dI 0), .d (dI 0)]))
abbrev z75_2 (l : List Cell) (i : Nat) : Nat × T := (10, tG 1010 12 0 ((l.take i).length))
abbrev z75_3 (key : Int) (start : Int) : Nat × Blk := (9, .var ((eCell (newCell key start)).map .d))
abbrev z75_4 (l : List Cell) (i : Nat) : Nat × Blk := (1010, arow 46 12 eCell zCell (l.take i))
abbrev z75_5 (l : List Cell) : Nat × T := (20, tD (row 12 eCell zCell l))
abbrev z75_6 (l : List Cell) (i : Nat) : Nat × T := (22, .one (.c (.ip 12 (fun j_ => nth (eCell (l.getD i zCell)) j_))))
abbrev z75_7 (l : List Cell) (i : Nat) : Nat × T := (23, tA ((eCell (l.getD i zCell)).map .d))
abbrev z75_8 (key : Int) (start : Int) : Nat × T := (24, tA ((eCell (newCell key start)).map .d))
abbrev z75_9 (l : List Cell) (key : Int) (start : Int) (i : Nat) : Nat × T := (25, B (ahead (l.getD i zCell) (newCell key start)))
abbrev z75_10 (l : List Cell) (i : Nat) : Nat × Blk := (1010, arow 46 12 eCell zCell (l.take i ++ [(l.getD i zCell)]))
abbrev z75_11 (l : List Cell) (i : Nat) : Nat × T := (10, tG 1010 12 0 ((l.take i ++ [(l.getD i zCell)]).length))
abbrev z75_12 (i : Nat) : Nat × T := (11, I (IntKind.i64.wrap ((i : Int) + 1)))
abbrev z75_13 (i : Nat) : Nat × T := (11, I ((i + 1 : Nat) : Int))
abbrev z75_14 (l : List Cell) : Nat × T := (37, tD (row 12 eCell zCell l))
abbrev z75_15 (l : List Cell) (v : Int) (i : Nat) : Nat × Blk := (9, .var ([.d (dI ((l.getD i zCell).Key)), .d (dI ((l.getD i zCell).Start)), .d (dI ((aggAdd ((l.getD i zCell).A) v).Count)), .d (dI ((aggAdd ((l.getD i zCell).A) v).Sum)), .d (dI ((aggAdd ((l.getD i zCell).A) v).Min)), .d (dI ((aggAdd ((l.getD i zCell).A) v).Max)), .d (dI (((aggAdd ((l.getD i zCell).A) v).Hist).h0)), .d (dI (((aggAdd ((l.getD i zCell).A) v).Hist).h1)), .d (dI (((aggAdd ((l.getD i zCell).A) v).Hist).h2)), .d (dI (((aggAdd ((l.getD i zCell).A) v).Hist).h3)), .d (dI ((aggAdd ((l.getD i zCell).A) v).Re)), .d (dI ((aggAdd ((l.getD i zCell).A) v).Im))]))
abbrev z75_16 (l : List Cell) (i : Nat) : Nat × T := (63, tG 1010 12 0 ((l.take i).length + 1))
abbrev z75_17 (l : List Cell) (v : Int) (i : Nat) : Nat × Blk := (1010, .arr 46 12 ((l.take i).length + 1) fun i_ j_ => bif Nat.blt i_ (l.take i).length then nth (eCell ((l.take i).getD i_ zCell)) j_ else (fun i_ j_ => nth [dI ((l.getD i zCell).Key), dI ((l.getD i zCell).Start), dI ((aggAdd ((l.getD i zCell).A) v).Count), dI ((aggAdd ((l.getD i zCell).A) v).Sum), dI ((aggAdd ((l.getD i zCell).A) v).Min), dI ((aggAdd ((l.getD i zCell).A) v).Max), dI (((aggAdd ((l.getD i zCell).A) v).Hist).h0), dI (((aggAdd ((l.getD i zCell).A) v).Hist).h1), dI (((aggAdd ((l.getD i zCell).A) v).Hist).h2), dI (((aggAdd ((l.getD i zCell).A) v).Hist).h3), dI ((aggAdd ((l.getD i zCell).A) v).Re), dI ((aggAdd ((l.getD i zCell).A) v).Im)] (i_ * 12 + j_)) (i_ - (l.take i).length) j_)
abbrev z75_18 (l : List Cell) (v : Int) (i : Nat) : Nat × T := (63, tG 1010 12 0 ((l.take i ++ [(⟨(l.getD i zCell).Key, (l.getD i zCell).Start, aggAdd ((l.getD i zCell).A) v⟩ : Cell)]).length))
abbrev z75_19 (l : List Cell) (v : Int) (i : Nat) : Nat × Blk := (1010, arow 46 12 eCell zCell (l.take i ++ [(⟨(l.getD i zCell).Key, (l.getD i zCell).Start, aggAdd ((l.getD i zCell).A) v⟩ : Cell)]))
abbrev z75_20 (l : List Cell) (v : Int) (i : Nat) : Nat × T := (10, tG 1010 12 0 ((l.take i ++ [(⟨(l.getD i zCell).Key, (l.getD i zCell).Start, aggAdd ((l.getD i zCell).A) v⟩ : Cell)]).length))
abbrev z75_21 (l : List Cell) (v : Int) (i : Nat) : Nat × T := (64, tG 1010 12 0 ((l.take i ++ [(⟨(l.getD i zCell).Key, (l.getD i zCell).Start, aggAdd ((l.getD i zCell).A) v⟩ : Cell)]).length))
abbrev z75_22 (l : List Cell) (i : Nat) : Nat × T := (67, tD (.sl 12 ((((l.length : Int) : Int) - ((i + 1 : Nat) : Int)).toNat) (fun i_ j_ => nth (eCell (l.getD ((((i + 1 : Nat) : Int) : Int).toNat + i_) zCell)) j_)))
abbrev z75_23 (l : List Cell) (v : Int) (i : Nat) : Nat × T := (68, tG 1010 12 0 ((l.take i ++ [(⟨(l.getD i zCell).Key, (l.getD i zCell).Start, aggAdd ((l.getD i zCell).A) v⟩ : Cell)]).length + (l.drop (i + 1)).length))
abbrev z75_24 (l : List Cell) (v : Int) (i : Nat) : Nat × Blk := (1010, .arr 46 12 ((l.take i ++ [(⟨(l.getD i zCell).Key, (l.getD i zCell).Start, aggAdd ((l.getD i zCell).A) v⟩ : Cell)]).length + (l.drop (i + 1)).length) fun i_ j_ => bif Nat.blt i_ (l.take i ++ [(⟨(l.getD i zCell).Key, (l.getD i zCell).Start, aggAdd ((l.getD i zCell).A) v⟩ : Cell)]).length then nth (eCell ((l.take i ++ [(⟨(l.getD i zCell).Key, (l.getD i zCell).Start, aggAdd ((l.getD i zCell).A) v⟩ : Cell)]).getD i_ zCell)) j_ else nth (eCell ((l.drop (i + 1)).getD (i_ - (l.take i ++ [(⟨(l.getD i zCell).Key, (l.getD i zCell).Start, aggAdd ((l.getD i zCell).A) v⟩ : Cell)]).length) zCell)) j_)
abbrev z75_25 (l : List Cell) (v : Int) (i : Nat) : Nat × T := (68, tG 1010 12 0 (((l.take i ++ [(⟨(l.getD i zCell).Key, (l.getD i zCell).Start, aggAdd ((l.getD i zCell).A) v⟩ : Cell)]) ++ (l.drop (i + 1))).length))
abbrev z75_26 (l : List Cell) (v : Int) (i : Nat) : Nat × Blk := (1010, arow 46 12 eCell zCell ((l.take i ++ [(⟨(l.getD i zCell).Key, (l.getD i zCell).Start, aggAdd ((l.getD i zCell).A) v⟩ : Cell)]) ++ (l.drop (i + 1))))
abbrev z75_27 (l : List Cell) (v : Int) (i : Nat) : Nat × T := (10, tG 1010 12 0 (((l.take i ++ [(⟨(l.getD i zCell).Key, (l.getD i zCell).Start, aggAdd ((l.getD i zCell).A) v⟩ : Cell)]) ++ (l.drop (i + 1))).length))
abbrev z75_28 (l : List Cell) (v : Int) (i : Nat) : Nat × T := (8, tG 1010 12 0 (((l.take i ++ [(⟨(l.getD i zCell).Key, (l.getD i zCell).Start, aggAdd ((l.getD i zCell).A) v⟩ : Cell)]) ++ (l.drop (i + 1))).length))
abbrev z75_29 (l : List Cell) (v : Int) (i : Nat) : Nat × T := (8, tD (.sl 12 (((l.take i ++ [(⟨(l.getD i zCell).Key, (l.getD i zCell).Start, aggAdd ((l.getD i zCell).A) v⟩ : Cell)]) ++ (l.drop (i + 1))).length) (fun i_ j_ => nth (eCell (((l.take i ++ [(⟨(l.getD i zCell).Key, (l.getD i zCell).Start, aggAdd ((l.getD i zCell).A) v⟩ : Cell)]) ++ (l.drop (i + 1))).getD (0 + i_) zCell)) j_)))
abbrev z75_30 (l : List Cell) (v : Int) (i : Nat) : Nat × T := (8, tD (row 12 eCell zCell ((l.take i ++ [(⟨(l.getD i zCell).Key, (l.getD i zCell).Start, aggAdd ((l.getD i zCell).A) v⟩ : Cell)]) ++ (l.drop (i + 1)))))
abbrev z75_31 (key : Int) (start : Int) : Nat × T := (56, tA ((eAgg ((newCell key start).A)).map .d))
abbrev z75_32 (key : Int) (start : Int) (v : Int) : Nat × Blk := (9, .var ([.d (dI ((newCell key start).Key)), .d (dI ((newCell key start).Start)), .d (dI ((aggAdd ((newCell key start).A) v).Count)), .d (dI ((aggAdd ((newCell key start).A) v).Sum)), .d (dI ((aggAdd ((newCell key start).A) v).Min)), .d (dI ((aggAdd ((newCell key start).A) v).Max)), .d (dI (((aggAdd ((newCell key start).A) v).Hist).h0)), .d (dI (((aggAdd ((newCell key start).A) v).Hist).h1)), .d (dI (((aggAdd ((newCell key start).A) v).Hist).h2)), .d (dI (((aggAdd ((newCell key start).A) v).Hist).h3)), .d (dI ((aggAdd ((newCell key start).A) v).Re)), .d (dI ((aggAdd ((newCell key start).A) v).Im))]))
abbrev z75_33 (l : List Cell) (key : Int) (start : Int) (v : Int) (i : Nat) : Nat × Blk := (1010, .arr 46 12 ((l.take i).length + 1) fun i_ j_ => bif Nat.blt i_ (l.take i).length then nth (eCell ((l.take i).getD i_ zCell)) j_ else (fun i_ j_ => nth [dI ((newCell key start).Key), dI ((newCell key start).Start), dI ((aggAdd ((newCell key start).A) v).Count), dI ((aggAdd ((newCell key start).A) v).Sum), dI ((aggAdd ((newCell key start).A) v).Min), dI ((aggAdd ((newCell key start).A) v).Max), dI (((aggAdd ((newCell key start).A) v).Hist).h0), dI (((aggAdd ((newCell key start).A) v).Hist).h1), dI (((aggAdd ((newCell key start).A) v).Hist).h2), dI (((aggAdd ((newCell key start).A) v).Hist).h3), dI ((aggAdd ((newCell key start).A) v).Re), dI ((aggAdd ((newCell key start).A) v).Im)] (i_ * 12 + j_)) (i_ - (l.take i).length) j_)
abbrev z75_34 (l : List Cell) (key : Int) (start : Int) (v : Int) (i : Nat) : Nat × T := (63, tG 1010 12 0 ((l.take i ++ [(⟨(newCell key start).Key, (newCell key start).Start, aggAdd ((newCell key start).A) v⟩ : Cell)]).length))
abbrev z75_35 (l : List Cell) (key : Int) (start : Int) (v : Int) (i : Nat) : Nat × Blk := (1010, arow 46 12 eCell zCell (l.take i ++ [(⟨(newCell key start).Key, (newCell key start).Start, aggAdd ((newCell key start).A) v⟩ : Cell)]))
abbrev z75_36 (l : List Cell) (key : Int) (start : Int) (v : Int) (i : Nat) : Nat × T := (10, tG 1010 12 0 ((l.take i ++ [(⟨(newCell key start).Key, (newCell key start).Start, aggAdd ((newCell key start).A) v⟩ : Cell)]).length))
abbrev z75_37 (l : List Cell) (key : Int) (start : Int) (v : Int) (i : Nat) : Nat × T := (64, tG 1010 12 0 ((l.take i ++ [(⟨(newCell key start).Key, (newCell key start).Start, aggAdd ((newCell key start).A) v⟩ : Cell)]).length))
abbrev z75_38 (l : List Cell) (i : Nat) : Nat × T := (67, tD (.sl 12 ((((l.length : Int) : Int) - (i : Int)).toNat) (fun i_ j_ => nth (eCell (l.getD (((i : Int) : Int).toNat + i_) zCell)) j_)))
abbrev z75_39 (l : List Cell) (i : Nat) : Nat × T := (67, tD (row 12 eCell zCell (l.drop i)))
abbrev z75_40 (l : List Cell) (key : Int) (start : Int) (v : Int) (i : Nat) : Nat × T := (68, tG 1010 12 0 ((l.take i ++ [(⟨(newCell key start).Key, (newCell key start).Start, aggAdd ((newCell key start).A) v⟩ : Cell)]).length + (l.drop i).length))
abbrev z75_41 (l : List Cell) (key : Int) (start : Int) (v : Int) (i : Nat) : Nat × Blk := (1010, .arr 46 12 ((l.take i ++ [(⟨(newCell key start).Key, (newCell key start).Start, aggAdd ((newCell key start).A) v⟩ : Cell)]).length + (l.drop i).length) fun i_ j_ => bif Nat.blt i_ (l.take i ++ [(⟨(newCell key start).Key, (newCell key start).Start, aggAdd ((newCell key start).A) v⟩ : Cell)]).length then nth (eCell ((l.take i ++ [(⟨(newCell key start).Key, (newCell key start).Start, aggAdd ((newCell key start).A) v⟩ : Cell)]).getD i_ zCell)) j_ else nth (eCell ((l.drop i).getD (i_ - (l.take i ++ [(⟨(newCell key start).Key, (newCell key start).Start, aggAdd ((newCell key start).A) v⟩ : Cell)]).length) zCell)) j_)
abbrev z75_42 (l : List Cell) (key : Int) (start : Int) (v : Int) (i : Nat) : Nat × T := (68, tG 1010 12 0 (((l.take i ++ [(⟨(newCell key start).Key, (newCell key start).Start, aggAdd ((newCell key start).A) v⟩ : Cell)]) ++ (l.drop i)).length))
abbrev z75_43 (l : List Cell) (key : Int) (start : Int) (v : Int) (i : Nat) : Nat × Blk := (1010, arow 46 12 eCell zCell ((l.take i ++ [(⟨(newCell key start).Key, (newCell key start).Start, aggAdd ((newCell key start).A) v⟩ : Cell)]) ++ (l.drop i)))
abbrev z75_44 (l : List Cell) (key : Int) (start : Int) (v : Int) (i : Nat) : Nat × T := (10, tG 1010 12 0 (((l.take i ++ [(⟨(newCell key start).Key, (newCell key start).Start, aggAdd ((newCell key start).A) v⟩ : Cell)]) ++ (l.drop i)).length))
abbrev z75_45 (l : List Cell) (key : Int) (start : Int) (v : Int) (i : Nat) : Nat × T := (8, tG 1010 12 0 (((l.take i ++ [(⟨(newCell key start).Key, (newCell key start).Start, aggAdd ((newCell key start).A) v⟩ : Cell)]) ++ (l.drop i)).length))
abbrev z75_46 (l : List Cell) (key : Int) (start : Int) (v : Int) (i : Nat) : Nat × T := (8, tD (.sl 12 (((l.take i ++ [(⟨(newCell key start).Key, (newCell key start).Start, aggAdd ((newCell key start).A) v⟩ : Cell)]) ++ (l.drop i)).length) (fun i_ j_ => nth (eCell (((l.take i ++ [(⟨(newCell key start).Key, (newCell key start).Start, aggAdd ((newCell key start).A) v⟩ : Cell)]) ++ (l.drop i)).getD (0 + i_) zCell)) j_)))
abbrev z75_47 (l : List Cell) (key : Int) (start : Int) (v : Int) (i : Nat) : Nat × T := (8, tD (row 12 eCell zCell ((l.take i ++ [(⟨(newCell key start).Key, (newCell key start).Start, aggAdd ((newCell key start).A) v⟩ : Cell)]) ++ (l.drop i))))
abbrev y75_0 (l : List Cell) (i : Nat) : List (Nat × Blk) := [(9, .var ((eCell (l.getD i zCell)).map .d)), (z75_4 l i)]
/-- headgate/headgateref16.put. -/
theorem ok_put (l : List Cell) (key : Int) (start : Int) (v : Int) (hl : l.length ≤ 1000) (hr : ∀ c ∈ l, AggR c.A) (hv_ : R64 v) :
 FnOk Try.prog 75 [.c (.d (row 12 eCell zCell l)), .c (.d (dI key)), .c (.d (dI start)), .c (.d (dI v))] (fun r_ => r_ = tD (row 12 eCell zCell (putC key start v l))) := by
 refine FnOk.go Try.func75 rfl 70 ?_
 intro w0 m0
 show AC _ _ ⟨[(z75_0 l), (1, I key), (2, I start), (3, I v)], []⟩ _
 refine AC.q ⟨[(z75_0 l), (1, I key), (2, I start), (3, I v)], []⟩ ?_
 refine AC.q ⟨[(z75_0 l), (3, I v), sp 9], [(z75_1 key start)]⟩ ?_
 refine AC.q ⟨[(z75_0 l), (3, I v), sp 9, (10, tD (.v (.slice none 0 0)))], [(z75_1 key start)]⟩ ?_
 refine AC.q ⟨[(z75_0 l), (3, I v), sp 9, (10, tD (.v (.slice none 0 0))), (11, I 0)], [(z75_1 key start)]⟩ ?_
 refine AC.seq ?_
 refine AC.block ?_
 refine AC.nl 1010 10 46 12 (fun i_ j_ => nth (eCell (([] : List Cell).getD i_ zCell)) j_) ⟨[(z75_0 l), (3, I v), sp 9, (10, tG 1010 12 0 (([] : List Cell).length)), (11, I 0)], [(z75_1 key start), (1010, arow 46 12 eCell zCell ([] : List Cell))]⟩ ?_
 refine AC.loop (ι := Nat) (fun i => ⟨[(z75_0 l), (3, I v), sp 9, (z75_2 l i), (11, I (i : Int))], [(z75_3 key start), (z75_4 l i)]⟩) (fun i => (i ≤ l.length ∧ ∀ j, j < i → ahead (l.getD j zCell) (newCell key start) = true)) (fun i => l.length - i) (0) (by refine ⟨by omega, fun j hj => ?_⟩; omega) (Le.of (lk rfl (lk rfl (lk rfl (LeS.cons rfl (TLe.gs (congrArg List.length ?_)) (LeS.cons rfl (TLe.i (by omega)) LeS.nil))))) (LeE.cons rfl (BLe.eq (congrArg (fun x => Blk.var ((eCell x).map .d)) (show ((⟨key, start, (⟨0, 0, 0, 0, (⟨0, 0, 0, 0⟩ : H4), 0, 0⟩ : Agg)⟩ : Cell)) = ((newCell key start)) by rfl))) (LeE.cons rfl (BLe.eq (congrArg (arow 46 12 eCell zCell) ?_)) LeE.nil)) (by kernel_rfl)) ?_
 iterate 2 (· first | rfl | (rw [List.take_zero]; done) | exact (take_snoc zCell (by omega)).symm)
 intro i hi_
 obtain ⟨i1, i2⟩ := hi_
 show AC _ _ ⟨[(z75_0 l), (3, I v), sp 9, (z75_2 l i), (11, I (i : Int))], [(z75_3 key start), (z75_4 l i)]⟩ _
 have hlen : (l.take i).length = i := by simp; omega
 refine AC.seq ?_
 refine AC.split (decide ((i : Int) < (l.length : Int))) (fun h_ => ?_) (fun h_ => ?_)
 have hs1 := h_
 have h1 := h_; have r1 := h_; clear h_; try simp only [bb] at h1
 refine AC.dS 10 [] ⟨[(z75_0 l), (3, I v), sp 9, (z75_2 l i), (11, I (i : Int)), (15, I (i : Int)), (16, tD (row 12 eCell zCell l)), (17, I (l.length : Int)), (18, B true), (19, B true), (z75_5 l), (21, I (i : Int)), (z75_6 l i), (z75_7 l i), (z75_8 key start)], [(z75_3 key start), (z75_4 l i)]⟩ [10, 11] (.inl rfl) ?_ ?_
 · exact (ar 2 (au (au (ar 2 (au (au (ar 2 AllUpTo.zero) ot) (OpAt.val rfl (by kernel_rfl) (C' := True) (x := B (decide ((i : Int) < (l.length : Int)))) (by kernel_rfl) (trivial) rfl (by kernel_rfl) (x' := B true) (by kernel_rfl) (TLe.b hs1) (by kernel_rfl) (by kernel_rfl) (by kernel_rfl)))) ot) (OpAt.val rfl (by kernel_rfl) (C' := 0 ≤ (i : Int) ∧ (i : Int) < (l.length : Int)) (x := .one (.c (.ip 12 (fun j_ => nth (eCell (l.getD i zCell)) j_)))) (by kernel_rfl) (by omega) rfl (by kernel_rfl) (by kernel_rfl) (TLe.refl _) (by kernel_rfl) (by kernel_rfl) (by kernel_rfl))))
 refine AOps.ca (ok_ahead (l.getD i zCell) (newCell key start)) ?_
 rintro _ rfl
 refine AOps.e ⟨[(z75_0 l), (3, I v), sp 9, (z75_2 l i), (11, I (i : Int)), (z75_5 l), (21, I (i : Int)), (z75_6 l i), (z75_7 l i), (z75_8 key start), (z75_9 l key start i), (26, B (ahead (l.getD i zCell) (newCell key start)))], [(z75_3 key start), (z75_4 l i)]⟩ ?_
 refine AC.cd (b := ahead (l.getD i zCell) (newCell key start)) (fun h_ => ?_) (fun h_ => ?_)
 have h2 := h_; have r2 := h_; clear h_; try simp only [bb] at h2
 refine AC.skip ?_
 refine AC.block ?_
 refine AC.rS [0, 1, 2, 3, 4, 5, 6, 7] ?_
 refine AOps.mc [0, 1, 2, 3, 4, 5, 6] (C' := (0 ≤ (i : Int) ∧ (i : Int) < (l.length : Int)) ∧ ((l.take i).length = (l.take i).length ∧ (l.take i).length + 1 ≤ 9223372036854775807 ∧ ((l.take i).length + 1) * 96 ≤ 140737488355328) ∧ True) ⟨[(z75_0 l), (3, I v), sp 9, (11, I (i : Int)), (z75_5 l), (21, I (i : Int)), (z75_6 l i), (z75_7 l i), (z75_8 key start), (z75_9 l key start i), (33, tG 1010 12 0 ((l.take i).length + 1))], [(z75_3 key start), (1010, .arr 46 12 ((l.take i).length + 1) fun i_ j_ => bif Nat.blt i_ (l.take i).length then nth (eCell ((l.take i).getD i_ zCell)) j_ else (fun i_ j_ => nth [dI ((l.getD i zCell).Key), dI ((l.getD i zCell).Start), dI (((l.getD i zCell).A).Count), dI (((l.getD i zCell).A).Sum), dI (((l.getD i zCell).A).Min), dI (((l.getD i zCell).A).Max), dI ((((l.getD i zCell).A).Hist).h0), dI ((((l.getD i zCell).A).Hist).h1), dI ((((l.getD i zCell).A).Hist).h2), dI ((((l.getD i zCell).A).Hist).h3), dI (((l.getD i zCell).A).Re), dI (((l.getD i zCell).A).Im)] (i_ * 12 + j_)) (i_ - (l.take i).length) j_)]⟩ (⟨by omega, by (try simp only [hlen, true_and, List.length_append, List.length_singleton, List.length_drop]); omega, trivial⟩) ?_
 refine AOps.le (st' := ⟨[(z75_0 l), (3, I v), sp 9, (11, I (i : Int)), (z75_5 l), (21, I (i : Int)), (z75_6 l i), (z75_7 l i), (z75_8 key start), (z75_9 l key start i), (33, tG 1010 12 0 ((l.take i ++ [(l.getD i zCell)]).length))], [(z75_3 key start), (z75_10 l i)]⟩) (Le.of (lk rfl (lk rfl (lk rfl (lk rfl (lk rfl (lk rfl (lk rfl (lk rfl (lk rfl (lk rfl (LeS.cons rfl (TLe.gs (len1 _ _)) LeS.nil))))))))))) (ek rfl (LeE.cons rfl (BLe.app1 (e := 46) (sz := 12) (enc := eCell) (d := zCell) (L := l.take i) (x := (l.getD i zCell)) (g := fun i_ j_ => nth [dI ((l.getD i zCell).Key), dI ((l.getD i zCell).Start), dI (((l.getD i zCell).A).Count), dI (((l.getD i zCell).A).Sum), dI (((l.getD i zCell).A).Min), dI (((l.getD i zCell).A).Max), dI ((((l.getD i zCell).A).Hist).h0), dI ((((l.getD i zCell).A).Hist).h1), dI ((((l.getD i zCell).A).Hist).h2), dI ((((l.getD i zCell).A).Hist).h3), dI (((l.getD i zCell).A).Re), dI (((l.getD i zCell).A).Im)] (i_ * 12 + j_)) (fun j_ hj_ => by simp only [Nat.zero_mul, Nat.zero_add] <;> rfl)) LeE.nil)) (by kernel_rfl)) ?_
 refine AOps.e ⟨[(z75_0 l), (3, I v), sp 9, (z75_11 l i), (11, I (i : Int)), (z75_5 l), (21, I (i : Int)), (z75_6 l i), (z75_7 l i), (z75_8 key start), (z75_9 l key start i)], [(z75_3 key start), (z75_10 l i)]⟩ ?_
 refine AC.rR [0, 1, 2] ?_
 refine AOps.m [0, 1, 2] ⟨[(z75_0 l), (3, I v), sp 9, (z75_11 l i), (z75_12 i), (z75_5 l), (21, I (i : Int)), (z75_6 l i), (z75_7 l i), (z75_8 key start), (z75_9 l key start i)], [(z75_3 key start), (z75_10 l i)]⟩ ?_
 refine AOps.le (st' := ⟨[(z75_0 l), (3, I v), sp 9, (z75_11 l i), (z75_13 i), (z75_5 l), (21, I (i : Int)), (z75_6 l i), (z75_7 l i), (z75_8 key start), (z75_9 l key start i)], [(z75_3 key start), (z75_10 l i)]⟩) (Le.of (lk rfl (lk rfl (lk rfl (lk rfl (LeS.cons rfl (TLe.i (by rw [wrap_in (n := ((i : Int) + 1)) (by omega) (by omega)] <;> omega)) (lk rfl (lk rfl (lk rfl (lk rfl (lk rfl (lk rfl LeS.nil))))))))))) (ek rfl (ek rfl LeE.nil)) (by kernel_rfl)) ?_
 refine AOps.done ?_
 try refine blockA_n ?_
 refine roundA_n (i + 1) (by refine ⟨by omega, fun j hj => ?_⟩; by_cases e : j = i; (subst e; assumption); exact i2 j (by omega)) (by show l.length - (i + 1) < l.length - i; omega) (Le.of (lk rfl (lk rfl (lk rfl (LeS.cons rfl (TLe.gs (congrArg List.length ?_)) (LeS.cons rfl (TLe.i (by omega)) LeS.nil))))) (ek rfl (LeE.cons rfl (BLe.eq (congrArg (arow 46 12 eCell zCell) ?_)) LeE.nil)) (by kernel_rfl))
 iterate 2 (· first | rfl | (rw [List.take_zero]; done) | exact (take_snoc zCell (by omega)).symm)
 have h2 := h_; have r2 := h_; clear h_; try simp only [bb] at h2
 refine AC.exit ?_
 repeat (first | refine thenA_x ?_ | refine roundA_x ?_ | refine joinA_x ?_ | refine blockA_hit ?_ | refine blockA_miss (by decide) ?_)
 refine AC.seq ?_
 refine AC.split (decide ((i : Int) < (l.length : Int))) (fun h_ => ?_) (fun h_ => ?_)
 have hs1 := h_
 have h3 := h_; have r3 := h_; clear h_; try simp only [bb] at h3
 refine AC.dS 10 [] ⟨[(z75_0 l), (3, I v), sp 9, (z75_2 l i), (11, I (i : Int)), (36, I (i : Int)), (z75_14 l), (38, I (l.length : Int)), (39, B true), (40, B true), (41, tA ((eCell (newCell key start)).map .d)), (42, tD (row 12 eCell zCell l)), (43, I (i : Int)), (44, .one (.c (.ip 12 (fun j_ => nth (eCell (l.getD i zCell)) j_)))), (45, tA ((eCell (l.getD i zCell)).map .d))], [(z75_3 key start), (z75_4 l i)]⟩ [10, 11, 12] (.inl rfl) ?_ ?_
 · exact (au (au (ar 4 (au (au (ar 2 AllUpTo.zero) ot) (OpAt.val rfl (by kernel_rfl) (C' := True) (x := B (decide ((i : Int) < (l.length : Int)))) (by kernel_rfl) (trivial) rfl (by kernel_rfl) (x' := B true) (by kernel_rfl) (TLe.b hs1) (by kernel_rfl) (by kernel_rfl) (by kernel_rfl)))) (OpAt.val rfl (by kernel_rfl) (C' := 0 ≤ (i : Int) ∧ (i : Int) < (l.length : Int)) (x := .one (.c (.ip 12 (fun j_ => nth (eCell (l.getD i zCell)) j_)))) (by kernel_rfl) (by omega) rfl (by kernel_rfl) (by kernel_rfl) (TLe.refl _) (by kernel_rfl) (by kernel_rfl) (by kernel_rfl))) ot)
 refine AOps.ca (ok_ahead (newCell key start) (l.getD i zCell)) ?_
 rintro _ rfl
 refine AOps.e ⟨[(z75_0 l), (3, I v), sp 9, (z75_2 l i), (11, I (i : Int)), (48, B (!(ahead (newCell key start) (l.getD i zCell))))], [(z75_3 key start), (z75_4 l i)]⟩ ?_
 refine AC.cd (b := !(ahead (newCell key start) (l.getD i zCell))) (fun h_ => ?_) (fun h_ => ?_)
 have h4 := h_; have r4 := h_; clear h_; try simp only [bb] at h4
 refine AC.rS [0, 1, 2, 3, 4] ?_
 refine AOps.ec (C' := (0 ≤ (i : Int) ∧ (i : Int) < (l.length : Int)) ∧ True) ⟨[(z75_0 l), (3, I v), sp 9, (z75_2 l i), (11, I (i : Int))], y75_0 l i⟩ (⟨by omega, trivial⟩) ?_
 refine AC.rR [0, 1, 2] ?_
 refine AOps.m [0, 1, 2] ⟨[(z75_0 l), (3, I v), sp 9, (z75_2 l i), (z75_12 i)], y75_0 l i⟩ ?_
 refine AOps.le (st' := ⟨[(z75_0 l), (3, I v), sp 9, (z75_2 l i), (z75_13 i)], y75_0 l i⟩) (Le.of (lk rfl (lk rfl (lk rfl (lk rfl (LeS.cons rfl (TLe.i (by rw [wrap_in (n := ((i : Int) + 1)) (by omega) (by omega)] <;> omega)) LeS.nil))))) (ek rfl (ek rfl LeE.nil)) (by kernel_rfl)) ?_
 refine AOps.done ?_
 refine AC.rS [0, 1, 2, 3, 4, 5] ?_
 refine AOps.m [0, 1, 2] ⟨[(z75_0 l), sp 9, (z75_2 l i), (z75_13 i), (56, tA ((eAgg ((l.getD i zCell).A)).map .d)), (57, I v)], y75_0 l i⟩ ?_
 refine AOps.ca (ok_add15 ((l.getD i zCell).A) v ?_ ?_) ?_
 iterate 2 (· first | assumption | exact hr _ (getD_mem zCell (by omega)) | exact zAgg_R | (exfalso; omega))
 rintro _ rfl
 refine AOps.e ⟨[(z75_0 l), sp 9, (z75_2 l i), (z75_13 i)], [(z75_15 l v i), (z75_4 l i)]⟩ ?_
 refine AC.rS [0, 1, 2, 3, 4] ?_
 refine AOps.mc [0, 1, 2, 3] (C' := ((l.take i).length = (l.take i).length ∧ (l.take i).length + 1 ≤ 9223372036854775807 ∧ ((l.take i).length + 1) * 96 ≤ 140737488355328) ∧ True) ⟨[(z75_0 l), (z75_13 i), (z75_16 l i)], [(z75_17 l v i)]⟩ (⟨by (try simp only [hlen, true_and, List.length_append, List.length_singleton, List.length_drop]); omega, trivial⟩) ?_
 refine AOps.le (st' := ⟨[(z75_0 l), (z75_13 i), (z75_18 l v i)], [(z75_19 l v i)]⟩) (Le.of (lk rfl (lk rfl (LeS.cons rfl (TLe.gs (len1 _ _)) LeS.nil))) (LeE.cons rfl (BLe.app1 (e := 46) (sz := 12) (enc := eCell) (d := zCell) (L := l.take i) (x := (⟨(l.getD i zCell).Key, (l.getD i zCell).Start, aggAdd ((l.getD i zCell).A) v⟩ : Cell)) (g := fun i_ j_ => nth [dI ((l.getD i zCell).Key), dI ((l.getD i zCell).Start), dI ((aggAdd ((l.getD i zCell).A) v).Count), dI ((aggAdd ((l.getD i zCell).A) v).Sum), dI ((aggAdd ((l.getD i zCell).A) v).Min), dI ((aggAdd ((l.getD i zCell).A) v).Max), dI (((aggAdd ((l.getD i zCell).A) v).Hist).h0), dI (((aggAdd ((l.getD i zCell).A) v).Hist).h1), dI (((aggAdd ((l.getD i zCell).A) v).Hist).h2), dI (((aggAdd ((l.getD i zCell).A) v).Hist).h3), dI ((aggAdd ((l.getD i zCell).A) v).Re), dI ((aggAdd ((l.getD i zCell).A) v).Im)] (i_ * 12 + j_)) (fun j_ hj_ => by simp only [Nat.zero_mul, Nat.zero_add] <;> rfl)) LeE.nil) (by kernel_rfl)) ?_
 refine AOps.e ⟨[(z75_0 l), (z75_20 l v i), (z75_13 i)], [(z75_19 l v i)]⟩ ?_
 refine AC.rS [0, 1, 2, 3, 4, 5] ?_
 refine AOps.mc [0, 1, 2, 3] (C' := (0 ≤ (((i + 1 : Nat) : Int) : Int) ∧ (((i + 1 : Nat) : Int) : Int) ≤ (l.length : Int) ∧ (l.length : Int) ≤ (l.length : Int)) ∧ True) ⟨[(z75_21 l v i), (z75_22 l i)], [(z75_19 l v i)]⟩ (⟨by omega, trivial⟩) ?_
 refine AOps.le (st' := ⟨[(z75_21 l v i), (67, tD (row 12 eCell zCell (l.drop (i + 1))))], [(z75_19 l v i)]⟩) (Le.of (lk rfl (LeS.cons rfl (TLe.one (ULe.c (CLe.d (DLe.drop (by omega) (by omega))))) LeS.nil)) (ek rfl LeE.nil) (by kernel_rfl)) ?_
 refine AOps.mc [4] (C' := ((l.take i ++ [(⟨(l.getD i zCell).Key, (l.getD i zCell).Start, aggAdd ((l.getD i zCell).A) v⟩ : Cell)]).length = (l.take i ++ [(⟨(l.getD i zCell).Key, (l.getD i zCell).Start, aggAdd ((l.getD i zCell).A) v⟩ : Cell)]).length ∧ (l.take i ++ [(⟨(l.getD i zCell).Key, (l.getD i zCell).Start, aggAdd ((l.getD i zCell).A) v⟩ : Cell)]).length + (l.drop (i + 1)).length ≤ 9223372036854775807 ∧ ((l.take i ++ [(⟨(l.getD i zCell).Key, (l.getD i zCell).Start, aggAdd ((l.getD i zCell).A) v⟩ : Cell)]).length + (l.drop (i + 1)).length) * 96 ≤ 140737488355328) ∧ True) ⟨[(z75_23 l v i)], [(z75_24 l v i)]⟩ (⟨by (try simp only [hlen, true_and, List.length_append, List.length_singleton, List.length_drop]); omega, trivial⟩) ?_
 refine AOps.le (st' := ⟨[(z75_25 l v i)], [(z75_26 l v i)]⟩) (Le.of (LeS.cons rfl (TLe.gs (lenL _ _)) LeS.nil) (LeE.cons rfl (BLe.appL (e := 46) (sz := 12) (enc := eCell) (d := zCell) (L := (l.take i ++ [(⟨(l.getD i zCell).Key, (l.getD i zCell).Start, aggAdd ((l.getD i zCell).A) v⟩ : Cell)])) (K := (l.drop (i + 1)))) LeE.nil) (by kernel_rfl)) ?_
 refine AOps.e ⟨[(z75_27 l v i)], [(z75_26 l v i)]⟩ ?_
 refine AC.q ⟨[(z75_28 l v i)], [(z75_26 l v i)]⟩ ?_
 refine AC.fz 1010 (0 + ((l.take i ++ [(⟨(l.getD i zCell).Key, (l.getD i zCell).Start, aggAdd ((l.getD i zCell).A) v⟩ : Cell)]) ++ (l.drop (i + 1))).length ≤ ((l.take i ++ [(⟨(l.getD i zCell).Key, (l.getD i zCell).Start, aggAdd ((l.getD i zCell).A) v⟩ : Cell)]) ++ (l.drop (i + 1))).length ∧ True) ⟨[(z75_29 l v i)], []⟩ ⟨by omega, trivial⟩ ?_ rfl
 refine AC.le (st' := ⟨[(z75_30 l v i)], []⟩) (Le.of (LeS.cons rfl (TLe.one (ULe.c (CLe.d (DLe.row0)))) LeS.nil) LeE.nil (by kernel_rfl)) ?_
 refine AC.ret ?_
 exact rqr (uput l key start v) (All2.cons (ULe.c (CLe.d (DLe.eq (congrArg (row 12 eCell zCell) (show (((l.take i ++ [(⟨(l.getD i zCell).Key, (l.getD i zCell).Start, aggAdd ((l.getD i zCell).A) v⟩ : Cell)]) ++ (l.drop (i + 1)))) = (putC key start v l) by first | exact put_new (i := i) (by omega) i2 (by first | exact Or.inl (by omega) | exact Or.inr ⟨by assumption, by assumption⟩) | exact put_old (i := i) (by omega) i2 (by assumption) (by assumption) | (exfalso; omega)))))) All2.nil)
 have h4 := h_; have r4 := h_; clear h_; try simp only [bb] at h4
 refine AC.skip ?_
 refine AC.rS [0, 1, 2, 3, 4, 5] ?_
 refine AOps.m [0, 1, 2] ⟨[(z75_0 l), sp 9, (z75_2 l i), (11, I (i : Int)), (z75_31 key start), (57, I v)], [(z75_3 key start), (z75_4 l i)]⟩ ?_
 refine AOps.ca (ok_add15 ((newCell key start).A) v ?_ ?_) ?_
 iterate 2 (· first | assumption | exact hr _ (getD_mem zCell (by omega)) | exact zAgg_R | (exfalso; omega))
 rintro _ rfl
 refine AOps.e ⟨[(z75_0 l), sp 9, (z75_2 l i), (11, I (i : Int))], [(z75_32 key start v), (z75_4 l i)]⟩ ?_
 refine AC.rS [0, 1, 2, 3, 4] ?_
 refine AOps.mc [0, 1, 2, 3] (C' := ((l.take i).length = (l.take i).length ∧ (l.take i).length + 1 ≤ 9223372036854775807 ∧ ((l.take i).length + 1) * 96 ≤ 140737488355328) ∧ True) ⟨[(z75_0 l), (11, I (i : Int)), (z75_16 l i)], [(z75_33 l key start v i)]⟩ (⟨by (try simp only [hlen, true_and, List.length_append, List.length_singleton, List.length_drop]); omega, trivial⟩) ?_
 refine AOps.le (st' := ⟨[(z75_0 l), (11, I (i : Int)), (z75_34 l key start v i)], [(z75_35 l key start v i)]⟩) (Le.of (lk rfl (lk rfl (LeS.cons rfl (TLe.gs (len1 _ _)) LeS.nil))) (LeE.cons rfl (BLe.app1 (e := 46) (sz := 12) (enc := eCell) (d := zCell) (L := l.take i) (x := (⟨(newCell key start).Key, (newCell key start).Start, aggAdd ((newCell key start).A) v⟩ : Cell)) (g := fun i_ j_ => nth [dI ((newCell key start).Key), dI ((newCell key start).Start), dI ((aggAdd ((newCell key start).A) v).Count), dI ((aggAdd ((newCell key start).A) v).Sum), dI ((aggAdd ((newCell key start).A) v).Min), dI ((aggAdd ((newCell key start).A) v).Max), dI (((aggAdd ((newCell key start).A) v).Hist).h0), dI (((aggAdd ((newCell key start).A) v).Hist).h1), dI (((aggAdd ((newCell key start).A) v).Hist).h2), dI (((aggAdd ((newCell key start).A) v).Hist).h3), dI ((aggAdd ((newCell key start).A) v).Re), dI ((aggAdd ((newCell key start).A) v).Im)] (i_ * 12 + j_)) (fun j_ hj_ => by simp only [Nat.zero_mul, Nat.zero_add] <;> rfl)) LeE.nil) (by kernel_rfl)) ?_
 refine AOps.e ⟨[(z75_0 l), (z75_36 l key start v i), (11, I (i : Int))], [(z75_35 l key start v i)]⟩ ?_
 refine AC.rS [0, 1, 2, 3, 4, 5] ?_
 refine AOps.mc [0, 1, 2, 3] (C' := (0 ≤ ((i : Int) : Int) ∧ ((i : Int) : Int) ≤ (l.length : Int) ∧ (l.length : Int) ≤ (l.length : Int)) ∧ True) ⟨[(z75_37 l key start v i), (z75_38 l i)], [(z75_35 l key start v i)]⟩ (⟨by omega, trivial⟩) ?_
 refine AOps.le (st' := ⟨[(z75_37 l key start v i), (z75_39 l i)], [(z75_35 l key start v i)]⟩) (Le.of (lk rfl (LeS.cons rfl (TLe.one (ULe.c (CLe.d (DLe.drop (by omega) (by omega))))) LeS.nil)) (ek rfl LeE.nil) (by kernel_rfl)) ?_
 refine AOps.mc [4] (C' := ((l.take i ++ [(⟨(newCell key start).Key, (newCell key start).Start, aggAdd ((newCell key start).A) v⟩ : Cell)]).length = (l.take i ++ [(⟨(newCell key start).Key, (newCell key start).Start, aggAdd ((newCell key start).A) v⟩ : Cell)]).length ∧ (l.take i ++ [(⟨(newCell key start).Key, (newCell key start).Start, aggAdd ((newCell key start).A) v⟩ : Cell)]).length + (l.drop i).length ≤ 9223372036854775807 ∧ ((l.take i ++ [(⟨(newCell key start).Key, (newCell key start).Start, aggAdd ((newCell key start).A) v⟩ : Cell)]).length + (l.drop i).length) * 96 ≤ 140737488355328) ∧ True) ⟨[(z75_40 l key start v i)], [(z75_41 l key start v i)]⟩ (⟨by (try simp only [hlen, true_and, List.length_append, List.length_singleton, List.length_drop]); omega, trivial⟩) ?_
 refine AOps.le (st' := ⟨[(z75_42 l key start v i)], [(z75_43 l key start v i)]⟩) (Le.of (LeS.cons rfl (TLe.gs (lenL _ _)) LeS.nil) (LeE.cons rfl (BLe.appL (e := 46) (sz := 12) (enc := eCell) (d := zCell) (L := (l.take i ++ [(⟨(newCell key start).Key, (newCell key start).Start, aggAdd ((newCell key start).A) v⟩ : Cell)])) (K := (l.drop i))) LeE.nil) (by kernel_rfl)) ?_
 refine AOps.e ⟨[(z75_44 l key start v i)], [(z75_43 l key start v i)]⟩ ?_
 refine AC.q ⟨[(z75_45 l key start v i)], [(z75_43 l key start v i)]⟩ ?_
 refine AC.fz 1010 (0 + ((l.take i ++ [(⟨(newCell key start).Key, (newCell key start).Start, aggAdd ((newCell key start).A) v⟩ : Cell)]) ++ (l.drop i)).length ≤ ((l.take i ++ [(⟨(newCell key start).Key, (newCell key start).Start, aggAdd ((newCell key start).A) v⟩ : Cell)]) ++ (l.drop i)).length ∧ True) ⟨[(z75_46 l key start v i)], []⟩ ⟨by omega, trivial⟩ ?_ rfl
 refine AC.le (st' := ⟨[(z75_47 l key start v i)], []⟩) (Le.of (LeS.cons rfl (TLe.one (ULe.c (CLe.d (DLe.row0)))) LeS.nil) LeE.nil (by kernel_rfl)) ?_
 refine AC.ret ?_
 exact rqr (uput l key start v) (All2.cons (ULe.c (CLe.d (DLe.eq (congrArg (row 12 eCell zCell) (show (((l.take i ++ [(⟨(newCell key start).Key, (newCell key start).Start, aggAdd ((newCell key start).A) v⟩ : Cell)]) ++ (l.drop i))) = (putC key start v l) by first | exact put_new (i := i) (by omega) i2 (by first | exact Or.inl (by omega) | exact Or.inr ⟨by assumption, by assumption⟩) | exact put_old (i := i) (by omega) i2 (by assumption) (by assumption) | (exfalso; omega)))))) All2.nil)
 have hs1 := h_
 have h3 := h_; have r3 := h_; clear h_; try simp only [bb] at h3
 refine AC.dS 10 [] ⟨[(z75_0 l), (3, I v), sp 9, (z75_2 l i), (11, I (i : Int)), (36, I (i : Int)), (z75_14 l), (38, I (l.length : Int)), (39, B false), (40, B false), (41, tD (.v (undef))), (42, tD (.v (undef))), (43, tD (.v (undef))), (44, tD (.v (undef))), (45, tD (.v (undef)))], [(z75_3 key start), (z75_4 l i)]⟩ [10, 11, 12] (.inl rfl) ?_ ?_
 · exact (ar 6 (au (au (ar 2 AllUpTo.zero) ot) (OpAt.val rfl (by kernel_rfl) (C' := True) (x := B (decide ((i : Int) < (l.length : Int)))) (by kernel_rfl) (trivial) rfl (by kernel_rfl) (x' := B false) (by kernel_rfl) (TLe.b hs1) (by kernel_rfl) (by kernel_rfl) (by kernel_rfl))))
 refine AOps.e ⟨[(z75_0 l), (3, I v), sp 9, (z75_2 l i), (11, I (i : Int)), (48, B false)], [(z75_3 key start), (z75_4 l i)]⟩ ?_
 refine AC.cd (b := false) (fun h_ => ?_) (fun h_ => ?_)
 cases h_
 clear h_
 refine AC.skip ?_
 refine AC.rS [0, 1, 2, 3, 4, 5] ?_
 refine AOps.m [0, 1, 2] ⟨[(z75_0 l), sp 9, (z75_2 l i), (11, I (i : Int)), (z75_31 key start), (57, I v)], [(z75_3 key start), (z75_4 l i)]⟩ ?_
 refine AOps.ca (ok_add15 ((newCell key start).A) v ?_ ?_) ?_
 iterate 2 (· first | assumption | exact hr _ (getD_mem zCell (by omega)) | exact zAgg_R | (exfalso; omega))
 rintro _ rfl
 refine AOps.e ⟨[(z75_0 l), sp 9, (z75_2 l i), (11, I (i : Int))], [(z75_32 key start v), (z75_4 l i)]⟩ ?_
 refine AC.rS [0, 1, 2, 3, 4] ?_
 refine AOps.mc [0, 1, 2, 3] (C' := ((l.take i).length = (l.take i).length ∧ (l.take i).length + 1 ≤ 9223372036854775807 ∧ ((l.take i).length + 1) * 96 ≤ 140737488355328) ∧ True) ⟨[(z75_0 l), (11, I (i : Int)), (z75_16 l i)], [(z75_33 l key start v i)]⟩ (⟨by (try simp only [hlen, true_and, List.length_append, List.length_singleton, List.length_drop]); omega, trivial⟩) ?_
 refine AOps.le (st' := ⟨[(z75_0 l), (11, I (i : Int)), (z75_34 l key start v i)], [(z75_35 l key start v i)]⟩) (Le.of (lk rfl (lk rfl (LeS.cons rfl (TLe.gs (len1 _ _)) LeS.nil))) (LeE.cons rfl (BLe.app1 (e := 46) (sz := 12) (enc := eCell) (d := zCell) (L := l.take i) (x := (⟨(newCell key start).Key, (newCell key start).Start, aggAdd ((newCell key start).A) v⟩ : Cell)) (g := fun i_ j_ => nth [dI ((newCell key start).Key), dI ((newCell key start).Start), dI ((aggAdd ((newCell key start).A) v).Count), dI ((aggAdd ((newCell key start).A) v).Sum), dI ((aggAdd ((newCell key start).A) v).Min), dI ((aggAdd ((newCell key start).A) v).Max), dI (((aggAdd ((newCell key start).A) v).Hist).h0), dI (((aggAdd ((newCell key start).A) v).Hist).h1), dI (((aggAdd ((newCell key start).A) v).Hist).h2), dI (((aggAdd ((newCell key start).A) v).Hist).h3), dI ((aggAdd ((newCell key start).A) v).Re), dI ((aggAdd ((newCell key start).A) v).Im)] (i_ * 12 + j_)) (fun j_ hj_ => by simp only [Nat.zero_mul, Nat.zero_add] <;> rfl)) LeE.nil) (by kernel_rfl)) ?_
 refine AOps.e ⟨[(z75_0 l), (z75_36 l key start v i), (11, I (i : Int))], [(z75_35 l key start v i)]⟩ ?_
 refine AC.rS [0, 1, 2, 3, 4, 5] ?_
 refine AOps.mc [0, 1, 2, 3] (C' := (0 ≤ ((i : Int) : Int) ∧ ((i : Int) : Int) ≤ (l.length : Int) ∧ (l.length : Int) ≤ (l.length : Int)) ∧ True) ⟨[(z75_37 l key start v i), (z75_38 l i)], [(z75_35 l key start v i)]⟩ (⟨by omega, trivial⟩) ?_
 refine AOps.le (st' := ⟨[(z75_37 l key start v i), (z75_39 l i)], [(z75_35 l key start v i)]⟩) (Le.of (lk rfl (LeS.cons rfl (TLe.one (ULe.c (CLe.d (DLe.drop (by omega) (by omega))))) LeS.nil)) (ek rfl LeE.nil) (by kernel_rfl)) ?_
 refine AOps.mc [4] (C' := ((l.take i ++ [(⟨(newCell key start).Key, (newCell key start).Start, aggAdd ((newCell key start).A) v⟩ : Cell)]).length = (l.take i ++ [(⟨(newCell key start).Key, (newCell key start).Start, aggAdd ((newCell key start).A) v⟩ : Cell)]).length ∧ (l.take i ++ [(⟨(newCell key start).Key, (newCell key start).Start, aggAdd ((newCell key start).A) v⟩ : Cell)]).length + (l.drop i).length ≤ 9223372036854775807 ∧ ((l.take i ++ [(⟨(newCell key start).Key, (newCell key start).Start, aggAdd ((newCell key start).A) v⟩ : Cell)]).length + (l.drop i).length) * 96 ≤ 140737488355328) ∧ True) ⟨[(z75_40 l key start v i)], [(z75_41 l key start v i)]⟩ (⟨by (try simp only [hlen, true_and, List.length_append, List.length_singleton, List.length_drop]); omega, trivial⟩) ?_
 refine AOps.le (st' := ⟨[(z75_42 l key start v i)], [(z75_43 l key start v i)]⟩) (Le.of (LeS.cons rfl (TLe.gs (lenL _ _)) LeS.nil) (LeE.cons rfl (BLe.appL (e := 46) (sz := 12) (enc := eCell) (d := zCell) (L := (l.take i ++ [(⟨(newCell key start).Key, (newCell key start).Start, aggAdd ((newCell key start).A) v⟩ : Cell)])) (K := (l.drop i))) LeE.nil) (by kernel_rfl)) ?_
 refine AOps.e ⟨[(z75_44 l key start v i)], [(z75_43 l key start v i)]⟩ ?_
 refine AC.q ⟨[(z75_45 l key start v i)], [(z75_43 l key start v i)]⟩ ?_
 refine AC.fz 1010 (0 + ((l.take i ++ [(⟨(newCell key start).Key, (newCell key start).Start, aggAdd ((newCell key start).A) v⟩ : Cell)]) ++ (l.drop i)).length ≤ ((l.take i ++ [(⟨(newCell key start).Key, (newCell key start).Start, aggAdd ((newCell key start).A) v⟩ : Cell)]) ++ (l.drop i)).length ∧ True) ⟨[(z75_46 l key start v i)], []⟩ ⟨by omega, trivial⟩ ?_ rfl
 refine AC.le (st' := ⟨[(z75_47 l key start v i)], []⟩) (Le.of (LeS.cons rfl (TLe.one (ULe.c (CLe.d (DLe.row0)))) LeS.nil) LeE.nil (by kernel_rfl)) ?_
 refine AC.ret ?_
 exact rqr (uput l key start v) (All2.cons (ULe.c (CLe.d (DLe.eq (congrArg (row 12 eCell zCell) (show (((l.take i ++ [(⟨(newCell key start).Key, (newCell key start).Start, aggAdd ((newCell key start).A) v⟩ : Cell)]) ++ (l.drop i))) = (putC key start v l) by first | exact put_new (i := i) (by omega) i2 (by first | exact Or.inl (by omega) | exact Or.inr ⟨by assumption, by assumption⟩) | exact put_old (i := i) (by omega) i2 (by assumption) (by assumption) | (exfalso; omega)))))) All2.nil)
 have hs1 := h_
 have h1 := h_; have r1 := h_; clear h_; try simp only [bb] at h1
 refine AC.dS 10 [] ⟨[(z75_0 l), (3, I v), sp 9, (z75_2 l i), (11, I (i : Int)), (15, I (i : Int)), (16, tD (row 12 eCell zCell l)), (17, I (l.length : Int)), (18, B false), (19, B false), (20, tD (.v (undef))), (21, tD (.v (undef))), (22, tD (.v (undef))), (23, tD (.v (undef))), (24, tD (.v (undef)))], [(z75_3 key start), (z75_4 l i)]⟩ [10, 11] (.inl rfl) ?_ ?_
 · exact (ar 6 (au (au (ar 2 AllUpTo.zero) ot) (OpAt.val rfl (by kernel_rfl) (C' := True) (x := B (decide ((i : Int) < (l.length : Int)))) (by kernel_rfl) (trivial) rfl (by kernel_rfl) (x' := B false) (by kernel_rfl) (TLe.b hs1) (by kernel_rfl) (by kernel_rfl) (by kernel_rfl))))
 refine AOps.e ⟨[(z75_0 l), (3, I v), sp 9, (z75_2 l i), (11, I (i : Int)), (20, tD (.v (undef))), (21, tD (.v (undef))), (22, tD (.v (undef))), (23, tD (.v (undef))), (24, tD (.v (undef))), (25, tD (.v (undef))), (26, B false)], [(z75_3 key start), (z75_4 l i)]⟩ ?_
 refine AC.cd (b := false) (fun h_ => ?_) (fun h_ => ?_)
 cases h_
 clear h_
 refine AC.exit ?_
 repeat (first | refine thenA_x ?_ | refine roundA_x ?_ | refine joinA_x ?_ | refine blockA_hit ?_ | refine blockA_miss (by decide) ?_)
 refine AC.seq ?_
 refine AC.split (decide ((i : Int) < (l.length : Int))) (fun h_ => ?_) (fun h_ => ?_)
 have hs1 := h_
 have h2 := h_; have r2 := h_; clear h_; try simp only [bb] at h2
 refine AC.dS 10 [] ⟨[(z75_0 l), (3, I v), sp 9, (z75_2 l i), (11, I (i : Int)), (36, I (i : Int)), (z75_14 l), (38, I (l.length : Int)), (39, B true), (40, B true), (41, tA ((eCell (newCell key start)).map .d)), (42, tD (row 12 eCell zCell l)), (43, I (i : Int)), (44, .one (.c (.ip 12 (fun j_ => nth (eCell (l.getD i zCell)) j_)))), (45, tA ((eCell (l.getD i zCell)).map .d))], [(z75_3 key start), (z75_4 l i)]⟩ [10, 11, 12] (.inl rfl) ?_ ?_
 · exact (au (au (ar 4 (au (au (ar 2 AllUpTo.zero) ot) (OpAt.val rfl (by kernel_rfl) (C' := True) (x := B (decide ((i : Int) < (l.length : Int)))) (by kernel_rfl) (trivial) rfl (by kernel_rfl) (x' := B true) (by kernel_rfl) (TLe.b hs1) (by kernel_rfl) (by kernel_rfl) (by kernel_rfl)))) (OpAt.val rfl (by kernel_rfl) (C' := 0 ≤ (i : Int) ∧ (i : Int) < (l.length : Int)) (x := .one (.c (.ip 12 (fun j_ => nth (eCell (l.getD i zCell)) j_)))) (by kernel_rfl) (by omega) rfl (by kernel_rfl) (by kernel_rfl) (TLe.refl _) (by kernel_rfl) (by kernel_rfl) (by kernel_rfl))) ot)
 refine AOps.ca (ok_ahead (newCell key start) (l.getD i zCell)) ?_
 rintro _ rfl
 refine AOps.e ⟨[(z75_0 l), (3, I v), sp 9, (z75_2 l i), (11, I (i : Int)), (48, B (!(ahead (newCell key start) (l.getD i zCell))))], [(z75_3 key start), (z75_4 l i)]⟩ ?_
 refine AC.cd (b := !(ahead (newCell key start) (l.getD i zCell))) (fun h_ => ?_) (fun h_ => ?_)
 have h3 := h_; have r3 := h_; clear h_; try simp only [bb] at h3
 refine AC.rS [0, 1, 2, 3, 4] ?_
 refine AOps.ec (C' := (0 ≤ (i : Int) ∧ (i : Int) < (l.length : Int)) ∧ True) ⟨[(z75_0 l), (3, I v), sp 9, (z75_2 l i), (11, I (i : Int))], y75_0 l i⟩ (⟨by omega, trivial⟩) ?_
 refine AC.rR [0, 1, 2] ?_
 refine AOps.m [0, 1, 2] ⟨[(z75_0 l), (3, I v), sp 9, (z75_2 l i), (z75_12 i)], y75_0 l i⟩ ?_
 refine AOps.le (st' := ⟨[(z75_0 l), (3, I v), sp 9, (z75_2 l i), (z75_13 i)], y75_0 l i⟩) (Le.of (lk rfl (lk rfl (lk rfl (lk rfl (LeS.cons rfl (TLe.i (by rw [wrap_in (n := ((i : Int) + 1)) (by omega) (by omega)] <;> omega)) LeS.nil))))) (ek rfl (ek rfl LeE.nil)) (by kernel_rfl)) ?_
 refine AOps.done ?_
 refine AC.rS [0, 1, 2, 3, 4, 5] ?_
 refine AOps.m [0, 1, 2] ⟨[(z75_0 l), sp 9, (z75_2 l i), (z75_13 i), (56, tA ((eAgg ((l.getD i zCell).A)).map .d)), (57, I v)], y75_0 l i⟩ ?_
 refine AOps.ca (ok_add15 ((l.getD i zCell).A) v ?_ ?_) ?_
 iterate 2 (· first | assumption | exact hr _ (getD_mem zCell (by omega)) | exact zAgg_R | (exfalso; omega))
 rintro _ rfl
 refine AOps.e ⟨[(z75_0 l), sp 9, (z75_2 l i), (z75_13 i)], [(z75_15 l v i), (z75_4 l i)]⟩ ?_
 refine AC.rS [0, 1, 2, 3, 4] ?_
 refine AOps.mc [0, 1, 2, 3] (C' := ((l.take i).length = (l.take i).length ∧ (l.take i).length + 1 ≤ 9223372036854775807 ∧ ((l.take i).length + 1) * 96 ≤ 140737488355328) ∧ True) ⟨[(z75_0 l), (z75_13 i), (z75_16 l i)], [(z75_17 l v i)]⟩ (⟨by (try simp only [hlen, true_and, List.length_append, List.length_singleton, List.length_drop]); omega, trivial⟩) ?_
 refine AOps.le (st' := ⟨[(z75_0 l), (z75_13 i), (z75_18 l v i)], [(z75_19 l v i)]⟩) (Le.of (lk rfl (lk rfl (LeS.cons rfl (TLe.gs (len1 _ _)) LeS.nil))) (LeE.cons rfl (BLe.app1 (e := 46) (sz := 12) (enc := eCell) (d := zCell) (L := l.take i) (x := (⟨(l.getD i zCell).Key, (l.getD i zCell).Start, aggAdd ((l.getD i zCell).A) v⟩ : Cell)) (g := fun i_ j_ => nth [dI ((l.getD i zCell).Key), dI ((l.getD i zCell).Start), dI ((aggAdd ((l.getD i zCell).A) v).Count), dI ((aggAdd ((l.getD i zCell).A) v).Sum), dI ((aggAdd ((l.getD i zCell).A) v).Min), dI ((aggAdd ((l.getD i zCell).A) v).Max), dI (((aggAdd ((l.getD i zCell).A) v).Hist).h0), dI (((aggAdd ((l.getD i zCell).A) v).Hist).h1), dI (((aggAdd ((l.getD i zCell).A) v).Hist).h2), dI (((aggAdd ((l.getD i zCell).A) v).Hist).h3), dI ((aggAdd ((l.getD i zCell).A) v).Re), dI ((aggAdd ((l.getD i zCell).A) v).Im)] (i_ * 12 + j_)) (fun j_ hj_ => by simp only [Nat.zero_mul, Nat.zero_add] <;> rfl)) LeE.nil) (by kernel_rfl)) ?_
 refine AOps.e ⟨[(z75_0 l), (z75_20 l v i), (z75_13 i)], [(z75_19 l v i)]⟩ ?_
 refine AC.rS [0, 1, 2, 3, 4, 5] ?_
 refine AOps.mc [0, 1, 2, 3] (C' := (0 ≤ (((i + 1 : Nat) : Int) : Int) ∧ (((i + 1 : Nat) : Int) : Int) ≤ (l.length : Int) ∧ (l.length : Int) ≤ (l.length : Int)) ∧ True) ⟨[(z75_21 l v i), (z75_22 l i)], [(z75_19 l v i)]⟩ (⟨by omega, trivial⟩) ?_
 refine AOps.le (st' := ⟨[(z75_21 l v i), (67, tD (row 12 eCell zCell (l.drop (i + 1))))], [(z75_19 l v i)]⟩) (Le.of (lk rfl (LeS.cons rfl (TLe.one (ULe.c (CLe.d (DLe.drop (by omega) (by omega))))) LeS.nil)) (ek rfl LeE.nil) (by kernel_rfl)) ?_
 refine AOps.mc [4] (C' := ((l.take i ++ [(⟨(l.getD i zCell).Key, (l.getD i zCell).Start, aggAdd ((l.getD i zCell).A) v⟩ : Cell)]).length = (l.take i ++ [(⟨(l.getD i zCell).Key, (l.getD i zCell).Start, aggAdd ((l.getD i zCell).A) v⟩ : Cell)]).length ∧ (l.take i ++ [(⟨(l.getD i zCell).Key, (l.getD i zCell).Start, aggAdd ((l.getD i zCell).A) v⟩ : Cell)]).length + (l.drop (i + 1)).length ≤ 9223372036854775807 ∧ ((l.take i ++ [(⟨(l.getD i zCell).Key, (l.getD i zCell).Start, aggAdd ((l.getD i zCell).A) v⟩ : Cell)]).length + (l.drop (i + 1)).length) * 96 ≤ 140737488355328) ∧ True) ⟨[(z75_23 l v i)], [(z75_24 l v i)]⟩ (⟨by (try simp only [hlen, true_and, List.length_append, List.length_singleton, List.length_drop]); omega, trivial⟩) ?_
 refine AOps.le (st' := ⟨[(z75_25 l v i)], [(z75_26 l v i)]⟩) (Le.of (LeS.cons rfl (TLe.gs (lenL _ _)) LeS.nil) (LeE.cons rfl (BLe.appL (e := 46) (sz := 12) (enc := eCell) (d := zCell) (L := (l.take i ++ [(⟨(l.getD i zCell).Key, (l.getD i zCell).Start, aggAdd ((l.getD i zCell).A) v⟩ : Cell)])) (K := (l.drop (i + 1)))) LeE.nil) (by kernel_rfl)) ?_
 refine AOps.e ⟨[(z75_27 l v i)], [(z75_26 l v i)]⟩ ?_
 refine AC.q ⟨[(z75_28 l v i)], [(z75_26 l v i)]⟩ ?_
 refine AC.fz 1010 (0 + ((l.take i ++ [(⟨(l.getD i zCell).Key, (l.getD i zCell).Start, aggAdd ((l.getD i zCell).A) v⟩ : Cell)]) ++ (l.drop (i + 1))).length ≤ ((l.take i ++ [(⟨(l.getD i zCell).Key, (l.getD i zCell).Start, aggAdd ((l.getD i zCell).A) v⟩ : Cell)]) ++ (l.drop (i + 1))).length ∧ True) ⟨[(z75_29 l v i)], []⟩ ⟨by omega, trivial⟩ ?_ rfl
 refine AC.le (st' := ⟨[(z75_30 l v i)], []⟩) (Le.of (LeS.cons rfl (TLe.one (ULe.c (CLe.d (DLe.row0)))) LeS.nil) LeE.nil (by kernel_rfl)) ?_
 refine AC.ret ?_
 exact rqr (uput l key start v) (All2.cons (ULe.c (CLe.d (DLe.eq (congrArg (row 12 eCell zCell) (show (((l.take i ++ [(⟨(l.getD i zCell).Key, (l.getD i zCell).Start, aggAdd ((l.getD i zCell).A) v⟩ : Cell)]) ++ (l.drop (i + 1)))) = (putC key start v l) by first | exact put_new (i := i) (by omega) i2 (by first | exact Or.inl (by omega) | exact Or.inr ⟨by assumption, by assumption⟩) | exact put_old (i := i) (by omega) i2 (by assumption) (by assumption) | (exfalso; omega)))))) All2.nil)
 have h3 := h_; have r3 := h_; clear h_; try simp only [bb] at h3
 refine AC.skip ?_
 refine AC.rS [0, 1, 2, 3, 4, 5] ?_
 refine AOps.m [0, 1, 2] ⟨[(z75_0 l), sp 9, (z75_2 l i), (11, I (i : Int)), (z75_31 key start), (57, I v)], [(z75_3 key start), (z75_4 l i)]⟩ ?_
 refine AOps.ca (ok_add15 ((newCell key start).A) v ?_ ?_) ?_
 iterate 2 (· first | assumption | exact hr _ (getD_mem zCell (by omega)) | exact zAgg_R | (exfalso; omega))
 rintro _ rfl
 refine AOps.e ⟨[(z75_0 l), sp 9, (z75_2 l i), (11, I (i : Int))], [(z75_32 key start v), (z75_4 l i)]⟩ ?_
 refine AC.rS [0, 1, 2, 3, 4] ?_
 refine AOps.mc [0, 1, 2, 3] (C' := ((l.take i).length = (l.take i).length ∧ (l.take i).length + 1 ≤ 9223372036854775807 ∧ ((l.take i).length + 1) * 96 ≤ 140737488355328) ∧ True) ⟨[(z75_0 l), (11, I (i : Int)), (z75_16 l i)], [(z75_33 l key start v i)]⟩ (⟨by (try simp only [hlen, true_and, List.length_append, List.length_singleton, List.length_drop]); omega, trivial⟩) ?_
 refine AOps.le (st' := ⟨[(z75_0 l), (11, I (i : Int)), (z75_34 l key start v i)], [(z75_35 l key start v i)]⟩) (Le.of (lk rfl (lk rfl (LeS.cons rfl (TLe.gs (len1 _ _)) LeS.nil))) (LeE.cons rfl (BLe.app1 (e := 46) (sz := 12) (enc := eCell) (d := zCell) (L := l.take i) (x := (⟨(newCell key start).Key, (newCell key start).Start, aggAdd ((newCell key start).A) v⟩ : Cell)) (g := fun i_ j_ => nth [dI ((newCell key start).Key), dI ((newCell key start).Start), dI ((aggAdd ((newCell key start).A) v).Count), dI ((aggAdd ((newCell key start).A) v).Sum), dI ((aggAdd ((newCell key start).A) v).Min), dI ((aggAdd ((newCell key start).A) v).Max), dI (((aggAdd ((newCell key start).A) v).Hist).h0), dI (((aggAdd ((newCell key start).A) v).Hist).h1), dI (((aggAdd ((newCell key start).A) v).Hist).h2), dI (((aggAdd ((newCell key start).A) v).Hist).h3), dI ((aggAdd ((newCell key start).A) v).Re), dI ((aggAdd ((newCell key start).A) v).Im)] (i_ * 12 + j_)) (fun j_ hj_ => by simp only [Nat.zero_mul, Nat.zero_add] <;> rfl)) LeE.nil) (by kernel_rfl)) ?_
 refine AOps.e ⟨[(z75_0 l), (z75_36 l key start v i), (11, I (i : Int))], [(z75_35 l key start v i)]⟩ ?_
 refine AC.rS [0, 1, 2, 3, 4, 5] ?_
 refine AOps.mc [0, 1, 2, 3] (C' := (0 ≤ ((i : Int) : Int) ∧ ((i : Int) : Int) ≤ (l.length : Int) ∧ (l.length : Int) ≤ (l.length : Int)) ∧ True) ⟨[(z75_37 l key start v i), (z75_38 l i)], [(z75_35 l key start v i)]⟩ (⟨by omega, trivial⟩) ?_
 refine AOps.le (st' := ⟨[(z75_37 l key start v i), (z75_39 l i)], [(z75_35 l key start v i)]⟩) (Le.of (lk rfl (LeS.cons rfl (TLe.one (ULe.c (CLe.d (DLe.drop (by omega) (by omega))))) LeS.nil)) (ek rfl LeE.nil) (by kernel_rfl)) ?_
 refine AOps.mc [4] (C' := ((l.take i ++ [(⟨(newCell key start).Key, (newCell key start).Start, aggAdd ((newCell key start).A) v⟩ : Cell)]).length = (l.take i ++ [(⟨(newCell key start).Key, (newCell key start).Start, aggAdd ((newCell key start).A) v⟩ : Cell)]).length ∧ (l.take i ++ [(⟨(newCell key start).Key, (newCell key start).Start, aggAdd ((newCell key start).A) v⟩ : Cell)]).length + (l.drop i).length ≤ 9223372036854775807 ∧ ((l.take i ++ [(⟨(newCell key start).Key, (newCell key start).Start, aggAdd ((newCell key start).A) v⟩ : Cell)]).length + (l.drop i).length) * 96 ≤ 140737488355328) ∧ True) ⟨[(z75_40 l key start v i)], [(z75_41 l key start v i)]⟩ (⟨by (try simp only [hlen, true_and, List.length_append, List.length_singleton, List.length_drop]); omega, trivial⟩) ?_
 refine AOps.le (st' := ⟨[(z75_42 l key start v i)], [(z75_43 l key start v i)]⟩) (Le.of (LeS.cons rfl (TLe.gs (lenL _ _)) LeS.nil) (LeE.cons rfl (BLe.appL (e := 46) (sz := 12) (enc := eCell) (d := zCell) (L := (l.take i ++ [(⟨(newCell key start).Key, (newCell key start).Start, aggAdd ((newCell key start).A) v⟩ : Cell)])) (K := (l.drop i))) LeE.nil) (by kernel_rfl)) ?_
 refine AOps.e ⟨[(z75_44 l key start v i)], [(z75_43 l key start v i)]⟩ ?_
 refine AC.q ⟨[(z75_45 l key start v i)], [(z75_43 l key start v i)]⟩ ?_
 refine AC.fz 1010 (0 + ((l.take i ++ [(⟨(newCell key start).Key, (newCell key start).Start, aggAdd ((newCell key start).A) v⟩ : Cell)]) ++ (l.drop i)).length ≤ ((l.take i ++ [(⟨(newCell key start).Key, (newCell key start).Start, aggAdd ((newCell key start).A) v⟩ : Cell)]) ++ (l.drop i)).length ∧ True) ⟨[(z75_46 l key start v i)], []⟩ ⟨by omega, trivial⟩ ?_ rfl
 refine AC.le (st' := ⟨[(z75_47 l key start v i)], []⟩) (Le.of (LeS.cons rfl (TLe.one (ULe.c (CLe.d (DLe.row0)))) LeS.nil) LeE.nil (by kernel_rfl)) ?_
 refine AC.ret ?_
 exact rqr (uput l key start v) (All2.cons (ULe.c (CLe.d (DLe.eq (congrArg (row 12 eCell zCell) (show (((l.take i ++ [(⟨(newCell key start).Key, (newCell key start).Start, aggAdd ((newCell key start).A) v⟩ : Cell)]) ++ (l.drop i))) = (putC key start v l) by first | exact put_new (i := i) (by omega) i2 (by first | exact Or.inl (by omega) | exact Or.inr ⟨by assumption, by assumption⟩) | exact put_old (i := i) (by omega) i2 (by assumption) (by assumption) | (exfalso; omega)))))) All2.nil)
 have hs1 := h_
 have h2 := h_; have r2 := h_; clear h_; try simp only [bb] at h2
 refine AC.dS 10 [] ⟨[(z75_0 l), (3, I v), sp 9, (z75_2 l i), (11, I (i : Int)), (36, I (i : Int)), (z75_14 l), (38, I (l.length : Int)), (39, B false), (40, B false), (41, tD (.v (undef))), (42, tD (.v (undef))), (43, tD (.v (undef))), (44, tD (.v (undef))), (45, tD (.v (undef)))], [(z75_3 key start), (z75_4 l i)]⟩ [10, 11, 12] (.inl rfl) ?_ ?_
 · exact (ar 6 (au (au (ar 2 AllUpTo.zero) ot) (OpAt.val rfl (by kernel_rfl) (C' := True) (x := B (decide ((i : Int) < (l.length : Int)))) (by kernel_rfl) (trivial) rfl (by kernel_rfl) (x' := B false) (by kernel_rfl) (TLe.b hs1) (by kernel_rfl) (by kernel_rfl) (by kernel_rfl))))
 refine AOps.e ⟨[(z75_0 l), (3, I v), sp 9, (z75_2 l i), (11, I (i : Int)), (48, B false)], [(z75_3 key start), (z75_4 l i)]⟩ ?_
 refine AC.cd (b := false) (fun h_ => ?_) (fun h_ => ?_)
 cases h_
 clear h_
 refine AC.skip ?_
 refine AC.rS [0, 1, 2, 3, 4, 5] ?_
 refine AOps.m [0, 1, 2] ⟨[(z75_0 l), sp 9, (z75_2 l i), (11, I (i : Int)), (z75_31 key start), (57, I v)], [(z75_3 key start), (z75_4 l i)]⟩ ?_
 refine AOps.ca (ok_add15 ((newCell key start).A) v ?_ ?_) ?_
 iterate 2 (· first | assumption | exact hr _ (getD_mem zCell (by omega)) | exact zAgg_R | (exfalso; omega))
 rintro _ rfl
 refine AOps.e ⟨[(z75_0 l), sp 9, (z75_2 l i), (11, I (i : Int))], [(z75_32 key start v), (z75_4 l i)]⟩ ?_
 refine AC.rS [0, 1, 2, 3, 4] ?_
 refine AOps.mc [0, 1, 2, 3] (C' := ((l.take i).length = (l.take i).length ∧ (l.take i).length + 1 ≤ 9223372036854775807 ∧ ((l.take i).length + 1) * 96 ≤ 140737488355328) ∧ True) ⟨[(z75_0 l), (11, I (i : Int)), (z75_16 l i)], [(z75_33 l key start v i)]⟩ (⟨by (try simp only [hlen, true_and, List.length_append, List.length_singleton, List.length_drop]); omega, trivial⟩) ?_
 refine AOps.le (st' := ⟨[(z75_0 l), (11, I (i : Int)), (z75_34 l key start v i)], [(z75_35 l key start v i)]⟩) (Le.of (lk rfl (lk rfl (LeS.cons rfl (TLe.gs (len1 _ _)) LeS.nil))) (LeE.cons rfl (BLe.app1 (e := 46) (sz := 12) (enc := eCell) (d := zCell) (L := l.take i) (x := (⟨(newCell key start).Key, (newCell key start).Start, aggAdd ((newCell key start).A) v⟩ : Cell)) (g := fun i_ j_ => nth [dI ((newCell key start).Key), dI ((newCell key start).Start), dI ((aggAdd ((newCell key start).A) v).Count), dI ((aggAdd ((newCell key start).A) v).Sum), dI ((aggAdd ((newCell key start).A) v).Min), dI ((aggAdd ((newCell key start).A) v).Max), dI (((aggAdd ((newCell key start).A) v).Hist).h0), dI (((aggAdd ((newCell key start).A) v).Hist).h1), dI (((aggAdd ((newCell key start).A) v).Hist).h2), dI (((aggAdd ((newCell key start).A) v).Hist).h3), dI ((aggAdd ((newCell key start).A) v).Re), dI ((aggAdd ((newCell key start).A) v).Im)] (i_ * 12 + j_)) (fun j_ hj_ => by simp only [Nat.zero_mul, Nat.zero_add] <;> rfl)) LeE.nil) (by kernel_rfl)) ?_
 refine AOps.e ⟨[(z75_0 l), (z75_36 l key start v i), (11, I (i : Int))], [(z75_35 l key start v i)]⟩ ?_
 refine AC.rS [0, 1, 2, 3, 4, 5] ?_
 refine AOps.mc [0, 1, 2, 3] (C' := (0 ≤ ((i : Int) : Int) ∧ ((i : Int) : Int) ≤ (l.length : Int) ∧ (l.length : Int) ≤ (l.length : Int)) ∧ True) ⟨[(z75_37 l key start v i), (z75_38 l i)], [(z75_35 l key start v i)]⟩ (⟨by omega, trivial⟩) ?_
 refine AOps.le (st' := ⟨[(z75_37 l key start v i), (z75_39 l i)], [(z75_35 l key start v i)]⟩) (Le.of (lk rfl (LeS.cons rfl (TLe.one (ULe.c (CLe.d (DLe.drop (by omega) (by omega))))) LeS.nil)) (ek rfl LeE.nil) (by kernel_rfl)) ?_
 refine AOps.mc [4] (C' := ((l.take i ++ [(⟨(newCell key start).Key, (newCell key start).Start, aggAdd ((newCell key start).A) v⟩ : Cell)]).length = (l.take i ++ [(⟨(newCell key start).Key, (newCell key start).Start, aggAdd ((newCell key start).A) v⟩ : Cell)]).length ∧ (l.take i ++ [(⟨(newCell key start).Key, (newCell key start).Start, aggAdd ((newCell key start).A) v⟩ : Cell)]).length + (l.drop i).length ≤ 9223372036854775807 ∧ ((l.take i ++ [(⟨(newCell key start).Key, (newCell key start).Start, aggAdd ((newCell key start).A) v⟩ : Cell)]).length + (l.drop i).length) * 96 ≤ 140737488355328) ∧ True) ⟨[(z75_40 l key start v i)], [(z75_41 l key start v i)]⟩ (⟨by (try simp only [hlen, true_and, List.length_append, List.length_singleton, List.length_drop]); omega, trivial⟩) ?_
 refine AOps.le (st' := ⟨[(z75_42 l key start v i)], [(z75_43 l key start v i)]⟩) (Le.of (LeS.cons rfl (TLe.gs (lenL _ _)) LeS.nil) (LeE.cons rfl (BLe.appL (e := 46) (sz := 12) (enc := eCell) (d := zCell) (L := (l.take i ++ [(⟨(newCell key start).Key, (newCell key start).Start, aggAdd ((newCell key start).A) v⟩ : Cell)])) (K := (l.drop i))) LeE.nil) (by kernel_rfl)) ?_
 refine AOps.e ⟨[(z75_44 l key start v i)], [(z75_43 l key start v i)]⟩ ?_
 refine AC.q ⟨[(z75_45 l key start v i)], [(z75_43 l key start v i)]⟩ ?_
 refine AC.fz 1010 (0 + ((l.take i ++ [(⟨(newCell key start).Key, (newCell key start).Start, aggAdd ((newCell key start).A) v⟩ : Cell)]) ++ (l.drop i)).length ≤ ((l.take i ++ [(⟨(newCell key start).Key, (newCell key start).Start, aggAdd ((newCell key start).A) v⟩ : Cell)]) ++ (l.drop i)).length ∧ True) ⟨[(z75_46 l key start v i)], []⟩ ⟨by omega, trivial⟩ ?_ rfl
 refine AC.le (st' := ⟨[(z75_47 l key start v i)], []⟩) (Le.of (LeS.cons rfl (TLe.one (ULe.c (CLe.d (DLe.row0)))) LeS.nil) LeE.nil (by kernel_rfl)) ?_
 refine AC.ret ?_
 exact rqr (uput l key start v) (All2.cons (ULe.c (CLe.d (DLe.eq (congrArg (row 12 eCell zCell) (show (((l.take i ++ [(⟨(newCell key start).Key, (newCell key start).Start, aggAdd ((newCell key start).A) v⟩ : Cell)]) ++ (l.drop i))) = (putC key start v l) by first | exact put_new (i := i) (by omega) i2 (by first | exact Or.inl (by omega) | exact Or.inr ⟨by assumption, by assumption⟩) | exact put_old (i := i) (by omega) i2 (by assumption) (by assumption) | (exfalso; omega)))))) All2.nil)
end Go.Proofs.Ytfpmgnkbklnkaaa.Eng
end
section
set_option linter.unusedSimpArgs false
set_option linter.unusedVariables false
set_option maxRecDepth 100000
set_option maxHeartbeats 4000000
namespace Go.Proofs.Ytfpmgnkbklnkaaa.Eng
open Go Go.Proofs
abbrev ustarts14 (g : Grid) (t : Int) : List U := [.c (.d (row 1 eI 0 (gridStarts g t))), .c (.d (dI (startsErr g t)))]
abbrev z25_0 (g : Grid) : Nat × Blk := (2, .var ((eGrid g).map .d))
abbrev z25_1 : Nat × T := (6, tD (.v (.slice none 0 0)))
abbrev z25_2 (g : Grid) (t : Int) (j : Nat) : Nat × T := (6, tG 1006 1 0 ((downTo g t j).length))
abbrev z25_3 (g : Grid) (t : Int) (j : Nat) : Nat × Blk := (1006, arow 3 1 eI 0 (downTo g t j))
abbrev z25_4 (g : Grid) (t : Int) (j : Nat) : Nat × Blk := (1006, arow 3 1 eI 0 (downTo g t j ++ [(downF g t j)]))
abbrev z25_5 (g : Grid) (t : Int) (j : Nat) : Nat × T := (6, tG 1006 1 0 ((downTo g t j ++ [(downF g t j)]).length))
abbrev z25_6 : Nat × T := (8, tD (.v (.slice none 0 0)))
abbrev z25_7 (g : Grid) (t : Int) (j : Nat) : Nat × T := (9, I (((downTo g t j).length : Int) - 1))
abbrev z25_8 (g : Grid) (t : Int) (j : Nat) : Nat × T := (6, tD (row 1 eI 0 (downTo g t j)))
abbrev z25_9 (g : Grid) (t : Int) (j : Nat) (m : Nat) : Nat × T := (9, I (((downTo g t j).length : Int) - 1 - (m : Int)))
abbrev z25_10 (g : Grid) (t : Int) (j : Nat) (m : Nat) : Nat × Blk := (1008, arow 3 1 eI 0 ((downTo g t j).reverse.take m))
abbrev z25_11 (g : Grid) (t : Int) (j : Nat) (m : Nat) : Nat × Blk := (1008, arow 3 1 eI 0 ((downTo g t j).reverse.take m ++ [((downTo g t j).getD ((((downTo g t j).length : Int) - 1 - (m : Int)).toNat) 0)]))
abbrev z25_12 (g : Grid) (t : Int) (j : Nat) (m : Nat) : Nat × T := (8, tG 1008 1 0 (((downTo g t j).reverse.take m ++ [((downTo g t j).getD ((((downTo g t j).length : Int) - 1 - (m : Int)).toNat) 0)]).length))
/-- headgate/headgateref14.Starts. -/
theorem ok_starts14 (g : Grid) (t : Int) :
 FnOk Try.prog 25 [.agg ((eGrid g).map .d), .c (.d (dI t))] (fun r_ => r_ = .tup [.c (.d (row 1 eI 0 (gridStarts g t))), .c (.d (dI (startsErr g t)))]) := by
 refine FnOk.go Try.func25 rfl 61 ?_
 intro w0 m0
 show AC _ _ ⟨[(0, tA ((eGrid g).map .d)), (1, I t)], []⟩ _
 refine AC.q ⟨[(1, I t), sp 2], [(z25_0 g)]⟩ ?_
 refine AC.seq ?_
 refine AC.rS [0, 1, 2, 3, 4, 5, 6, 7, 8, 9, 10] ?_
 refine AOps.m [0] ⟨[(1, I t), sp 2, (10, tA ((eGrid g).map .d))], [(z25_0 g)]⟩ ?_
 refine AOps.ca (ok_may14 g) ?_
 rintro _ rfl
 refine AOps.m [2, 3] ⟨[(1, I t), sp 2, (13, B (!(gridMay g)))], [(z25_0 g)]⟩ ?_
 refine AOps.s [4, 5] 6 13 15 16 false (!(gridMay g)) (decide (t < 0)) [1, 2] (fun h_ => ?_) ?_
 clear h_
 refine AOps.m [4, 5] ⟨[(1, I t), sp 2, (13, B false), (15, B (decide (t < 0)))], [(z25_0 g)]⟩ ?_
 exact scd
 refine AOps.m [7] ⟨[(1, I t), sp 2, (17, B ((!(gridMay g)) || (decide (t < 0))))], [(z25_0 g)]⟩ ?_
 refine AOps.s [8, 9] 10 17 19 20 false ((!(gridMay g)) || (decide (t < 0))) (decide (t > 1099511627776)) [1, 2] (fun h_ => ?_) ?_
 clear h_
 refine AOps.m [8, 9] ⟨[(1, I t), sp 2, (17, B false), (19, B (decide (t > 1099511627776)))], [(z25_0 g)]⟩ ?_
 exact scd
 refine AOps.done ?_
 refine AC.cd (b := ((!(gridMay g)) || (decide (t < 0))) || (decide (t > 1099511627776))) (fun h_ => ?_) (fun h_ => ?_)
 have h1 := h_; have r1 := h_; clear h_; try simp only [bb] at h1
 refine AC.q ⟨[(4, tD (.v (.slice none 0 0))), (5, I 1)], []⟩ ?_
 refine AC.ret ?_
 refine rqr (ustarts14 g t) (All2.cons (ULe.c (CLe.d (DLe.nilrow ?_))) (All2.cons (ULe.c (CLe.d (DLe.eq (congrArg dI (show (1) = (startsErr g t) from ?_))))) All2.nil))
 iterate 2 (· first | (rw [gridStarts, if_pos (time_yes (by assumption) (by omega) (by omega)), ← hE, List.take_of_length_le (by simp; omega)]; done) | (rw [startsErr, if_pos (time_yes (by assumption) (by omega) (by omega))]; done) | (rw [gridStarts, if_neg (time_no14 (by assumption))]; done) | (rw [startsErr, if_neg (time_no14 (by assumption))]; done))
 have h1 := h_; have r1 := h_; clear h_; try simp only [bb] at h1
 refine AC.skip ?_
 have hM : gridMay g = true := by cases hx_ : gridMay g with | true => rfl | false => (simp [hx_] at h1)
 have hG := gridMay_spec hM; have hB := base_b (t := t) (h := g.Hop) (by omega) (by omega)
 refine AC.q ⟨[(1, I t), sp 2, (z25_1)], [(z25_0 g)]⟩ ?_
 refine AC.seq ?_
 refine AC.dS 6 [] ⟨[(1, I t), sp 2, (z25_1), (21, I t), (22, tP 2 1), (23, I g.Hop), (24, I (IntKind.i64.wrap (Int.tdiv t g.Hop))), (25, tP 2 1), (26, I g.Hop)], [(z25_0 g)]⟩ [6, 7] (.inl rfl) ?_ ?_
 · exact (ar 2 (au (au (ar 2 AllUpTo.zero) ot) (OpAt.val rfl (by kernel_rfl) (C' := g.Hop ≠ 0) (x := I (IntKind.i64.wrap (Int.tdiv t g.Hop))) (by kernel_rfl) (by omega) rfl (by kernel_rfl) (by kernel_rfl) (TLe.refl _) (by kernel_rfl) (by kernel_rfl) (by kernel_rfl))))
 refine AOps.m [6, 7] ⟨[(1, I t), sp 2, (z25_1), (7, I (IntKind.i64.wrap ((IntKind.i64.wrap (Int.tdiv t g.Hop)) * g.Hop)))], [(z25_0 g)]⟩ ?_
 refine AOps.le (st' := ⟨[(1, I t), sp 2, (z25_1), (7, I ((Int.tdiv t g.Hop) * g.Hop))], [(z25_0 g)]⟩) (Le.of (lk rfl (lk rfl (lk rfl (LeS.cons rfl (TLe.i (by rw [wrap_in (n := (Int.tdiv t g.Hop)) (by omega) (by omega), wrap_in (n := ((Int.tdiv t g.Hop) * g.Hop)) (by omega) (by omega)] <;> omega)) LeS.nil)))) (ek rfl LeE.nil) (by kernel_rfl)) ?_
 refine AOps.done ?_
 refine AC.block ?_
 refine AC.nl 1006 6 3 1 (fun i_ j_ => nth (eI (([] : List Int).getD i_ 0)) j_) ⟨[(1, I t), sp 2, (6, tG 1006 1 0 (([] : List Int).length)), (7, I ((Int.tdiv t g.Hop) * g.Hop))], [(z25_0 g), (1006, arow 3 1 eI 0 ([] : List Int))]⟩ ?_
 refine AC.loop (ι := Nat) (fun j => ⟨[(1, I t), sp 2, (z25_2 g t j), (7, I (downF g t j))], [(z25_0 g), (z25_3 g t j)]⟩) (fun j => (j ≤ 8 ∧ ∀ i, i < j → 0 ≤ downF g t i ∧ t < downF g t i + g.Size)) (fun j => 9 - j) (0) (by refine ⟨by omega, fun i hi => ?_⟩; omega) (Le.of (lk rfl (lk rfl (LeS.cons rfl (TLe.gs (congrArg List.length ?_)) (LeS.cons rfl (TLe.i (by first | omega | exact downF_zero g t | exact downF_succ g t j | (simp [downTo_len]; done))) LeS.nil)))) (ek rfl (LeE.cons rfl (BLe.eq (congrArg (arow 3 1 eI 0) ?_)) LeE.nil)) (by kernel_rfl)) ?_
 iterate 2 (· first | rfl | exact downTo_succ g t j | exact rev_snoc (by omega))
 intro j hi_
 obtain ⟨i1, i2⟩ := hi_
 show AC _ _ ⟨[(1, I t), sp 2, (z25_2 g t j), (7, I (downF g t j))], [(z25_0 g), (z25_3 g t j)]⟩ _
 have hb_ := downF_b (t := t) hM (by omega) i1
 have hl_ := downTo_len g t j
 refine AC.seq ?_
 refine AC.rS [0, 1, 2, 3, 4, 5, 6, 7, 8, 9] ?_
 refine AOps.m [0, 1, 2] ⟨[(1, I t), sp 2, (z25_2 g t j), (7, I (downF g t j)), (30, B (decide ((downF g t j) ≥ 0)))], [(z25_0 g), (z25_3 g t j)]⟩ ?_
 refine AOps.s [3, 4, 5, 6, 7, 8] 9 30 36 37 true (decide ((downF g t j) ≥ 0)) (decide ((IntKind.i64.wrap ((downF g t j) + g.Size)) > t)) [1, 2, 6, 7] (fun h_ => ?_) ?_
 clear h_
 refine AOps.m [3, 4, 5, 6, 7, 8] ⟨[(1, I t), sp 2, (z25_2 g t j), (7, I (downF g t j)), (30, B true), (36, B (decide ((IntKind.i64.wrap ((downF g t j) + g.Size)) > t)))], [(z25_0 g), (z25_3 g t j)]⟩ ?_
 exact scd
 refine AOps.le (st' := ⟨[(1, I t), sp 2, (z25_2 g t j), (7, I (downF g t j)), (37, B ((decide ((downF g t j) ≥ 0)) && (decide (((downF g t j) + g.Size) > t))))], [(z25_0 g), (z25_3 g t j)]⟩) (Le.of (lk rfl (lk rfl (lk rfl (lk rfl (LeS.cons rfl (TLe.b (by rw [wrap_in (n := ((downF g t j) + g.Size)) (by omega) (by omega)] <;> rfl)) LeS.nil))))) (ek rfl (ek rfl LeE.nil)) (by kernel_rfl)) ?_
 refine AOps.done ?_
 refine AC.cd (b := (decide ((downF g t j) ≥ 0)) && (decide (((downF g t j) + g.Size) > t))) (fun h_ => ?_) (fun h_ => ?_)
 have h2 := h_; have r2 := h_; clear h_; try simp only [bb] at h2
 refine AC.skip ?_
 refine AC.seq ?_
 refine AC.block ?_
 refine AC.rR [0, 1, 2, 3, 4] ?_
 refine AOps.mc [0, 1, 2, 3] (C' := ((downTo g t j).length = (downTo g t j).length ∧ (downTo g t j).length + 1 ≤ 9223372036854775807 ∧ ((downTo g t j).length + 1) * 8 ≤ 140737488355328) ∧ True) ⟨[(1, I t), sp 2, (7, I (downF g t j)), (45, tG 1006 1 0 ((downTo g t j).length + 1))], [(z25_0 g), (1006, .arr 3 1 ((downTo g t j).length + 1) fun i_ j_ => bif Nat.blt i_ (downTo g t j).length then nth (eI ((downTo g t j).getD i_ 0)) j_ else (fun i_ j_ => nth [dI (downF g t j)] (i_ * 1 + j_)) (i_ - (downTo g t j).length) j_)]⟩ (⟨by (try simp only [downTo_len, List.length_take, List.length_reverse, true_and]); omega, trivial⟩) ?_
 refine AOps.le (st' := ⟨[(1, I t), sp 2, (7, I (downF g t j)), (45, tG 1006 1 0 ((downTo g t j ++ [(downF g t j)]).length))], [(z25_0 g), (z25_4 g t j)]⟩) (Le.of (lk rfl (lk rfl (lk rfl (LeS.cons rfl (TLe.gs (len1 _ _)) LeS.nil)))) (ek rfl (LeE.cons rfl (BLe.app1 (e := 3) (sz := 1) (enc := eI) (d := 0) (L := downTo g t j) (x := (downF g t j)) (g := fun i_ j_ => nth [dI (downF g t j)] (i_ * 1 + j_)) (fun j_ hj_ => by simp only [Nat.zero_mul, Nat.zero_add] <;> rfl)) LeE.nil)) (by kernel_rfl)) ?_
 refine AOps.e ⟨[(1, I t), sp 2, (z25_5 g t j), (7, I (downF g t j))], [(z25_0 g), (z25_4 g t j)]⟩ ?_
 refine AC.rR [0, 1, 2, 3, 4] ?_
 refine AOps.m [0, 1, 2, 3, 4] ⟨[(1, I t), sp 2, (z25_5 g t j), (7, I (IntKind.i64.wrap ((downF g t j) - g.Hop)))], [(z25_0 g), (z25_4 g t j)]⟩ ?_
 refine AOps.le (st' := ⟨[(1, I t), sp 2, (z25_5 g t j), (7, I ((downF g t j) - g.Hop))], [(z25_0 g), (z25_4 g t j)]⟩) (Le.of (lk rfl (lk rfl (lk rfl (LeS.cons rfl (TLe.i (by rw [wrap_in (n := ((downF g t j) - g.Hop)) (by omega) (by omega)] <;> omega)) LeS.nil)))) (ek rfl (ek rfl LeE.nil)) (by kernel_rfl)) ?_
 refine AOps.done ?_
 try refine blockA_n ?_
 refine roundA_n (j + 1) (by have h8_ := down_8 (t := t) (j := j) hM (by omega) (by omega); refine ⟨by omega, fun i hi => ?_⟩; by_cases e : i = j; (subst e; omega); exact i2 i (by omega)) (by show 9 - (j + 1) < 9 - j; omega) (Le.of (lk rfl (lk rfl (LeS.cons rfl (TLe.gs (congrArg List.length ?_)) (LeS.cons rfl (TLe.i (by first | omega | exact downF_zero g t | exact downF_succ g t j | (simp [downTo_len]; done))) LeS.nil)))) (ek rfl (LeE.cons rfl (BLe.eq (congrArg (arow 3 1 eI 0) ?_)) LeE.nil)) (by kernel_rfl))
 iterate 2 (· first | rfl | exact downTo_succ g t j | exact rev_snoc (by omega))
 have h2 := h_; have r2 := h_; clear h_; try simp only [bb] at h2
 refine AC.exit ?_
 repeat (first | refine thenA_x ?_ | refine roundA_x ?_ | refine joinA_x ?_ | refine blockA_hit ?_ | refine blockA_miss (by decide) ?_)
 have hE := starts_eq (t := t) (j := j) hM (by omega) i2 (by omega)
 have hl_ := downTo_len g t j
 refine AC.q ⟨[(z25_2 g t j), (z25_6)], [(z25_3 g t j)]⟩ ?_
 refine AC.seq ?_
 refine AC.rS [0, 1, 2, 3] ?_
 refine AOps.m [0, 1, 2, 3] ⟨[(z25_2 g t j), (z25_6), (9, I (IntKind.i64.wrap (((downTo g t j).length : Int) - 1)))], [(z25_3 g t j)]⟩ ?_
 refine AOps.le (st' := ⟨[(z25_2 g t j), (z25_6), (z25_7 g t j)], [(z25_3 g t j)]⟩) (Le.of (lk rfl (lk rfl (LeS.cons rfl (TLe.i (by rw [wrap_in (n := (((downTo g t j).length : Int) - 1)) (by omega) (by omega)] <;> omega)) LeS.nil))) (ek rfl LeE.nil) (by kernel_rfl)) ?_
 refine AOps.done ?_
 refine AC.block ?_
 refine AC.fz 1006 (0 + (downTo g t j).length ≤ (downTo g t j).length ∧ True) ⟨[(6, tD (.sl 1 ((downTo g t j).length) (fun i_ j_ => nth (eI ((downTo g t j).getD (0 + i_) 0)) j_))), (z25_6), (z25_7 g t j)], []⟩ ⟨by omega, trivial⟩ ?_ rfl
 refine AC.le (st' := ⟨[(z25_8 g t j), (z25_6), (z25_7 g t j)], []⟩) (Le.of (LeS.cons rfl (TLe.one (ULe.c (CLe.d (DLe.row0)))) (lk rfl (lk rfl LeS.nil))) LeE.nil (by kernel_rfl)) ?_
 refine AC.nl 1008 8 3 1 (fun i_ j_ => nth (eI (([] : List Int).getD i_ 0)) j_) ⟨[(z25_8 g t j), (8, tG 1008 1 0 (([] : List Int).length)), (z25_7 g t j)], [(1008, arow 3 1 eI 0 ([] : List Int))]⟩ ?_
 refine AC.loop (ι := Nat) (fun m => ⟨[(z25_8 g t j), (8, tG 1008 1 0 (((downTo g t j).reverse.take m).length)), (z25_9 g t j m)], [(z25_10 g t j m)]⟩) (fun m => (m ≤ (downTo g t j).length)) (fun m => (downTo g t j).length - m) (0) (by omega) (Le.of (lk rfl (LeS.cons rfl (TLe.gs (congrArg List.length ?_)) (LeS.cons rfl (TLe.i (by first | omega | exact downF_zero g t | exact downF_succ g t j | (simp [downTo_len]; done))) LeS.nil))) (LeE.cons rfl (BLe.eq (congrArg (arow 3 1 eI 0) ?_)) LeE.nil) (by kernel_rfl)) ?_
 iterate 2 (· first | rfl | exact downTo_succ g t j | exact rev_snoc (by omega))
 intro m hi_
 have i1 : m ≤ (downTo g t j).length := hi_; clear hi_
 show AC _ _ ⟨[(z25_8 g t j), (8, tG 1008 1 0 (((downTo g t j).reverse.take m).length)), (z25_9 g t j m)], [(z25_10 g t j m)]⟩ _
 refine AC.seq ?_
 refine AC.q ⟨[(z25_8 g t j), (8, tG 1008 1 0 (((downTo g t j).reverse.take m).length)), (z25_9 g t j m), (50, B (decide ((((downTo g t j).length : Int) - 1 - (m : Int)) ≥ 0)))], [(z25_10 g t j m)]⟩ ?_
 refine AC.cd (b := decide ((((downTo g t j).length : Int) - 1 - (m : Int)) ≥ 0)) (fun h_ => ?_) (fun h_ => ?_)
 have h3 := h_; have r3 := h_; clear h_; try simp only [bb] at h3
 refine AC.skip ?_
 refine AC.seq ?_
 refine AC.block ?_
 refine AC.rR [0, 1, 2, 3, 4, 5, 6, 7] ?_
 refine AOps.mc [0, 1, 2, 3, 4, 5, 6] (C' := (0 ≤ ((downTo g t j).length : Int) - 1 - (m : Int) ∧ ((downTo g t j).length : Int) - 1 - (m : Int) < ((downTo g t j).length : Int)) ∧ (((downTo g t j).reverse.take m).length = ((downTo g t j).reverse.take m).length ∧ ((downTo g t j).reverse.take m).length + 1 ≤ 9223372036854775807 ∧ (((downTo g t j).reverse.take m).length + 1) * 8 ≤ 140737488355328) ∧ True) ⟨[(z25_8 g t j), (z25_9 g t j m), (59, tG 1008 1 0 (((downTo g t j).reverse.take m).length + 1))], [(1008, .arr 3 1 (((downTo g t j).reverse.take m).length + 1) fun i_ j_ => bif Nat.blt i_ ((downTo g t j).reverse.take m).length then nth (eI (((downTo g t j).reverse.take m).getD i_ 0)) j_ else (fun i_ j_ => nth [dI ((downTo g t j).getD ((((downTo g t j).length : Int) - 1 - (m : Int)).toNat) 0)] (i_ * 1 + j_)) (i_ - ((downTo g t j).reverse.take m).length) j_)]⟩ (⟨by omega, by (try simp only [downTo_len, List.length_take, List.length_reverse, true_and]); omega, trivial⟩) ?_
 refine AOps.le (st' := ⟨[(z25_8 g t j), (z25_9 g t j m), (59, tG 1008 1 0 (((downTo g t j).reverse.take m ++ [((downTo g t j).getD ((((downTo g t j).length : Int) - 1 - (m : Int)).toNat) 0)]).length))], [(z25_11 g t j m)]⟩) (Le.of (lk rfl (lk rfl (LeS.cons rfl (TLe.gs (len1 _ _)) LeS.nil))) (LeE.cons rfl (BLe.app1 (e := 3) (sz := 1) (enc := eI) (d := 0) (L := (downTo g t j).reverse.take m) (x := ((downTo g t j).getD ((((downTo g t j).length : Int) - 1 - (m : Int)).toNat) 0)) (g := fun i_ j_ => nth [dI ((downTo g t j).getD ((((downTo g t j).length : Int) - 1 - (m : Int)).toNat) 0)] (i_ * 1 + j_)) (fun j_ hj_ => by simp only [Nat.zero_mul, Nat.zero_add] <;> rfl)) LeE.nil) (by kernel_rfl)) ?_
 refine AOps.e ⟨[(z25_8 g t j), (z25_12 g t j m), (z25_9 g t j m)], [(z25_11 g t j m)]⟩ ?_
 refine AC.rR [0, 1, 2] ?_
 refine AOps.m [0, 1, 2] ⟨[(z25_8 g t j), (z25_12 g t j m), (9, I (IntKind.i64.wrap ((((downTo g t j).length : Int) - 1 - (m : Int)) - 1)))], [(z25_11 g t j m)]⟩ ?_
 refine AOps.le (st' := ⟨[(z25_8 g t j), (z25_12 g t j m), (9, I ((((downTo g t j).length : Int) - 1 - (m : Int)) - 1))], [(z25_11 g t j m)]⟩) (Le.of (lk rfl (lk rfl (LeS.cons rfl (TLe.i (by rw [wrap_in (n := ((((downTo g t j).length : Int) - 1 - (m : Int)) - 1)) (by omega) (by omega)] <;> omega)) LeS.nil))) (ek rfl LeE.nil) (by kernel_rfl)) ?_
 refine AOps.done ?_
 try refine blockA_n ?_
 refine roundA_n (m + 1) (by omega) (by show (downTo g t j).length - (m + 1) < (downTo g t j).length - m; omega) (Le.of (lk rfl (LeS.cons rfl (TLe.gs (congrArg List.length ?_)) (LeS.cons rfl (TLe.i (by first | omega | exact downF_zero g t | exact downF_succ g t j | (simp [downTo_len]; done))) LeS.nil))) (LeE.cons rfl (BLe.eq (congrArg (arow 3 1 eI 0) ?_)) LeE.nil) (by kernel_rfl))
 iterate 2 (· first | rfl | exact downTo_succ g t j | exact rev_snoc (by omega))
 have h3 := h_; have r3 := h_; clear h_; try simp only [bb] at h3
 refine AC.exit ?_
 repeat (first | refine thenA_x ?_ | refine roundA_x ?_ | refine joinA_x ?_ | refine blockA_hit ?_ | refine blockA_miss (by decide) ?_)
 refine AC.q ⟨[(4, tG 1008 1 0 (((downTo g t j).reverse.take m).length)), (5, I 0)], [(z25_10 g t j m)]⟩ ?_
 refine AC.fz 1008 (0 + ((downTo g t j).reverse.take m).length ≤ ((downTo g t j).reverse.take m).length ∧ True) ⟨[(4, tD (.sl 1 (((downTo g t j).reverse.take m).length) (fun i_ j_ => nth (eI (((downTo g t j).reverse.take m).getD (0 + i_) 0)) j_))), (5, I 0)], []⟩ ⟨by omega, trivial⟩ ?_ rfl
 refine AC.le (st' := ⟨[(4, tD (row 1 eI 0 ((downTo g t j).reverse.take m))), (5, I 0)], []⟩) (Le.of (LeS.cons rfl (TLe.one (ULe.c (CLe.d (DLe.row0)))) (lk rfl LeS.nil)) LeE.nil (by kernel_rfl)) ?_
 refine AC.ret ?_
 refine rqr (ustarts14 g t) (All2.cons (ULe.c (CLe.d (DLe.eq (congrArg (row 1 eI 0) (show ((downTo g t j).reverse.take m) = (gridStarts g t) from ?_))))) (All2.cons (ULe.c (CLe.d (DLe.eq (congrArg dI (show (0) = (startsErr g t) from ?_))))) All2.nil))
 iterate 2 (· first | (rw [gridStarts, if_pos (time_yes (by assumption) (by omega) (by omega)), ← hE, List.take_of_length_le (by simp; omega)]; done) | (rw [startsErr, if_pos (time_yes (by assumption) (by omega) (by omega))]; done) | (rw [gridStarts, if_neg (time_no14 (by assumption))]; done) | (rw [startsErr, if_neg (time_no14 (by assumption))]; done))
end Go.Proofs.Ytfpmgnkbklnkaaa.Eng
end
section
set_option linter.unusedSimpArgs false
set_option linter.unusedVariables false
set_option maxRecDepth 100000
set_option maxHeartbeats 4000000
namespace Go.Proofs.Ytfpmgnkbklnkaaa.Eng
open Go Go.Proofs
abbrev uput01 (n : Int) : List U := [.c (.d (dS (putB n)))]
abbrev z48_0 (n : Int) : Nat × T := (3, tD (dK .u64 (IntKind.u64.wrap ((IntKind.u64.wrap n) * 2))))
abbrev z48_1 (u : Nat) : Nat × T := (3, tD (dK .u64 (u : Int)))
abbrev z48_2 (u : Nat) (L : List Int) : Nat × Blk := (1004, arow 5 1 (eK .u8) 0 (L ++ [IntKind.u8.wrap (IntKind.u64.wrap ((Int.tmod (u : Int) (128 : Int)) + 128))]))
abbrev z48_3 (u : Nat) (L : List Int) : Nat × T := (4, tG 1004 1 0 ((L ++ [IntKind.u8.wrap (IntKind.u64.wrap ((Int.tmod (u : Int) (128 : Int)) + 128))]).length))
abbrev z48_4 (u : Nat) (L : List Int) : Nat × Blk := (1004, arow 5 1 (eK .u8) 0 (L ++ [IntKind.u8.wrap (u : Int)]))
/-- headgate/headgateref01.Put. -/
theorem ok_put01 (n : Int) (hn_ : R64 n) :
 FnOk Try.prog 48 [.c (.d (dI n))] (fun r_ => r_ = tD (dS (putB n))) := by
 refine FnOk.go Try.func48 rfl 34 ?_
 intro w0 m0
 show AC _ _ ⟨[(0, I n)], []⟩ _
 refine AC.q ⟨[(0, I n)], []⟩ ?_
 refine AC.q ⟨[(0, I n), (z48_0 n)], []⟩ ?_
 refine AC.join (ι := Unit) (fun _ => ⟨[(3, tD (dK .u64 (bif decide (n < 0) then IntKind.u64.wrap ((IntKind.u64.wrap ((IntKind.u64.wrap (0 - (n + 1))) * 2)) + 1) else IntKind.u64.wrap ((IntKind.u64.wrap n) * 2))))], []⟩) (fun _ => True) ?_ ?_
 refine AC.q ⟨[(0, I n), (z48_0 n), (9, B (decide (n < 0)))], []⟩ ?_
 refine AC.cd (b := decide (n < 0)) (fun h_ => ?_) (fun h_ => ?_)
 have h1 := h_; have r1 := h_; clear h_; try simp only [bb] at h1
 refine AC.rR [0, 1, 2, 3, 4, 5, 6] ?_
 refine AOps.m [0, 1, 2, 3, 4, 5, 6] ⟨[(3, tD (dK .u64 (IntKind.u64.wrap ((IntKind.u64.wrap ((IntKind.u64.wrap (IntKind.i64.wrap (0 - (IntKind.i64.wrap (n + 1))))) * 2)) + 1))))], []⟩ ?_
 refine AOps.le (st' := ⟨[(3, tD (dK .u64 (IntKind.u64.wrap ((IntKind.u64.wrap ((IntKind.u64.wrap (0 - (n + 1))) * 2)) + 1))))], []⟩) (Le.of (LeS.cons rfl (TLe.eq (congrArg (fun x_ => T.one (U.c (C.d (dK .u64 x_)))) (show ((IntKind.u64.wrap ((IntKind.u64.wrap ((IntKind.u64.wrap (IntKind.i64.wrap (0 - (IntKind.i64.wrap (n + 1))))) * 2)) + 1)) : Int) = (IntKind.u64.wrap ((IntKind.u64.wrap ((IntKind.u64.wrap (0 - (n + 1))) * 2)) + 1)) by rw [wrap_in (n := (n + 1)) (by omega) (by omega), wrap_in (n := (0 - (n + 1))) (by omega) (by omega)] <;> omega))) LeS.nil) LeE.nil (by kernel_rfl)) ?_
 refine AOps.done ?_
 refine joinA_n () trivial (Le.of (LeS.cons rfl (TLe.eq (congrArg (fun x_ => T.one (U.c (C.d (dK .u64 x_)))) (show ((IntKind.u64.wrap ((IntKind.u64.wrap ((IntKind.u64.wrap (0 - (n + 1))) * 2)) + 1)) : Int) = ((bif decide (n < 0) then IntKind.u64.wrap ((IntKind.u64.wrap ((IntKind.u64.wrap (0 - (n + 1))) * 2)) + 1) else IntKind.u64.wrap ((IntKind.u64.wrap n) * 2))) by first | rfl | exact jt (by assumption) | exact jf (by assumption)))) LeS.nil) LeE.nil (by kernel_rfl))
 have h1 := h_; have r1 := h_; clear h_; try simp only [bb] at h1
 refine AC.skip ?_
 refine joinA_n () trivial (Le.of (LeS.cons rfl (TLe.eq (congrArg (fun x_ => T.one (U.c (C.d (dK .u64 x_)))) (show ((IntKind.u64.wrap ((IntKind.u64.wrap n) * 2)) : Int) = ((bif decide (n < 0) then IntKind.u64.wrap ((IntKind.u64.wrap ((IntKind.u64.wrap (0 - (n + 1))) * 2)) + 1) else IntKind.u64.wrap ((IntKind.u64.wrap n) * 2))) by first | rfl | exact jt (by assumption) | exact jf (by assumption)))) LeS.nil) LeE.nil (by kernel_rfl))
 intro _ _
 refine AC.le (st' := ⟨[(3, tD (dK .u64 (zig n : Int)))], []⟩) (Le.of (LeS.cons rfl (TLe.eq (congrArg (fun x_ => T.one (U.c (C.d (dK .u64 x_)))) (show (((bif decide (n < 0) then IntKind.u64.wrap ((IntKind.u64.wrap ((IntKind.u64.wrap (0 - (n + 1))) * 2)) + 1) else IntKind.u64.wrap ((IntKind.u64.wrap n) * 2))) : Int) = ((zig n : Int)) by exact zig_eq hn_))) LeS.nil) LeE.nil (by kernel_rfl)) ?_
 refine AC.q ⟨[(3, tD (dK .u64 (zig n : Int))), (4, tD (.v (.slice none 0 0)))], []⟩ ?_
 refine AC.seq ?_
 refine AC.block ?_
 refine AC.nl 1004 4 5 1 (fun i_ j_ => nth ((eK .u8) (([] : List Int).getD i_ 0)) j_) ⟨[(3, tD (dK .u64 (zig n : Int))), (4, tG 1004 1 0 (([] : List Int).length))], [(1004, arow 5 1 (eK .u8) 0 ([] : List Int))]⟩ ?_
 refine AC.loop (ι := Nat × List Int × Nat) (fun x_ => match x_ with | (u, L, j) => ⟨[(z48_1 u), (4, tG 1004 1 0 L.length)], [(1004, arow 5 1 (eK .u8) 0 L)]⟩) (fun x_ => match x_ with | (u, L, j) => (PutI n u L j)) (fun x_ => match x_ with | (u, L, j) => u) ((zig n), ([] : List Int), 0) (by exact put_begin hn_) (Le.of (LeS.cons rfl (TLe.eq (congrArg (fun x_ => T.one (U.c (C.d (dK .u64 x_)))) (show (((zig n : Int)) : Int) = (((zig n) : Int)) by omega))) (lk rfl LeS.nil)) (ek rfl LeE.nil) (by kernel_rfl)) ?_
 intro x_ hi_
 obtain ⟨u, L, j⟩ := x_
 have i1 : PutI n u L j := hi_; clear hi_
 show AC _ _ ⟨[(z48_1 u), (4, tG 1004 1 0 L.length)], [(1004, arow 5 1 (eK .u8) 0 L)]⟩ _
 have hj9 := i1.2.1; have hLj := i1.2.2.1; have hu64 := put_u64 i1
 refine AC.seq ?_
 refine AC.q ⟨[(z48_1 u), (4, tG 1004 1 0 L.length), (17, B (decide ((u : Int) > 127)))], [(1004, arow 5 1 (eK .u8) 0 L)]⟩ ?_
 refine AC.cd (b := decide ((u : Int) > 127)) (fun h_ => ?_) (fun h_ => ?_)
 have h1 := h_; have r1 := h_; clear h_; try simp only [bb] at h1
 refine AC.skip ?_
 refine AC.block ?_
 refine AC.rS [0, 1, 2, 3, 4, 5, 6, 7] ?_
 refine AOps.mc [0, 1, 2, 3, 4, 5, 6] (C' := ((128 : Int) ≠ 0) ∧ (L.length = L.length ∧ L.length + 1 ≤ 9223372036854775807 ∧ (L.length + 1) * 1 ≤ 140737488355328) ∧ True) ⟨[(z48_1 u), (24, tG 1004 1 0 (L.length + 1))], [(1004, .arr 5 1 (L.length + 1) fun i_ j_ => bif Nat.blt i_ L.length then nth ((eK .u8) (L.getD i_ 0)) j_ else (fun i_ j_ => nth [dK .u8 (IntKind.u8.wrap (IntKind.u64.wrap ((Int.tmod (u : Int) (128 : Int)) + 128)))] (i_ * 1 + j_)) (i_ - L.length) j_)]⟩ (⟨by omega, by simp only [true_and]; omega, trivial⟩) ?_
 refine AOps.le (st' := ⟨[(z48_1 u), (24, tG 1004 1 0 ((L ++ [IntKind.u8.wrap (IntKind.u64.wrap ((Int.tmod (u : Int) (128 : Int)) + 128))]).length))], [(z48_2 u L)]⟩) (Le.of (lk rfl (LeS.cons rfl (TLe.gs (len1 _ _)) LeS.nil)) (LeE.cons rfl (BLe.app1 (e := 5) (sz := 1) (enc := (eK .u8)) (d := 0) (L := L) (x := IntKind.u8.wrap (IntKind.u64.wrap ((Int.tmod (u : Int) (128 : Int)) + 128))) (g := fun i_ j_ => nth [dK .u8 (IntKind.u8.wrap (IntKind.u64.wrap ((Int.tmod (u : Int) (128 : Int)) + 128)))] (i_ * 1 + j_)) (fun j_ hj_ => by simp only [Nat.zero_mul, Nat.zero_add] <;> rfl)) LeE.nil) (by kernel_rfl)) ?_
 refine AOps.e ⟨[(z48_1 u), (z48_3 u L)], [(z48_2 u L)]⟩ ?_
 refine AC.rR [0, 1, 2] ?_
 refine AOps.ec (C' := ((128 : Int) ≠ 0) ∧ True) ⟨[(3, tD (dK .u64 (IntKind.u64.wrap (Int.tdiv (u : Int) (128 : Int))))), (z48_3 u L)], [(z48_2 u L)]⟩ (⟨by omega, trivial⟩) ?_
 try refine blockA_n ?_
 exact roundA_n (u / 128, (L ++ [IntKind.u8.wrap (IntKind.u64.wrap ((Int.tmod (u : Int) (128 : Int)) + 128))]), j + 1) (by exact put_next i1 (by omega)) (by show (u / 128) < u; omega) (Le.of (LeS.cons rfl (TLe.eq (congrArg (fun x_ => T.one (U.c (C.d (dK .u64 x_)))) (show ((IntKind.u64.wrap (Int.tdiv (u : Int) (128 : Int))) : Int) = (((u / 128) : Int)) by first | rfl | exact div128 (by omega) | omega))) (lk rfl LeS.nil)) (ek rfl LeE.nil) (by kernel_rfl))
 have h1 := h_; have r1 := h_; clear h_; try simp only [bb] at h1
 refine AC.exit ?_
 repeat (first | refine thenA_x ?_ | refine roundA_x ?_ | refine joinA_x ?_ | refine blockA_hit ?_ | refine blockA_miss (by decide) ?_)
 refine AC.rS [0, 1, 2, 3, 4, 5] ?_
 refine AOps.mc [0, 1, 2, 3, 4] (C' := (L.length = L.length ∧ L.length + 1 ≤ 9223372036854775807 ∧ (L.length + 1) * 1 ≤ 140737488355328) ∧ True) ⟨[(31, tG 1004 1 0 (L.length + 1))], [(1004, .arr 5 1 (L.length + 1) fun i_ j_ => bif Nat.blt i_ L.length then nth ((eK .u8) (L.getD i_ 0)) j_ else (fun i_ j_ => nth [dK .u8 (IntKind.u8.wrap (u : Int))] (i_ * 1 + j_)) (i_ - L.length) j_)]⟩ (⟨by simp only [true_and]; omega, trivial⟩) ?_
 refine AOps.le (st' := ⟨[(31, tG 1004 1 0 ((L ++ [IntKind.u8.wrap (u : Int)]).length))], [(z48_4 u L)]⟩) (Le.of (LeS.cons rfl (TLe.gs (len1 _ _)) LeS.nil) (LeE.cons rfl (BLe.app1 (e := 5) (sz := 1) (enc := (eK .u8)) (d := 0) (L := L) (x := IntKind.u8.wrap (u : Int)) (g := fun i_ j_ => nth [dK .u8 (IntKind.u8.wrap (u : Int))] (i_ * 1 + j_)) (fun j_ hj_ => by simp only [Nat.zero_mul, Nat.zero_add] <;> rfl)) LeE.nil) (by kernel_rfl)) ?_
 refine AOps.e ⟨[(4, tG 1004 1 0 ((L ++ [IntKind.u8.wrap (u : Int)]).length))], [(z48_4 u L)]⟩ ?_
 refine AC.rS [0, 1, 2] ?_
 refine AOps.m [0] ⟨[(32, tG 1004 1 0 ((L ++ [IntKind.u8.wrap (u : Int)]).length))], [(z48_4 u L)]⟩ ?_
 refine AOps.toStr rfl (by kernel_rfl) rfl (e := 5) (by kernel_rfl) (by kernel_rfl) (by kernel_rfl) (n := 1004) (L := (L ++ [IntKind.u8.wrap (u : Int)])) (k := (L ++ [IntKind.u8.wrap (u : Int)]).length) (by kernel_rfl) rfl rfl (fun _ _ => rfl) rfl (by kernel_rfl) ?_
 refine AOps.n ⟨[(33, tD (dS (strB (L ++ [IntKind.u8.wrap (u : Int)]))))], []⟩ ?_
 refine AOps.e ⟨[(2, tD (dS (strB (L ++ [IntKind.u8.wrap (u : Int)]))))], []⟩ ?_
 refine AC.ret ?_
 exact rqr (uput01 n) (All2.cons (ULe.c (CLe.d (DLe.eq (congrArg dS (show ((strB (L ++ [IntKind.u8.wrap (u : Int)]))) = (putB n) by exact put_end i1 (by omega)))))) All2.nil)
end Go.Proofs.Ytfpmgnkbklnkaaa.Eng
end
section
set_option linter.unusedSimpArgs false
set_option linter.unusedVariables false
set_option maxRecDepth 100000
set_option maxHeartbeats 4000000
namespace Go.Proofs.Ytfpmgnkbklnkaaa.Eng
open Go Go.Proofs
abbrev utake01 (s : ByteArray) : List U := [.c (.d (dI (takeN s))), .c (.d (dS (takeRest s))), .c (.d (dI (takeErr s)))]
abbrev z58_0 (s : ByteArray) (k : Nat) (m : Nat) : Nat × T := (6, tD (dK .u64 ((hor s k m : Nat) : Int)))
abbrev z58_1 (s : ByteArray) (k : Nat) (m : Nat) : Nat × T := (6, tD (dK .u64 (IntKind.u64.wrap ((IntKind.u64.wrap (((hor s k m : Nat) : Int) * 128)) + (Int.tmod (IntKind.u64.wrap (((byteAt s (((k : Int) - (m : Int)).toNat)).toNat : Nat) : Int)) (128 : Int))))))
/-- headgate/headgateref01.Take. -/
theorem ok_take01 (s : ByteArray) :
 FnOk Try.prog 58 [.c (.d (dS s))] (fun r_ => r_ = .tup [.c (.d (dI (takeN s))), .c (.d (dS (takeRest s))), .c (.d (dI (takeErr s)))]) := by
 refine FnOk.go Try.func58 rfl 67 ?_
 intro w0 m0
 show AC _ _ ⟨[(0, tD (dS s))], []⟩ _
 refine AC.q ⟨[(0, tD (dS s))], []⟩ ?_
 refine AC.q ⟨[(0, tD (dS s)), (5, I 0)], []⟩ ?_
 refine AC.seq ?_
 refine AC.block ?_
 refine AC.loop (ι := Nat) (fun k => ⟨[(0, tD (dS s)), (5, I (k : Int))], []⟩) (fun k => (k ≤ s.size ∧ k ≤ 10 ∧ ∀ i, i < k → 127 < byteN s i)) (fun k => 10 - k) (0) (by exact ⟨by omega, by omega, fun i hi => by omega⟩) (Le.of (lk rfl (LeS.cons rfl (TLe.i (by rfl)) LeS.nil)) LeE.nil (by kernel_rfl)) ?_
 intro k hi_
 obtain ⟨i1, i2, i3⟩ := hi_
 show AC _ _ ⟨[(0, tD (dS s)), (5, I (k : Int))], []⟩ _
 refine AC.seq ?_
 refine AC.rS [0, 1, 2, 3, 4, 5, 6, 7, 8, 9, 10, 11, 12, 13] ?_
 refine AOps.m [0, 1, 2, 3, 4] ⟨[(0, tD (dS s)), (5, I (k : Int)), (13, B (decide ((k : Int) < (s.size : Int))))], []⟩ ?_
 refine AOps.s [5, 6] 7 13 15 16 true (decide ((k : Int) < (s.size : Int))) (decide ((k : Int) < 10)) [0, 5] (fun h_ => ?_) ?_
 clear h_
 refine AOps.m [5, 6] ⟨[(0, tD (dS s)), (5, I (k : Int)), (13, B true), (15, B (decide ((k : Int) < 10)))], []⟩ ?_
 exact scd
 refine AOps.m [8] ⟨[(0, tD (dS s)), (5, I (k : Int)), (17, B ((decide ((k : Int) < (s.size : Int))) && (decide ((k : Int) < 10))))], []⟩ ?_
 refine AOps.s [9, 10, 11, 12] 13 17 21 22 true ((decide ((k : Int) < (s.size : Int))) && (decide ((k : Int) < 10))) (decide ((((byteAt s k).toNat : Nat) : Int) > 127)) [0, 5] (fun h_ => ?_) ?_
 have h1 := h_; have r1 := h_; clear h_; try simp only [bb] at h1
 refine AOps.mc [9, 10, 11, 12] (C' := (0 ≤ (k : Int) ∧ (k : Int) < (s.size : Int)) ∧ True) ⟨[(0, tD (dS s)), (5, I (k : Int)), (17, B true), (21, B (decide ((((byteAt s k).toNat : Nat) : Int) > 127)))], []⟩ (⟨by omega, trivial⟩) ?_
 exact scd
 refine AOps.done ?_
 refine AC.cd (b := ((decide ((k : Int) < (s.size : Int))) && (decide ((k : Int) < 10))) && (decide ((((byteAt s k).toNat : Nat) : Int) > 127))) (fun h_ => ?_) (fun h_ => ?_)
 have h2 := h_; have r2 := h_; clear h_; try simp only [bb] at h2
 refine AC.skip ?_
 refine AC.block ?_
 refine AC.qR ⟨[(0, tD (dS s)), (5, I (IntKind.i64.wrap ((k : Int) + 1)))], []⟩ ?_
 try refine blockA_n ?_
 exact roundA_n (k + 1) (by refine ⟨by omega, by omega, fun i hi => ?_⟩; by_cases e : i = k; (subst e; show 127 < (byteAt s i).toNat; omega); exact i3 i (by omega)) (by show 10 - (k + 1) < 10 - k; omega) (Le.of (lk rfl (LeS.cons rfl (TLe.i (by first | rfl | omega | (rw [wrap_in (by omega) (by omega)]; omega))) LeS.nil)) LeE.nil (by kernel_rfl))
 have h2 := h_; have r2 := h_; clear h_; try simp only [bb] at h2
 refine AC.exit ?_
 repeat (first | refine thenA_x ?_ | refine roundA_x ?_ | refine joinA_x ?_ | refine blockA_hit ?_ | refine blockA_miss (by decide) ?_)
 refine AC.seq ?_
 refine AC.rS [0, 1, 2, 3, 4, 5, 6, 7] ?_
 refine AOps.m [0, 1, 2, 3, 4] ⟨[(0, tD (dS s)), (5, I (k : Int)), (29, B ((k : Int) == (s.size : Int)))], []⟩ ?_
 refine AOps.s [5, 6] 7 29 31 32 false ((k : Int) == (s.size : Int)) ((k : Int) == 10) [0, 5] (fun h_ => ?_) ?_
 clear h_
 refine AOps.m [5, 6] ⟨[(0, tD (dS s)), (5, I (k : Int)), (29, B false), (31, B ((k : Int) == 10))], []⟩ ?_
 exact scd
 refine AOps.done ?_
 refine AC.cd (b := ((k : Int) == (s.size : Int)) || ((k : Int) == 10)) (fun h_ => ?_) (fun h_ => ?_)
 have h3 := h_; have r3 := h_; clear h_; try simp only [bb] at h3
 have hK : takeK s = k := takeK_eq i1 i2 i3 (fun h1 h2 => by show (byteAt s k).toNat ≤ 127; omega)
 have hT := take_bad (take_no1 hK (by omega))
 refine AC.q ⟨[(2, I 0), (3, tD (dS (⟨#[]⟩ : ByteArray))), (4, I 2)], []⟩ ?_
 refine AC.ret ?_
 refine rqr (utake01 s) (All2.cons (ULe.c (CLe.d (DLe.eq (congrArg dI (show (0) = (takeN s) from ?_))))) (All2.cons (ULe.c (CLe.d (DLe.eq (congrArg dS (show ((⟨#[]⟩ : ByteArray)) = (takeRest s) from ?_))))) (All2.cons (ULe.c (CLe.d (DLe.eq (congrArg dI (show (2) = (takeErr s) from ?_))))) All2.nil)))
 iterate 3 (· first | exact hT.1.symm | exact hT.2.1.symm | exact hT.2.2.symm | (rw [hT.2.1, hK, cut_eq (by omega)]; rfl))
 have h3 := h_; have r3 := h_; clear h_; try simp only [bb] at h3
 refine AC.skip ?_
 have hK : takeK s = k := takeK_eq i1 i2 i3 (fun h1 h2 => by show (byteAt s k).toNat ≤ 127; omega)
 refine AC.q ⟨[(0, tD (dS s)), (5, I (k : Int)), (6, tD (dK .u64 0))], []⟩ ?_
 refine AC.seq ?_
 refine AC.q ⟨[(0, tD (dS s)), (5, I (k : Int)), (6, tD (dK .u64 0)), (7, I (k : Int))], []⟩ ?_
 refine AC.block ?_
 refine AC.loop (ι := Nat) (fun m => ⟨[(0, tD (dS s)), (5, I (k : Int)), (z58_0 s k m), (7, I ((k : Int) - (m : Int)))], []⟩) (fun m => (m ≤ k + 1)) (fun m => k + 1 - m) (0) (by omega) (Le.of (lk rfl (lk rfl (LeS.cons rfl (TLe.eq (congrArg (fun x_ => T.one (U.c (C.d (dK .u64 x_)))) (show ((0) : Int) = (((hor s k 0 : Nat) : Int)) from ?_))) (LeS.cons rfl (TLe.i ?_) LeS.nil)))) LeE.nil (by kernel_rfl)) ?_
 iterate 2 (· first | rfl | omega)
 intro m hi_
 have i1 : m ≤ k + 1 := hi_; clear hi_
 show AC _ _ ⟨[(0, tD (dS s)), (5, I (k : Int)), (z58_0 s k m), (7, I ((k : Int) - (m : Int)))], []⟩ _
 refine AC.seq ?_
 refine AC.q ⟨[(0, tD (dS s)), (5, I (k : Int)), (z58_0 s k m), (7, I ((k : Int) - (m : Int))), (35, B (decide (((k : Int) - (m : Int)) ≥ 0)))], []⟩ ?_
 refine AC.cd (b := decide (((k : Int) - (m : Int)) ≥ 0)) (fun h_ => ?_) (fun h_ => ?_)
 have h4 := h_; have r4 := h_; clear h_; try simp only [bb] at h4
 refine AC.skip ?_
 refine AC.seq ?_
 refine AC.block ?_
 refine AC.rR [0, 1, 2, 3, 4, 5, 6, 7, 8] ?_
 refine AOps.ec (C' := (0 ≤ (k : Int) - (m : Int) ∧ (k : Int) - (m : Int) < (s.size : Int)) ∧ ((128 : Int) ≠ 0) ∧ True) ⟨[(0, tD (dS s)), (5, I (k : Int)), (z58_1 s k m), (7, I ((k : Int) - (m : Int)))], []⟩ (⟨by omega, by omega, trivial⟩) ?_
 refine AC.qR ⟨[(0, tD (dS s)), (5, I (k : Int)), (z58_1 s k m), (7, I (IntKind.i64.wrap (((k : Int) - (m : Int)) - 1)))], []⟩ ?_
 try refine blockA_n ?_
 refine roundA_n (m + 1) (by omega) (by show k + 1 - (m + 1) < k + 1 - m; omega) (Le.of (lk rfl (lk rfl (LeS.cons rfl (TLe.eq (congrArg (fun x_ => T.one (U.c (C.d (dK .u64 x_)))) (show ((IntKind.u64.wrap ((IntKind.u64.wrap (((hor s k m : Nat) : Int) * 128)) + (Int.tmod (IntKind.u64.wrap (((byteAt s (((k : Int) - (m : Int)).toNat)).toNat : Nat) : Int)) (128 : Int)))) : Int) = (((hor s k (m + 1) : Nat) : Int)) from ?_))) (LeS.cons rfl (TLe.i ?_) LeS.nil)))) LeE.nil (by kernel_rfl))
 iterate 2 (· first | rfl | omega | exact hor_step (by omega) | (rw [wrap_in (by omega) (by omega)]; omega))
 have h4 := h_; have r4 := h_; clear h_; try simp only [bb] at h4
 refine AC.exit ?_
 repeat (first | refine thenA_x ?_ | refine roundA_x ?_ | refine joinA_x ?_ | refine blockA_hit ?_ | refine blockA_miss (by decide) ?_)
 refine AC.rS [0, 1, 2, 3] ?_
 refine AOps.ec (C' := ((2 : Int) ≠ 0) ∧ True) ⟨[(0, tD (dS s)), (5, I (k : Int)), (z58_0 s k m), (8, I (IntKind.i64.wrap (IntKind.u64.wrap (Int.tdiv ((hor s k m : Nat) : Int) (2 : Int)))))], []⟩ (⟨by omega, trivial⟩) ?_
 refine AC.join (ι := Unit) (fun _ => ⟨[(0, tD (dS s)), (5, I (k : Int)), (8, I (bif (Int.tmod ((takeU s : Nat) : Int) (2 : Int)) == 1 then IntKind.i64.wrap ((IntKind.i64.wrap (0 - ((takeU s / 2 : Nat) : Int))) - 1) else ((takeU s / 2 : Nat) : Int)))], []⟩) (fun _ => True) ?_ ?_
 have hU : takeU s = hor s k m := by rw [takeU, hK, show m = k + 1 by omega]
 refine AC.le (st' := ⟨[(0, tD (dS s)), (5, I (k : Int)), (6, tD (dK .u64 ((takeU s : Nat) : Int))), (8, I ((takeU s / 2 : Nat) : Int))], []⟩) (Le.of (lk rfl (lk rfl (LeS.cons rfl (TLe.eq (congrArg (fun x_ => T.one (U.c (C.d (dK .u64 x_)))) (show ((((hor s k m : Nat) : Int)) : Int) = (((takeU s : Nat) : Int)) from ?_))) (LeS.cons rfl (TLe.i ?_) LeS.nil)))) LeE.nil (by kernel_rfl)) ?_
 iterate 2 (· first | (rw [hU]; exact half_eq (hor_lt _ _ _)) | (rw [hU]))
 refine AC.rS [0, 1, 2] ?_
 refine AOps.ec (C' := ((2 : Int) ≠ 0) ∧ True) ⟨[(0, tD (dS s)), (5, I (k : Int)), (8, I ((takeU s / 2 : Nat) : Int)), (51, B ((Int.tmod ((takeU s : Nat) : Int) (2 : Int)) == 1))], []⟩ (⟨by omega, trivial⟩) ?_
 refine AC.cd (b := (Int.tmod ((takeU s : Nat) : Int) (2 : Int)) == 1) (fun h_ => ?_) (fun h_ => ?_)
 have h5 := h_; have r5 := h_; clear h_; try simp only [bb] at h5
 refine AC.qR ⟨[(0, tD (dS s)), (5, I (k : Int)), (8, I (IntKind.i64.wrap ((IntKind.i64.wrap (0 - ((takeU s / 2 : Nat) : Int))) - 1)))], []⟩ ?_
 refine joinA_n () trivial (Le.of (lk rfl (lk rfl (LeS.cons rfl (TLe.i (by first | rfl | exact jt (by assumption) | exact jf (by assumption))) LeS.nil))) LeE.nil (by kernel_rfl))
 have h5 := h_; have r5 := h_; clear h_; try simp only [bb] at h5
 refine AC.skip ?_
 refine joinA_n () trivial (Le.of (lk rfl (lk rfl (LeS.cons rfl (TLe.i (by first | rfl | exact jt (by assumption) | exact jf (by assumption))) LeS.nil))) LeE.nil (by kernel_rfl))
 intro _ _
 refine AC.seq ?_
 refine AC.le (st' := ⟨[(0, tD (dS s)), (5, I (k : Int)), (8, I (numOf (takeU s)))], []⟩) (Le.of (lk rfl (lk rfl (LeS.cons rfl (TLe.i (by exact numOf_eq (hor_lt _ _ _))) LeS.nil))) LeE.nil (by kernel_rfl)) ?_
 refine AC.dS 6 [] ⟨[(0, tD (dS s)), (5, I (k : Int)), (8, I (numOf (takeU s))), (55, I (numOf (takeU s))), (56, tD (dS (putB (numOf (takeU s))))), (57, tD (dS s)), (58, I (k : Int)), (59, I (IntKind.i64.wrap ((k : Int) + 1))), (60, tD (dS (s.extract (0 : Int).toNat (IntKind.i64.wrap ((k : Int) + 1) : Int).toNat)))], []⟩ [6] (.inl rfl) ?_ ?_
 · exact (au (au (ar 2 (au (au AllUpTo.zero ot) (oc (ok_put01 (numOf (takeU s)) (by exact numOf_in (hor_lt _ _ _)))))) ot) (OpAt.val rfl (by kernel_rfl) (C' := 0 ≤ (0 : Int) ∧ (0 : Int) ≤ IntKind.i64.wrap ((k : Int) + 1) ∧ IntKind.i64.wrap ((k : Int) + 1) ≤ (s.size : Int)) (x := tD (dS (s.extract (0 : Int).toNat (IntKind.i64.wrap ((k : Int) + 1) : Int).toNat))) (by kernel_rfl) (by (rw [wrap_in (by omega) (by omega)]; omega)) rfl (by kernel_rfl) (by kernel_rfl) (TLe.refl _) (by kernel_rfl) (by kernel_rfl) (by kernel_rfl)))
 refine AOps.e ⟨[(0, tD (dS s)), (5, I (k : Int)), (8, I (numOf (takeU s))), (61, B (!((putB (numOf (takeU s))).toList == (s.extract (0 : Int).toNat (IntKind.i64.wrap ((k : Int) + 1) : Int).toNat).toList)))], []⟩ ?_
 refine AC.cd (b := !((putB (numOf (takeU s))).toList == (s.extract (0 : Int).toNat (IntKind.i64.wrap ((k : Int) + 1) : Int).toNat).toList)) (fun h_ => ?_) (fun h_ => ?_)
 have h5 := h_; have r5 := h_; clear h_; try simp only [bb] at h5
 have hT := take_bad (take_no2 hK (by omega) (by assumption))
 refine AC.q ⟨[(2, I 0), (3, tD (dS (⟨#[]⟩ : ByteArray))), (4, I 2)], []⟩ ?_
 refine AC.ret ?_
 refine rqr (utake01 s) (All2.cons (ULe.c (CLe.d (DLe.eq (congrArg dI (show (0) = (takeN s) from ?_))))) (All2.cons (ULe.c (CLe.d (DLe.eq (congrArg dS (show ((⟨#[]⟩ : ByteArray)) = (takeRest s) from ?_))))) (All2.cons (ULe.c (CLe.d (DLe.eq (congrArg dI (show (2) = (takeErr s) from ?_))))) All2.nil)))
 iterate 3 (· first | exact hT.1.symm | exact hT.2.1.symm | exact hT.2.2.symm | (rw [hT.2.1, hK, cut_eq (by omega)]; rfl))
 have h5 := h_; have r5 := h_; clear h_; try simp only [bb] at h5
 refine AC.skip ?_
 have hT := take_good (take_yes hK (by omega) (by omega) (by assumption))
 refine AC.dS 6 [] ⟨[(0, tD (dS s)), (2, I (numOf (takeU s))), (5, I (k : Int)), (8, I (numOf (takeU s))), (62, I (numOf (takeU s))), (63, tD (dS s)), (64, I (k : Int)), (65, I (IntKind.i64.wrap ((k : Int) + 1))), (66, tD (dS (s.extract (IntKind.i64.wrap ((k : Int) + 1) : Int).toNat ((s.size : Int) : Int).toNat)))], []⟩ [6, 7] (.inl rfl) ?_ ?_
 · exact (au (au (ar 4 AllUpTo.zero) (OpAt.val rfl (by kernel_rfl) (C' := 0 ≤ (IntKind.i64.wrap ((k : Int) + 1) : Int) ∧ (IntKind.i64.wrap ((k : Int) + 1) : Int) ≤ (s.size : Int) ∧ (s.size : Int) ≤ (s.size : Int)) (x := tD (dS (s.extract (IntKind.i64.wrap ((k : Int) + 1) : Int).toNat ((s.size : Int) : Int).toNat))) (by kernel_rfl) (by (rw [wrap_in (by omega) (by omega)]; omega)) rfl (by kernel_rfl) (by kernel_rfl) (TLe.refl _) (by kernel_rfl) (by kernel_rfl) (by kernel_rfl))) ot)
 refine AOps.e ⟨[(2, I (numOf (takeU s))), (3, tD (dS (s.extract (IntKind.i64.wrap ((k : Int) + 1) : Int).toNat ((s.size : Int) : Int).toNat))), (4, I 0)], []⟩ ?_
 refine AC.ret ?_
 refine rqr (utake01 s) (All2.cons (ULe.c (CLe.d (DLe.eq (congrArg dI (show (numOf (takeU s)) = (takeN s) from ?_))))) (All2.cons (ULe.c (CLe.d (DLe.eq (congrArg dS (show ((s.extract (IntKind.i64.wrap ((k : Int) + 1) : Int).toNat ((s.size : Int) : Int).toNat)) = (takeRest s) from ?_))))) (All2.cons (ULe.c (CLe.d (DLe.eq (congrArg dI (show (0) = (takeErr s) from ?_))))) All2.nil)))
 iterate 3 (· first | exact hT.1.symm | exact hT.2.1.symm | exact hT.2.2.symm | (rw [hT.2.1, hK, cut_eq (by omega)]; rfl))
end Go.Proofs.Ytfpmgnkbklnkaaa.Eng
end
section
set_option linter.unusedSimpArgs false
set_option linter.unusedVariables false
set_option maxRecDepth 100000
set_option maxHeartbeats 4000000
namespace Go.Proofs.Ytfpmgnkbklnkaaa.Eng
open Go Go.Proofs
abbrev uvalue16 (r : Rec) : List U := [.c (.d (dI (valN r))), .c (.d (dB (valOk r)))]
/-- headgate/headgateref16.Value. -/
theorem ok_value16 (r : Rec) :
 FnOk Try.prog 28 [.agg ((eRec r).map .d)] (fun r_ => r_ = .tup [.c (.d (dI (valN r))), .c (.d (dB (valOk r)))]) := by
 refine FnOk.go Try.func28 rfl 21 ?_
 intro w0 m0
 show AC _ _ ⟨[(0, tA ((eRec r).map .d))], []⟩ _
 refine AC.q ⟨[sp 1], [(1, .var ((eRec r).map .d))]⟩ ?_
 refine AC.rS [0, 1, 2, 3, 4, 5, 6, 7, 8, 9] ?_
 refine AOps.m [0, 1] ⟨[(9, tD (dS r.Text))], []⟩ ?_
 refine AOps.ca (ok_take01 r.Text) ?_
 rintro _ rfl
 refine AOps.e ⟨[(4, I (takeN r.Text)), (5, tD (dS (takeRest r.Text))), (6, I (takeErr r.Text))], []⟩ ?_
 refine AC.rS [0, 1, 2, 3, 4, 5, 6, 7, 8] ?_
 refine AOps.m [0, 1, 2, 3] ⟨[(5, tD (dS (takeRest r.Text))), (14, I (takeN r.Text)), (17, B ((takeErr r.Text) == 0))], []⟩ ?_
 refine AOps.s [4, 5] 6 17 19 20 true ((takeErr r.Text) == 0) ((takeRest r.Text).toList == (⟨#[]⟩ : ByteArray).toList) [14] (fun h_ => ?_) ?_
 clear h_
 refine AOps.m [4, 5] ⟨[(14, I (takeN r.Text)), (17, B true), (19, B ((takeRest r.Text).toList == (⟨#[]⟩ : ByteArray).toList))], []⟩ ?_
 exact scd
 refine AOps.e ⟨[(2, I (takeN r.Text)), (3, B (((takeErr r.Text) == 0) && ((takeRest r.Text).toList == (⟨#[]⟩ : ByteArray).toList)))], []⟩ ?_
 refine AC.ret ?_
 refine rqr (uvalue16 r) (All2.cons (ULe.c (CLe.d (DLe.eq (congrArg dI (show (takeN r.Text) = (valN r) from ?_))))) (All2.cons (ULe.c (CLe.d (DLe.eq (congrArg dB (show (((takeErr r.Text) == 0) && ((takeRest r.Text).toList == (⟨#[]⟩ : ByteArray).toList)) = (valOk r) from ?_))))) All2.nil))
 iterate 2 (· first | rfl | exact rest_empty)
end Go.Proofs.Ytfpmgnkbklnkaaa.Eng
end
section
set_option linter.unusedSimpArgs false
set_option linter.unusedVariables false
set_option maxRecDepth 100000
set_option maxHeartbeats 4000000
namespace Go.Proofs.Ytfpmgnkbklnkaaa.Eng
open Go Go.Proofs
abbrev ufeed16 (g : Grid) (s : State) (r : Rec) : List U := [.agg ((eState (feedSt g s r)).map .d), .c (.d (row 12 eCell zCell (feedOver g s r))), .c (.d (dI (feedErr g s r)))]
abbrev z42_0 (g : Grid) : Nat × Blk := (3, .var ((eGrid g).map .d))
abbrev z42_1 (r : Rec) : Nat × Blk := (5, .var ((eRec r).map .d))
abbrev z42_2 : Nat × Blk := (6, .var ([.d (dI 0), .d (dI 0), .d (dI 0), .d (dI 0), .d (.v (.slice none 0 0))]))
abbrev z42_3 : Nat × T := (7, tD (.v (.slice none 0 0)))
abbrev z42_4 (s : State) : Nat × Blk := (4, .var ([.d (dI s.Mark), .d (dI s.Late), .d (dI s.Bad), .d (dI (s.N + 1)), .d (row 12 eCell zCell s.L)]))
abbrev z42_5 (g : Grid) (r : Rec) : Nat × T := (11, tD (row 1 eI 0 (gridStarts g r.Time)))
abbrev z42_6 (s : State) : Nat × T := (13, tD (row 12 eCell zCell s.L))
abbrev z42_7 (g : Grid) (s : State) (r : Rec) (i : Nat) : Nat × T := (13, tD (row 12 eCell zCell ((putTo g s.Mark r.Key (valN r) (gridStarts g r.Time) s.L i).1)))
abbrev z42_8 (g : Grid) (s : State) (r : Rec) (i : Nat) : Nat × T := (14, I ((putTo g s.Mark r.Key (valN r) (gridStarts g r.Time) s.L i).2 : Int))
abbrev z42_9 (g : Grid) (s : State) (r : Rec) (i : Nat) : Nat × T := (13, tD (row 12 eCell zCell (putC r.Key ((gridStarts g r.Time).getD i 0) (valN r) ((putTo g s.Mark r.Key (valN r) (gridStarts g r.Time) s.L i).1))))
abbrev z42_10 (g : Grid) (s : State) (r : Rec) (i : Nat) : Nat × T := (14, I (((putTo g s.Mark r.Key (valN r) (gridStarts g r.Time) s.L i).2 + 1 : Nat) : Int))
abbrev z42_11 (s : State) : Nat × Blk := (4, .var ([.d (dI s.Mark), .d (dI (s.Late + 1)), .d (dI s.Bad), .d (dI (s.N + 1)), .d (row 12 eCell zCell s.L)]))
abbrev z42_12 (s : State) (r : Rec) : Nat × Blk := (4, .var ([.d (dI r.Time), .d (dI (s.Late + 1)), .d (dI s.Bad), .d (dI (s.N + 1)), .d (row 12 eCell zCell s.L)]))
abbrev z42_13 : Nat × T := (16, tD (.v (.slice none 0 0)))
abbrev z42_14 : Nat × T := (17, tD (.v (.slice none 0 0)))
abbrev z42_15 : Nat × T := (16, tG 1016 12 0 (([] : List Cell).length))
abbrev z42_16 : Nat × Blk := (1016, arow 46 12 eCell zCell ([] : List Cell))
abbrev z42_17 : Nat × T := (17, tG 1017 12 0 (([] : List Cell).length))
abbrev z42_18 : Nat × Blk := (1017, arow 46 12 eCell zCell ([] : List Cell))
abbrev z42_19 (g : Grid) (s : State) (r : Rec) (q : Nat) : Nat × T := (16, tG 1016 12 0 (((s.L.take q).filter (fun c => !gridClosed g c.Start r.Time)).length))
abbrev z42_20 (g : Grid) (s : State) (r : Rec) (q : Nat) : Nat × T := (17, tG 1017 12 0 (((s.L.take q).filter (fun c => gridClosed g c.Start r.Time)).length))
abbrev z42_21 (g : Grid) (s : State) (r : Rec) (q : Nat) : Nat × Blk := (1016, arow 46 12 eCell zCell ((s.L.take q).filter (fun c => !gridClosed g c.Start r.Time)))
abbrev z42_22 (g : Grid) (s : State) (r : Rec) (q : Nat) : Nat × Blk := (1017, arow 46 12 eCell zCell ((s.L.take q).filter (fun c => gridClosed g c.Start r.Time)))
abbrev z42_23 (g : Grid) : Nat × T := (123, tA ((eGrid g).map .d))
abbrev z42_24 (s : State) (q : Nat) : Nat × T := (127, .one (.c (.ip 11 (fun j_ => nth (eCell (s.L.getD q zCell)) (1 + j_)))))
abbrev z42_25 (g : Grid) (s : State) (r : Rec) (q : Nat) : Nat × T := (17, tG 1017 12 0 (((s.L.take q).filter (fun c => gridClosed g c.Start r.Time) ++ [(s.L.getD q zCell)]).length))
abbrev z42_26 (q : Nat) : Nat × T := (18, I (IntKind.i64.wrap ((q : Int) + 1)))
abbrev z42_27 (q : Nat) : Nat × T := (18, I ((q + 1 : Nat) : Int))
abbrev z42_28 (g : Grid) (s : State) (r : Rec) (q : Nat) : Nat × T := (16, tG 1016 12 0 (((s.L.take q).filter (fun c => !gridClosed g c.Start r.Time) ++ [(s.L.getD q zCell)]).length))
abbrev z42_29 (g : Grid) (s : State) (r : Rec) (q : Nat) : Nat × T := (7, tG 1017 12 0 (((s.L.take q).filter (fun c => gridClosed g c.Start r.Time)).length))
abbrev z42_30 (g : Grid) (s : State) (r : Rec) (q : Nat) : Nat × Blk := (6, .var ([.d (dI r.Time), .d (dI (s.Late + 1)), .d (dI s.Bad), .d (dI (s.N + 1)), .d (row 12 eCell zCell ((s.L.take q).filter (fun c => !gridClosed g c.Start r.Time)))]))
abbrev z42_31 (g : Grid) (s : State) (q : Nat) : Nat × T := (16, tG 1016 12 0 (((s.L.take q).filter (fun c => !gridClosed g c.Start s.Mark)).length))
abbrev z42_32 (g : Grid) (s : State) (q : Nat) : Nat × T := (17, tG 1017 12 0 (((s.L.take q).filter (fun c => gridClosed g c.Start s.Mark)).length))
abbrev z42_33 (g : Grid) (s : State) (q : Nat) : Nat × Blk := (1016, arow 46 12 eCell zCell ((s.L.take q).filter (fun c => !gridClosed g c.Start s.Mark)))
abbrev z42_34 (g : Grid) (s : State) (q : Nat) : Nat × Blk := (1017, arow 46 12 eCell zCell ((s.L.take q).filter (fun c => gridClosed g c.Start s.Mark)))
abbrev z42_35 (g : Grid) (s : State) (q : Nat) : Nat × T := (17, tG 1017 12 0 (((s.L.take q).filter (fun c => gridClosed g c.Start s.Mark) ++ [(s.L.getD q zCell)]).length))
abbrev z42_36 (g : Grid) (s : State) (q : Nat) : Nat × T := (16, tG 1016 12 0 (((s.L.take q).filter (fun c => !gridClosed g c.Start s.Mark) ++ [(s.L.getD q zCell)]).length))
abbrev z42_37 (g : Grid) (s : State) (q : Nat) : Nat × T := (7, tG 1017 12 0 (((s.L.take q).filter (fun c => gridClosed g c.Start s.Mark)).length))
abbrev z42_38 (g : Grid) (s : State) (q : Nat) : Nat × Blk := (6, .var ([.d (dI s.Mark), .d (dI (s.Late + 1)), .d (dI s.Bad), .d (dI (s.N + 1)), .d (row 12 eCell zCell ((s.L.take q).filter (fun c => !gridClosed g c.Start s.Mark)))]))
abbrev z42_39 (s : State) (r : Rec) : Nat × Blk := (4, .var ([.d (dI r.Time), .d (dI s.Late), .d (dI s.Bad), .d (dI (s.N + 1)), .d (row 12 eCell zCell s.L)]))
abbrev z42_40 (g : Grid) (s : State) (r : Rec) (i : Nat) (q : Nat) : Nat × T := (16, tG 1016 12 0 (((((putTo g s.Mark r.Key (valN r) (gridStarts g r.Time) s.L i).1).take q).filter (fun c => !gridClosed g c.Start r.Time)).length))
abbrev z42_41 (g : Grid) (s : State) (r : Rec) (i : Nat) (q : Nat) : Nat × T := (17, tG 1017 12 0 (((((putTo g s.Mark r.Key (valN r) (gridStarts g r.Time) s.L i).1).take q).filter (fun c => gridClosed g c.Start r.Time)).length))
abbrev z42_42 (g : Grid) (s : State) (r : Rec) (i : Nat) (q : Nat) : Nat × Blk := (1016, arow 46 12 eCell zCell ((((putTo g s.Mark r.Key (valN r) (gridStarts g r.Time) s.L i).1).take q).filter (fun c => !gridClosed g c.Start r.Time)))
abbrev z42_43 (g : Grid) (s : State) (r : Rec) (i : Nat) (q : Nat) : Nat × Blk := (1017, arow 46 12 eCell zCell ((((putTo g s.Mark r.Key (valN r) (gridStarts g r.Time) s.L i).1).take q).filter (fun c => gridClosed g c.Start r.Time)))
abbrev z42_44 (g : Grid) (s : State) (r : Rec) (i : Nat) (q : Nat) : Nat × T := (126, .one (.c (.ip 12 (fun j_ => nth (eCell (((putTo g s.Mark r.Key (valN r) (gridStarts g r.Time) s.L i).1).getD q zCell)) j_))))
abbrev z42_45 (g : Grid) (s : State) (r : Rec) (i : Nat) (q : Nat) : Nat × T := (127, .one (.c (.ip 11 (fun j_ => nth (eCell (((putTo g s.Mark r.Key (valN r) (gridStarts g r.Time) s.L i).1).getD q zCell)) (1 + j_)))))
abbrev z42_46 (g : Grid) (s : State) (r : Rec) (i : Nat) (q : Nat) : Nat × T := (17, tG 1017 12 0 (((((putTo g s.Mark r.Key (valN r) (gridStarts g r.Time) s.L i).1).take q).filter (fun c => gridClosed g c.Start r.Time) ++ [(((putTo g s.Mark r.Key (valN r) (gridStarts g r.Time) s.L i).1).getD q zCell)]).length))
abbrev z42_47 (g : Grid) (s : State) (r : Rec) (i : Nat) (q : Nat) : Nat × T := (16, tG 1016 12 0 (((((putTo g s.Mark r.Key (valN r) (gridStarts g r.Time) s.L i).1).take q).filter (fun c => !gridClosed g c.Start r.Time) ++ [(((putTo g s.Mark r.Key (valN r) (gridStarts g r.Time) s.L i).1).getD q zCell)]).length))
abbrev z42_48 (g : Grid) (s : State) (r : Rec) (i : Nat) (q : Nat) : Nat × T := (7, tG 1017 12 0 (((((putTo g s.Mark r.Key (valN r) (gridStarts g r.Time) s.L i).1).take q).filter (fun c => gridClosed g c.Start r.Time)).length))
abbrev z42_49 (g : Grid) (s : State) (r : Rec) (i : Nat) (q : Nat) : Nat × Blk := (6, .var ([.d (dI r.Time), .d (dI s.Late), .d (dI s.Bad), .d (dI (s.N + 1)), .d (row 12 eCell zCell ((((putTo g s.Mark r.Key (valN r) (gridStarts g r.Time) s.L i).1).take q).filter (fun c => !gridClosed g c.Start r.Time)))]))
abbrev z42_50 (g : Grid) (s : State) (r : Rec) (i : Nat) (q : Nat) : Nat × T := (16, tG 1016 12 0 (((((putTo g s.Mark r.Key (valN r) (gridStarts g r.Time) s.L i).1).take q).filter (fun c => !gridClosed g c.Start s.Mark)).length))
abbrev z42_51 (g : Grid) (s : State) (r : Rec) (i : Nat) (q : Nat) : Nat × T := (17, tG 1017 12 0 (((((putTo g s.Mark r.Key (valN r) (gridStarts g r.Time) s.L i).1).take q).filter (fun c => gridClosed g c.Start s.Mark)).length))
abbrev z42_52 (g : Grid) (s : State) (r : Rec) (i : Nat) (q : Nat) : Nat × Blk := (1016, arow 46 12 eCell zCell ((((putTo g s.Mark r.Key (valN r) (gridStarts g r.Time) s.L i).1).take q).filter (fun c => !gridClosed g c.Start s.Mark)))
abbrev z42_53 (g : Grid) (s : State) (r : Rec) (i : Nat) (q : Nat) : Nat × Blk := (1017, arow 46 12 eCell zCell ((((putTo g s.Mark r.Key (valN r) (gridStarts g r.Time) s.L i).1).take q).filter (fun c => gridClosed g c.Start s.Mark)))
abbrev z42_54 (g : Grid) (s : State) (r : Rec) (i : Nat) (q : Nat) : Nat × T := (17, tG 1017 12 0 (((((putTo g s.Mark r.Key (valN r) (gridStarts g r.Time) s.L i).1).take q).filter (fun c => gridClosed g c.Start s.Mark) ++ [(((putTo g s.Mark r.Key (valN r) (gridStarts g r.Time) s.L i).1).getD q zCell)]).length))
abbrev z42_55 (g : Grid) (s : State) (r : Rec) (i : Nat) (q : Nat) : Nat × T := (16, tG 1016 12 0 (((((putTo g s.Mark r.Key (valN r) (gridStarts g r.Time) s.L i).1).take q).filter (fun c => !gridClosed g c.Start s.Mark) ++ [(((putTo g s.Mark r.Key (valN r) (gridStarts g r.Time) s.L i).1).getD q zCell)]).length))
abbrev z42_56 (g : Grid) (s : State) (r : Rec) (i : Nat) (q : Nat) : Nat × T := (7, tG 1017 12 0 (((((putTo g s.Mark r.Key (valN r) (gridStarts g r.Time) s.L i).1).take q).filter (fun c => gridClosed g c.Start s.Mark)).length))
abbrev z42_57 (g : Grid) (s : State) (r : Rec) (i : Nat) (q : Nat) : Nat × Blk := (6, .var ([.d (dI s.Mark), .d (dI s.Late), .d (dI s.Bad), .d (dI (s.N + 1)), .d (row 12 eCell zCell ((((putTo g s.Mark r.Key (valN r) (gridStarts g r.Time) s.L i).1).take q).filter (fun c => !gridClosed g c.Start s.Mark)))]))
abbrev y42_0 (g : Grid) (s : State) (r : Rec) : List (Nat × Blk) := [(z42_0 g), (4, .var ((eState s).map .d)), (z42_1 r), (z42_2)]
abbrev y42_1 (g : Grid) (s : State) (r : Rec) : List (Nat × Blk) := [(z42_0 g), (z42_4 s), (z42_1 r), (z42_2)]
abbrev y42_2 (g : Grid) (s : State) (r : Rec) (q : Nat) : List (Nat × Blk) := [(z42_0 g), (z42_12 s r), (z42_2), (z42_21 g s r q), (z42_22 g s r q)]
abbrev y42_3 (g : Grid) (s : State) (r : Rec) (q : Nat) : List (Nat × Blk) := [(z42_0 g), (z42_12 s r), (z42_2), (z42_21 g s r q), (1017, arow 46 12 eCell zCell ((s.L.take q).filter (fun c => gridClosed g c.Start r.Time) ++ [(s.L.getD q zCell)]))]
abbrev y42_4 (g : Grid) (s : State) (r : Rec) (q : Nat) : List (Nat × Blk) := [(z42_0 g), (z42_12 s r), (z42_2), (1016, arow 46 12 eCell zCell ((s.L.take q).filter (fun c => !gridClosed g c.Start r.Time) ++ [(s.L.getD q zCell)])), (z42_22 g s r q)]
abbrev y42_5 (g : Grid) (s : State) (q : Nat) : List (Nat × Blk) := [(z42_0 g), (z42_11 s), (z42_2), (z42_33 g s q), (z42_34 g s q)]
abbrev y42_6 (g : Grid) (s : State) (q : Nat) : List (Nat × Blk) := [(z42_0 g), (z42_11 s), (z42_2), (z42_33 g s q), (1017, arow 46 12 eCell zCell ((s.L.take q).filter (fun c => gridClosed g c.Start s.Mark) ++ [(s.L.getD q zCell)]))]
abbrev y42_7 (g : Grid) (s : State) (q : Nat) : List (Nat × Blk) := [(z42_0 g), (z42_11 s), (z42_2), (1016, arow 46 12 eCell zCell ((s.L.take q).filter (fun c => !gridClosed g c.Start s.Mark) ++ [(s.L.getD q zCell)])), (z42_34 g s q)]
abbrev y42_8 (g : Grid) (s : State) (r : Rec) (i : Nat) (q : Nat) : List (Nat × Blk) := [(z42_0 g), (z42_39 s r), (z42_2), (z42_42 g s r i q), (z42_43 g s r i q)]
abbrev y42_9 (g : Grid) (s : State) (r : Rec) (i : Nat) (q : Nat) : List (Nat × Blk) := [(z42_0 g), (z42_39 s r), (z42_2), (z42_42 g s r i q), (1017, arow 46 12 eCell zCell ((((putTo g s.Mark r.Key (valN r) (gridStarts g r.Time) s.L i).1).take q).filter (fun c => gridClosed g c.Start r.Time) ++ [(((putTo g s.Mark r.Key (valN r) (gridStarts g r.Time) s.L i).1).getD q zCell)]))]
abbrev y42_10 (g : Grid) (s : State) (r : Rec) (i : Nat) (q : Nat) : List (Nat × Blk) := [(z42_0 g), (z42_39 s r), (z42_2), (1016, arow 46 12 eCell zCell ((((putTo g s.Mark r.Key (valN r) (gridStarts g r.Time) s.L i).1).take q).filter (fun c => !gridClosed g c.Start r.Time) ++ [(((putTo g s.Mark r.Key (valN r) (gridStarts g r.Time) s.L i).1).getD q zCell)])), (z42_43 g s r i q)]
abbrev y42_11 (g : Grid) (s : State) (r : Rec) (i : Nat) (q : Nat) : List (Nat × Blk) := [(z42_0 g), (z42_4 s), (z42_2), (z42_52 g s r i q), (z42_53 g s r i q)]
abbrev y42_12 (g : Grid) (s : State) (r : Rec) (i : Nat) (q : Nat) : List (Nat × Blk) := [(z42_0 g), (z42_4 s), (z42_2), (z42_52 g s r i q), (1017, arow 46 12 eCell zCell ((((putTo g s.Mark r.Key (valN r) (gridStarts g r.Time) s.L i).1).take q).filter (fun c => gridClosed g c.Start s.Mark) ++ [(((putTo g s.Mark r.Key (valN r) (gridStarts g r.Time) s.L i).1).getD q zCell)]))]
abbrev y42_13 (g : Grid) (s : State) (r : Rec) (i : Nat) (q : Nat) : List (Nat × Blk) := [(z42_0 g), (z42_4 s), (z42_2), (1016, arow 46 12 eCell zCell ((((putTo g s.Mark r.Key (valN r) (gridStarts g r.Time) s.L i).1).take q).filter (fun c => !gridClosed g c.Start s.Mark) ++ [(((putTo g s.Mark r.Key (valN r) (gridStarts g r.Time) s.L i).1).getD q zCell)])), (z42_53 g s r i q)]
/-- headgate/headgateref16.Feed. -/
theorem ok_feed16 (g : Grid) (s : State) (r : Rec) (hr : ∀ c ∈ s.L, AggR c.A) :
 FnOk Try.prog 42 [.agg ((eGrid g).map .d), .agg ((eState s).map .d), .agg ((eRec r).map .d)] (fun r_ => r_ = .tup [.agg ((eState (feedSt g s r)).map .d), .c (.d (row 12 eCell zCell (feedOver g s r))), .c (.d (dI (feedErr g s r)))]) := by
 refine FnOk.go Try.func42 rfl 150 ?_
 intro w0 m0
 show AC _ _ ⟨[(0, tA ((eGrid g).map .d)), (1, tA ((eState s).map .d)), (2, tA ((eRec r).map .d))], []⟩ _
 refine AC.q ⟨[sp 3, sp 4, sp 5, sp 6], y42_0 g s r⟩ ?_
 refine AC.seq ?_
 refine AC.rS [0, 1, 2, 3, 4, 5, 6, 7, 8, 9, 10, 11, 12, 13, 14, 15, 16, 17, 18, 19, 20] ?_
 refine AOps.m [0, 1] ⟨[sp 3, sp 4, sp 5, sp 6, (19, tA ((eGrid g).map .d)), (20, tA ((eState s).map .d))], y42_0 g s r⟩ ?_
 refine AOps.ca (ok_may16 g s) ?_
 rintro _ rfl
 refine AOps.m [3, 4] ⟨[sp 3, sp 4, sp 5, sp 6, (23, B (!(stateMay g s)))], y42_0 g s r⟩ ?_
 refine AOps.s [5, 6, 7, 8] 9 23 27 28 false (!(stateMay g s)) (!(inN r.Key)) [3, 4, 5, 6] (fun h_ => ?_) ?_
 clear h_
 refine AOps.m [5, 6] ⟨[sp 3, sp 4, sp 5, sp 6, (23, B false), (25, I r.Key)], y42_0 g s r⟩ ?_
 refine AOps.ca (ok_in r.Key) ?_
 rintro _ rfl
 refine AOps.m [8] ⟨[sp 3, sp 4, sp 5, sp 6, (23, B false), (27, B (!(inN r.Key)))], y42_0 g s r⟩ ?_
 exact scd
 refine AOps.m [10] ⟨[sp 3, sp 4, sp 5, sp 6, (29, B ((!(stateMay g s)) || (!(inN r.Key))))], y42_0 g s r⟩ ?_
 refine AOps.s [11, 12, 13] 14 29 32 33 false ((!(stateMay g s)) || (!(inN r.Key))) (decide (r.Key > 1048576)) [3, 4, 5, 6] (fun h_ => ?_) ?_
 clear h_
 refine AOps.m [11, 12, 13] ⟨[sp 3, sp 4, sp 5, sp 6, (29, B false), (32, B (decide (r.Key > 1048576)))], y42_0 g s r⟩ ?_
 exact scd
 refine AOps.m [15] ⟨[sp 3, sp 4, sp 5, sp 6, (34, B (((!(stateMay g s)) || (!(inN r.Key))) || (decide (r.Key > 1048576))))], y42_0 g s r⟩ ?_
 refine AOps.s [16, 17, 18, 19] 20 34 38 39 false (((!(stateMay g s)) || (!(inN r.Key))) || (decide (r.Key > 1048576))) (!(inN r.Time)) [3, 4, 5, 6] (fun h_ => ?_) ?_
 clear h_
 refine AOps.m [16, 17] ⟨[sp 3, sp 4, sp 5, sp 6, (34, B false), (36, I r.Time)], y42_0 g s r⟩ ?_
 refine AOps.ca (ok_in r.Time) ?_
 rintro _ rfl
 refine AOps.m [19] ⟨[sp 3, sp 4, sp 5, sp 6, (34, B false), (38, B (!(inN r.Time)))], y42_0 g s r⟩ ?_
 exact scd
 refine AOps.done ?_
 refine AC.cd (b := (((!(stateMay g s)) || (!(inN r.Key))) || (decide (r.Key > 1048576))) || (!(inN r.Time))) (fun h_ => ?_) (fun h_ => ?_)
 have h1 := h_; have r1 := h_; clear h_; try simp only [bb] at h1
 have hM : feedMay g s r = false := flip_t (feed16 g s r) (by assumption)
 have hF := feed_bad hM
 refine AC.q ⟨[sp 6, (z42_3), (8, I 1)], [(z42_2)]⟩ ?_
 refine AC.ret ?_
 refine rqr (ufeed16 g s r) (All2.cons (ULe.agg (All2.cons (CLe.d (DLe.eq (congrArg dI (show (0) = ((feedSt g s r).Mark) from ?_)))) (All2.cons (CLe.d (DLe.eq (congrArg dI (show (0) = ((feedSt g s r).Late) from ?_)))) (All2.cons (CLe.d (DLe.eq (congrArg dI (show (0) = ((feedSt g s r).Bad) from ?_)))) (All2.cons (CLe.d (DLe.eq (congrArg dI (show (0) = ((feedSt g s r).N) from ?_)))) (All2.cons (CLe.d (DLe.nilrow (by first | (rw [hF.1]; done) | (rw [hF.2.1]; done) | (rw [hF.2.2]; done) | (rw [hF.1, List.take_of_length_le (by omega)]; done) | (rw [hF.2.1, List.take_of_length_le (by omega)]; done) | (rw [hF.1]; rfl)))) All2.nil)))))) (All2.cons (ULe.c (CLe.d (DLe.nilrow (by first | (rw [hF.1]; done) | (rw [hF.2.1]; done) | (rw [hF.2.2]; done) | (rw [hF.1, List.take_of_length_le (by omega)]; done) | (rw [hF.2.1, List.take_of_length_le (by omega)]; done) | (rw [hF.1]; rfl))))) (All2.cons (ULe.c (CLe.d (DLe.eq (congrArg dI (show (1) = (feedErr g s r) from ?_))))) All2.nil)))
 iterate 5 (· first | (rw [hF.1]; done) | (rw [hF.2.1]; done) | (rw [hF.2.2]; done) | (rw [hF.1, List.take_of_length_le (by omega)]; done) | (rw [hF.2.1, List.take_of_length_le (by omega)]; done) | (rw [hF.1]; rfl))
 have h1 := h_; have r1 := h_; clear h_; try simp only [bb] at h1
 refine AC.skip ?_
 refine AC.seq ?_
 have hM : feedMay g s r = true := flip_f (feed16 g s r) (by assumption)
 have hSM : stateMay g s = true := by simp only [feedMay, Bool.and_eq_true] at hM; exact hM.1
 have hS := headMay_spec (stateMay_iff.1 hSM).1
 have hmk : s.Mark ≤ 1099511627776 := by rcases hS.2.1 with e | e; omega; exact (inN_b e).2
 have hn1 := inN_b hS.2.2.1; have hn2 := inN_b hS.2.2.2.1; have hn3 := inN_b hS.2.2.2.2.1
 have hrt : r.Time ≤ 1099511627776 := by simp only [feedMay, recMay, Bool.and_eq_true] at hM; exact (inN_b hM.2.2).2
 refine AC.q ⟨[sp 3, sp 4, sp 5, sp 6, (43, B (s.N == 1099511627776))], y42_0 g s r⟩ ?_
 refine AC.cd (b := s.N == 1099511627776) (fun h_ => ?_) (fun h_ => ?_)
 have h2 := h_; have r2 := h_; clear h_; try simp only [bb] at h2
 have hF := feed_full hM (by omega)
 refine AC.q ⟨[sp 6, (z42_3), (8, I 6)], [(z42_2)]⟩ ?_
 refine AC.ret ?_
 refine rqr (ufeed16 g s r) (All2.cons (ULe.agg (All2.cons (CLe.d (DLe.eq (congrArg dI (show (0) = ((feedSt g s r).Mark) from ?_)))) (All2.cons (CLe.d (DLe.eq (congrArg dI (show (0) = ((feedSt g s r).Late) from ?_)))) (All2.cons (CLe.d (DLe.eq (congrArg dI (show (0) = ((feedSt g s r).Bad) from ?_)))) (All2.cons (CLe.d (DLe.eq (congrArg dI (show (0) = ((feedSt g s r).N) from ?_)))) (All2.cons (CLe.d (DLe.nilrow (by first | (rw [hF.1]; done) | (rw [hF.2.1]; done) | (rw [hF.2.2]; done) | (rw [hF.1, List.take_of_length_le (by omega)]; done) | (rw [hF.2.1, List.take_of_length_le (by omega)]; done) | (rw [hF.1]; rfl)))) All2.nil)))))) (All2.cons (ULe.c (CLe.d (DLe.nilrow (by first | (rw [hF.1]; done) | (rw [hF.2.1]; done) | (rw [hF.2.2]; done) | (rw [hF.1, List.take_of_length_le (by omega)]; done) | (rw [hF.2.1, List.take_of_length_le (by omega)]; done) | (rw [hF.1]; rfl))))) (All2.cons (ULe.c (CLe.d (DLe.eq (congrArg dI (show (6) = (feedErr g s r) from ?_))))) All2.nil)))
 iterate 5 (· first | (rw [hF.1]; done) | (rw [hF.2.1]; done) | (rw [hF.2.2]; done) | (rw [hF.1, List.take_of_length_le (by omega)]; done) | (rw [hF.2.1, List.take_of_length_le (by omega)]; done) | (rw [hF.1]; rfl))
 have h2 := h_; have r2 := h_; clear h_; try simp only [bb] at h2
 refine AC.skip ?_
 refine AC.rS [0, 1, 2, 3, 4] ?_
 refine AOps.m [0, 1, 2, 3, 4] ⟨[sp 3, sp 4, sp 5, sp 6], [(z42_0 g), (4, .var ([.d (dI s.Mark), .d (dI s.Late), .d (dI s.Bad), .d (dI (IntKind.i64.wrap (s.N + 1))), .d (row 12 eCell zCell s.L)])), (z42_1 r), (z42_2)]⟩ ?_
 refine AOps.le (st' := ⟨[sp 3, sp 4, sp 5, sp 6], y42_1 g s r⟩) (Le.of (lk rfl (lk rfl (lk rfl (lk rfl LeS.nil)))) (ek rfl (LeE.cons rfl (BLe.eq (by rw [wrap_in (n := (s.N + 1)) (by omega) (by omega)] <;> simp)) (ek rfl (ek rfl LeE.nil)))) (by kernel_rfl)) ?_
 refine AOps.done ?_
 refine AC.rS [0, 1, 2, 3, 4, 5, 6] ?_
 refine AOps.m [0] ⟨[sp 3, sp 4, sp 5, sp 6, (50, tA ((eRec r).map .d))], y42_1 g s r⟩ ?_
 refine AOps.ca (ok_value16 r) ?_
 rintro _ rfl
 refine AOps.e ⟨[sp 3, sp 4, sp 5, sp 6, (9, I (valN r)), (10, B (valOk r))], y42_1 g s r⟩ ?_
 refine AC.seq ?_
 refine AC.q ⟨[sp 3, sp 4, sp 5, sp 6, (9, I (valN r)), (55, B (!(valOk r)))], y42_1 g s r⟩ ?_
 refine AC.cd (b := !(valOk r)) (fun h_ => ?_) (fun h_ => ?_)
 have h3 := h_; have r3 := h_; clear h_; try simp only [bb] at h3
 refine AC.rS [0, 1, 2, 3, 4] ?_
 refine AOps.m [0, 1, 2, 3, 4] ⟨[sp 4, sp 6], [(4, .var ([.d (dI s.Mark), .d (dI s.Late), .d (dI (IntKind.i64.wrap (s.Bad + 1))), .d (dI (s.N + 1)), .d (row 12 eCell zCell s.L)])), (z42_2)]⟩ ?_
 refine AOps.le (st' := ⟨[sp 4, sp 6], [(4, .var ([.d (dI s.Mark), .d (dI s.Late), .d (dI (s.Bad + 1)), .d (dI (s.N + 1)), .d (row 12 eCell zCell s.L)])), (z42_2)]⟩) (Le.of (lk rfl (lk rfl LeS.nil)) (LeE.cons rfl (BLe.eq (by rw [wrap_in (n := (s.Bad + 1)) (by omega) (by omega)] <;> simp)) (ek rfl LeE.nil)) (by kernel_rfl)) ?_
 refine AOps.done ?_
 have hF := feed_none hM (by omega) (by assumption)
 refine AC.q ⟨[sp 6, (z42_3), (8, I 0)], [(6, .var ([.d (dI s.Mark), .d (dI s.Late), .d (dI (s.Bad + 1)), .d (dI (s.N + 1)), .d (row 12 eCell zCell s.L)]))]⟩ ?_
 refine AC.ret ?_
 refine rqr (ufeed16 g s r) (All2.cons (ULe.eq (congrArg (fun x => U.agg ((eState x).map .d)) (show ((⟨s.Mark, s.Late, (s.Bad + 1), (s.N + 1), s.L⟩ : State)) = (feedSt g s r) from ?_))) (All2.cons (ULe.c (CLe.d (DLe.nilrow (by first | (rw [hF.1]; done) | (rw [hF.2.1]; done) | (rw [hF.2.2]; done) | (rw [hF.1, List.take_of_length_le (by omega)]; done) | (rw [hF.2.1, List.take_of_length_le (by omega)]; done) | (rw [hF.1]; rfl))))) (All2.cons (ULe.c (CLe.d (DLe.eq (congrArg dI (show (0) = (feedErr g s r) from ?_))))) All2.nil)))
 iterate 2 (· first | (rw [hF.1]; done) | (rw [hF.2.1]; done) | (rw [hF.2.2]; done) | (rw [hF.1, List.take_of_length_le (by omega)]; done) | (rw [hF.2.1, List.take_of_length_le (by omega)]; done) | (rw [hF.1]; rfl))
 have h3 := h_; have r3 := h_; clear h_; try simp only [bb] at h3
 refine AC.skip ?_
 refine AC.rS [0, 1, 2, 3, 4, 5, 6, 7, 8] ?_
 refine AOps.m [0, 1, 2] ⟨[sp 3, sp 4, sp 5, sp 6, (9, I (valN r)), (62, tA ((eGrid g).map .d)), (64, I r.Time)], y42_1 g s r⟩ ?_
 refine AOps.ca (ok_starts14 g r.Time) ?_
 rintro _ rfl
 refine AOps.e ⟨[sp 3, sp 4, sp 5, sp 6, (9, I (valN r)), (z42_5 g r)], y42_1 g s r⟩ ?_
 have hg8 := gridStarts_len g r.Time
 refine AC.q ⟨[sp 3, sp 4, sp 5, sp 6, (9, I (valN r)), (z42_5 g r), (z42_6 s)], y42_1 g s r⟩ ?_
 refine AC.q ⟨[sp 3, sp 4, sp 5, sp 6, (9, I (valN r)), (z42_5 g r), (z42_6 s), (14, I 0)], y42_1 g s r⟩ ?_
 refine AC.seq ?_
 refine AC.q ⟨[sp 3, sp 4, sp 5, sp 6, (9, I (valN r)), (z42_5 g r), (z42_6 s), (14, I 0), (15, I 0)], y42_1 g s r⟩ ?_
 refine AC.block ?_
 refine AC.loop (ι := Nat) (fun i => ⟨[sp 3, sp 4, sp 5, sp 6, (9, I (valN r)), (z42_5 g r), (z42_7 g s r i), (z42_8 g s r i), (15, I (i : Int))], y42_1 g s r⟩) (fun i => (i ≤ (gridStarts g r.Time).length)) (fun i => (gridStarts g r.Time).length - i) (0) (by omega) (Le.of (lk rfl (lk rfl (lk rfl (lk rfl (lk rfl (lk rfl (LeS.cons rfl (TLe.one (ULe.c (CLe.d (DLe.eq (congrArg (row 12 eCell zCell) (by first | rfl | (rw [putTo_put (by omega) (by assumption)]; done) | (rw [putTo_skip (by omega) (by assumption)]; done) | exact filt_in zCell (by omega) (by first | assumption | exact nt (by assumption)) | exact filt_out zCell (by omega) (by first | assumption | exact nf (by assumption)))))))) (LeS.cons rfl (TLe.i ?_) (LeS.cons rfl (TLe.i ?_) LeS.nil))))))))) (ek rfl (ek rfl (ek rfl (ek rfl LeE.nil)))) (by kernel_rfl)) ?_
 iterate 2 (· first | rfl | omega | (rw [putTo_put (by omega) (by assumption)]; done) | (rw [putTo_skip (by omega) (by assumption)]; done))
 intro i hi_
 have i1 : i ≤ (gridStarts g r.Time).length := hi_; clear hi_
 show AC _ _ ⟨[sp 3, sp 4, sp 5, sp 6, (9, I (valN r)), (z42_5 g r), (z42_7 g s r i), (z42_8 g s r i), (15, I (i : Int))], y42_1 g s r⟩ _
 have hP := putTo_spec (g := g) (mark := s.Mark) (key := r.Key) (starts := gridStarts g r.Time) (l := s.L) (valN_in r) hr i i1
 refine AC.seq ?_
 refine AC.q ⟨[sp 3, sp 4, sp 5, sp 6, (9, I (valN r)), (z42_5 g r), (z42_7 g s r i), (z42_8 g s r i), (15, I (i : Int)), (73, B (decide ((i : Int) < ((gridStarts g r.Time).length : Int))))], y42_1 g s r⟩ ?_
 refine AC.cd (b := decide ((i : Int) < ((gridStarts g r.Time).length : Int))) (fun h_ => ?_) (fun h_ => ?_)
 have h4 := h_; have r4 := h_; clear h_; try simp only [bb] at h4
 refine AC.skip ?_
 refine AC.seq ?_
 refine AC.block ?_
 refine AC.dS 7 [] ⟨[sp 3, sp 4, sp 5, sp 6, (9, I (valN r)), (z42_5 g r), (z42_7 g s r i), (z42_8 g s r i), (15, I (i : Int)), (76, tA ((eGrid g).map .d)), (77, tD (row 1 eI 0 (gridStarts g r.Time))), (78, I (i : Int)), (79, .one (.c (.ip 1 (fun j_ => nth (eI ((gridStarts g r.Time).getD i 0)) j_)))), (80, I ((gridStarts g r.Time).getD i 0)), (81, tP 4 0), (82, I s.Mark)], y42_1 g s r⟩ [7, 8] (.inl rfl) ?_ ?_
 · exact (ar 3 (au (au (ar 2 AllUpTo.zero) ot) (OpAt.val rfl (by kernel_rfl) (C' := 0 ≤ (i : Int) ∧ (i : Int) < ((gridStarts g r.Time).length : Int)) (x := .one (.c (.ip 1 (fun j_ => nth (eI ((gridStarts g r.Time).getD i 0)) j_)))) (by kernel_rfl) (by omega) rfl (by kernel_rfl) (by kernel_rfl) (TLe.refl _) (by kernel_rfl) (by kernel_rfl) (by kernel_rfl))))
 refine AOps.ca (ok_closed14 g ((gridStarts g r.Time).getD i 0) s.Mark (by omega)) ?_
 rintro _ rfl
 refine AOps.e ⟨[sp 3, sp 4, sp 5, sp 6, (9, I (valN r)), (z42_5 g r), (z42_7 g s r i), (z42_8 g s r i), (15, I (i : Int)), (84, B (!(gridClosed g ((gridStarts g r.Time).getD i 0) s.Mark)))], y42_1 g s r⟩ ?_
 refine AC.cd (b := !(gridClosed g ((gridStarts g r.Time).getD i 0) s.Mark)) (fun h_ => ?_) (fun h_ => ?_)
 have h5 := h_; have r5 := h_; clear h_; try simp only [bb] at h5
 refine AC.dS 8 [] ⟨[sp 3, sp 4, sp 5, sp 6, (9, I (valN r)), (z42_5 g r), (z42_7 g s r i), (z42_8 g s r i), (15, I (i : Int)), (85, tD (row 12 eCell zCell ((putTo g s.Mark r.Key (valN r) (gridStarts g r.Time) s.L i).1))), (86, tP 5 0), (87, I r.Key), (88, tD (row 1 eI 0 (gridStarts g r.Time))), (89, I (i : Int)), (90, .one (.c (.ip 1 (fun j_ => nth (eI ((gridStarts g r.Time).getD i 0)) j_)))), (91, I ((gridStarts g r.Time).getD i 0)), (92, I (valN r))], y42_1 g s r⟩ [8, 9] (.inl rfl) ?_ ?_
 · exact (ar 2 (au (au (ar 4 AllUpTo.zero) ot) (OpAt.val rfl (by kernel_rfl) (C' := 0 ≤ (i : Int) ∧ (i : Int) < ((gridStarts g r.Time).length : Int)) (x := .one (.c (.ip 1 (fun j_ => nth (eI ((gridStarts g r.Time).getD i 0)) j_)))) (by kernel_rfl) (by omega) rfl (by kernel_rfl) (by kernel_rfl) (TLe.refl _) (by kernel_rfl) (by kernel_rfl) (by kernel_rfl))))
 refine AOps.ca (ok_put ((putTo g s.Mark r.Key (valN r) (gridStarts g r.Time) s.L i).1) r.Key ((gridStarts g r.Time).getD i 0) (valN r) ?_ ?_ ?_) ?_
 iterate 3 (· first | omega | exact hP.2.2 | exact valN_in r)
 rintro _ rfl
 refine AOps.e ⟨[sp 3, sp 4, sp 5, sp 6, (9, I (valN r)), (z42_5 g r), (z42_9 g s r i), (z42_8 g s r i), (15, I (i : Int))], y42_1 g s r⟩ ?_
 refine AC.rR [0, 1, 2] ?_
 refine AOps.m [0, 1, 2] ⟨[sp 3, sp 4, sp 5, sp 6, (9, I (valN r)), (z42_5 g r), (z42_9 g s r i), (14, I (IntKind.i64.wrap (((putTo g s.Mark r.Key (valN r) (gridStarts g r.Time) s.L i).2 : Int) + 1))), (15, I (i : Int))], y42_1 g s r⟩ ?_
 refine AOps.le (st' := ⟨[sp 3, sp 4, sp 5, sp 6, (9, I (valN r)), (z42_5 g r), (z42_9 g s r i), (z42_10 g s r i), (15, I (i : Int))], y42_1 g s r⟩) (Le.of (lk rfl (lk rfl (lk rfl (lk rfl (lk rfl (lk rfl (lk rfl (LeS.cons rfl (TLe.i (by rw [wrap_in (n := (((putTo g s.Mark r.Key (valN r) (gridStarts g r.Time) s.L i).2 : Int) + 1)) (by omega) (by omega)] <;> omega)) (lk rfl LeS.nil))))))))) (ek rfl (ek rfl (ek rfl (ek rfl LeE.nil)))) (by kernel_rfl)) ?_
 refine AOps.done ?_
 refine AC.rR [0, 1, 2] ?_
 refine AOps.m [0, 1, 2] ⟨[sp 3, sp 4, sp 5, sp 6, (9, I (valN r)), (z42_5 g r), (z42_9 g s r i), (z42_10 g s r i), (15, I (IntKind.i64.wrap ((i : Int) + 1)))], y42_1 g s r⟩ ?_
 refine AOps.le (st' := ⟨[sp 3, sp 4, sp 5, sp 6, (9, I (valN r)), (z42_5 g r), (z42_9 g s r i), (z42_10 g s r i), (15, I ((i + 1 : Nat) : Int))], y42_1 g s r⟩) (Le.of (lk rfl (lk rfl (lk rfl (lk rfl (lk rfl (lk rfl (lk rfl (lk rfl (LeS.cons rfl (TLe.i (by rw [wrap_in (n := ((i : Int) + 1)) (by omega) (by omega)] <;> omega)) LeS.nil))))))))) (ek rfl (ek rfl (ek rfl (ek rfl LeE.nil)))) (by kernel_rfl)) ?_
 refine AOps.done ?_
 try refine blockA_n ?_
 refine roundA_n (i + 1) (by omega) (by show (gridStarts g r.Time).length - (i + 1) < (gridStarts g r.Time).length - i; omega) (Le.of (lk rfl (lk rfl (lk rfl (lk rfl (lk rfl (lk rfl (LeS.cons rfl (TLe.one (ULe.c (CLe.d (DLe.eq (congrArg (row 12 eCell zCell) (by first | rfl | (rw [putTo_put (by omega) (by assumption)]; done) | (rw [putTo_skip (by omega) (by assumption)]; done) | exact filt_in zCell (by omega) (by first | assumption | exact nt (by assumption)) | exact filt_out zCell (by omega) (by first | assumption | exact nf (by assumption)))))))) (LeS.cons rfl (TLe.i ?_) (LeS.cons rfl (TLe.i ?_) LeS.nil))))))))) (ek rfl (ek rfl (ek rfl (ek rfl LeE.nil)))) (by kernel_rfl))
 iterate 2 (· first | rfl | omega | (rw [putTo_put (by omega) (by assumption)]; done) | (rw [putTo_skip (by omega) (by assumption)]; done))
 have h5 := h_; have r5 := h_; clear h_; try simp only [bb] at h5
 refine AC.skip ?_
 refine AC.rR [0, 1, 2] ?_
 refine AOps.m [0, 1, 2] ⟨[sp 3, sp 4, sp 5, sp 6, (9, I (valN r)), (z42_5 g r), (z42_7 g s r i), (z42_8 g s r i), (15, I (IntKind.i64.wrap ((i : Int) + 1)))], y42_1 g s r⟩ ?_
 refine AOps.le (st' := ⟨[sp 3, sp 4, sp 5, sp 6, (9, I (valN r)), (z42_5 g r), (z42_7 g s r i), (z42_8 g s r i), (15, I ((i + 1 : Nat) : Int))], y42_1 g s r⟩) (Le.of (lk rfl (lk rfl (lk rfl (lk rfl (lk rfl (lk rfl (lk rfl (lk rfl (LeS.cons rfl (TLe.i (by rw [wrap_in (n := ((i : Int) + 1)) (by omega) (by omega)] <;> omega)) LeS.nil))))))))) (ek rfl (ek rfl (ek rfl (ek rfl LeE.nil)))) (by kernel_rfl)) ?_
 refine AOps.done ?_
 try refine blockA_n ?_
 refine roundA_n (i + 1) (by omega) (by show (gridStarts g r.Time).length - (i + 1) < (gridStarts g r.Time).length - i; omega) (Le.of (lk rfl (lk rfl (lk rfl (lk rfl (lk rfl (lk rfl (LeS.cons rfl (TLe.one (ULe.c (CLe.d (DLe.eq (congrArg (row 12 eCell zCell) (by first | rfl | (rw [putTo_put (by omega) (by assumption)]; done) | (rw [putTo_skip (by omega) (by assumption)]; done) | exact filt_in zCell (by omega) (by first | assumption | exact nt (by assumption)) | exact filt_out zCell (by omega) (by first | assumption | exact nf (by assumption)))))))) (LeS.cons rfl (TLe.i ?_) (LeS.cons rfl (TLe.i ?_) LeS.nil))))))))) (ek rfl (ek rfl (ek rfl (ek rfl LeE.nil)))) (by kernel_rfl))
 iterate 2 (· first | rfl | omega | (rw [putTo_put (by omega) (by assumption)]; done) | (rw [putTo_skip (by omega) (by assumption)]; done))
 have h4 := h_; have r4 := h_; clear h_; try simp only [bb] at h4
 refine AC.exit ?_
 repeat (first | refine thenA_x ?_ | refine roundA_x ?_ | refine joinA_x ?_ | refine blockA_hit ?_ | refine blockA_miss (by decide) ?_)
 refine AC.seq ?_
 have hO : putOpen g s r = (putTo g s.Mark r.Key (valN r) (gridStarts g r.Time) s.L i) := by unfold putOpen; rw [show i = (gridStarts g r.Time).length by omega]
 refine AC.rS [0, 1, 2, 3, 4, 5, 6] ?_
 refine AOps.m [0, 1, 2] ⟨[sp 3, sp 4, sp 5, sp 6, (z42_7 g s r i), (98, B (((putTo g s.Mark r.Key (valN r) (gridStarts g r.Time) s.L i).2 : Int) == 0))], y42_1 g s r⟩ ?_
 refine AOps.s [3, 4, 5] 6 98 101 102 false (((putTo g s.Mark r.Key (valN r) (gridStarts g r.Time) s.L i).2 : Int) == 0) (decide ((((putTo g s.Mark r.Key (valN r) (gridStarts g r.Time) s.L i).1).length : Int) > 64)) [3, 4, 5, 6, 13] (fun h_ => ?_) ?_
 clear h_
 refine AOps.m [3, 4, 5] ⟨[sp 3, sp 4, sp 5, sp 6, (z42_7 g s r i), (98, B false), (101, B (decide ((((putTo g s.Mark r.Key (valN r) (gridStarts g r.Time) s.L i).1).length : Int) > 64)))], y42_1 g s r⟩ ?_
 exact scd
 refine AOps.done ?_
 refine AC.cd (b := (((putTo g s.Mark r.Key (valN r) (gridStarts g r.Time) s.L i).2 : Int) == 0) || (decide ((((putTo g s.Mark r.Key (valN r) (gridStarts g r.Time) s.L i).1).length : Int) > 64))) (fun h_ => ?_) (fun h_ => ?_)
 have h5 := h_; have r5 := h_; clear h_; try simp only [bb] at h5
 refine AC.rS [0, 1, 2, 3, 4] ?_
 refine AOps.m [0, 1, 2, 3, 4] ⟨[sp 3, sp 4, sp 5, sp 6], [(z42_0 g), (4, .var ([.d (dI s.Mark), .d (dI (IntKind.i64.wrap (s.Late + 1))), .d (dI s.Bad), .d (dI (s.N + 1)), .d (row 12 eCell zCell s.L)])), (z42_1 r), (z42_2)]⟩ ?_
 refine AOps.le (st' := ⟨[sp 3, sp 4, sp 5, sp 6], [(z42_0 g), (z42_11 s), (z42_1 r), (z42_2)]⟩) (Le.of (lk rfl (lk rfl (lk rfl (lk rfl LeS.nil)))) (ek rfl (LeE.cons rfl (BLe.eq (by rw [wrap_in (n := (s.Late + 1)) (by omega) (by omega)] <;> simp)) (ek rfl (ek rfl LeE.nil)))) (by kernel_rfl)) ?_
 refine AOps.done ?_
 refine AC.qR ⟨[sp 3, sp 4, sp 5, sp 6, (z42_6 s)], [(z42_0 g), (z42_11 s), (z42_1 r), (z42_2)]⟩ ?_
 refine AC.seq ?_
 refine AC.q ⟨[sp 3, sp 4, sp 5, sp 6, (z42_6 s), (113, B (decide (r.Time > s.Mark)))], [(z42_0 g), (z42_11 s), (z42_1 r), (z42_2)]⟩ ?_
 refine AC.cd (b := decide (r.Time > s.Mark)) (fun h_ => ?_) (fun h_ => ?_)
 have h6 := h_; have r6 := h_; clear h_; try simp only [bb] at h6
 refine AC.qR ⟨[sp 3, sp 4, sp 6, (z42_6 s)], [(z42_0 g), (z42_12 s r), (z42_2)]⟩ ?_
 have hl1 : s.L = feedL g s r := by unfold feedL feedDrop; rw [hO]; first | rw [if_pos (by assumption)] | rw [if_neg (Bool.eq_false_iff.1 (by assumption))]
 have hl2 : (s.Late + 1) = (if feedDrop g s r then s.Late + 1 else s.Late) := by unfold feedDrop; rw [hO]; first | rw [if_pos (by assumption)] | rw [if_neg (Bool.eq_false_iff.1 (by assumption))]
 have hl3 : r.Time = feedMark s r := by unfold feedMark; first | rw [if_pos (by omega)] | rw [if_neg (by omega)]
 have hF := feed_some (g := g) hM (by omega) (by assumption) hl1 hl2 hl3
 have hL1 : (s.L).length ≤ 72 := by omega
 refine AC.q ⟨[sp 3, sp 4, sp 6, (z42_6 s), (z42_13), (z42_14)], [(z42_0 g), (z42_12 s r), (z42_2)]⟩ ?_
 refine AC.seq ?_
 refine AC.q ⟨[sp 3, sp 4, sp 6, (z42_6 s), (z42_13), (z42_14), (18, I 0)], [(z42_0 g), (z42_12 s r), (z42_2)]⟩ ?_
 refine AC.block ?_
 refine AC.nl 1016 16 46 12 (fun i_ j_ => nth (eCell (([] : List Cell).getD i_ zCell)) j_) ⟨[sp 3, sp 4, sp 6, (z42_6 s), (z42_15), (z42_14), (18, I 0)], [(z42_0 g), (z42_12 s r), (z42_2), (z42_16)]⟩ ?_
 refine AC.nl 1017 17 46 12 (fun i_ j_ => nth (eCell (([] : List Cell).getD i_ zCell)) j_) ⟨[sp 3, sp 4, sp 6, (z42_6 s), (z42_15), (z42_17), (18, I 0)], [(z42_0 g), (z42_12 s r), (z42_2), (z42_16), (z42_18)]⟩ ?_
 refine AC.loop (ι := Nat) (fun q => ⟨[sp 3, sp 4, sp 6, (z42_6 s), (z42_19 g s r q), (z42_20 g s r q), (18, I (q : Int))], y42_2 g s r q⟩) (fun q => (q ≤ s.L.length)) (fun q => s.L.length - q) (0) (by omega) (Le.of (lk rfl (lk rfl (lk rfl (lk rfl (LeS.cons rfl (TLe.gs (congrArg List.length ?_)) (LeS.cons rfl (TLe.gs (congrArg List.length ?_)) (LeS.cons rfl (TLe.i (by first | rfl | omega | (rw [putTo_put (by omega) (by assumption)]; done) | (rw [putTo_skip (by omega) (by assumption)]; done))) LeS.nil))))))) (ek rfl (ek rfl (ek rfl (LeE.cons rfl (BLe.eq (congrArg (arow 46 12 eCell zCell) ?_)) (LeE.cons rfl (BLe.eq (congrArg (arow 46 12 eCell zCell) ?_)) LeE.nil))))) (by kernel_rfl)) ?_
 iterate 4 (· first | rfl | (rw [putTo_put (by omega) (by assumption)]; done) | (rw [putTo_skip (by omega) (by assumption)]; done) | exact filt_in zCell (by omega) (by first | assumption | exact nt (by assumption)) | exact filt_out zCell (by omega) (by first | assumption | exact nf (by assumption)))
 intro q hi_
 have i1 : q ≤ s.L.length := hi_; clear hi_
 show AC _ _ ⟨[sp 3, sp 4, sp 6, (z42_6 s), (z42_19 g s r q), (z42_20 g s r q), (18, I (q : Int))], y42_2 g s r q⟩ _
 have f1 := filt_len (fun c => !gridClosed g c.Start r.Time) s.L q
 have f2 := filt_len (fun c => gridClosed g c.Start r.Time) s.L q
 refine AC.seq ?_
 refine AC.q ⟨[sp 3, sp 4, sp 6, (z42_6 s), (z42_19 g s r q), (z42_20 g s r q), (18, I (q : Int)), (120, B (decide ((q : Int) < (s.L.length : Int))))], y42_2 g s r q⟩ ?_
 refine AC.cd (b := decide ((q : Int) < (s.L.length : Int))) (fun h_ => ?_) (fun h_ => ?_)
 have h7 := h_; have r7 := h_; clear h_; try simp only [bb] at h7
 refine AC.skip ?_
 refine AC.seq ?_
 refine AC.block ?_
 refine AC.dS 8 [] ⟨[sp 3, sp 4, sp 6, (z42_6 s), (z42_19 g s r q), (z42_20 g s r q), (18, I (q : Int)), (z42_23 g), (124, tD (row 12 eCell zCell s.L)), (125, I (q : Int)), (126, .one (.c (.ip 12 (fun j_ => nth (eCell (s.L.getD q zCell)) j_)))), (z42_24 s q), (128, I ((s.L.getD q zCell).Start)), (129, tP 4 0), (130, I r.Time)], y42_2 g s r q⟩ [8] (.inl rfl) ?_ ?_
 · exact (ar 4 (au (au (ar 2 AllUpTo.zero) ot) (OpAt.val rfl (by kernel_rfl) (C' := 0 ≤ (q : Int) ∧ (q : Int) < (s.L.length : Int)) (x := .one (.c (.ip 12 (fun j_ => nth (eCell (s.L.getD q zCell)) j_)))) (by kernel_rfl) (by omega) rfl (by kernel_rfl) (by kernel_rfl) (TLe.refl _) (by kernel_rfl) (by kernel_rfl) (by kernel_rfl))))
 refine AOps.ca (ok_closed14 g ((s.L.getD q zCell).Start) r.Time (by omega)) ?_
 rintro _ rfl
 refine AOps.done ?_
 refine AC.cd (b := gridClosed g ((s.L.getD q zCell).Start) r.Time) (fun h_ => ?_) (fun h_ => ?_)
 have h8 := h_; have r8 := h_; clear h_; try simp only [bb] at h8
 refine AC.rR [0, 1, 2, 3, 4, 5, 6, 7] ?_
 refine AOps.mc [0, 1, 2, 3, 4, 5, 6] (C' := (0 ≤ (q : Int) ∧ (q : Int) < (s.L.length : Int)) ∧ (((s.L.take q).filter (fun c => gridClosed g c.Start r.Time)).length = ((s.L.take q).filter (fun c => gridClosed g c.Start r.Time)).length ∧ ((s.L.take q).filter (fun c => gridClosed g c.Start r.Time)).length + 1 ≤ 9223372036854775807 ∧ (((s.L.take q).filter (fun c => gridClosed g c.Start r.Time)).length + 1) * 96 ≤ 140737488355328) ∧ True) ⟨[sp 3, sp 4, sp 6, (z42_6 s), (z42_19 g s r q), (18, I (q : Int)), (138, tG 1017 12 0 (((s.L.take q).filter (fun c => gridClosed g c.Start r.Time)).length + 1))], [(z42_0 g), (z42_12 s r), (z42_2), (z42_21 g s r q), (1017, .arr 46 12 (((s.L.take q).filter (fun c => gridClosed g c.Start r.Time)).length + 1) fun i_ j_ => bif Nat.blt i_ ((s.L.take q).filter (fun c => gridClosed g c.Start r.Time)).length then nth (eCell (((s.L.take q).filter (fun c => gridClosed g c.Start r.Time)).getD i_ zCell)) j_ else (fun i_ j_ => nth [dI ((s.L.getD q zCell).Key), dI ((s.L.getD q zCell).Start), dI (((s.L.getD q zCell).A).Count), dI (((s.L.getD q zCell).A).Sum), dI (((s.L.getD q zCell).A).Min), dI (((s.L.getD q zCell).A).Max), dI ((((s.L.getD q zCell).A).Hist).h0), dI ((((s.L.getD q zCell).A).Hist).h1), dI ((((s.L.getD q zCell).A).Hist).h2), dI ((((s.L.getD q zCell).A).Hist).h3), dI (((s.L.getD q zCell).A).Re), dI (((s.L.getD q zCell).A).Im)] (i_ * 12 + j_)) (i_ - ((s.L.take q).filter (fun c => gridClosed g c.Start r.Time)).length) j_)]⟩ (⟨by omega, by omega, trivial⟩) ?_
 refine AOps.le (st' := ⟨[sp 3, sp 4, sp 6, (z42_6 s), (z42_19 g s r q), (18, I (q : Int)), (138, tG 1017 12 0 (((s.L.take q).filter (fun c => gridClosed g c.Start r.Time) ++ [(s.L.getD q zCell)]).length))], y42_3 g s r q⟩) (Le.of (lk rfl (lk rfl (lk rfl (lk rfl (lk rfl (lk rfl (LeS.cons rfl (TLe.gs (len1 _ _)) LeS.nil))))))) (ek rfl (ek rfl (ek rfl (ek rfl (LeE.cons rfl (BLe.app1 (e := 46) (sz := 12) (enc := eCell) (d := zCell) (L := (s.L.take q).filter (fun c => gridClosed g c.Start r.Time)) (x := (s.L.getD q zCell)) (g := fun i_ j_ => nth [dI ((s.L.getD q zCell).Key), dI ((s.L.getD q zCell).Start), dI (((s.L.getD q zCell).A).Count), dI (((s.L.getD q zCell).A).Sum), dI (((s.L.getD q zCell).A).Min), dI (((s.L.getD q zCell).A).Max), dI ((((s.L.getD q zCell).A).Hist).h0), dI ((((s.L.getD q zCell).A).Hist).h1), dI ((((s.L.getD q zCell).A).Hist).h2), dI ((((s.L.getD q zCell).A).Hist).h3), dI (((s.L.getD q zCell).A).Re), dI (((s.L.getD q zCell).A).Im)] (i_ * 12 + j_)) (fun j_ hj_ => by simp only [Nat.zero_mul, Nat.zero_add] <;> rfl)) LeE.nil))))) (by kernel_rfl)) ?_
 refine AOps.e ⟨[sp 3, sp 4, sp 6, (z42_6 s), (z42_19 g s r q), (z42_25 g s r q), (18, I (q : Int))], y42_3 g s r q⟩ ?_
 refine AC.rR [0, 1, 2] ?_
 refine AOps.m [0, 1, 2] ⟨[sp 3, sp 4, sp 6, (z42_6 s), (z42_19 g s r q), (z42_25 g s r q), (z42_26 q)], y42_3 g s r q⟩ ?_
 refine AOps.le (st' := ⟨[sp 3, sp 4, sp 6, (z42_6 s), (z42_19 g s r q), (z42_25 g s r q), (z42_27 q)], y42_3 g s r q⟩) (Le.of (lk rfl (lk rfl (lk rfl (lk rfl (lk rfl (lk rfl (LeS.cons rfl (TLe.i (by rw [wrap_in (n := ((q : Int) + 1)) (by omega) (by omega)] <;> omega)) LeS.nil))))))) (ek rfl (ek rfl (ek rfl (ek rfl (ek rfl LeE.nil))))) (by kernel_rfl)) ?_
 refine AOps.done ?_
 try refine blockA_n ?_
 refine roundA_n (q + 1) (by omega) (by show s.L.length - (q + 1) < s.L.length - q; omega) (Le.of (lk rfl (lk rfl (lk rfl (lk rfl (LeS.cons rfl (TLe.gs (congrArg List.length ?_)) (LeS.cons rfl (TLe.gs (congrArg List.length ?_)) (LeS.cons rfl (TLe.i (by first | rfl | omega | (rw [putTo_put (by omega) (by assumption)]; done) | (rw [putTo_skip (by omega) (by assumption)]; done))) LeS.nil))))))) (ek rfl (ek rfl (ek rfl (LeE.cons rfl (BLe.eq (congrArg (arow 46 12 eCell zCell) ?_)) (LeE.cons rfl (BLe.eq (congrArg (arow 46 12 eCell zCell) ?_)) LeE.nil))))) (by kernel_rfl))
 iterate 4 (· first | rfl | (rw [putTo_put (by omega) (by assumption)]; done) | (rw [putTo_skip (by omega) (by assumption)]; done) | exact filt_in zCell (by omega) (by first | assumption | exact nt (by assumption)) | exact filt_out zCell (by omega) (by first | assumption | exact nf (by assumption)))
 have h8 := h_; have r8 := h_; clear h_; try simp only [bb] at h8
 refine AC.rR [0, 1, 2, 3, 4, 5, 6, 7] ?_
 refine AOps.mc [0, 1, 2, 3, 4, 5, 6] (C' := (0 ≤ (q : Int) ∧ (q : Int) < (s.L.length : Int)) ∧ (((s.L.take q).filter (fun c => !gridClosed g c.Start r.Time)).length = ((s.L.take q).filter (fun c => !gridClosed g c.Start r.Time)).length ∧ ((s.L.take q).filter (fun c => !gridClosed g c.Start r.Time)).length + 1 ≤ 9223372036854775807 ∧ (((s.L.take q).filter (fun c => !gridClosed g c.Start r.Time)).length + 1) * 96 ≤ 140737488355328) ∧ True) ⟨[sp 3, sp 4, sp 6, (z42_6 s), (z42_20 g s r q), (18, I (q : Int)), (145, tG 1016 12 0 (((s.L.take q).filter (fun c => !gridClosed g c.Start r.Time)).length + 1))], [(z42_0 g), (z42_12 s r), (z42_2), (1016, .arr 46 12 (((s.L.take q).filter (fun c => !gridClosed g c.Start r.Time)).length + 1) fun i_ j_ => bif Nat.blt i_ ((s.L.take q).filter (fun c => !gridClosed g c.Start r.Time)).length then nth (eCell (((s.L.take q).filter (fun c => !gridClosed g c.Start r.Time)).getD i_ zCell)) j_ else (fun i_ j_ => nth [dI ((s.L.getD q zCell).Key), dI ((s.L.getD q zCell).Start), dI (((s.L.getD q zCell).A).Count), dI (((s.L.getD q zCell).A).Sum), dI (((s.L.getD q zCell).A).Min), dI (((s.L.getD q zCell).A).Max), dI ((((s.L.getD q zCell).A).Hist).h0), dI ((((s.L.getD q zCell).A).Hist).h1), dI ((((s.L.getD q zCell).A).Hist).h2), dI ((((s.L.getD q zCell).A).Hist).h3), dI (((s.L.getD q zCell).A).Re), dI (((s.L.getD q zCell).A).Im)] (i_ * 12 + j_)) (i_ - ((s.L.take q).filter (fun c => !gridClosed g c.Start r.Time)).length) j_), (z42_22 g s r q)]⟩ (⟨by omega, by omega, trivial⟩) ?_
 refine AOps.le (st' := ⟨[sp 3, sp 4, sp 6, (z42_6 s), (z42_20 g s r q), (18, I (q : Int)), (145, tG 1016 12 0 (((s.L.take q).filter (fun c => !gridClosed g c.Start r.Time) ++ [(s.L.getD q zCell)]).length))], y42_4 g s r q⟩) (Le.of (lk rfl (lk rfl (lk rfl (lk rfl (lk rfl (lk rfl (LeS.cons rfl (TLe.gs (len1 _ _)) LeS.nil))))))) (ek rfl (ek rfl (ek rfl (LeE.cons rfl (BLe.app1 (e := 46) (sz := 12) (enc := eCell) (d := zCell) (L := (s.L.take q).filter (fun c => !gridClosed g c.Start r.Time)) (x := (s.L.getD q zCell)) (g := fun i_ j_ => nth [dI ((s.L.getD q zCell).Key), dI ((s.L.getD q zCell).Start), dI (((s.L.getD q zCell).A).Count), dI (((s.L.getD q zCell).A).Sum), dI (((s.L.getD q zCell).A).Min), dI (((s.L.getD q zCell).A).Max), dI ((((s.L.getD q zCell).A).Hist).h0), dI ((((s.L.getD q zCell).A).Hist).h1), dI ((((s.L.getD q zCell).A).Hist).h2), dI ((((s.L.getD q zCell).A).Hist).h3), dI (((s.L.getD q zCell).A).Re), dI (((s.L.getD q zCell).A).Im)] (i_ * 12 + j_)) (fun j_ hj_ => by simp only [Nat.zero_mul, Nat.zero_add] <;> rfl)) (ek rfl LeE.nil))))) (by kernel_rfl)) ?_
 refine AOps.e ⟨[sp 3, sp 4, sp 6, (z42_6 s), (z42_28 g s r q), (z42_20 g s r q), (18, I (q : Int))], y42_4 g s r q⟩ ?_
 refine AC.rR [0, 1, 2] ?_
 refine AOps.m [0, 1, 2] ⟨[sp 3, sp 4, sp 6, (z42_6 s), (z42_28 g s r q), (z42_20 g s r q), (z42_26 q)], y42_4 g s r q⟩ ?_
 refine AOps.le (st' := ⟨[sp 3, sp 4, sp 6, (z42_6 s), (z42_28 g s r q), (z42_20 g s r q), (z42_27 q)], y42_4 g s r q⟩) (Le.of (lk rfl (lk rfl (lk rfl (lk rfl (lk rfl (lk rfl (LeS.cons rfl (TLe.i (by rw [wrap_in (n := ((q : Int) + 1)) (by omega) (by omega)] <;> omega)) LeS.nil))))))) (ek rfl (ek rfl (ek rfl (ek rfl (ek rfl LeE.nil))))) (by kernel_rfl)) ?_
 refine AOps.done ?_
 try refine blockA_n ?_
 refine roundA_n (q + 1) (by omega) (by show s.L.length - (q + 1) < s.L.length - q; omega) (Le.of (lk rfl (lk rfl (lk rfl (lk rfl (LeS.cons rfl (TLe.gs (congrArg List.length ?_)) (LeS.cons rfl (TLe.gs (congrArg List.length ?_)) (LeS.cons rfl (TLe.i (by first | rfl | omega | (rw [putTo_put (by omega) (by assumption)]; done) | (rw [putTo_skip (by omega) (by assumption)]; done))) LeS.nil))))))) (ek rfl (ek rfl (ek rfl (LeE.cons rfl (BLe.eq (congrArg (arow 46 12 eCell zCell) ?_)) (LeE.cons rfl (BLe.eq (congrArg (arow 46 12 eCell zCell) ?_)) LeE.nil))))) (by kernel_rfl))
 iterate 4 (· first | rfl | (rw [putTo_put (by omega) (by assumption)]; done) | (rw [putTo_skip (by omega) (by assumption)]; done) | exact filt_in zCell (by omega) (by first | assumption | exact nt (by assumption)) | exact filt_out zCell (by omega) (by first | assumption | exact nf (by assumption)))
 have h7 := h_; have r7 := h_; clear h_; try simp only [bb] at h7
 refine AC.exit ?_
 repeat (first | refine thenA_x ?_ | refine roundA_x ?_ | refine joinA_x ?_ | refine blockA_hit ?_ | refine blockA_miss (by decide) ?_)
 refine AC.q ⟨[sp 4, sp 6, (z42_20 g s r q)], [(4, .var ([.d (dI r.Time), .d (dI (s.Late + 1)), .d (dI s.Bad), .d (dI (s.N + 1)), .gs 1016 12 0 (((s.L.take q).filter (fun c => !gridClosed g c.Start r.Time)).length)])), (z42_2), (z42_21 g s r q), (z42_22 g s r q)]⟩ ?_
 refine AC.q ⟨[sp 6, (z42_29 g s r q), (8, I 0)], [(6, .var ([.d (dI r.Time), .d (dI (s.Late + 1)), .d (dI s.Bad), .d (dI (s.N + 1)), .gs 1016 12 0 (((s.L.take q).filter (fun c => !gridClosed g c.Start r.Time)).length)])), (z42_21 g s r q), (z42_22 g s r q)]⟩ ?_
 refine AC.fz 1016 (0 + ((s.L.take q).filter (fun c => !gridClosed g c.Start r.Time)).length ≤ ((s.L.take q).filter (fun c => !gridClosed g c.Start r.Time)).length ∧ True) ⟨[sp 6, (z42_29 g s r q), (8, I 0)], [(6, .var ([.d (dI r.Time), .d (dI (s.Late + 1)), .d (dI s.Bad), .d (dI (s.N + 1)), .d (.sl 12 (((s.L.take q).filter (fun c => !gridClosed g c.Start r.Time)).length) (fun i_ j_ => nth (eCell (((s.L.take q).filter (fun c => !gridClosed g c.Start r.Time)).getD (0 + i_) zCell)) j_))])), (z42_22 g s r q)]⟩ ⟨by omega, trivial⟩ ?_ rfl
 refine AC.le (st' := ⟨[sp 6, (z42_29 g s r q), (8, I 0)], [(z42_30 g s r q), (z42_22 g s r q)]⟩) (Le.of (lk rfl (lk rfl (lk rfl LeS.nil))) (LeE.cons rfl (BLe.var (ck (ck (ck (ck (All2.cons (CLe.d (DLe.row0)) All2.nil)))))) (ek rfl LeE.nil)) (by kernel_rfl)) ?_
 refine AC.fz 1017 (0 + ((s.L.take q).filter (fun c => gridClosed g c.Start r.Time)).length ≤ ((s.L.take q).filter (fun c => gridClosed g c.Start r.Time)).length ∧ True) ⟨[sp 6, (7, tD (.sl 12 (((s.L.take q).filter (fun c => gridClosed g c.Start r.Time)).length) (fun i_ j_ => nth (eCell (((s.L.take q).filter (fun c => gridClosed g c.Start r.Time)).getD (0 + i_) zCell)) j_))), (8, I 0)], [(z42_30 g s r q)]⟩ ⟨by omega, trivial⟩ ?_ rfl
 refine AC.le (st' := ⟨[sp 6, (7, tD (row 12 eCell zCell ((s.L.take q).filter (fun c => gridClosed g c.Start r.Time)))), (8, I 0)], [(z42_30 g s r q)]⟩) (Le.of (lk rfl (LeS.cons rfl (TLe.one (ULe.c (CLe.d (DLe.row0)))) (lk rfl LeS.nil))) (ek rfl LeE.nil) (by kernel_rfl)) ?_
 refine AC.ret ?_
 refine rqr (ufeed16 g s r) (All2.cons (ULe.eq (congrArg (fun x => U.agg ((eState x).map .d)) (show ((⟨r.Time, (s.Late + 1), s.Bad, (s.N + 1), (s.L.take q).filter (fun c => !gridClosed g c.Start r.Time)⟩ : State)) = (feedSt g s r) from ?_))) (All2.cons (ULe.c (CLe.d (DLe.eq (congrArg (row 12 eCell zCell) (show ((s.L.take q).filter (fun c => gridClosed g c.Start r.Time)) = (feedOver g s r) from ?_))))) (All2.cons (ULe.c (CLe.d (DLe.eq (congrArg dI (show (0) = (feedErr g s r) from ?_))))) All2.nil)))
 iterate 3 (· first | (rw [hF.1]; done) | (rw [hF.2.1]; done) | (rw [hF.2.2]; done) | (rw [hF.1, List.take_of_length_le (by omega)]; done) | (rw [hF.2.1, List.take_of_length_le (by omega)]; done) | (rw [hF.1]; rfl))
 have h6 := h_; have r6 := h_; clear h_; try simp only [bb] at h6
 refine AC.skip ?_
 have hl1 : s.L = feedL g s r := by unfold feedL feedDrop; rw [hO]; first | rw [if_pos (by assumption)] | rw [if_neg (Bool.eq_false_iff.1 (by assumption))]
 have hl2 : (s.Late + 1) = (if feedDrop g s r then s.Late + 1 else s.Late) := by unfold feedDrop; rw [hO]; first | rw [if_pos (by assumption)] | rw [if_neg (Bool.eq_false_iff.1 (by assumption))]
 have hl3 : s.Mark = feedMark s r := by unfold feedMark; first | rw [if_pos (by omega)] | rw [if_neg (by omega)]
 have hF := feed_some (g := g) hM (by omega) (by assumption) hl1 hl2 hl3
 have hL1 : (s.L).length ≤ 72 := by omega
 refine AC.q ⟨[sp 3, sp 4, sp 6, (z42_6 s), (z42_13), (z42_14)], [(z42_0 g), (z42_11 s), (z42_2)]⟩ ?_
 refine AC.seq ?_
 refine AC.q ⟨[sp 3, sp 4, sp 6, (z42_6 s), (z42_13), (z42_14), (18, I 0)], [(z42_0 g), (z42_11 s), (z42_2)]⟩ ?_
 refine AC.block ?_
 refine AC.nl 1016 16 46 12 (fun i_ j_ => nth (eCell (([] : List Cell).getD i_ zCell)) j_) ⟨[sp 3, sp 4, sp 6, (z42_6 s), (z42_15), (z42_14), (18, I 0)], [(z42_0 g), (z42_11 s), (z42_2), (z42_16)]⟩ ?_
 refine AC.nl 1017 17 46 12 (fun i_ j_ => nth (eCell (([] : List Cell).getD i_ zCell)) j_) ⟨[sp 3, sp 4, sp 6, (z42_6 s), (z42_15), (z42_17), (18, I 0)], [(z42_0 g), (z42_11 s), (z42_2), (z42_16), (z42_18)]⟩ ?_
 refine AC.loop (ι := Nat) (fun q => ⟨[sp 3, sp 4, sp 6, (z42_6 s), (z42_31 g s q), (z42_32 g s q), (18, I (q : Int))], y42_5 g s q⟩) (fun q => (q ≤ s.L.length)) (fun q => s.L.length - q) (0) (by omega) (Le.of (lk rfl (lk rfl (lk rfl (lk rfl (LeS.cons rfl (TLe.gs (congrArg List.length ?_)) (LeS.cons rfl (TLe.gs (congrArg List.length ?_)) (LeS.cons rfl (TLe.i (by first | rfl | omega | (rw [putTo_put (by omega) (by assumption)]; done) | (rw [putTo_skip (by omega) (by assumption)]; done))) LeS.nil))))))) (ek rfl (ek rfl (ek rfl (LeE.cons rfl (BLe.eq (congrArg (arow 46 12 eCell zCell) ?_)) (LeE.cons rfl (BLe.eq (congrArg (arow 46 12 eCell zCell) ?_)) LeE.nil))))) (by kernel_rfl)) ?_
 iterate 4 (· first | rfl | (rw [putTo_put (by omega) (by assumption)]; done) | (rw [putTo_skip (by omega) (by assumption)]; done) | exact filt_in zCell (by omega) (by first | assumption | exact nt (by assumption)) | exact filt_out zCell (by omega) (by first | assumption | exact nf (by assumption)))
 intro q hi_
 have i1 : q ≤ s.L.length := hi_; clear hi_
 show AC _ _ ⟨[sp 3, sp 4, sp 6, (z42_6 s), (z42_31 g s q), (z42_32 g s q), (18, I (q : Int))], y42_5 g s q⟩ _
 have f1 := filt_len (fun c => !gridClosed g c.Start s.Mark) s.L q
 have f2 := filt_len (fun c => gridClosed g c.Start s.Mark) s.L q
 refine AC.seq ?_
 refine AC.q ⟨[sp 3, sp 4, sp 6, (z42_6 s), (z42_31 g s q), (z42_32 g s q), (18, I (q : Int)), (120, B (decide ((q : Int) < (s.L.length : Int))))], y42_5 g s q⟩ ?_
 refine AC.cd (b := decide ((q : Int) < (s.L.length : Int))) (fun h_ => ?_) (fun h_ => ?_)
 have h7 := h_; have r7 := h_; clear h_; try simp only [bb] at h7
 refine AC.skip ?_
 refine AC.seq ?_
 refine AC.block ?_
 refine AC.dS 8 [] ⟨[sp 3, sp 4, sp 6, (z42_6 s), (z42_31 g s q), (z42_32 g s q), (18, I (q : Int)), (z42_23 g), (124, tD (row 12 eCell zCell s.L)), (125, I (q : Int)), (126, .one (.c (.ip 12 (fun j_ => nth (eCell (s.L.getD q zCell)) j_)))), (z42_24 s q), (128, I ((s.L.getD q zCell).Start)), (129, tP 4 0), (130, I s.Mark)], y42_5 g s q⟩ [8] (.inl rfl) ?_ ?_
 · exact (ar 4 (au (au (ar 2 AllUpTo.zero) ot) (OpAt.val rfl (by kernel_rfl) (C' := 0 ≤ (q : Int) ∧ (q : Int) < (s.L.length : Int)) (x := .one (.c (.ip 12 (fun j_ => nth (eCell (s.L.getD q zCell)) j_)))) (by kernel_rfl) (by omega) rfl (by kernel_rfl) (by kernel_rfl) (TLe.refl _) (by kernel_rfl) (by kernel_rfl) (by kernel_rfl))))
 refine AOps.ca (ok_closed14 g ((s.L.getD q zCell).Start) s.Mark (by omega)) ?_
 rintro _ rfl
 refine AOps.done ?_
 refine AC.cd (b := gridClosed g ((s.L.getD q zCell).Start) s.Mark) (fun h_ => ?_) (fun h_ => ?_)
 have h8 := h_; have r8 := h_; clear h_; try simp only [bb] at h8
 refine AC.rR [0, 1, 2, 3, 4, 5, 6, 7] ?_
 refine AOps.mc [0, 1, 2, 3, 4, 5, 6] (C' := (0 ≤ (q : Int) ∧ (q : Int) < (s.L.length : Int)) ∧ (((s.L.take q).filter (fun c => gridClosed g c.Start s.Mark)).length = ((s.L.take q).filter (fun c => gridClosed g c.Start s.Mark)).length ∧ ((s.L.take q).filter (fun c => gridClosed g c.Start s.Mark)).length + 1 ≤ 9223372036854775807 ∧ (((s.L.take q).filter (fun c => gridClosed g c.Start s.Mark)).length + 1) * 96 ≤ 140737488355328) ∧ True) ⟨[sp 3, sp 4, sp 6, (z42_6 s), (z42_31 g s q), (18, I (q : Int)), (138, tG 1017 12 0 (((s.L.take q).filter (fun c => gridClosed g c.Start s.Mark)).length + 1))], [(z42_0 g), (z42_11 s), (z42_2), (z42_33 g s q), (1017, .arr 46 12 (((s.L.take q).filter (fun c => gridClosed g c.Start s.Mark)).length + 1) fun i_ j_ => bif Nat.blt i_ ((s.L.take q).filter (fun c => gridClosed g c.Start s.Mark)).length then nth (eCell (((s.L.take q).filter (fun c => gridClosed g c.Start s.Mark)).getD i_ zCell)) j_ else (fun i_ j_ => nth [dI ((s.L.getD q zCell).Key), dI ((s.L.getD q zCell).Start), dI (((s.L.getD q zCell).A).Count), dI (((s.L.getD q zCell).A).Sum), dI (((s.L.getD q zCell).A).Min), dI (((s.L.getD q zCell).A).Max), dI ((((s.L.getD q zCell).A).Hist).h0), dI ((((s.L.getD q zCell).A).Hist).h1), dI ((((s.L.getD q zCell).A).Hist).h2), dI ((((s.L.getD q zCell).A).Hist).h3), dI (((s.L.getD q zCell).A).Re), dI (((s.L.getD q zCell).A).Im)] (i_ * 12 + j_)) (i_ - ((s.L.take q).filter (fun c => gridClosed g c.Start s.Mark)).length) j_)]⟩ (⟨by omega, by omega, trivial⟩) ?_
 refine AOps.le (st' := ⟨[sp 3, sp 4, sp 6, (z42_6 s), (z42_31 g s q), (18, I (q : Int)), (138, tG 1017 12 0 (((s.L.take q).filter (fun c => gridClosed g c.Start s.Mark) ++ [(s.L.getD q zCell)]).length))], y42_6 g s q⟩) (Le.of (lk rfl (lk rfl (lk rfl (lk rfl (lk rfl (lk rfl (LeS.cons rfl (TLe.gs (len1 _ _)) LeS.nil))))))) (ek rfl (ek rfl (ek rfl (ek rfl (LeE.cons rfl (BLe.app1 (e := 46) (sz := 12) (enc := eCell) (d := zCell) (L := (s.L.take q).filter (fun c => gridClosed g c.Start s.Mark)) (x := (s.L.getD q zCell)) (g := fun i_ j_ => nth [dI ((s.L.getD q zCell).Key), dI ((s.L.getD q zCell).Start), dI (((s.L.getD q zCell).A).Count), dI (((s.L.getD q zCell).A).Sum), dI (((s.L.getD q zCell).A).Min), dI (((s.L.getD q zCell).A).Max), dI ((((s.L.getD q zCell).A).Hist).h0), dI ((((s.L.getD q zCell).A).Hist).h1), dI ((((s.L.getD q zCell).A).Hist).h2), dI ((((s.L.getD q zCell).A).Hist).h3), dI (((s.L.getD q zCell).A).Re), dI (((s.L.getD q zCell).A).Im)] (i_ * 12 + j_)) (fun j_ hj_ => by simp only [Nat.zero_mul, Nat.zero_add] <;> rfl)) LeE.nil))))) (by kernel_rfl)) ?_
 refine AOps.e ⟨[sp 3, sp 4, sp 6, (z42_6 s), (z42_31 g s q), (z42_35 g s q), (18, I (q : Int))], y42_6 g s q⟩ ?_
 refine AC.rR [0, 1, 2] ?_
 refine AOps.m [0, 1, 2] ⟨[sp 3, sp 4, sp 6, (z42_6 s), (z42_31 g s q), (z42_35 g s q), (z42_26 q)], y42_6 g s q⟩ ?_
 refine AOps.le (st' := ⟨[sp 3, sp 4, sp 6, (z42_6 s), (z42_31 g s q), (z42_35 g s q), (z42_27 q)], y42_6 g s q⟩) (Le.of (lk rfl (lk rfl (lk rfl (lk rfl (lk rfl (lk rfl (LeS.cons rfl (TLe.i (by rw [wrap_in (n := ((q : Int) + 1)) (by omega) (by omega)] <;> omega)) LeS.nil))))))) (ek rfl (ek rfl (ek rfl (ek rfl (ek rfl LeE.nil))))) (by kernel_rfl)) ?_
 refine AOps.done ?_
 try refine blockA_n ?_
 refine roundA_n (q + 1) (by omega) (by show s.L.length - (q + 1) < s.L.length - q; omega) (Le.of (lk rfl (lk rfl (lk rfl (lk rfl (LeS.cons rfl (TLe.gs (congrArg List.length ?_)) (LeS.cons rfl (TLe.gs (congrArg List.length ?_)) (LeS.cons rfl (TLe.i (by first | rfl | omega | (rw [putTo_put (by omega) (by assumption)]; done) | (rw [putTo_skip (by omega) (by assumption)]; done))) LeS.nil))))))) (ek rfl (ek rfl (ek rfl (LeE.cons rfl (BLe.eq (congrArg (arow 46 12 eCell zCell) ?_)) (LeE.cons rfl (BLe.eq (congrArg (arow 46 12 eCell zCell) ?_)) LeE.nil))))) (by kernel_rfl))
 iterate 4 (· first | rfl | (rw [putTo_put (by omega) (by assumption)]; done) | (rw [putTo_skip (by omega) (by assumption)]; done) | exact filt_in zCell (by omega) (by first | assumption | exact nt (by assumption)) | exact filt_out zCell (by omega) (by first | assumption | exact nf (by assumption)))
 have h8 := h_; have r8 := h_; clear h_; try simp only [bb] at h8
 refine AC.rR [0, 1, 2, 3, 4, 5, 6, 7] ?_
 refine AOps.mc [0, 1, 2, 3, 4, 5, 6] (C' := (0 ≤ (q : Int) ∧ (q : Int) < (s.L.length : Int)) ∧ (((s.L.take q).filter (fun c => !gridClosed g c.Start s.Mark)).length = ((s.L.take q).filter (fun c => !gridClosed g c.Start s.Mark)).length ∧ ((s.L.take q).filter (fun c => !gridClosed g c.Start s.Mark)).length + 1 ≤ 9223372036854775807 ∧ (((s.L.take q).filter (fun c => !gridClosed g c.Start s.Mark)).length + 1) * 96 ≤ 140737488355328) ∧ True) ⟨[sp 3, sp 4, sp 6, (z42_6 s), (z42_32 g s q), (18, I (q : Int)), (145, tG 1016 12 0 (((s.L.take q).filter (fun c => !gridClosed g c.Start s.Mark)).length + 1))], [(z42_0 g), (z42_11 s), (z42_2), (1016, .arr 46 12 (((s.L.take q).filter (fun c => !gridClosed g c.Start s.Mark)).length + 1) fun i_ j_ => bif Nat.blt i_ ((s.L.take q).filter (fun c => !gridClosed g c.Start s.Mark)).length then nth (eCell (((s.L.take q).filter (fun c => !gridClosed g c.Start s.Mark)).getD i_ zCell)) j_ else (fun i_ j_ => nth [dI ((s.L.getD q zCell).Key), dI ((s.L.getD q zCell).Start), dI (((s.L.getD q zCell).A).Count), dI (((s.L.getD q zCell).A).Sum), dI (((s.L.getD q zCell).A).Min), dI (((s.L.getD q zCell).A).Max), dI ((((s.L.getD q zCell).A).Hist).h0), dI ((((s.L.getD q zCell).A).Hist).h1), dI ((((s.L.getD q zCell).A).Hist).h2), dI ((((s.L.getD q zCell).A).Hist).h3), dI (((s.L.getD q zCell).A).Re), dI (((s.L.getD q zCell).A).Im)] (i_ * 12 + j_)) (i_ - ((s.L.take q).filter (fun c => !gridClosed g c.Start s.Mark)).length) j_), (z42_34 g s q)]⟩ (⟨by omega, by omega, trivial⟩) ?_
 refine AOps.le (st' := ⟨[sp 3, sp 4, sp 6, (z42_6 s), (z42_32 g s q), (18, I (q : Int)), (145, tG 1016 12 0 (((s.L.take q).filter (fun c => !gridClosed g c.Start s.Mark) ++ [(s.L.getD q zCell)]).length))], y42_7 g s q⟩) (Le.of (lk rfl (lk rfl (lk rfl (lk rfl (lk rfl (lk rfl (LeS.cons rfl (TLe.gs (len1 _ _)) LeS.nil))))))) (ek rfl (ek rfl (ek rfl (LeE.cons rfl (BLe.app1 (e := 46) (sz := 12) (enc := eCell) (d := zCell) (L := (s.L.take q).filter (fun c => !gridClosed g c.Start s.Mark)) (x := (s.L.getD q zCell)) (g := fun i_ j_ => nth [dI ((s.L.getD q zCell).Key), dI ((s.L.getD q zCell).Start), dI (((s.L.getD q zCell).A).Count), dI (((s.L.getD q zCell).A).Sum), dI (((s.L.getD q zCell).A).Min), dI (((s.L.getD q zCell).A).Max), dI ((((s.L.getD q zCell).A).Hist).h0), dI ((((s.L.getD q zCell).A).Hist).h1), dI ((((s.L.getD q zCell).A).Hist).h2), dI ((((s.L.getD q zCell).A).Hist).h3), dI (((s.L.getD q zCell).A).Re), dI (((s.L.getD q zCell).A).Im)] (i_ * 12 + j_)) (fun j_ hj_ => by simp only [Nat.zero_mul, Nat.zero_add] <;> rfl)) (ek rfl LeE.nil))))) (by kernel_rfl)) ?_
 refine AOps.e ⟨[sp 3, sp 4, sp 6, (z42_6 s), (z42_36 g s q), (z42_32 g s q), (18, I (q : Int))], y42_7 g s q⟩ ?_
 refine AC.rR [0, 1, 2] ?_
 refine AOps.m [0, 1, 2] ⟨[sp 3, sp 4, sp 6, (z42_6 s), (z42_36 g s q), (z42_32 g s q), (z42_26 q)], y42_7 g s q⟩ ?_
 refine AOps.le (st' := ⟨[sp 3, sp 4, sp 6, (z42_6 s), (z42_36 g s q), (z42_32 g s q), (z42_27 q)], y42_7 g s q⟩) (Le.of (lk rfl (lk rfl (lk rfl (lk rfl (lk rfl (lk rfl (LeS.cons rfl (TLe.i (by rw [wrap_in (n := ((q : Int) + 1)) (by omega) (by omega)] <;> omega)) LeS.nil))))))) (ek rfl (ek rfl (ek rfl (ek rfl (ek rfl LeE.nil))))) (by kernel_rfl)) ?_
 refine AOps.done ?_
 try refine blockA_n ?_
 refine roundA_n (q + 1) (by omega) (by show s.L.length - (q + 1) < s.L.length - q; omega) (Le.of (lk rfl (lk rfl (lk rfl (lk rfl (LeS.cons rfl (TLe.gs (congrArg List.length ?_)) (LeS.cons rfl (TLe.gs (congrArg List.length ?_)) (LeS.cons rfl (TLe.i (by first | rfl | omega | (rw [putTo_put (by omega) (by assumption)]; done) | (rw [putTo_skip (by omega) (by assumption)]; done))) LeS.nil))))))) (ek rfl (ek rfl (ek rfl (LeE.cons rfl (BLe.eq (congrArg (arow 46 12 eCell zCell) ?_)) (LeE.cons rfl (BLe.eq (congrArg (arow 46 12 eCell zCell) ?_)) LeE.nil))))) (by kernel_rfl))
 iterate 4 (· first | rfl | (rw [putTo_put (by omega) (by assumption)]; done) | (rw [putTo_skip (by omega) (by assumption)]; done) | exact filt_in zCell (by omega) (by first | assumption | exact nt (by assumption)) | exact filt_out zCell (by omega) (by first | assumption | exact nf (by assumption)))
 have h7 := h_; have r7 := h_; clear h_; try simp only [bb] at h7
 refine AC.exit ?_
 repeat (first | refine thenA_x ?_ | refine roundA_x ?_ | refine joinA_x ?_ | refine blockA_hit ?_ | refine blockA_miss (by decide) ?_)
 refine AC.q ⟨[sp 4, sp 6, (z42_32 g s q)], [(4, .var ([.d (dI s.Mark), .d (dI (s.Late + 1)), .d (dI s.Bad), .d (dI (s.N + 1)), .gs 1016 12 0 (((s.L.take q).filter (fun c => !gridClosed g c.Start s.Mark)).length)])), (z42_2), (z42_33 g s q), (z42_34 g s q)]⟩ ?_
 refine AC.q ⟨[sp 6, (z42_37 g s q), (8, I 0)], [(6, .var ([.d (dI s.Mark), .d (dI (s.Late + 1)), .d (dI s.Bad), .d (dI (s.N + 1)), .gs 1016 12 0 (((s.L.take q).filter (fun c => !gridClosed g c.Start s.Mark)).length)])), (z42_33 g s q), (z42_34 g s q)]⟩ ?_
 refine AC.fz 1016 (0 + ((s.L.take q).filter (fun c => !gridClosed g c.Start s.Mark)).length ≤ ((s.L.take q).filter (fun c => !gridClosed g c.Start s.Mark)).length ∧ True) ⟨[sp 6, (z42_37 g s q), (8, I 0)], [(6, .var ([.d (dI s.Mark), .d (dI (s.Late + 1)), .d (dI s.Bad), .d (dI (s.N + 1)), .d (.sl 12 (((s.L.take q).filter (fun c => !gridClosed g c.Start s.Mark)).length) (fun i_ j_ => nth (eCell (((s.L.take q).filter (fun c => !gridClosed g c.Start s.Mark)).getD (0 + i_) zCell)) j_))])), (z42_34 g s q)]⟩ ⟨by omega, trivial⟩ ?_ rfl
 refine AC.le (st' := ⟨[sp 6, (z42_37 g s q), (8, I 0)], [(z42_38 g s q), (z42_34 g s q)]⟩) (Le.of (lk rfl (lk rfl (lk rfl LeS.nil))) (LeE.cons rfl (BLe.var (ck (ck (ck (ck (All2.cons (CLe.d (DLe.row0)) All2.nil)))))) (ek rfl LeE.nil)) (by kernel_rfl)) ?_
 refine AC.fz 1017 (0 + ((s.L.take q).filter (fun c => gridClosed g c.Start s.Mark)).length ≤ ((s.L.take q).filter (fun c => gridClosed g c.Start s.Mark)).length ∧ True) ⟨[sp 6, (7, tD (.sl 12 (((s.L.take q).filter (fun c => gridClosed g c.Start s.Mark)).length) (fun i_ j_ => nth (eCell (((s.L.take q).filter (fun c => gridClosed g c.Start s.Mark)).getD (0 + i_) zCell)) j_))), (8, I 0)], [(z42_38 g s q)]⟩ ⟨by omega, trivial⟩ ?_ rfl
 refine AC.le (st' := ⟨[sp 6, (7, tD (row 12 eCell zCell ((s.L.take q).filter (fun c => gridClosed g c.Start s.Mark)))), (8, I 0)], [(z42_38 g s q)]⟩) (Le.of (lk rfl (LeS.cons rfl (TLe.one (ULe.c (CLe.d (DLe.row0)))) (lk rfl LeS.nil))) (ek rfl LeE.nil) (by kernel_rfl)) ?_
 refine AC.ret ?_
 refine rqr (ufeed16 g s r) (All2.cons (ULe.eq (congrArg (fun x => U.agg ((eState x).map .d)) (show ((⟨s.Mark, (s.Late + 1), s.Bad, (s.N + 1), (s.L.take q).filter (fun c => !gridClosed g c.Start s.Mark)⟩ : State)) = (feedSt g s r) from ?_))) (All2.cons (ULe.c (CLe.d (DLe.eq (congrArg (row 12 eCell zCell) (show ((s.L.take q).filter (fun c => gridClosed g c.Start s.Mark)) = (feedOver g s r) from ?_))))) (All2.cons (ULe.c (CLe.d (DLe.eq (congrArg dI (show (0) = (feedErr g s r) from ?_))))) All2.nil)))
 iterate 3 (· first | (rw [hF.1]; done) | (rw [hF.2.1]; done) | (rw [hF.2.2]; done) | (rw [hF.1, List.take_of_length_le (by omega)]; done) | (rw [hF.2.1, List.take_of_length_le (by omega)]; done) | (rw [hF.1]; rfl))
 have h5 := h_; have r5 := h_; clear h_; try simp only [bb] at h5
 refine AC.skip ?_
 refine AC.seq ?_
 refine AC.q ⟨[sp 3, sp 4, sp 5, sp 6, (z42_7 g s r i), (113, B (decide (r.Time > s.Mark)))], y42_1 g s r⟩ ?_
 refine AC.cd (b := decide (r.Time > s.Mark)) (fun h_ => ?_) (fun h_ => ?_)
 have h6 := h_; have r6 := h_; clear h_; try simp only [bb] at h6
 refine AC.qR ⟨[sp 3, sp 4, sp 6, (z42_7 g s r i)], [(z42_0 g), (z42_39 s r), (z42_2)]⟩ ?_
 have hl1 : (putTo g s.Mark r.Key (valN r) (gridStarts g r.Time) s.L i).1 = feedL g s r := by unfold feedL feedDrop; rw [hO]; first | rw [if_pos (by assumption)] | rw [if_neg (Bool.eq_false_iff.1 (by assumption))]
 have hl2 : s.Late = (if feedDrop g s r then s.Late + 1 else s.Late) := by unfold feedDrop; rw [hO]; first | rw [if_pos (by assumption)] | rw [if_neg (Bool.eq_false_iff.1 (by assumption))]
 have hl3 : r.Time = feedMark s r := by unfold feedMark; first | rw [if_pos (by omega)] | rw [if_neg (by omega)]
 have hF := feed_some (g := g) hM (by omega) (by assumption) hl1 hl2 hl3
 have hL1 : ((putTo g s.Mark r.Key (valN r) (gridStarts g r.Time) s.L i).1).length ≤ 72 := by omega
 refine AC.q ⟨[sp 3, sp 4, sp 6, (z42_7 g s r i), (z42_13), (z42_14)], [(z42_0 g), (z42_39 s r), (z42_2)]⟩ ?_
 refine AC.seq ?_
 refine AC.q ⟨[sp 3, sp 4, sp 6, (z42_7 g s r i), (z42_13), (z42_14), (18, I 0)], [(z42_0 g), (z42_39 s r), (z42_2)]⟩ ?_
 refine AC.block ?_
 refine AC.nl 1016 16 46 12 (fun i_ j_ => nth (eCell (([] : List Cell).getD i_ zCell)) j_) ⟨[sp 3, sp 4, sp 6, (z42_7 g s r i), (z42_15), (z42_14), (18, I 0)], [(z42_0 g), (z42_39 s r), (z42_2), (z42_16)]⟩ ?_
 refine AC.nl 1017 17 46 12 (fun i_ j_ => nth (eCell (([] : List Cell).getD i_ zCell)) j_) ⟨[sp 3, sp 4, sp 6, (z42_7 g s r i), (z42_15), (z42_17), (18, I 0)], [(z42_0 g), (z42_39 s r), (z42_2), (z42_16), (z42_18)]⟩ ?_
 refine AC.loop (ι := Nat) (fun q => ⟨[sp 3, sp 4, sp 6, (z42_7 g s r i), (z42_40 g s r i q), (z42_41 g s r i q), (18, I (q : Int))], y42_8 g s r i q⟩) (fun q => (q ≤ ((putTo g s.Mark r.Key (valN r) (gridStarts g r.Time) s.L i).1).length)) (fun q => ((putTo g s.Mark r.Key (valN r) (gridStarts g r.Time) s.L i).1).length - q) (0) (by omega) (Le.of (lk rfl (lk rfl (lk rfl (lk rfl (LeS.cons rfl (TLe.gs (congrArg List.length ?_)) (LeS.cons rfl (TLe.gs (congrArg List.length ?_)) (LeS.cons rfl (TLe.i (by first | rfl | omega | (rw [putTo_put (by omega) (by assumption)]; done) | (rw [putTo_skip (by omega) (by assumption)]; done))) LeS.nil))))))) (ek rfl (ek rfl (ek rfl (LeE.cons rfl (BLe.eq (congrArg (arow 46 12 eCell zCell) ?_)) (LeE.cons rfl (BLe.eq (congrArg (arow 46 12 eCell zCell) ?_)) LeE.nil))))) (by kernel_rfl)) ?_
 iterate 4 (· first | rfl | (rw [putTo_put (by omega) (by assumption)]; done) | (rw [putTo_skip (by omega) (by assumption)]; done) | exact filt_in zCell (by omega) (by first | assumption | exact nt (by assumption)) | exact filt_out zCell (by omega) (by first | assumption | exact nf (by assumption)))
 intro q hi_
 have i1 : q ≤ ((putTo g s.Mark r.Key (valN r) (gridStarts g r.Time) s.L i).1).length := hi_; clear hi_
 show AC _ _ ⟨[sp 3, sp 4, sp 6, (z42_7 g s r i), (z42_40 g s r i q), (z42_41 g s r i q), (18, I (q : Int))], y42_8 g s r i q⟩ _
 have f1 := filt_len (fun c => !gridClosed g c.Start r.Time) ((putTo g s.Mark r.Key (valN r) (gridStarts g r.Time) s.L i).1) q
 have f2 := filt_len (fun c => gridClosed g c.Start r.Time) ((putTo g s.Mark r.Key (valN r) (gridStarts g r.Time) s.L i).1) q
 refine AC.seq ?_
 refine AC.q ⟨[sp 3, sp 4, sp 6, (z42_7 g s r i), (z42_40 g s r i q), (z42_41 g s r i q), (18, I (q : Int)), (120, B (decide ((q : Int) < (((putTo g s.Mark r.Key (valN r) (gridStarts g r.Time) s.L i).1).length : Int))))], y42_8 g s r i q⟩ ?_
 refine AC.cd (b := decide ((q : Int) < (((putTo g s.Mark r.Key (valN r) (gridStarts g r.Time) s.L i).1).length : Int))) (fun h_ => ?_) (fun h_ => ?_)
 have h7 := h_; have r7 := h_; clear h_; try simp only [bb] at h7
 refine AC.skip ?_
 refine AC.seq ?_
 refine AC.block ?_
 refine AC.dS 8 [] ⟨[sp 3, sp 4, sp 6, (z42_7 g s r i), (z42_40 g s r i q), (z42_41 g s r i q), (18, I (q : Int)), (z42_23 g), (124, tD (row 12 eCell zCell ((putTo g s.Mark r.Key (valN r) (gridStarts g r.Time) s.L i).1))), (125, I (q : Int)), (z42_44 g s r i q), (z42_45 g s r i q), (128, I ((((putTo g s.Mark r.Key (valN r) (gridStarts g r.Time) s.L i).1).getD q zCell).Start)), (129, tP 4 0), (130, I r.Time)], y42_8 g s r i q⟩ [8] (.inl rfl) ?_ ?_
 · exact (ar 4 (au (au (ar 2 AllUpTo.zero) ot) (OpAt.val rfl (by kernel_rfl) (C' := 0 ≤ (q : Int) ∧ (q : Int) < (((putTo g s.Mark r.Key (valN r) (gridStarts g r.Time) s.L i).1).length : Int)) (x := .one (.c (.ip 12 (fun j_ => nth (eCell (((putTo g s.Mark r.Key (valN r) (gridStarts g r.Time) s.L i).1).getD q zCell)) j_)))) (by kernel_rfl) (by omega) rfl (by kernel_rfl) (by kernel_rfl) (TLe.refl _) (by kernel_rfl) (by kernel_rfl) (by kernel_rfl))))
 refine AOps.ca (ok_closed14 g ((((putTo g s.Mark r.Key (valN r) (gridStarts g r.Time) s.L i).1).getD q zCell).Start) r.Time (by omega)) ?_
 rintro _ rfl
 refine AOps.done ?_
 refine AC.cd (b := gridClosed g ((((putTo g s.Mark r.Key (valN r) (gridStarts g r.Time) s.L i).1).getD q zCell).Start) r.Time) (fun h_ => ?_) (fun h_ => ?_)
 have h8 := h_; have r8 := h_; clear h_; try simp only [bb] at h8
 refine AC.rR [0, 1, 2, 3, 4, 5, 6, 7] ?_
 refine AOps.mc [0, 1, 2, 3, 4, 5, 6] (C' := (0 ≤ (q : Int) ∧ (q : Int) < (((putTo g s.Mark r.Key (valN r) (gridStarts g r.Time) s.L i).1).length : Int)) ∧ (((((putTo g s.Mark r.Key (valN r) (gridStarts g r.Time) s.L i).1).take q).filter (fun c => gridClosed g c.Start r.Time)).length = ((((putTo g s.Mark r.Key (valN r) (gridStarts g r.Time) s.L i).1).take q).filter (fun c => gridClosed g c.Start r.Time)).length ∧ ((((putTo g s.Mark r.Key (valN r) (gridStarts g r.Time) s.L i).1).take q).filter (fun c => gridClosed g c.Start r.Time)).length + 1 ≤ 9223372036854775807 ∧ (((((putTo g s.Mark r.Key (valN r) (gridStarts g r.Time) s.L i).1).take q).filter (fun c => gridClosed g c.Start r.Time)).length + 1) * 96 ≤ 140737488355328) ∧ True) ⟨[sp 3, sp 4, sp 6, (z42_7 g s r i), (z42_40 g s r i q), (18, I (q : Int)), (138, tG 1017 12 0 (((((putTo g s.Mark r.Key (valN r) (gridStarts g r.Time) s.L i).1).take q).filter (fun c => gridClosed g c.Start r.Time)).length + 1))], [(z42_0 g), (z42_39 s r), (z42_2), (z42_42 g s r i q), (1017, .arr 46 12 (((((putTo g s.Mark r.Key (valN r) (gridStarts g r.Time) s.L i).1).take q).filter (fun c => gridClosed g c.Start r.Time)).length + 1) fun i_ j_ => bif Nat.blt i_ ((((putTo g s.Mark r.Key (valN r) (gridStarts g r.Time) s.L i).1).take q).filter (fun c => gridClosed g c.Start r.Time)).length then nth (eCell (((((putTo g s.Mark r.Key (valN r) (gridStarts g r.Time) s.L i).1).take q).filter (fun c => gridClosed g c.Start r.Time)).getD i_ zCell)) j_ else (fun i_ j_ => nth [dI ((((putTo g s.Mark r.Key (valN r) (gridStarts g r.Time) s.L i).1).getD q zCell).Key), dI ((((putTo g s.Mark r.Key (valN r) (gridStarts g r.Time) s.L i).1).getD q zCell).Start), dI (((((putTo g s.Mark r.Key (valN r) (gridStarts g r.Time) s.L i).1).getD q zCell).A).Count), dI (((((putTo g s.Mark r.Key (valN r) (gridStarts g r.Time) s.L i).1).getD q zCell).A).Sum), dI (((((putTo g s.Mark r.Key (valN r) (gridStarts g r.Time) s.L i).1).getD q zCell).A).Min), dI (((((putTo g s.Mark r.Key (valN r) (gridStarts g r.Time) s.L i).1).getD q zCell).A).Max), dI ((((((putTo g s.Mark r.Key (valN r) (gridStarts g r.Time) s.L i).1).getD q zCell).A).Hist).h0), dI ((((((putTo g s.Mark r.Key (valN r) (gridStarts g r.Time) s.L i).1).getD q zCell).A).Hist).h1), dI ((((((putTo g s.Mark r.Key (valN r) (gridStarts g r.Time) s.L i).1).getD q zCell).A).Hist).h2), dI ((((((putTo g s.Mark r.Key (valN r) (gridStarts g r.Time) s.L i).1).getD q zCell).A).Hist).h3), dI (((((putTo g s.Mark r.Key (valN r) (gridStarts g r.Time) s.L i).1).getD q zCell).A).Re), dI (((((putTo g s.Mark r.Key (valN r) (gridStarts g r.Time) s.L i).1).getD q zCell).A).Im)] (i_ * 12 + j_)) (i_ - ((((putTo g s.Mark r.Key (valN r) (gridStarts g r.Time) s.L i).1).take q).filter (fun c => gridClosed g c.Start r.Time)).length) j_)]⟩ (⟨by omega, by omega, trivial⟩) ?_
 refine AOps.le (st' := ⟨[sp 3, sp 4, sp 6, (z42_7 g s r i), (z42_40 g s r i q), (18, I (q : Int)), (138, tG 1017 12 0 (((((putTo g s.Mark r.Key (valN r) (gridStarts g r.Time) s.L i).1).take q).filter (fun c => gridClosed g c.Start r.Time) ++ [(((putTo g s.Mark r.Key (valN r) (gridStarts g r.Time) s.L i).1).getD q zCell)]).length))], y42_9 g s r i q⟩) (Le.of (lk rfl (lk rfl (lk rfl (lk rfl (lk rfl (lk rfl (LeS.cons rfl (TLe.gs (len1 _ _)) LeS.nil))))))) (ek rfl (ek rfl (ek rfl (ek rfl (LeE.cons rfl (BLe.app1 (e := 46) (sz := 12) (enc := eCell) (d := zCell) (L := (((putTo g s.Mark r.Key (valN r) (gridStarts g r.Time) s.L i).1).take q).filter (fun c => gridClosed g c.Start r.Time)) (x := (((putTo g s.Mark r.Key (valN r) (gridStarts g r.Time) s.L i).1).getD q zCell)) (g := fun i_ j_ => nth [dI ((((putTo g s.Mark r.Key (valN r) (gridStarts g r.Time) s.L i).1).getD q zCell).Key), dI ((((putTo g s.Mark r.Key (valN r) (gridStarts g r.Time) s.L i).1).getD q zCell).Start), dI (((((putTo g s.Mark r.Key (valN r) (gridStarts g r.Time) s.L i).1).getD q zCell).A).Count), dI (((((putTo g s.Mark r.Key (valN r) (gridStarts g r.Time) s.L i).1).getD q zCell).A).Sum), dI (((((putTo g s.Mark r.Key (valN r) (gridStarts g r.Time) s.L i).1).getD q zCell).A).Min), dI (((((putTo g s.Mark r.Key (valN r) (gridStarts g r.Time) s.L i).1).getD q zCell).A).Max), dI ((((((putTo g s.Mark r.Key (valN r) (gridStarts g r.Time) s.L i).1).getD q zCell).A).Hist).h0), dI ((((((putTo g s.Mark r.Key (valN r) (gridStarts g r.Time) s.L i).1).getD q zCell).A).Hist).h1), dI ((((((putTo g s.Mark r.Key (valN r) (gridStarts g r.Time) s.L i).1).getD q zCell).A).Hist).h2), dI ((((((putTo g s.Mark r.Key (valN r) (gridStarts g r.Time) s.L i).1).getD q zCell).A).Hist).h3), dI (((((putTo g s.Mark r.Key (valN r) (gridStarts g r.Time) s.L i).1).getD q zCell).A).Re), dI (((((putTo g s.Mark r.Key (valN r) (gridStarts g r.Time) s.L i).1).getD q zCell).A).Im)] (i_ * 12 + j_)) (fun j_ hj_ => by simp only [Nat.zero_mul, Nat.zero_add] <;> rfl)) LeE.nil))))) (by kernel_rfl)) ?_
 refine AOps.e ⟨[sp 3, sp 4, sp 6, (z42_7 g s r i), (z42_40 g s r i q), (z42_46 g s r i q), (18, I (q : Int))], y42_9 g s r i q⟩ ?_
 refine AC.rR [0, 1, 2] ?_
 refine AOps.m [0, 1, 2] ⟨[sp 3, sp 4, sp 6, (z42_7 g s r i), (z42_40 g s r i q), (z42_46 g s r i q), (z42_26 q)], y42_9 g s r i q⟩ ?_
 refine AOps.le (st' := ⟨[sp 3, sp 4, sp 6, (z42_7 g s r i), (z42_40 g s r i q), (z42_46 g s r i q), (z42_27 q)], y42_9 g s r i q⟩) (Le.of (lk rfl (lk rfl (lk rfl (lk rfl (lk rfl (lk rfl (LeS.cons rfl (TLe.i (by rw [wrap_in (n := ((q : Int) + 1)) (by omega) (by omega)] <;> omega)) LeS.nil))))))) (ek rfl (ek rfl (ek rfl (ek rfl (ek rfl LeE.nil))))) (by kernel_rfl)) ?_
 refine AOps.done ?_
 try refine blockA_n ?_
 refine roundA_n (q + 1) (by omega) (by show ((putTo g s.Mark r.Key (valN r) (gridStarts g r.Time) s.L i).1).length - (q + 1) < ((putTo g s.Mark r.Key (valN r) (gridStarts g r.Time) s.L i).1).length - q; omega) (Le.of (lk rfl (lk rfl (lk rfl (lk rfl (LeS.cons rfl (TLe.gs (congrArg List.length ?_)) (LeS.cons rfl (TLe.gs (congrArg List.length ?_)) (LeS.cons rfl (TLe.i (by first | rfl | omega | (rw [putTo_put (by omega) (by assumption)]; done) | (rw [putTo_skip (by omega) (by assumption)]; done))) LeS.nil))))))) (ek rfl (ek rfl (ek rfl (LeE.cons rfl (BLe.eq (congrArg (arow 46 12 eCell zCell) ?_)) (LeE.cons rfl (BLe.eq (congrArg (arow 46 12 eCell zCell) ?_)) LeE.nil))))) (by kernel_rfl))
 iterate 4 (· first | rfl | (rw [putTo_put (by omega) (by assumption)]; done) | (rw [putTo_skip (by omega) (by assumption)]; done) | exact filt_in zCell (by omega) (by first | assumption | exact nt (by assumption)) | exact filt_out zCell (by omega) (by first | assumption | exact nf (by assumption)))
 have h8 := h_; have r8 := h_; clear h_; try simp only [bb] at h8
 refine AC.rR [0, 1, 2, 3, 4, 5, 6, 7] ?_
 refine AOps.mc [0, 1, 2, 3, 4, 5, 6] (C' := (0 ≤ (q : Int) ∧ (q : Int) < (((putTo g s.Mark r.Key (valN r) (gridStarts g r.Time) s.L i).1).length : Int)) ∧ (((((putTo g s.Mark r.Key (valN r) (gridStarts g r.Time) s.L i).1).take q).filter (fun c => !gridClosed g c.Start r.Time)).length = ((((putTo g s.Mark r.Key (valN r) (gridStarts g r.Time) s.L i).1).take q).filter (fun c => !gridClosed g c.Start r.Time)).length ∧ ((((putTo g s.Mark r.Key (valN r) (gridStarts g r.Time) s.L i).1).take q).filter (fun c => !gridClosed g c.Start r.Time)).length + 1 ≤ 9223372036854775807 ∧ (((((putTo g s.Mark r.Key (valN r) (gridStarts g r.Time) s.L i).1).take q).filter (fun c => !gridClosed g c.Start r.Time)).length + 1) * 96 ≤ 140737488355328) ∧ True) ⟨[sp 3, sp 4, sp 6, (z42_7 g s r i), (z42_41 g s r i q), (18, I (q : Int)), (145, tG 1016 12 0 (((((putTo g s.Mark r.Key (valN r) (gridStarts g r.Time) s.L i).1).take q).filter (fun c => !gridClosed g c.Start r.Time)).length + 1))], [(z42_0 g), (z42_39 s r), (z42_2), (1016, .arr 46 12 (((((putTo g s.Mark r.Key (valN r) (gridStarts g r.Time) s.L i).1).take q).filter (fun c => !gridClosed g c.Start r.Time)).length + 1) fun i_ j_ => bif Nat.blt i_ ((((putTo g s.Mark r.Key (valN r) (gridStarts g r.Time) s.L i).1).take q).filter (fun c => !gridClosed g c.Start r.Time)).length then nth (eCell (((((putTo g s.Mark r.Key (valN r) (gridStarts g r.Time) s.L i).1).take q).filter (fun c => !gridClosed g c.Start r.Time)).getD i_ zCell)) j_ else (fun i_ j_ => nth [dI ((((putTo g s.Mark r.Key (valN r) (gridStarts g r.Time) s.L i).1).getD q zCell).Key), dI ((((putTo g s.Mark r.Key (valN r) (gridStarts g r.Time) s.L i).1).getD q zCell).Start), dI (((((putTo g s.Mark r.Key (valN r) (gridStarts g r.Time) s.L i).1).getD q zCell).A).Count), dI (((((putTo g s.Mark r.Key (valN r) (gridStarts g r.Time) s.L i).1).getD q zCell).A).Sum), dI (((((putTo g s.Mark r.Key (valN r) (gridStarts g r.Time) s.L i).1).getD q zCell).A).Min), dI (((((putTo g s.Mark r.Key (valN r) (gridStarts g r.Time) s.L i).1).getD q zCell).A).Max), dI ((((((putTo g s.Mark r.Key (valN r) (gridStarts g r.Time) s.L i).1).getD q zCell).A).Hist).h0), dI ((((((putTo g s.Mark r.Key (valN r) (gridStarts g r.Time) s.L i).1).getD q zCell).A).Hist).h1), dI ((((((putTo g s.Mark r.Key (valN r) (gridStarts g r.Time) s.L i).1).getD q zCell).A).Hist).h2), dI ((((((putTo g s.Mark r.Key (valN r) (gridStarts g r.Time) s.L i).1).getD q zCell).A).Hist).h3), dI (((((putTo g s.Mark r.Key (valN r) (gridStarts g r.Time) s.L i).1).getD q zCell).A).Re), dI (((((putTo g s.Mark r.Key (valN r) (gridStarts g r.Time) s.L i).1).getD q zCell).A).Im)] (i_ * 12 + j_)) (i_ - ((((putTo g s.Mark r.Key (valN r) (gridStarts g r.Time) s.L i).1).take q).filter (fun c => !gridClosed g c.Start r.Time)).length) j_), (z42_43 g s r i q)]⟩ (⟨by omega, by omega, trivial⟩) ?_
 refine AOps.le (st' := ⟨[sp 3, sp 4, sp 6, (z42_7 g s r i), (z42_41 g s r i q), (18, I (q : Int)), (145, tG 1016 12 0 (((((putTo g s.Mark r.Key (valN r) (gridStarts g r.Time) s.L i).1).take q).filter (fun c => !gridClosed g c.Start r.Time) ++ [(((putTo g s.Mark r.Key (valN r) (gridStarts g r.Time) s.L i).1).getD q zCell)]).length))], y42_10 g s r i q⟩) (Le.of (lk rfl (lk rfl (lk rfl (lk rfl (lk rfl (lk rfl (LeS.cons rfl (TLe.gs (len1 _ _)) LeS.nil))))))) (ek rfl (ek rfl (ek rfl (LeE.cons rfl (BLe.app1 (e := 46) (sz := 12) (enc := eCell) (d := zCell) (L := (((putTo g s.Mark r.Key (valN r) (gridStarts g r.Time) s.L i).1).take q).filter (fun c => !gridClosed g c.Start r.Time)) (x := (((putTo g s.Mark r.Key (valN r) (gridStarts g r.Time) s.L i).1).getD q zCell)) (g := fun i_ j_ => nth [dI ((((putTo g s.Mark r.Key (valN r) (gridStarts g r.Time) s.L i).1).getD q zCell).Key), dI ((((putTo g s.Mark r.Key (valN r) (gridStarts g r.Time) s.L i).1).getD q zCell).Start), dI (((((putTo g s.Mark r.Key (valN r) (gridStarts g r.Time) s.L i).1).getD q zCell).A).Count), dI (((((putTo g s.Mark r.Key (valN r) (gridStarts g r.Time) s.L i).1).getD q zCell).A).Sum), dI (((((putTo g s.Mark r.Key (valN r) (gridStarts g r.Time) s.L i).1).getD q zCell).A).Min), dI (((((putTo g s.Mark r.Key (valN r) (gridStarts g r.Time) s.L i).1).getD q zCell).A).Max), dI ((((((putTo g s.Mark r.Key (valN r) (gridStarts g r.Time) s.L i).1).getD q zCell).A).Hist).h0), dI ((((((putTo g s.Mark r.Key (valN r) (gridStarts g r.Time) s.L i).1).getD q zCell).A).Hist).h1), dI ((((((putTo g s.Mark r.Key (valN r) (gridStarts g r.Time) s.L i).1).getD q zCell).A).Hist).h2), dI ((((((putTo g s.Mark r.Key (valN r) (gridStarts g r.Time) s.L i).1).getD q zCell).A).Hist).h3), dI (((((putTo g s.Mark r.Key (valN r) (gridStarts g r.Time) s.L i).1).getD q zCell).A).Re), dI (((((putTo g s.Mark r.Key (valN r) (gridStarts g r.Time) s.L i).1).getD q zCell).A).Im)] (i_ * 12 + j_)) (fun j_ hj_ => by simp only [Nat.zero_mul, Nat.zero_add] <;> rfl)) (ek rfl LeE.nil))))) (by kernel_rfl)) ?_
 refine AOps.e ⟨[sp 3, sp 4, sp 6, (z42_7 g s r i), (z42_47 g s r i q), (z42_41 g s r i q), (18, I (q : Int))], y42_10 g s r i q⟩ ?_
 refine AC.rR [0, 1, 2] ?_
 refine AOps.m [0, 1, 2] ⟨[sp 3, sp 4, sp 6, (z42_7 g s r i), (z42_47 g s r i q), (z42_41 g s r i q), (z42_26 q)], y42_10 g s r i q⟩ ?_
 refine AOps.le (st' := ⟨[sp 3, sp 4, sp 6, (z42_7 g s r i), (z42_47 g s r i q), (z42_41 g s r i q), (z42_27 q)], y42_10 g s r i q⟩) (Le.of (lk rfl (lk rfl (lk rfl (lk rfl (lk rfl (lk rfl (LeS.cons rfl (TLe.i (by rw [wrap_in (n := ((q : Int) + 1)) (by omega) (by omega)] <;> omega)) LeS.nil))))))) (ek rfl (ek rfl (ek rfl (ek rfl (ek rfl LeE.nil))))) (by kernel_rfl)) ?_
 refine AOps.done ?_
 try refine blockA_n ?_
 refine roundA_n (q + 1) (by omega) (by show ((putTo g s.Mark r.Key (valN r) (gridStarts g r.Time) s.L i).1).length - (q + 1) < ((putTo g s.Mark r.Key (valN r) (gridStarts g r.Time) s.L i).1).length - q; omega) (Le.of (lk rfl (lk rfl (lk rfl (lk rfl (LeS.cons rfl (TLe.gs (congrArg List.length ?_)) (LeS.cons rfl (TLe.gs (congrArg List.length ?_)) (LeS.cons rfl (TLe.i (by first | rfl | omega | (rw [putTo_put (by omega) (by assumption)]; done) | (rw [putTo_skip (by omega) (by assumption)]; done))) LeS.nil))))))) (ek rfl (ek rfl (ek rfl (LeE.cons rfl (BLe.eq (congrArg (arow 46 12 eCell zCell) ?_)) (LeE.cons rfl (BLe.eq (congrArg (arow 46 12 eCell zCell) ?_)) LeE.nil))))) (by kernel_rfl))
 iterate 4 (· first | rfl | (rw [putTo_put (by omega) (by assumption)]; done) | (rw [putTo_skip (by omega) (by assumption)]; done) | exact filt_in zCell (by omega) (by first | assumption | exact nt (by assumption)) | exact filt_out zCell (by omega) (by first | assumption | exact nf (by assumption)))
 have h7 := h_; have r7 := h_; clear h_; try simp only [bb] at h7
 refine AC.exit ?_
 repeat (first | refine thenA_x ?_ | refine roundA_x ?_ | refine joinA_x ?_ | refine blockA_hit ?_ | refine blockA_miss (by decide) ?_)
 refine AC.q ⟨[sp 4, sp 6, (z42_41 g s r i q)], [(4, .var ([.d (dI r.Time), .d (dI s.Late), .d (dI s.Bad), .d (dI (s.N + 1)), .gs 1016 12 0 (((((putTo g s.Mark r.Key (valN r) (gridStarts g r.Time) s.L i).1).take q).filter (fun c => !gridClosed g c.Start r.Time)).length)])), (z42_2), (z42_42 g s r i q), (z42_43 g s r i q)]⟩ ?_
 refine AC.q ⟨[sp 6, (z42_48 g s r i q), (8, I 0)], [(6, .var ([.d (dI r.Time), .d (dI s.Late), .d (dI s.Bad), .d (dI (s.N + 1)), .gs 1016 12 0 (((((putTo g s.Mark r.Key (valN r) (gridStarts g r.Time) s.L i).1).take q).filter (fun c => !gridClosed g c.Start r.Time)).length)])), (z42_42 g s r i q), (z42_43 g s r i q)]⟩ ?_
 refine AC.fz 1016 (0 + ((((putTo g s.Mark r.Key (valN r) (gridStarts g r.Time) s.L i).1).take q).filter (fun c => !gridClosed g c.Start r.Time)).length ≤ ((((putTo g s.Mark r.Key (valN r) (gridStarts g r.Time) s.L i).1).take q).filter (fun c => !gridClosed g c.Start r.Time)).length ∧ True) ⟨[sp 6, (z42_48 g s r i q), (8, I 0)], [(6, .var ([.d (dI r.Time), .d (dI s.Late), .d (dI s.Bad), .d (dI (s.N + 1)), .d (.sl 12 (((((putTo g s.Mark r.Key (valN r) (gridStarts g r.Time) s.L i).1).take q).filter (fun c => !gridClosed g c.Start r.Time)).length) (fun i_ j_ => nth (eCell (((((putTo g s.Mark r.Key (valN r) (gridStarts g r.Time) s.L i).1).take q).filter (fun c => !gridClosed g c.Start r.Time)).getD (0 + i_) zCell)) j_))])), (z42_43 g s r i q)]⟩ ⟨by omega, trivial⟩ ?_ rfl
 refine AC.le (st' := ⟨[sp 6, (z42_48 g s r i q), (8, I 0)], [(z42_49 g s r i q), (z42_43 g s r i q)]⟩) (Le.of (lk rfl (lk rfl (lk rfl LeS.nil))) (LeE.cons rfl (BLe.var (ck (ck (ck (ck (All2.cons (CLe.d (DLe.row0)) All2.nil)))))) (ek rfl LeE.nil)) (by kernel_rfl)) ?_
 refine AC.fz 1017 (0 + ((((putTo g s.Mark r.Key (valN r) (gridStarts g r.Time) s.L i).1).take q).filter (fun c => gridClosed g c.Start r.Time)).length ≤ ((((putTo g s.Mark r.Key (valN r) (gridStarts g r.Time) s.L i).1).take q).filter (fun c => gridClosed g c.Start r.Time)).length ∧ True) ⟨[sp 6, (7, tD (.sl 12 (((((putTo g s.Mark r.Key (valN r) (gridStarts g r.Time) s.L i).1).take q).filter (fun c => gridClosed g c.Start r.Time)).length) (fun i_ j_ => nth (eCell (((((putTo g s.Mark r.Key (valN r) (gridStarts g r.Time) s.L i).1).take q).filter (fun c => gridClosed g c.Start r.Time)).getD (0 + i_) zCell)) j_))), (8, I 0)], [(z42_49 g s r i q)]⟩ ⟨by omega, trivial⟩ ?_ rfl
 refine AC.le (st' := ⟨[sp 6, (7, tD (row 12 eCell zCell ((((putTo g s.Mark r.Key (valN r) (gridStarts g r.Time) s.L i).1).take q).filter (fun c => gridClosed g c.Start r.Time)))), (8, I 0)], [(z42_49 g s r i q)]⟩) (Le.of (lk rfl (LeS.cons rfl (TLe.one (ULe.c (CLe.d (DLe.row0)))) (lk rfl LeS.nil))) (ek rfl LeE.nil) (by kernel_rfl)) ?_
 refine AC.ret ?_
 refine rqr (ufeed16 g s r) (All2.cons (ULe.eq (congrArg (fun x => U.agg ((eState x).map .d)) (show ((⟨r.Time, s.Late, s.Bad, (s.N + 1), (((putTo g s.Mark r.Key (valN r) (gridStarts g r.Time) s.L i).1).take q).filter (fun c => !gridClosed g c.Start r.Time)⟩ : State)) = (feedSt g s r) from ?_))) (All2.cons (ULe.c (CLe.d (DLe.eq (congrArg (row 12 eCell zCell) (show ((((putTo g s.Mark r.Key (valN r) (gridStarts g r.Time) s.L i).1).take q).filter (fun c => gridClosed g c.Start r.Time)) = (feedOver g s r) from ?_))))) (All2.cons (ULe.c (CLe.d (DLe.eq (congrArg dI (show (0) = (feedErr g s r) from ?_))))) All2.nil)))
 iterate 3 (· first | (rw [hF.1]; done) | (rw [hF.2.1]; done) | (rw [hF.2.2]; done) | (rw [hF.1, List.take_of_length_le (by omega)]; done) | (rw [hF.2.1, List.take_of_length_le (by omega)]; done) | (rw [hF.1]; rfl))
 have h6 := h_; have r6 := h_; clear h_; try simp only [bb] at h6
 refine AC.skip ?_
 have hl1 : (putTo g s.Mark r.Key (valN r) (gridStarts g r.Time) s.L i).1 = feedL g s r := by unfold feedL feedDrop; rw [hO]; first | rw [if_pos (by assumption)] | rw [if_neg (Bool.eq_false_iff.1 (by assumption))]
 have hl2 : s.Late = (if feedDrop g s r then s.Late + 1 else s.Late) := by unfold feedDrop; rw [hO]; first | rw [if_pos (by assumption)] | rw [if_neg (Bool.eq_false_iff.1 (by assumption))]
 have hl3 : s.Mark = feedMark s r := by unfold feedMark; first | rw [if_pos (by omega)] | rw [if_neg (by omega)]
 have hF := feed_some (g := g) hM (by omega) (by assumption) hl1 hl2 hl3
 have hL1 : ((putTo g s.Mark r.Key (valN r) (gridStarts g r.Time) s.L i).1).length ≤ 72 := by omega
 refine AC.q ⟨[sp 3, sp 4, sp 6, (z42_7 g s r i), (z42_13), (z42_14)], [(z42_0 g), (z42_4 s), (z42_2)]⟩ ?_
 refine AC.seq ?_
 refine AC.q ⟨[sp 3, sp 4, sp 6, (z42_7 g s r i), (z42_13), (z42_14), (18, I 0)], [(z42_0 g), (z42_4 s), (z42_2)]⟩ ?_
 refine AC.block ?_
 refine AC.nl 1016 16 46 12 (fun i_ j_ => nth (eCell (([] : List Cell).getD i_ zCell)) j_) ⟨[sp 3, sp 4, sp 6, (z42_7 g s r i), (z42_15), (z42_14), (18, I 0)], [(z42_0 g), (z42_4 s), (z42_2), (z42_16)]⟩ ?_
 refine AC.nl 1017 17 46 12 (fun i_ j_ => nth (eCell (([] : List Cell).getD i_ zCell)) j_) ⟨[sp 3, sp 4, sp 6, (z42_7 g s r i), (z42_15), (z42_17), (18, I 0)], [(z42_0 g), (z42_4 s), (z42_2), (z42_16), (z42_18)]⟩ ?_
 refine AC.loop (ι := Nat) (fun q => ⟨[sp 3, sp 4, sp 6, (z42_7 g s r i), (z42_50 g s r i q), (z42_51 g s r i q), (18, I (q : Int))], y42_11 g s r i q⟩) (fun q => (q ≤ ((putTo g s.Mark r.Key (valN r) (gridStarts g r.Time) s.L i).1).length)) (fun q => ((putTo g s.Mark r.Key (valN r) (gridStarts g r.Time) s.L i).1).length - q) (0) (by omega) (Le.of (lk rfl (lk rfl (lk rfl (lk rfl (LeS.cons rfl (TLe.gs (congrArg List.length ?_)) (LeS.cons rfl (TLe.gs (congrArg List.length ?_)) (LeS.cons rfl (TLe.i (by first | rfl | omega | (rw [putTo_put (by omega) (by assumption)]; done) | (rw [putTo_skip (by omega) (by assumption)]; done))) LeS.nil))))))) (ek rfl (ek rfl (ek rfl (LeE.cons rfl (BLe.eq (congrArg (arow 46 12 eCell zCell) ?_)) (LeE.cons rfl (BLe.eq (congrArg (arow 46 12 eCell zCell) ?_)) LeE.nil))))) (by kernel_rfl)) ?_
 iterate 4 (· first | rfl | (rw [putTo_put (by omega) (by assumption)]; done) | (rw [putTo_skip (by omega) (by assumption)]; done) | exact filt_in zCell (by omega) (by first | assumption | exact nt (by assumption)) | exact filt_out zCell (by omega) (by first | assumption | exact nf (by assumption)))
 intro q hi_
 have i1 : q ≤ ((putTo g s.Mark r.Key (valN r) (gridStarts g r.Time) s.L i).1).length := hi_; clear hi_
 show AC _ _ ⟨[sp 3, sp 4, sp 6, (z42_7 g s r i), (z42_50 g s r i q), (z42_51 g s r i q), (18, I (q : Int))], y42_11 g s r i q⟩ _
 have f1 := filt_len (fun c => !gridClosed g c.Start s.Mark) ((putTo g s.Mark r.Key (valN r) (gridStarts g r.Time) s.L i).1) q
 have f2 := filt_len (fun c => gridClosed g c.Start s.Mark) ((putTo g s.Mark r.Key (valN r) (gridStarts g r.Time) s.L i).1) q
 refine AC.seq ?_
 refine AC.q ⟨[sp 3, sp 4, sp 6, (z42_7 g s r i), (z42_50 g s r i q), (z42_51 g s r i q), (18, I (q : Int)), (120, B (decide ((q : Int) < (((putTo g s.Mark r.Key (valN r) (gridStarts g r.Time) s.L i).1).length : Int))))], y42_11 g s r i q⟩ ?_
 refine AC.cd (b := decide ((q : Int) < (((putTo g s.Mark r.Key (valN r) (gridStarts g r.Time) s.L i).1).length : Int))) (fun h_ => ?_) (fun h_ => ?_)
 have h7 := h_; have r7 := h_; clear h_; try simp only [bb] at h7
 refine AC.skip ?_
 refine AC.seq ?_
 refine AC.block ?_
 refine AC.dS 8 [] ⟨[sp 3, sp 4, sp 6, (z42_7 g s r i), (z42_50 g s r i q), (z42_51 g s r i q), (18, I (q : Int)), (z42_23 g), (124, tD (row 12 eCell zCell ((putTo g s.Mark r.Key (valN r) (gridStarts g r.Time) s.L i).1))), (125, I (q : Int)), (z42_44 g s r i q), (z42_45 g s r i q), (128, I ((((putTo g s.Mark r.Key (valN r) (gridStarts g r.Time) s.L i).1).getD q zCell).Start)), (129, tP 4 0), (130, I s.Mark)], y42_11 g s r i q⟩ [8] (.inl rfl) ?_ ?_
 · exact (ar 4 (au (au (ar 2 AllUpTo.zero) ot) (OpAt.val rfl (by kernel_rfl) (C' := 0 ≤ (q : Int) ∧ (q : Int) < (((putTo g s.Mark r.Key (valN r) (gridStarts g r.Time) s.L i).1).length : Int)) (x := .one (.c (.ip 12 (fun j_ => nth (eCell (((putTo g s.Mark r.Key (valN r) (gridStarts g r.Time) s.L i).1).getD q zCell)) j_)))) (by kernel_rfl) (by omega) rfl (by kernel_rfl) (by kernel_rfl) (TLe.refl _) (by kernel_rfl) (by kernel_rfl) (by kernel_rfl))))
 refine AOps.ca (ok_closed14 g ((((putTo g s.Mark r.Key (valN r) (gridStarts g r.Time) s.L i).1).getD q zCell).Start) s.Mark (by omega)) ?_
 rintro _ rfl
 refine AOps.done ?_
 refine AC.cd (b := gridClosed g ((((putTo g s.Mark r.Key (valN r) (gridStarts g r.Time) s.L i).1).getD q zCell).Start) s.Mark) (fun h_ => ?_) (fun h_ => ?_)
 have h8 := h_; have r8 := h_; clear h_; try simp only [bb] at h8
 refine AC.rR [0, 1, 2, 3, 4, 5, 6, 7] ?_
 refine AOps.mc [0, 1, 2, 3, 4, 5, 6] (C' := (0 ≤ (q : Int) ∧ (q : Int) < (((putTo g s.Mark r.Key (valN r) (gridStarts g r.Time) s.L i).1).length : Int)) ∧ (((((putTo g s.Mark r.Key (valN r) (gridStarts g r.Time) s.L i).1).take q).filter (fun c => gridClosed g c.Start s.Mark)).length = ((((putTo g s.Mark r.Key (valN r) (gridStarts g r.Time) s.L i).1).take q).filter (fun c => gridClosed g c.Start s.Mark)).length ∧ ((((putTo g s.Mark r.Key (valN r) (gridStarts g r.Time) s.L i).1).take q).filter (fun c => gridClosed g c.Start s.Mark)).length + 1 ≤ 9223372036854775807 ∧ (((((putTo g s.Mark r.Key (valN r) (gridStarts g r.Time) s.L i).1).take q).filter (fun c => gridClosed g c.Start s.Mark)).length + 1) * 96 ≤ 140737488355328) ∧ True) ⟨[sp 3, sp 4, sp 6, (z42_7 g s r i), (z42_50 g s r i q), (18, I (q : Int)), (138, tG 1017 12 0 (((((putTo g s.Mark r.Key (valN r) (gridStarts g r.Time) s.L i).1).take q).filter (fun c => gridClosed g c.Start s.Mark)).length + 1))], [(z42_0 g), (z42_4 s), (z42_2), (z42_52 g s r i q), (1017, .arr 46 12 (((((putTo g s.Mark r.Key (valN r) (gridStarts g r.Time) s.L i).1).take q).filter (fun c => gridClosed g c.Start s.Mark)).length + 1) fun i_ j_ => bif Nat.blt i_ ((((putTo g s.Mark r.Key (valN r) (gridStarts g r.Time) s.L i).1).take q).filter (fun c => gridClosed g c.Start s.Mark)).length then nth (eCell (((((putTo g s.Mark r.Key (valN r) (gridStarts g r.Time) s.L i).1).take q).filter (fun c => gridClosed g c.Start s.Mark)).getD i_ zCell)) j_ else (fun i_ j_ => nth [dI ((((putTo g s.Mark r.Key (valN r) (gridStarts g r.Time) s.L i).1).getD q zCell).Key), dI ((((putTo g s.Mark r.Key (valN r) (gridStarts g r.Time) s.L i).1).getD q zCell).Start), dI (((((putTo g s.Mark r.Key (valN r) (gridStarts g r.Time) s.L i).1).getD q zCell).A).Count), dI (((((putTo g s.Mark r.Key (valN r) (gridStarts g r.Time) s.L i).1).getD q zCell).A).Sum), dI (((((putTo g s.Mark r.Key (valN r) (gridStarts g r.Time) s.L i).1).getD q zCell).A).Min), dI (((((putTo g s.Mark r.Key (valN r) (gridStarts g r.Time) s.L i).1).getD q zCell).A).Max), dI ((((((putTo g s.Mark r.Key (valN r) (gridStarts g r.Time) s.L i).1).getD q zCell).A).Hist).h0), dI ((((((putTo g s.Mark r.Key (valN r) (gridStarts g r.Time) s.L i).1).getD q zCell).A).Hist).h1), dI ((((((putTo g s.Mark r.Key (valN r) (gridStarts g r.Time) s.L i).1).getD q zCell).A).Hist).h2), dI ((((((putTo g s.Mark r.Key (valN r) (gridStarts g r.Time) s.L i).1).getD q zCell).A).Hist).h3), dI (((((putTo g s.Mark r.Key (valN r) (gridStarts g r.Time) s.L i).1).getD q zCell).A).Re), dI (((((putTo g s.Mark r.Key (valN r) (gridStarts g r.Time) s.L i).1).getD q zCell).A).Im)] (i_ * 12 + j_)) (i_ - ((((putTo g s.Mark r.Key (valN r) (gridStarts g r.Time) s.L i).1).take q).filter (fun c => gridClosed g c.Start s.Mark)).length) j_)]⟩ (⟨by omega, by omega, trivial⟩) ?_
 refine AOps.le (st' := ⟨[sp 3, sp 4, sp 6, (z42_7 g s r i), (z42_50 g s r i q), (18, I (q : Int)), (138, tG 1017 12 0 (((((putTo g s.Mark r.Key (valN r) (gridStarts g r.Time) s.L i).1).take q).filter (fun c => gridClosed g c.Start s.Mark) ++ [(((putTo g s.Mark r.Key (valN r) (gridStarts g r.Time) s.L i).1).getD q zCell)]).length))], y42_12 g s r i q⟩) (Le.of (lk rfl (lk rfl (lk rfl (lk rfl (lk rfl (lk rfl (LeS.cons rfl (TLe.gs (len1 _ _)) LeS.nil))))))) (ek rfl (ek rfl (ek rfl (ek rfl (LeE.cons rfl (BLe.app1 (e := 46) (sz := 12) (enc := eCell) (d := zCell) (L := (((putTo g s.Mark r.Key (valN r) (gridStarts g r.Time) s.L i).1).take q).filter (fun c => gridClosed g c.Start s.Mark)) (x := (((putTo g s.Mark r.Key (valN r) (gridStarts g r.Time) s.L i).1).getD q zCell)) (g := fun i_ j_ => nth [dI ((((putTo g s.Mark r.Key (valN r) (gridStarts g r.Time) s.L i).1).getD q zCell).Key), dI ((((putTo g s.Mark r.Key (valN r) (gridStarts g r.Time) s.L i).1).getD q zCell).Start), dI (((((putTo g s.Mark r.Key (valN r) (gridStarts g r.Time) s.L i).1).getD q zCell).A).Count), dI (((((putTo g s.Mark r.Key (valN r) (gridStarts g r.Time) s.L i).1).getD q zCell).A).Sum), dI (((((putTo g s.Mark r.Key (valN r) (gridStarts g r.Time) s.L i).1).getD q zCell).A).Min), dI (((((putTo g s.Mark r.Key (valN r) (gridStarts g r.Time) s.L i).1).getD q zCell).A).Max), dI ((((((putTo g s.Mark r.Key (valN r) (gridStarts g r.Time) s.L i).1).getD q zCell).A).Hist).h0), dI ((((((putTo g s.Mark r.Key (valN r) (gridStarts g r.Time) s.L i).1).getD q zCell).A).Hist).h1), dI ((((((putTo g s.Mark r.Key (valN r) (gridStarts g r.Time) s.L i).1).getD q zCell).A).Hist).h2), dI ((((((putTo g s.Mark r.Key (valN r) (gridStarts g r.Time) s.L i).1).getD q zCell).A).Hist).h3), dI (((((putTo g s.Mark r.Key (valN r) (gridStarts g r.Time) s.L i).1).getD q zCell).A).Re), dI (((((putTo g s.Mark r.Key (valN r) (gridStarts g r.Time) s.L i).1).getD q zCell).A).Im)] (i_ * 12 + j_)) (fun j_ hj_ => by simp only [Nat.zero_mul, Nat.zero_add] <;> rfl)) LeE.nil))))) (by kernel_rfl)) ?_
 refine AOps.e ⟨[sp 3, sp 4, sp 6, (z42_7 g s r i), (z42_50 g s r i q), (z42_54 g s r i q), (18, I (q : Int))], y42_12 g s r i q⟩ ?_
 refine AC.rR [0, 1, 2] ?_
 refine AOps.m [0, 1, 2] ⟨[sp 3, sp 4, sp 6, (z42_7 g s r i), (z42_50 g s r i q), (z42_54 g s r i q), (z42_26 q)], y42_12 g s r i q⟩ ?_
 refine AOps.le (st' := ⟨[sp 3, sp 4, sp 6, (z42_7 g s r i), (z42_50 g s r i q), (z42_54 g s r i q), (z42_27 q)], y42_12 g s r i q⟩) (Le.of (lk rfl (lk rfl (lk rfl (lk rfl (lk rfl (lk rfl (LeS.cons rfl (TLe.i (by rw [wrap_in (n := ((q : Int) + 1)) (by omega) (by omega)] <;> omega)) LeS.nil))))))) (ek rfl (ek rfl (ek rfl (ek rfl (ek rfl LeE.nil))))) (by kernel_rfl)) ?_
 refine AOps.done ?_
 try refine blockA_n ?_
 refine roundA_n (q + 1) (by omega) (by show ((putTo g s.Mark r.Key (valN r) (gridStarts g r.Time) s.L i).1).length - (q + 1) < ((putTo g s.Mark r.Key (valN r) (gridStarts g r.Time) s.L i).1).length - q; omega) (Le.of (lk rfl (lk rfl (lk rfl (lk rfl (LeS.cons rfl (TLe.gs (congrArg List.length ?_)) (LeS.cons rfl (TLe.gs (congrArg List.length ?_)) (LeS.cons rfl (TLe.i (by first | rfl | omega | (rw [putTo_put (by omega) (by assumption)]; done) | (rw [putTo_skip (by omega) (by assumption)]; done))) LeS.nil))))))) (ek rfl (ek rfl (ek rfl (LeE.cons rfl (BLe.eq (congrArg (arow 46 12 eCell zCell) ?_)) (LeE.cons rfl (BLe.eq (congrArg (arow 46 12 eCell zCell) ?_)) LeE.nil))))) (by kernel_rfl))
 iterate 4 (· first | rfl | (rw [putTo_put (by omega) (by assumption)]; done) | (rw [putTo_skip (by omega) (by assumption)]; done) | exact filt_in zCell (by omega) (by first | assumption | exact nt (by assumption)) | exact filt_out zCell (by omega) (by first | assumption | exact nf (by assumption)))
 have h8 := h_; have r8 := h_; clear h_; try simp only [bb] at h8
 refine AC.rR [0, 1, 2, 3, 4, 5, 6, 7] ?_
 refine AOps.mc [0, 1, 2, 3, 4, 5, 6] (C' := (0 ≤ (q : Int) ∧ (q : Int) < (((putTo g s.Mark r.Key (valN r) (gridStarts g r.Time) s.L i).1).length : Int)) ∧ (((((putTo g s.Mark r.Key (valN r) (gridStarts g r.Time) s.L i).1).take q).filter (fun c => !gridClosed g c.Start s.Mark)).length = ((((putTo g s.Mark r.Key (valN r) (gridStarts g r.Time) s.L i).1).take q).filter (fun c => !gridClosed g c.Start s.Mark)).length ∧ ((((putTo g s.Mark r.Key (valN r) (gridStarts g r.Time) s.L i).1).take q).filter (fun c => !gridClosed g c.Start s.Mark)).length + 1 ≤ 9223372036854775807 ∧ (((((putTo g s.Mark r.Key (valN r) (gridStarts g r.Time) s.L i).1).take q).filter (fun c => !gridClosed g c.Start s.Mark)).length + 1) * 96 ≤ 140737488355328) ∧ True) ⟨[sp 3, sp 4, sp 6, (z42_7 g s r i), (z42_51 g s r i q), (18, I (q : Int)), (145, tG 1016 12 0 (((((putTo g s.Mark r.Key (valN r) (gridStarts g r.Time) s.L i).1).take q).filter (fun c => !gridClosed g c.Start s.Mark)).length + 1))], [(z42_0 g), (z42_4 s), (z42_2), (1016, .arr 46 12 (((((putTo g s.Mark r.Key (valN r) (gridStarts g r.Time) s.L i).1).take q).filter (fun c => !gridClosed g c.Start s.Mark)).length + 1) fun i_ j_ => bif Nat.blt i_ ((((putTo g s.Mark r.Key (valN r) (gridStarts g r.Time) s.L i).1).take q).filter (fun c => !gridClosed g c.Start s.Mark)).length then nth (eCell (((((putTo g s.Mark r.Key (valN r) (gridStarts g r.Time) s.L i).1).take q).filter (fun c => !gridClosed g c.Start s.Mark)).getD i_ zCell)) j_ else (fun i_ j_ => nth [dI ((((putTo g s.Mark r.Key (valN r) (gridStarts g r.Time) s.L i).1).getD q zCell).Key), dI ((((putTo g s.Mark r.Key (valN r) (gridStarts g r.Time) s.L i).1).getD q zCell).Start), dI (((((putTo g s.Mark r.Key (valN r) (gridStarts g r.Time) s.L i).1).getD q zCell).A).Count), dI (((((putTo g s.Mark r.Key (valN r) (gridStarts g r.Time) s.L i).1).getD q zCell).A).Sum), dI (((((putTo g s.Mark r.Key (valN r) (gridStarts g r.Time) s.L i).1).getD q zCell).A).Min), dI (((((putTo g s.Mark r.Key (valN r) (gridStarts g r.Time) s.L i).1).getD q zCell).A).Max), dI ((((((putTo g s.Mark r.Key (valN r) (gridStarts g r.Time) s.L i).1).getD q zCell).A).Hist).h0), dI ((((((putTo g s.Mark r.Key (valN r) (gridStarts g r.Time) s.L i).1).getD q zCell).A).Hist).h1), dI ((((((putTo g s.Mark r.Key (valN r) (gridStarts g r.Time) s.L i).1).getD q zCell).A).Hist).h2), dI ((((((putTo g s.Mark r.Key (valN r) (gridStarts g r.Time) s.L i).1).getD q zCell).A).Hist).h3), dI (((((putTo g s.Mark r.Key (valN r) (gridStarts g r.Time) s.L i).1).getD q zCell).A).Re), dI (((((putTo g s.Mark r.Key (valN r) (gridStarts g r.Time) s.L i).1).getD q zCell).A).Im)] (i_ * 12 + j_)) (i_ - ((((putTo g s.Mark r.Key (valN r) (gridStarts g r.Time) s.L i).1).take q).filter (fun c => !gridClosed g c.Start s.Mark)).length) j_), (z42_53 g s r i q)]⟩ (⟨by omega, by omega, trivial⟩) ?_
 refine AOps.le (st' := ⟨[sp 3, sp 4, sp 6, (z42_7 g s r i), (z42_51 g s r i q), (18, I (q : Int)), (145, tG 1016 12 0 (((((putTo g s.Mark r.Key (valN r) (gridStarts g r.Time) s.L i).1).take q).filter (fun c => !gridClosed g c.Start s.Mark) ++ [(((putTo g s.Mark r.Key (valN r) (gridStarts g r.Time) s.L i).1).getD q zCell)]).length))], y42_13 g s r i q⟩) (Le.of (lk rfl (lk rfl (lk rfl (lk rfl (lk rfl (lk rfl (LeS.cons rfl (TLe.gs (len1 _ _)) LeS.nil))))))) (ek rfl (ek rfl (ek rfl (LeE.cons rfl (BLe.app1 (e := 46) (sz := 12) (enc := eCell) (d := zCell) (L := (((putTo g s.Mark r.Key (valN r) (gridStarts g r.Time) s.L i).1).take q).filter (fun c => !gridClosed g c.Start s.Mark)) (x := (((putTo g s.Mark r.Key (valN r) (gridStarts g r.Time) s.L i).1).getD q zCell)) (g := fun i_ j_ => nth [dI ((((putTo g s.Mark r.Key (valN r) (gridStarts g r.Time) s.L i).1).getD q zCell).Key), dI ((((putTo g s.Mark r.Key (valN r) (gridStarts g r.Time) s.L i).1).getD q zCell).Start), dI (((((putTo g s.Mark r.Key (valN r) (gridStarts g r.Time) s.L i).1).getD q zCell).A).Count), dI (((((putTo g s.Mark r.Key (valN r) (gridStarts g r.Time) s.L i).1).getD q zCell).A).Sum), dI (((((putTo g s.Mark r.Key (valN r) (gridStarts g r.Time) s.L i).1).getD q zCell).A).Min), dI (((((putTo g s.Mark r.Key (valN r) (gridStarts g r.Time) s.L i).1).getD q zCell).A).Max), dI ((((((putTo g s.Mark r.Key (valN r) (gridStarts g r.Time) s.L i).1).getD q zCell).A).Hist).h0), dI ((((((putTo g s.Mark r.Key (valN r) (gridStarts g r.Time) s.L i).1).getD q zCell).A).Hist).h1), dI ((((((putTo g s.Mark r.Key (valN r) (gridStarts g r.Time) s.L i).1).getD q zCell).A).Hist).h2), dI ((((((putTo g s.Mark r.Key (valN r) (gridStarts g r.Time) s.L i).1).getD q zCell).A).Hist).h3), dI (((((putTo g s.Mark r.Key (valN r) (gridStarts g r.Time) s.L i).1).getD q zCell).A).Re), dI (((((putTo g s.Mark r.Key (valN r) (gridStarts g r.Time) s.L i).1).getD q zCell).A).Im)] (i_ * 12 + j_)) (fun j_ hj_ => by simp only [Nat.zero_mul, Nat.zero_add] <;> rfl)) (ek rfl LeE.nil))))) (by kernel_rfl)) ?_
 refine AOps.e ⟨[sp 3, sp 4, sp 6, (z42_7 g s r i), (z42_55 g s r i q), (z42_51 g s r i q), (18, I (q : Int))], y42_13 g s r i q⟩ ?_
 refine AC.rR [0, 1, 2] ?_
 refine AOps.m [0, 1, 2] ⟨[sp 3, sp 4, sp 6, (z42_7 g s r i), (z42_55 g s r i q), (z42_51 g s r i q), (z42_26 q)], y42_13 g s r i q⟩ ?_
 refine AOps.le (st' := ⟨[sp 3, sp 4, sp 6, (z42_7 g s r i), (z42_55 g s r i q), (z42_51 g s r i q), (z42_27 q)], y42_13 g s r i q⟩) (Le.of (lk rfl (lk rfl (lk rfl (lk rfl (lk rfl (lk rfl (LeS.cons rfl (TLe.i (by rw [wrap_in (n := ((q : Int) + 1)) (by omega) (by omega)] <;> omega)) LeS.nil))))))) (ek rfl (ek rfl (ek rfl (ek rfl (ek rfl LeE.nil))))) (by kernel_rfl)) ?_
 refine AOps.done ?_
 try refine blockA_n ?_
 refine roundA_n (q + 1) (by omega) (by show ((putTo g s.Mark r.Key (valN r) (gridStarts g r.Time) s.L i).1).length - (q + 1) < ((putTo g s.Mark r.Key (valN r) (gridStarts g r.Time) s.L i).1).length - q; omega) (Le.of (lk rfl (lk rfl (lk rfl (lk rfl (LeS.cons rfl (TLe.gs (congrArg List.length ?_)) (LeS.cons rfl (TLe.gs (congrArg List.length ?_)) (LeS.cons rfl (TLe.i (by first | rfl | omega | (rw [putTo_put (by omega) (by assumption)]; done) | (rw [putTo_skip (by omega) (by assumption)]; done))) LeS.nil))))))) (ek rfl (ek rfl (ek rfl (LeE.cons rfl (BLe.eq (congrArg (arow 46 12 eCell zCell) ?_)) (LeE.cons rfl (BLe.eq (congrArg (arow 46 12 eCell zCell) ?_)) LeE.nil))))) (by kernel_rfl))
 iterate 4 (· first | rfl | (rw [putTo_put (by omega) (by assumption)]; done) | (rw [putTo_skip (by omega) (by assumption)]; done) | exact filt_in zCell (by omega) (by first | assumption | exact nt (by assumption)) | exact filt_out zCell (by omega) (by first | assumption | exact nf (by assumption)))
 have h7 := h_; have r7 := h_; clear h_; try simp only [bb] at h7
 refine AC.exit ?_
 repeat (first | refine thenA_x ?_ | refine roundA_x ?_ | refine joinA_x ?_ | refine blockA_hit ?_ | refine blockA_miss (by decide) ?_)
 refine AC.q ⟨[sp 4, sp 6, (z42_51 g s r i q)], [(4, .var ([.d (dI s.Mark), .d (dI s.Late), .d (dI s.Bad), .d (dI (s.N + 1)), .gs 1016 12 0 (((((putTo g s.Mark r.Key (valN r) (gridStarts g r.Time) s.L i).1).take q).filter (fun c => !gridClosed g c.Start s.Mark)).length)])), (z42_2), (z42_52 g s r i q), (z42_53 g s r i q)]⟩ ?_
 refine AC.q ⟨[sp 6, (z42_56 g s r i q), (8, I 0)], [(6, .var ([.d (dI s.Mark), .d (dI s.Late), .d (dI s.Bad), .d (dI (s.N + 1)), .gs 1016 12 0 (((((putTo g s.Mark r.Key (valN r) (gridStarts g r.Time) s.L i).1).take q).filter (fun c => !gridClosed g c.Start s.Mark)).length)])), (z42_52 g s r i q), (z42_53 g s r i q)]⟩ ?_
 refine AC.fz 1016 (0 + ((((putTo g s.Mark r.Key (valN r) (gridStarts g r.Time) s.L i).1).take q).filter (fun c => !gridClosed g c.Start s.Mark)).length ≤ ((((putTo g s.Mark r.Key (valN r) (gridStarts g r.Time) s.L i).1).take q).filter (fun c => !gridClosed g c.Start s.Mark)).length ∧ True) ⟨[sp 6, (z42_56 g s r i q), (8, I 0)], [(6, .var ([.d (dI s.Mark), .d (dI s.Late), .d (dI s.Bad), .d (dI (s.N + 1)), .d (.sl 12 (((((putTo g s.Mark r.Key (valN r) (gridStarts g r.Time) s.L i).1).take q).filter (fun c => !gridClosed g c.Start s.Mark)).length) (fun i_ j_ => nth (eCell (((((putTo g s.Mark r.Key (valN r) (gridStarts g r.Time) s.L i).1).take q).filter (fun c => !gridClosed g c.Start s.Mark)).getD (0 + i_) zCell)) j_))])), (z42_53 g s r i q)]⟩ ⟨by omega, trivial⟩ ?_ rfl
 refine AC.le (st' := ⟨[sp 6, (z42_56 g s r i q), (8, I 0)], [(z42_57 g s r i q), (z42_53 g s r i q)]⟩) (Le.of (lk rfl (lk rfl (lk rfl LeS.nil))) (LeE.cons rfl (BLe.var (ck (ck (ck (ck (All2.cons (CLe.d (DLe.row0)) All2.nil)))))) (ek rfl LeE.nil)) (by kernel_rfl)) ?_
 refine AC.fz 1017 (0 + ((((putTo g s.Mark r.Key (valN r) (gridStarts g r.Time) s.L i).1).take q).filter (fun c => gridClosed g c.Start s.Mark)).length ≤ ((((putTo g s.Mark r.Key (valN r) (gridStarts g r.Time) s.L i).1).take q).filter (fun c => gridClosed g c.Start s.Mark)).length ∧ True) ⟨[sp 6, (7, tD (.sl 12 (((((putTo g s.Mark r.Key (valN r) (gridStarts g r.Time) s.L i).1).take q).filter (fun c => gridClosed g c.Start s.Mark)).length) (fun i_ j_ => nth (eCell (((((putTo g s.Mark r.Key (valN r) (gridStarts g r.Time) s.L i).1).take q).filter (fun c => gridClosed g c.Start s.Mark)).getD (0 + i_) zCell)) j_))), (8, I 0)], [(z42_57 g s r i q)]⟩ ⟨by omega, trivial⟩ ?_ rfl
 refine AC.le (st' := ⟨[sp 6, (7, tD (row 12 eCell zCell ((((putTo g s.Mark r.Key (valN r) (gridStarts g r.Time) s.L i).1).take q).filter (fun c => gridClosed g c.Start s.Mark)))), (8, I 0)], [(z42_57 g s r i q)]⟩) (Le.of (lk rfl (LeS.cons rfl (TLe.one (ULe.c (CLe.d (DLe.row0)))) (lk rfl LeS.nil))) (ek rfl LeE.nil) (by kernel_rfl)) ?_
 refine AC.ret ?_
 refine rqr (ufeed16 g s r) (All2.cons (ULe.eq (congrArg (fun x => U.agg ((eState x).map .d)) (show ((⟨s.Mark, s.Late, s.Bad, (s.N + 1), (((putTo g s.Mark r.Key (valN r) (gridStarts g r.Time) s.L i).1).take q).filter (fun c => !gridClosed g c.Start s.Mark)⟩ : State)) = (feedSt g s r) from ?_))) (All2.cons (ULe.c (CLe.d (DLe.eq (congrArg (row 12 eCell zCell) (show ((((putTo g s.Mark r.Key (valN r) (gridStarts g r.Time) s.L i).1).take q).filter (fun c => gridClosed g c.Start s.Mark)) = (feedOver g s r) from ?_))))) (All2.cons (ULe.c (CLe.d (DLe.eq (congrArg dI (show (0) = (feedErr g s r) from ?_))))) All2.nil)))
 iterate 3 (· first | (rw [hF.1]; done) | (rw [hF.2.1]; done) | (rw [hF.2.2]; done) | (rw [hF.1, List.take_of_length_le (by omega)]; done) | (rw [hF.2.1, List.take_of_length_le (by omega)]; done) | (rw [hF.1]; rfl))
end Go.Proofs.Ytfpmgnkbklnkaaa.Eng
end
section
set_option linter.unusedSimpArgs false
set_option linter.unusedVariables false
set_option maxRecDepth 100000
set_option maxHeartbeats 4000000
namespace Go.Proofs.Ytfpmgnkbklnkaaa.Eng
open Go Go.Proofs
abbrev urun16 (g : Grid) (s : State) (l : List Rec) : List U := [.agg ((eState ((runAll g s l).1)).map .d), .c (.d (row 12 eCell zCell ((runAll g s l).2.1))), .c (.d (dI ((runAll g s l).2.2)))]
abbrev z16_0 (l : List Rec) : Nat × T := (2, tD (row 3 eRec zRec l))
abbrev z16_1 (g : Grid) : Nat × Blk := (3, .var ((eGrid g).map .d))
abbrev z16_2 : Nat × Blk := (6, .var ([.d (dI 0), .d (dI 0), .d (dI 0), .d (dI 0), .d (.v (.slice none 0 0))]))
abbrev z16_3 (g : Grid) (s : State) (l : List Rec) (i : Nat) : Nat × T := (9, tG 1009 12 0 (((runTo g s l i).2.1).length))
abbrev z16_4 (g : Grid) (s : State) (l : List Rec) (i : Nat) : Nat × Blk := (4, .var ((eState ((runTo g s l i).1)).map .d))
abbrev z16_5 (g : Grid) (s : State) (l : List Rec) (i : Nat) : Nat × Blk := (1009, arow 46 12 eCell zCell ((runTo g s l i).2.1))
abbrev z16_6 (g : Grid) (s : State) (l : List Rec) (i : Nat) : Nat × T := (12, tD (row 12 eCell zCell (feedOver g ((runTo g s l i).1) (l.getD i zRec))))
abbrev z16_7 (g : Grid) (s : State) (l : List Rec) (i : Nat) : Nat × T := (25, .tup [.agg ((eState (feedSt g ((runTo g s l i).1) (l.getD i zRec))).map .d), .c (.d (row 12 eCell zCell (feedOver g ((runTo g s l i).1) (l.getD i zRec)))), .c (.d (dI (feedErr g ((runTo g s l i).1) (l.getD i zRec))))])
abbrev z16_8 (g : Grid) (s : State) (l : List Rec) (i : Nat) : Nat × T := (32, .tup [.agg ((eState (feedSt g ((runTo g s l i).1) (l.getD i zRec))).map .d), .c (.d (row 12 eCell zCell (feedOver g ((runTo g s l i).1) (l.getD i zRec)))), .c (.d (dI (feedErr g ((runTo g s l i).1) (l.getD i zRec))))])
abbrev z16_9 (g : Grid) (s : State) (l : List Rec) (i : Nat) : Nat × Blk := (11, .var ((eState (feedSt g ((runTo g s l i).1) (l.getD i zRec))).map .d))
abbrev z16_10 (g : Grid) (s : State) (l : List Rec) (i : Nat) : Nat × Blk := (4, .var ((eState (feedSt g ((runTo g s l i).1) (l.getD i zRec))).map .d))
abbrev z16_11 (g : Grid) (s : State) (l : List Rec) (i : Nat) : Nat × T := (9, tG 1009 12 0 (((runTo g s l i).2.1 ++ feedOver g ((runTo g s l i).1) (l.getD i zRec)).length))
abbrev y16_0 (g : Grid) (s : State) : List (Nat × Blk) := [(z16_1 g), (4, .var ((eState s).map .d)), (z16_2)]
abbrev y16_1 (g : Grid) (s : State) (l : List Rec) (i : Nat) : List (Nat × Blk) := [(z16_1 g), (z16_10 g s l i), (z16_2), (1009, arow 46 12 eCell zCell ((runTo g s l i).2.1 ++ feedOver g ((runTo g s l i).1) (l.getD i zRec)))]
/-- headgate/headgateref16.Run. -/
theorem ok_run16 (g : Grid) (s : State) (l : List Rec) (hr : ∀ c ∈ s.L, AggR c.A) (hl : l.length ≤ 1000) :
 FnOk Try.prog 16 [.agg ((eGrid g).map .d), .agg ((eState s).map .d), .c (.d (row 3 eRec zRec l))] (fun r_ => r_ = .tup [.agg ((eState ((runAll g s l).1)).map .d), .c (.d (row 12 eCell zCell ((runAll g s l).2.1))), .c (.d (dI ((runAll g s l).2.2)))]) := by
 refine FnOk.go Try.func16 rfl 46 ?_
 intro w0 m0
 show AC _ _ ⟨[(0, tA ((eGrid g).map .d)), (1, tA ((eState s).map .d)), (z16_0 l)], []⟩ _
 refine AC.q ⟨[(z16_0 l), sp 3, sp 4, sp 6], y16_0 g s⟩ ?_
 refine AC.seq ?_
 refine AC.rS [0, 1, 2, 3] ?_
 refine AOps.m [0, 1] ⟨[(z16_0 l), sp 3, sp 4, sp 6, (14, tA ((eGrid g).map .d)), (15, tA ((eState s).map .d))], y16_0 g s⟩ ?_
 refine AOps.ca (ok_may16 g s) ?_
 rintro _ rfl
 refine AOps.e ⟨[(z16_0 l), sp 3, sp 4, sp 6, (17, B (!(stateMay g s)))], y16_0 g s⟩ ?_
 refine AC.cd (b := !(stateMay g s)) (fun h_ => ?_) (fun h_ => ?_)
 have h1 := h_; have r1 := h_; clear h_; try simp only [bb] at h1
 have hF := run_no (l := l) (flip_t (a := !stateMay g s) rfl (by assumption))
 refine AC.q ⟨[sp 6, (7, tD (.v (.slice none 0 0))), (8, I 1)], [(z16_2)]⟩ ?_
 refine AC.ret ?_
 refine rqr (urun16 g s l) (All2.cons (ULe.agg (All2.cons (CLe.d (DLe.eq (congrArg dI (show (0) = (((runAll g s l).1).Mark) from ?_)))) (All2.cons (CLe.d (DLe.eq (congrArg dI (show (0) = (((runAll g s l).1).Late) from ?_)))) (All2.cons (CLe.d (DLe.eq (congrArg dI (show (0) = (((runAll g s l).1).Bad) from ?_)))) (All2.cons (CLe.d (DLe.eq (congrArg dI (show (0) = (((runAll g s l).1).N) from ?_)))) (All2.cons (CLe.d (DLe.nilrow (by first | (rw [hF]; done) | (rw [hF]; rfl) | (rw [hF]; exact i2.1.symm)))) All2.nil)))))) (All2.cons (ULe.c (CLe.d (DLe.nilrow (by first | (rw [hF]; done) | (rw [hF]; rfl) | (rw [hF]; exact i2.1.symm))))) (All2.cons (ULe.c (CLe.d (DLe.eq (congrArg dI (show (1) = ((runAll g s l).2.2) from ?_))))) All2.nil)))
 iterate 5 (· first | (rw [hF]; done) | (rw [hF]; rfl) | (rw [hF]; exact i2.1.symm))
 have h1 := h_; have r1 := h_; clear h_; try simp only [bb] at h1
 refine AC.skip ?_
 have hSM : stateMay g s = true := flip_f (a := !stateMay g s) rfl (by assumption)
 refine AC.q ⟨[(z16_0 l), sp 3, sp 4, sp 6, (9, tD (.v (.slice none 0 0)))], y16_0 g s⟩ ?_
 refine AC.seq ?_
 refine AC.q ⟨[(z16_0 l), sp 3, sp 4, sp 6, (9, tD (.v (.slice none 0 0))), (10, I 0)], y16_0 g s⟩ ?_
 refine AC.block ?_
 refine AC.nl 1009 9 46 12 (fun i_ j_ => nth (eCell (([] : List Cell).getD i_ zCell)) j_) ⟨[(z16_0 l), sp 3, sp 4, sp 6, (9, tG 1009 12 0 (([] : List Cell).length)), (10, I 0)], [(z16_1 g), (4, .var ((eState s).map .d)), (z16_2), (1009, arow 46 12 eCell zCell ([] : List Cell))]⟩ ?_
 refine AC.loop (ι := Nat) (fun i => ⟨[(z16_0 l), sp 3, sp 4, sp 6, (z16_3 g s l i), (10, I (i : Int))], [(z16_1 g), (z16_4 g s l i), (z16_2), (z16_5 g s l i)]⟩) (fun i => (i ≤ l.length ∧ RunI g s l i)) (fun i => l.length - i) (0) (by exact ⟨by omega, RunI_zero hr⟩) (Le.of (lk rfl (lk rfl (lk rfl (lk rfl (LeS.cons rfl (TLe.gs (congrArg List.length (by first | rfl | (rw [runTo_ok (by omega) i2.1 (by assumption)]; done)))) (LeS.cons rfl (TLe.i ?_) LeS.nil)))))) (ek rfl (LeE.cons rfl (BLe.var (All2.cons (CLe.d (DLe.eq (congrArg dI ?_))) (All2.cons (CLe.d (DLe.eq (congrArg dI ?_))) (All2.cons (CLe.d (DLe.eq (congrArg dI ?_))) (All2.cons (CLe.d (DLe.eq (congrArg dI ?_))) (All2.cons (CLe.d (DLe.eq (congrArg (row 12 eCell zCell) (by first | rfl | (rw [runTo_ok (by omega) i2.1 (by assumption)]; done))))) All2.nil)))))) (ek rfl (LeE.cons rfl (BLe.eq (congrArg (arow 46 12 eCell zCell) (by first | rfl | (rw [runTo_ok (by omega) i2.1 (by assumption)]; done)))) LeE.nil)))) (by kernel_rfl)) ?_
 iterate 5 (· first | rfl | omega | (rw [runTo_ok (by omega) i2.1 (by assumption)]; done))
 intro i hi_
 obtain ⟨i1, i2⟩ := hi_
 show AC _ _ ⟨[(z16_0 l), sp 3, sp 4, sp 6, (z16_3 g s l i), (10, I (i : Int))], [(z16_1 g), (z16_4 g s l i), (z16_2), (z16_5 g s l i)]⟩ _
 refine AC.seq ?_
 refine AC.q ⟨[(z16_0 l), sp 3, sp 4, sp 6, (z16_3 g s l i), (10, I (i : Int)), (22, B (decide ((i : Int) < (l.length : Int))))], [(z16_1 g), (z16_4 g s l i), (z16_2), (z16_5 g s l i)]⟩ ?_
 refine AC.cd (b := decide ((i : Int) < (l.length : Int))) (fun h_ => ?_) (fun h_ => ?_)
 have h2 := h_; have r2 := h_; clear h_; try simp only [bb] at h2
 refine AC.skip ?_
 refine AC.seq ?_
 refine AC.block ?_
 refine AC.drawXS (by kernel_rfl) 14 12 [(11, 11)] ⟨[(z16_0 l), sp 3, sp 4, sp 6, (z16_3 g s l i), (10, I (i : Int)), sp 11, (z16_6 g s l i), (z16_7 g s l i), (26, tA ((eGrid g).map .d)), (27, tA ((eState ((runTo g s l i).1)).map .d)), (28, tD (row 3 eRec zRec l)), (29, I (i : Int)), (30, .one (.c (.ip 3 (fun j_ => nth (eRec (l.getD i zRec)) j_)))), (31, tA ((eRec (l.getD i zRec)).map .d)), (z16_8 g s l i), (33, tA ((eState (feedSt g ((runTo g s l i).1) (l.getD i zRec))).map .d)), (34, tD (row 12 eCell zCell (feedOver g ((runTo g s l i).1) (l.getD i zRec)))), (35, I (feedErr g ((runTo g s l i).1) (l.getD i zRec)))], [(z16_1 g), (z16_4 g s l i), (z16_2), (11, .var ([.d (dI 0), .d (dI 0), .d (dI 0), .d (dI 0), .d (.v (.slice none 0 0))])), (z16_5 g s l i)]⟩ ⟨[(z16_0 l), sp 3, sp 4, sp 6, (z16_3 g s l i), (10, I (i : Int)), sp 11, (z16_6 g s l i), (z16_7 g s l i), (26, tA ((eGrid g).map .d)), (27, tA ((eState ((runTo g s l i).1)).map .d)), (28, tD (row 3 eRec zRec l)), (29, I (i : Int)), (30, .one (.c (.ip 3 (fun j_ => nth (eRec (l.getD i zRec)) j_)))), (31, tA ((eRec (l.getD i zRec)).map .d)), (z16_8 g s l i), (33, tA ((eState (feedSt g ((runTo g s l i).1) (l.getD i zRec))).map .d)), (34, tD (row 12 eCell zCell (feedOver g ((runTo g s l i).1) (l.getD i zRec)))), (35, I (feedErr g ((runTo g s l i).1) (l.getD i zRec)))], [(z16_1 g), (z16_4 g s l i), (z16_2), (z16_9 g s l i), (z16_5 g s l i)]⟩ (l := [(z16_0 l), sp 3, sp 4, sp 6, (z16_3 g s l i), (10, I (i : Int))]) (e := [(z16_1 g), (z16_4 g s l i), (z16_2), (z16_5 g s l i)]) (by kernel_rfl) (by kernel_rfl) (by kernel_rfl) (by kernel_rfl) (by kernel_rfl) (by kernel_rfl) (StoreAt.mk' rfl (by kernel_rfl) rfl (n := 11) (off := 0) (by kernel_rfl) (l := [.d (dI 0), .d (dI 0), .d (dI 0), .d (dI 0), .d (.v (.slice none 0 0))]) (c := (eState (feedSt g ((runTo g s l i).1) (l.getD i zRec))).map .d) (by kernel_rfl) (by kernel_rfl) (by kernel_rfl) (by kernel_rfl) rfl (by kernel_rfl) rfl (env_but (A := [(3, .var ((eGrid g).map .d)), (4, .var ((eState ((runTo g s l i).1)).map .d)), (6, .var ([.d (dI 0), .d (dI 0), .d (dI 0), .d (dI 0), .d (.v (.slice none 0 0))]))]) (B := [(1009, arow 46 12 eCell zCell ((runTo g s l i).2.1))]) (b0 := .var ([.d (dI 0), .d (dI 0), .d (dI 0), .d (dI 0), .d (.v (.slice none 0 0))])) (b1 := .var ((eState (feedSt g ((runTo g s l i).1) (l.getD i zRec))).map .d))) (by kernel_rfl) (by kernel_rfl)) (.inr ⟨11, 11, rfl, by decide, by kernel_rfl, by kernel_rfl⟩) ?_ (r := [14]) (by kernel_rfl) (by kernel_rfl) ?_
 · exact (au (au (au (au (au (au (au (au (au (au (au (au (au (au AllUpTo.zero (.inr ⟨.inl ot, .inr (by kernel_rfl)⟩)) (.inr ⟨.inl ot, .inr (by kernel_rfl)⟩)) (.inr ⟨.inl ot, .inr (by kernel_rfl)⟩)) (.inr ⟨.inl ot, .inr (by kernel_rfl)⟩)) (.inr ⟨.inl (OpAt.val rfl (by kernel_rfl) (C' := 0 ≤ (i : Int) ∧ (i : Int) < (l.length : Int)) (x := .one (.c (.ip 3 (fun j_ => nth (eRec (l.getD i zRec)) j_)))) (by kernel_rfl) (by omega) rfl (by kernel_rfl) (by kernel_rfl) (TLe.refl _) (by kernel_rfl) (by kernel_rfl) (by kernel_rfl)), .inr (by kernel_rfl)⟩)) (.inr ⟨.inl ot, .inr (by kernel_rfl)⟩)) (.inr ⟨.inl (oc (ok_feed16 g ((runTo g s l i).1) (l.getD i zRec) (by exact i2.2.1))), .inr (by kernel_rfl)⟩)) (.inr ⟨.inl ot, .inr (by kernel_rfl)⟩)) (.inr ⟨.inl ot, .inr (by kernel_rfl)⟩)) (.inr ⟨.inl ot, .inl ot⟩)) (.inr ⟨.inl ot, .inl ot⟩)) (.inr ⟨.inl (OpAt.alloc rfl (by kernel_rfl) rfl (z := [.d (dI 0), .d (dI 0), .d (dI 0), .d (dI 0), .d (.v (.slice none 0 0))]) (by kernel_rfl) rfl (by kernel_rfl) (by kernel_rfl) rfl (by kernel_rfl) (by kernel_rfl)), .inr (by kernel_rfl)⟩)) (.inl rfl)) (.inr ⟨.inr (by kernel_rfl), .inl ot⟩))
 refine AOps.e ⟨[(z16_0 l), sp 3, sp 4, sp 6, (z16_3 g s l i), (10, I (i : Int)), sp 11, (z16_6 g s l i), (13, I (feedErr g ((runTo g s l i).1) (l.getD i zRec)))], [(z16_1 g), (z16_4 g s l i), (z16_2), (z16_9 g s l i), (z16_5 g s l i)]⟩ ?_
 refine AC.seq ?_
 refine AC.q ⟨[(z16_0 l), sp 3, sp 4, sp 6, (z16_3 g s l i), (10, I (i : Int)), sp 11, (z16_6 g s l i), (13, I (feedErr g ((runTo g s l i).1) (l.getD i zRec))), (37, B ((feedErr g ((runTo g s l i).1) (l.getD i zRec)) != 0))], [(z16_1 g), (z16_4 g s l i), (z16_2), (z16_9 g s l i), (z16_5 g s l i)]⟩ ?_
 refine AC.cd (b := (feedErr g ((runTo g s l i).1) (l.getD i zRec)) != 0) (fun h_ => ?_) (fun h_ => ?_)
 have h3 := h_; have r3 := h_; clear h_; try simp only [bb] at h3
 have hF := run_err hSM (by omega) i2.1 (by assumption)
 refine AC.q ⟨[sp 6, (7, tD (.v (.slice none 0 0))), (8, I (feedErr g ((runTo g s l i).1) (l.getD i zRec)))], [(z16_2)]⟩ ?_
 refine AC.ret ?_
 refine rqr (urun16 g s l) (All2.cons (ULe.agg (All2.cons (CLe.d (DLe.eq (congrArg dI (show (0) = (((runAll g s l).1).Mark) from ?_)))) (All2.cons (CLe.d (DLe.eq (congrArg dI (show (0) = (((runAll g s l).1).Late) from ?_)))) (All2.cons (CLe.d (DLe.eq (congrArg dI (show (0) = (((runAll g s l).1).Bad) from ?_)))) (All2.cons (CLe.d (DLe.eq (congrArg dI (show (0) = (((runAll g s l).1).N) from ?_)))) (All2.cons (CLe.d (DLe.nilrow (by first | (rw [hF]; done) | (rw [hF]; rfl) | (rw [hF]; exact i2.1.symm)))) All2.nil)))))) (All2.cons (ULe.c (CLe.d (DLe.nilrow (by first | (rw [hF]; done) | (rw [hF]; rfl) | (rw [hF]; exact i2.1.symm))))) (All2.cons (ULe.c (CLe.d (DLe.eq (congrArg dI (show (feedErr g ((runTo g s l i).1) (l.getD i zRec)) = ((runAll g s l).2.2) from ?_))))) All2.nil)))
 iterate 5 (· first | (rw [hF]; done) | (rw [hF]; rfl) | (rw [hF]; exact i2.1.symm))
 have h3 := h_; have r3 := h_; clear h_; try simp only [bb] at h3
 refine AC.skip ?_
 refine AC.q ⟨[(z16_0 l), sp 3, sp 4, sp 6, (z16_3 g s l i), (10, I (i : Int)), (z16_6 g s l i)], [(z16_1 g), (z16_10 g s l i), (z16_2), (z16_5 g s l i)]⟩ ?_
 refine AC.rR [0, 1, 2, 3] ?_
 refine AOps.mc [0, 1, 2] (C' := (((runTo g s l i).2.1).length = ((runTo g s l i).2.1).length ∧ ((runTo g s l i).2.1).length + (feedOver g ((runTo g s l i).1) (l.getD i zRec)).length ≤ 9223372036854775807 ∧ (((runTo g s l i).2.1).length + (feedOver g ((runTo g s l i).1) (l.getD i zRec)).length) * 96 ≤ 140737488355328) ∧ True) ⟨[(z16_0 l), sp 3, sp 4, sp 6, (10, I (i : Int)), (43, tG 1009 12 0 (((runTo g s l i).2.1).length + (feedOver g ((runTo g s l i).1) (l.getD i zRec)).length))], [(z16_1 g), (z16_10 g s l i), (z16_2), (1009, .arr 46 12 (((runTo g s l i).2.1).length + (feedOver g ((runTo g s l i).1) (l.getD i zRec)).length) fun i_ j_ => bif Nat.blt i_ ((runTo g s l i).2.1).length then nth (eCell (((runTo g s l i).2.1).getD i_ zCell)) j_ else nth (eCell ((feedOver g ((runTo g s l i).1) (l.getD i zRec)).getD (i_ - ((runTo g s l i).2.1).length) zCell)) j_)]⟩ (⟨by have hv_ := feedOver_len (g := g) (r := l.getD i zRec) i2.2.1; have hw_ := i2.2.2; omega, trivial⟩) ?_
 refine AOps.le (st' := ⟨[(z16_0 l), sp 3, sp 4, sp 6, (10, I (i : Int)), (43, tG 1009 12 0 (((runTo g s l i).2.1 ++ feedOver g ((runTo g s l i).1) (l.getD i zRec)).length))], y16_1 g s l i⟩) (Le.of (lk rfl (lk rfl (lk rfl (lk rfl (lk rfl (LeS.cons rfl (TLe.gs (lenL _ _)) LeS.nil)))))) (ek rfl (ek rfl (ek rfl (LeE.cons rfl (BLe.appL (e := 46) (sz := 12) (enc := eCell) (d := zCell) (L := (runTo g s l i).2.1) (K := feedOver g ((runTo g s l i).1) (l.getD i zRec))) LeE.nil)))) (by kernel_rfl)) ?_
 refine AOps.e ⟨[(z16_0 l), sp 3, sp 4, sp 6, (z16_11 g s l i), (10, I (i : Int))], y16_1 g s l i⟩ ?_
 refine AC.rR [0, 1, 2] ?_
 refine AOps.m [0, 1, 2] ⟨[(z16_0 l), sp 3, sp 4, sp 6, (z16_11 g s l i), (10, I (IntKind.i64.wrap ((i : Int) + 1)))], y16_1 g s l i⟩ ?_
 refine AOps.le (st' := ⟨[(z16_0 l), sp 3, sp 4, sp 6, (z16_11 g s l i), (10, I ((i + 1 : Nat) : Int))], y16_1 g s l i⟩) (Le.of (lk rfl (lk rfl (lk rfl (lk rfl (lk rfl (LeS.cons rfl (TLe.i (by rw [wrap_in (n := ((i : Int) + 1)) (by omega) (by omega)] <;> omega)) LeS.nil)))))) (ek rfl (ek rfl (ek rfl (ek rfl LeE.nil)))) (by kernel_rfl)) ?_
 refine AOps.done ?_
 try refine blockA_n ?_
 refine roundA_n (i + 1) (by exact ⟨by omega, RunI_succ i2 (by omega) (by assumption)⟩) (by show l.length - (i + 1) < l.length - i; omega) (Le.of (lk rfl (lk rfl (lk rfl (lk rfl (LeS.cons rfl (TLe.gs (congrArg List.length (by first | rfl | (rw [runTo_ok (by omega) i2.1 (by assumption)]; done)))) (LeS.cons rfl (TLe.i ?_) LeS.nil)))))) (ek rfl (LeE.cons rfl (BLe.var (All2.cons (CLe.d (DLe.eq (congrArg dI ?_))) (All2.cons (CLe.d (DLe.eq (congrArg dI ?_))) (All2.cons (CLe.d (DLe.eq (congrArg dI ?_))) (All2.cons (CLe.d (DLe.eq (congrArg dI ?_))) (All2.cons (CLe.d (DLe.eq (congrArg (row 12 eCell zCell) (by first | rfl | (rw [runTo_ok (by omega) i2.1 (by assumption)]; done))))) All2.nil)))))) (ek rfl (LeE.cons rfl (BLe.eq (congrArg (arow 46 12 eCell zCell) (by first | rfl | (rw [runTo_ok (by omega) i2.1 (by assumption)]; done)))) LeE.nil)))) (by kernel_rfl))
 iterate 5 (· first | rfl | omega | (rw [runTo_ok (by omega) i2.1 (by assumption)]; done))
 have h2 := h_; have r2 := h_; clear h_; try simp only [bb] at h2
 refine AC.exit ?_
 repeat (first | refine thenA_x ?_ | refine roundA_x ?_ | refine joinA_x ?_ | refine blockA_hit ?_ | refine blockA_miss (by decide) ?_)
 have hF := run_all (l := l) (i := i) hSM (by omega)
 refine AC.q ⟨[sp 6, (7, tG 1009 12 0 (((runTo g s l i).2.1).length)), (8, I 0)], [(6, .var ((eState ((runTo g s l i).1)).map .d)), (z16_5 g s l i)]⟩ ?_
 refine AC.fz 1009 (0 + ((runTo g s l i).2.1).length ≤ ((runTo g s l i).2.1).length ∧ True) ⟨[sp 6, (7, tD (.sl 12 (((runTo g s l i).2.1).length) (fun i_ j_ => nth (eCell (((runTo g s l i).2.1).getD (0 + i_) zCell)) j_))), (8, I 0)], [(6, .var ((eState ((runTo g s l i).1)).map .d))]⟩ ⟨by omega, trivial⟩ ?_ rfl
 refine AC.le (st' := ⟨[sp 6, (7, tD (row 12 eCell zCell ((runTo g s l i).2.1))), (8, I 0)], [(6, .var ((eState ((runTo g s l i).1)).map .d))]⟩) (Le.of (lk rfl (LeS.cons rfl (TLe.one (ULe.c (CLe.d (DLe.row0)))) (lk rfl LeS.nil))) (ek rfl LeE.nil) (by kernel_rfl)) ?_
 refine AC.ret ?_
 refine rqr (urun16 g s l) (All2.cons (ULe.eq (congrArg (fun x => U.agg ((eState x).map .d)) (show ((runTo g s l i).1) = ((runAll g s l).1) from ?_))) (All2.cons (ULe.c (CLe.d (DLe.eq (congrArg (row 12 eCell zCell) (show ((runTo g s l i).2.1) = ((runAll g s l).2.1) from ?_))))) (All2.cons (ULe.c (CLe.d (DLe.eq (congrArg dI (show (0) = ((runAll g s l).2.2) from ?_))))) All2.nil)))
 iterate 3 (· first | (rw [hF]; done) | (rw [hF]; rfl) | (rw [hF]; exact i2.1.symm))
end Go.Proofs.Ytfpmgnkbklnkaaa.Eng
end
section
set_option linter.unusedSimpArgs false
set_option linter.unusedVariables false
set_option maxRecDepth 100000
set_option maxHeartbeats 4000000
namespace Go.Proofs.Ytfpmgnkbklnkaaa.Eng
open Go Go.Proofs
abbrev utake (s : ByteArray) : List U := [.c (.d (dI (takeN s))), .c (.d (dS (takeRest s))), .c (.d (dI (takeErr s)))]
abbrev z67_0 (s : ByteArray) (k : Nat) : Nat × T := (5, tD (dK .u64 ((vM s k : Nat) : Int)))
abbrev z67_1 (s : ByteArray) (k : Nat) : Nat × T := (7, tD (dK .u8 (((byteAt s k).toNat : Nat) : Int)))
abbrev z67_2 (s : ByteArray) (k : Nat) : Nat × T := (5, tD (dK .u64 (bitsOr .u64 ((vM s k : Nat) : Int) (IntKind.u64.wrap ((IntKind.u64.wrap (bitsAnd .u8 (((byteAt s k).toNat : Nat) : Int) (127 : Int))) * 2 ^ min ((IntKind.i64.wrap ((7 : Int) * (k : Int)))).toNat IntKind.u64.bits)))))
abbrev z67_3 (s : ByteArray) (k : Nat) : Nat × T := (5, tD (dK .u64 ((vM s (k + 1) : Nat) : Int)))
abbrev z67_4 (k : Nat) : Nat × T := (6, I ((k + 1 : Nat) : Int))
abbrev z67_5 (s : ByteArray) (k : Nat) : Nat × T := (2, I (bitsXor .i64 (IntKind.i64.wrap (Int.fdiv ((vM s (k + 1) : Nat) : Int) (2 ^ min ((1 : Int)).toNat IntKind.u64.bits))) (IntKind.i64.wrap (0 - (IntKind.i64.wrap (bitsAnd .u64 ((vM s (k + 1) : Nat) : Int) (1 : Int)))))))
/-- headgate/varint.Take. -/
theorem ok_take (s : ByteArray) :
 FnOk Try.prog 67 [.c (.d (dS s))] (fun r_ => r_ = .tup [.c (.d (dI (takeN s))), .c (.d (dS (takeRest s))), .c (.d (dI (takeErr s)))]) := by
 refine FnOk.go Try.func67 rfl 56 ?_
 intro w0 m0
 show AC _ _ ⟨[(0, tD (dS s))], []⟩ _
 refine AC.q ⟨[(0, tD (dS s))], []⟩ ?_
 refine AC.scope (ι := Nat) 0 (fun k => ⟨[(0, tD (dS s)), (z67_0 s k), (6, I (k : Int))], []⟩) (fun k => (k ≤ s.size ∧ k ≤ 10 ∧ ∀ i, i < k → 127 < byteN s i)) (fun k => 10 - k) rfl ?_ ?_
 intro k hi_
 obtain ⟨i1, i2, i3⟩ := hi_
 show AC _ _ ⟨[(0, tD (dS s)), (z67_0 s k), (6, I (k : Int))], []⟩ _
 refine AC.seq ?_
 refine AC.rS [0, 1, 2, 3, 4, 5, 6, 7] ?_
 refine AOps.m [0, 1, 2, 3, 4] ⟨[(0, tD (dS s)), (z67_0 s k), (6, I (k : Int)), (12, B ((k : Int) == (s.size : Int)))], []⟩ ?_
 refine AOps.s [5, 6] 7 12 14 15 false ((k : Int) == (s.size : Int)) ((k : Int) == 10) [0, 5, 6] (fun h_ => ?_) ?_
 clear h_
 refine AOps.m [5, 6] ⟨[(0, tD (dS s)), (z67_0 s k), (6, I (k : Int)), (12, B false), (14, B ((k : Int) == 10))], []⟩ ?_
 exact scd
 refine AOps.done ?_
 refine AC.cd (b := ((k : Int) == (s.size : Int)) || ((k : Int) == 10)) (fun h_ => ?_) (fun h_ => ?_)
 have h1 := h_; have r1 := h_; clear h_; try simp only [bb] at h1
 have hK : takeK s = k := takeK_eq i1 i2 i3 (fun h1 h2 => by omega)
 have hT := take_bad (take_no1 hK (by omega))
 refine AC.q ⟨[(2, I 0), (3, tD (dS (⟨#[]⟩ : ByteArray))), (4, I 2)], []⟩ ?_
 refine AC.ret ?_
 refine rqr (utake s) (All2.cons (ULe.c (CLe.d (DLe.eq (congrArg dI (show (0) = (takeN s) from ?_))))) (All2.cons (ULe.c (CLe.d (DLe.eq (congrArg dS (show ((⟨#[]⟩ : ByteArray)) = (takeRest s) from ?_))))) (All2.cons (ULe.c (CLe.d (DLe.eq (congrArg dI (show (2) = (takeErr s) from ?_))))) All2.nil)))
 iterate 3 (· first | exact hT.1.symm | exact hT.2.1.symm | exact hT.2.2.symm | (rw [hT.1, takeU_val hK]; exact xor_num (Nat.mod_lt _ (by decide))) | (rw [hT.2.1, hK]; rfl))
 have h1 := h_; have r1 := h_; clear h_; try simp only [bb] at h1
 refine AC.skip ?_
 refine AC.rS [0, 1, 2, 3] ?_
 refine AOps.ec (C' := (0 ≤ (k : Int) ∧ (k : Int) < (s.size : Int)) ∧ True) ⟨[(0, tD (dS s)), (z67_0 s k), (6, I (k : Int)), (z67_1 s k)], []⟩ (⟨by omega, trivial⟩) ?_
 refine AC.rS [0, 1, 2, 3, 4, 5, 6, 7, 8] ?_
 refine AOps.ec (C' := (0 ≤ (IntKind.i64.wrap ((7 : Int) * (k : Int)))) ∧ True) ⟨[(0, tD (dS s)), (z67_2 s k), (6, I (k : Int)), (z67_1 s k)], []⟩ (⟨by first | omega | (rw [wrap_in (by omega) (by omega)]; omega), trivial⟩) ?_
 refine AC.q ⟨[(0, tD (dS s)), (z67_2 s k), (6, I (IntKind.i64.wrap ((k : Int) + 1))), (z67_1 s k)], []⟩ ?_
 refine AC.seq ?_
 refine AC.le (st' := ⟨[(0, tD (dS s)), (z67_3 s k), (z67_4 k), (z67_1 s k)], []⟩) (Le.of (lk rfl (LeS.cons rfl (TLe.eq (congrArg (fun x_ => T.one (U.c (C.d (dK .u64 x_)))) (show (((bitsOr .u64 ((vM s k : Nat) : Int) (IntKind.u64.wrap ((IntKind.u64.wrap (bitsAnd .u8 (((byteAt s k).toNat : Nat) : Int) (127 : Int))) * 2 ^ min ((IntKind.i64.wrap ((7 : Int) * (k : Int)))).toNat IntKind.u64.bits)))) : Int) = (((vM s (k + 1) : Nat) : Int)) from ?_))) (LeS.cons rfl (TLe.i ?_) (lk rfl LeS.nil)))) LeE.nil (by kernel_rfl)) ?_
 iterate 2 (· first | exact or_step (by omega) | exact wrap_in (by omega) (by omega))
 refine AC.q ⟨[(0, tD (dS s)), (z67_3 s k), (z67_4 k), (z67_1 s k), (30, B (decide ((((byteAt s k).toNat : Nat) : Int) ≥ 128)))], []⟩ ?_
 refine AC.cd (b := decide ((((byteAt s k).toNat : Nat) : Int) ≥ 128)) (fun h_ => ?_) (fun h_ => ?_)
 have h2 := h_; have r2 := h_; clear h_; try simp only [bb] at h2
 refine AC.goto ?_
 repeat (first | refine thenA_g ?_ | refine joinA_g ?_ | refine blockA_g ?_)
 exact jumpA_hit ⟨(k + 1), (by refine ⟨by omega, by omega, fun i hi => ?_⟩; by_cases e : i = k; (subst e; show 127 < (byteAt s i).toNat; omega); exact i3 i (by omega)), (by show 10 - (k + 1) < 10 - k; omega), (Le.of (lk rfl (lk rfl (LeS.cons rfl (TLe.i (by first | rfl | omega)) LeS.nil))) LeE.nil (by kernel_rfl))⟩
 have h2 := h_; have r2 := h_; clear h_; try simp only [bb] at h2
 refine AC.skip ?_
 refine AC.seq ?_
 have hlow : byteN s k < 128 := by show (byteAt s k).toNat < 128; omega
 have hbk : byteN s k = (byteAt s k).toNat := rfl
 refine AC.rS [0, 1, 2, 3, 4, 5, 6, 7, 8, 9, 10, 11, 12, 13] ?_
 refine AOps.m [0, 1, 2] ⟨[(0, tD (dS s)), (z67_3 s k), (z67_4 k), (z67_1 s k), (33, B (decide (((k + 1 : Nat) : Int) > 1)))], []⟩ ?_
 refine AOps.s [3, 4] 5 33 35 36 true (decide (((k + 1 : Nat) : Int) > 1)) ((((byteAt s k).toNat : Nat) : Int) == 0) [0, 5, 6, 7] (fun h_ => ?_) ?_
 clear h_
 refine AOps.m [3, 4] ⟨[(0, tD (dS s)), (z67_3 s k), (z67_4 k), (z67_1 s k), (33, B true), (35, B ((((byteAt s k).toNat : Nat) : Int) == 0))], []⟩ ?_
 exact scd
 refine AOps.m [6] ⟨[(0, tD (dS s)), (z67_3 s k), (z67_4 k), (z67_1 s k), (37, B ((decide (((k + 1 : Nat) : Int) > 1)) && ((((byteAt s k).toNat : Nat) : Int) == 0)))], []⟩ ?_
 refine AOps.s [7, 8, 9, 10, 11, 12] 13 37 43 44 false ((decide (((k + 1 : Nat) : Int) > 1)) && ((((byteAt s k).toNat : Nat) : Int) == 0)) ((((k + 1 : Nat) : Int) == 10) && (decide ((((byteAt s k).toNat : Nat) : Int) > 1))) [0, 5, 6] (fun h_ => ?_) ?_
 clear h_
 refine AOps.m [7, 8, 9] ⟨[(0, tD (dS s)), (z67_3 s k), (z67_4 k), (z67_1 s k), (37, B false), (40, B (((k + 1 : Nat) : Int) == 10))], []⟩ ?_
 refine AOps.s [10, 11] 12 40 42 43 true (((k + 1 : Nat) : Int) == 10) (decide ((((byteAt s k).toNat : Nat) : Int) > 1)) [0, 5, 6, 37] (fun h_ => ?_) ?_
 clear h_
 refine AOps.m [10, 11] ⟨[(0, tD (dS s)), (z67_3 s k), (z67_4 k), (37, B false), (40, B true), (42, B (decide ((((byteAt s k).toNat : Nat) : Int) > 1)))], []⟩ ?_
 exact scd
 exact scd
 refine AOps.done ?_
 refine AC.cd (b := ((decide (((k + 1 : Nat) : Int) > 1)) && ((((byteAt s k).toNat : Nat) : Int) == 0)) || ((((k + 1 : Nat) : Int) == 10) && (decide ((((byteAt s k).toNat : Nat) : Int) > 1)))) (fun h_ => ?_) (fun h_ => ?_)
 have h3 := h_; have r3 := h_; clear h_; try simp only [bb] at h3
 have hT := take_bad (take67_bad (by omega) (by omega) i3 hlow (by omega))
 refine AC.q ⟨[(2, I 0), (3, tD (dS (⟨#[]⟩ : ByteArray))), (4, I 2)], []⟩ ?_
 refine AC.ret ?_
 refine rqr (utake s) (All2.cons (ULe.c (CLe.d (DLe.eq (congrArg dI (show (0) = (takeN s) from ?_))))) (All2.cons (ULe.c (CLe.d (DLe.eq (congrArg dS (show ((⟨#[]⟩ : ByteArray)) = (takeRest s) from ?_))))) (All2.cons (ULe.c (CLe.d (DLe.eq (congrArg dI (show (2) = (takeErr s) from ?_))))) All2.nil)))
 iterate 3 (· first | exact hT.1.symm | exact hT.2.1.symm | exact hT.2.2.symm | (rw [hT.1, takeU_val hK]; exact xor_num (Nat.mod_lt _ (by decide))) | (rw [hT.2.1, hK]; rfl))
 have h3 := h_; have r3 := h_; clear h_; try simp only [bb] at h3
 refine AC.skip ?_
 have hK := take67_K (by omega) (by omega) i3 hlow
 have hT := take_good (take67_ok (by omega) (by omega) i3 hlow (by omega))
 refine AC.dS 12 [] ⟨[(0, tD (dS s)), (z67_5 s k), (z67_3 s k), (z67_4 k), (45, tD (dK .u64 ((vM s (k + 1) : Nat) : Int))), (46, tD (dK .u64 (Int.fdiv ((vM s (k + 1) : Nat) : Int) (2 ^ min ((1 : Int)).toNat IntKind.u64.bits)))), (47, I (IntKind.i64.wrap (Int.fdiv ((vM s (k + 1) : Nat) : Int) (2 ^ min ((1 : Int)).toNat IntKind.u64.bits)))), (48, tD (dK .u64 ((vM s (k + 1) : Nat) : Int))), (49, tD (dK .u64 (bitsAnd .u64 ((vM s (k + 1) : Nat) : Int) (1 : Int)))), (50, I (IntKind.i64.wrap (bitsAnd .u64 ((vM s (k + 1) : Nat) : Int) (1 : Int)))), (51, I (IntKind.i64.wrap (0 - (IntKind.i64.wrap (bitsAnd .u64 ((vM s (k + 1) : Nat) : Int) (1 : Int)))))), (52, I (bitsXor .i64 (IntKind.i64.wrap (Int.fdiv ((vM s (k + 1) : Nat) : Int) (2 ^ min ((1 : Int)).toNat IntKind.u64.bits))) (IntKind.i64.wrap (0 - (IntKind.i64.wrap (bitsAnd .u64 ((vM s (k + 1) : Nat) : Int) (1 : Int))))))), (53, tD (dS s)), (54, I ((k + 1 : Nat) : Int)), (55, tD (dS (s.extract (((k + 1 : Nat) : Int) : Int).toNat ((s.size : Int) : Int).toNat)))], []⟩ [12, 13] (.inl rfl) ?_ ?_
 · exact (au (au (ar 8 (au (au AllUpTo.zero ot) (OpAt.val rfl (by kernel_rfl) (C' := 0 ≤ (1 : Int)) (x := tD (dK .u64 (Int.fdiv ((vM s (k + 1) : Nat) : Int) (2 ^ min ((1 : Int)).toNat IntKind.u64.bits)))) (by kernel_rfl) (by first | omega | (rw [wrap_in (by omega) (by omega)]; omega)) rfl (by kernel_rfl) (by kernel_rfl) (TLe.refl _) (by kernel_rfl) (by kernel_rfl) (by kernel_rfl)))) (OpAt.val rfl (by kernel_rfl) (C' := 0 ≤ (((k + 1 : Nat) : Int) : Int) ∧ (((k + 1 : Nat) : Int) : Int) ≤ (s.size : Int) ∧ (s.size : Int) ≤ (s.size : Int)) (x := tD (dS (s.extract (((k + 1 : Nat) : Int) : Int).toNat ((s.size : Int) : Int).toNat))) (by kernel_rfl) (by omega) rfl (by kernel_rfl) (by kernel_rfl) (TLe.refl _) (by kernel_rfl) (by kernel_rfl) (by kernel_rfl))) ot)
 refine AOps.e ⟨[(z67_5 s k), (3, tD (dS (s.extract (((k + 1 : Nat) : Int) : Int).toNat ((s.size : Int) : Int).toNat))), (4, I 0)], []⟩ ?_
 refine AC.ret ?_
 refine rqr (utake s) (All2.cons (ULe.c (CLe.d (DLe.eq (congrArg dI (show ((bitsXor .i64 (IntKind.i64.wrap (Int.fdiv ((vM s (k + 1) : Nat) : Int) (2 ^ min ((1 : Int)).toNat IntKind.u64.bits))) (IntKind.i64.wrap (0 - (IntKind.i64.wrap (bitsAnd .u64 ((vM s (k + 1) : Nat) : Int) (1 : Int))))))) = (takeN s) from ?_))))) (All2.cons (ULe.c (CLe.d (DLe.eq (congrArg dS (show ((s.extract (((k + 1 : Nat) : Int) : Int).toNat ((s.size : Int) : Int).toNat)) = (takeRest s) from ?_))))) (All2.cons (ULe.c (CLe.d (DLe.eq (congrArg dI (show (0) = (takeErr s) from ?_))))) All2.nil)))
 iterate 3 (· first | exact hT.1.symm | exact hT.2.1.symm | exact hT.2.2.symm | (rw [hT.1, takeU_val hK]; exact xor_num (Nat.mod_lt _ (by decide))) | (rw [hT.2.1, hK]; rfl))
 intro hps_
 refine AC.q ⟨[(0, tD (dS s)), (5, tD (dK .u64 0))], []⟩ ?_
 refine AC.q ⟨[(0, tD (dS s)), (5, tD (dK .u64 0)), (6, I 0)], []⟩ ?_
 refine AC.seq ?_
 refine AC.label ?_
 exact AC.le (Le.of (lk rfl (LeS.cons rfl (TLe.eq (congrArg (fun x_ => T.one (U.c (C.d (dK .u64 x_)))) (show ((0) : Int) = (((vM s 0 : Nat) : Int)) by rfl))) (LeS.cons rfl (TLe.i (by rfl)) LeS.nil))) LeE.nil (by kernel_rfl)) (hps_ (0) (by exact ⟨by omega, by omega, fun i hi => by omega⟩))
end Go.Proofs.Ytfpmgnkbklnkaaa.Eng
end
section
set_option linter.unusedSimpArgs false
set_option linter.unusedVariables false
set_option maxRecDepth 100000
set_option maxHeartbeats 4000000
namespace Go.Proofs.Ytfpmgnkbklnkaaa.Eng
open Go Go.Proofs
abbrev uvalue (r : Rec) : List U := [.c (.d (dI (valN r))), .c (.d (dB (valOk r)))]
/-- headgate/engine.Value. -/
theorem ok_value (r : Rec) :
 FnOk Try.prog 51 [.agg ((eRec r).map .d)] (fun r_ => r_ = .tup [.c (.d (dI (valN r))), .c (.d (dB (valOk r)))]) := by
 refine FnOk.go Try.func51 rfl 21 ?_
 intro w0 m0
 show AC _ _ ⟨[(0, tA ((eRec r).map .d))], []⟩ _
 refine AC.q ⟨[sp 1], [(1, .var ((eRec r).map .d))]⟩ ?_
 refine AC.rS [0, 1, 2, 3, 4, 5, 6, 7, 8, 9] ?_
 refine AOps.m [0, 1] ⟨[(9, tD (dS r.Text))], []⟩ ?_
 refine AOps.ca (ok_take r.Text) ?_
 rintro _ rfl
 refine AOps.e ⟨[(4, I (takeN r.Text)), (5, tD (dS (takeRest r.Text))), (6, I (takeErr r.Text))], []⟩ ?_
 refine AC.rS [0, 1, 2, 3, 4, 5, 6, 7, 8] ?_
 refine AOps.m [0, 1, 2, 3] ⟨[(5, tD (dS (takeRest r.Text))), (14, I (takeN r.Text)), (17, B ((takeErr r.Text) == 0))], []⟩ ?_
 refine AOps.s [4, 5] 6 17 19 20 true ((takeErr r.Text) == 0) ((takeRest r.Text).toList == (⟨#[]⟩ : ByteArray).toList) [14] (fun h_ => ?_) ?_
 clear h_
 refine AOps.m [4, 5] ⟨[(14, I (takeN r.Text)), (17, B true), (19, B ((takeRest r.Text).toList == (⟨#[]⟩ : ByteArray).toList))], []⟩ ?_
 exact scd
 refine AOps.e ⟨[(2, I (takeN r.Text)), (3, B (((takeErr r.Text) == 0) && ((takeRest r.Text).toList == (⟨#[]⟩ : ByteArray).toList)))], []⟩ ?_
 refine AC.ret ?_
 refine rqr (uvalue r) (All2.cons (ULe.c (CLe.d (DLe.eq (congrArg dI (show (takeN r.Text) = (valN r) from ?_))))) (All2.cons (ULe.c (CLe.d (DLe.eq (congrArg dB (show (((takeErr r.Text) == 0) && ((takeRest r.Text).toList == (⟨#[]⟩ : ByteArray).toList)) = (valOk r) from ?_))))) All2.nil))
 iterate 2 (· first | rfl | exact rest_empty)
end Go.Proofs.Ytfpmgnkbklnkaaa.Eng
end
section
set_option linter.unusedSimpArgs false
set_option linter.unusedVariables false
set_option maxRecDepth 100000
set_option maxHeartbeats 4000000
namespace Go.Proofs.Ytfpmgnkbklnkaaa.Eng
open Go Go.Proofs
abbrev z41D_0 (l : List Cell) : Nat × T := (0, tD (row 12 eCell zCell l))
abbrev z41D_1 : Nat × Blk := (1005, arow 46 12 eCell zCell ([] : List Cell))
/-- slices.Clone[[]headgate/api.Cell,headgate/api.Cell]. -/
theorem ok_cloneD (l : List Cell) (hl : l.length ≤ 1000) :
 FnG Try.prog 41 [.c (.d (row 12 eCell zCell l))] [] (fun r_ e_ => r_ = tG 5000 12 0 l.length ∧ e_ = [(5000, arow 46 12 eCell zCell l)]) := by
 refine FnG.intro Try.func41 rfl (by kernel_rfl) (by kernel_rfl) (by kernel_rfl) (by kernel_rfl) (N := 8) (by kernel_rfl) ?_
 intro w0 m0 F_ β_
 show AC _ _ ⟨[(z41D_0 l)], []⟩ _
 refine AC.q ⟨[(z41D_0 l)], []⟩ ?_
 refine AC.seq ?_
 refine AC.rS [0, 1] ?_
 refine AOps.m [0] ⟨[(z41D_0 l), (3, tD (row 12 eCell zCell l))], []⟩ ?_
 refine AOps.nilTest rfl (by kernel_rfl) rfl (e := 46) (by kernel_rfl) (n := l.length) (by kernel_rfl) rfl (by kernel_rfl) ?_
 intro nb4 hnb4
 refine AOps.n ⟨[(z41D_0 l), (4, B nb4)], []⟩ ?_
 refine AOps.done ?_
 refine AC.cd (b := nb4) (fun h_ => ?_) (fun h_ => ?_)
 have h1 := h_; have r1 := h_; clear h_; try simp only [bb] at h1
 refine AC.q ⟨[(2, tD (.v (.slice none 0 0)))], []⟩ ?_
 refine AC.nl 1002 2 46 12 (fun i_ j_ => nth (eCell (([] : List Cell).getD i_ zCell)) j_) ⟨[(2, tG 1002 12 0 (([] : List Cell).length))], [(1002, arow 46 12 eCell zCell ([] : List Cell))]⟩ ?_
 refine AC.ret ?_
 refine ResG.ret (Q := fun r_ e_ => r_ = tG 5000 12 0 l.length ∧ e_ = [(5000, arow 46 12 eCell zCell l)]) [(5000, 1002)] (us := [.c (.gs 1002 12 0 (([] : List Cell).length))]) (us' := [.c (.gs 5000 12 0 l.length)]) (env' := [(5000, arow 46 12 eCell zCell l)]) (by kernel_rfl) (us_cons (w' := .c (.gs 1002 12 0 l.length)) (by kernel_rfl) (ULe.c (CLe.gs (congrArg List.length (show (([] : List Cell)) = (l) from ?_)))) us_nil) (endE_cons (b' := arow 46 12 eCell zCell l) (by kernel_rfl) (by kernel_rfl) (BLe.eq (congrArg (arow 46 12 eCell zCell) (show (([] : List Cell)) = (l) from ?_))) endE_nil) (by kernel_rfl) ⟨rfl, rfl⟩
 iterate 2 (· first | rfl | (simp; done) | (have := hnb4 (by assumption); simp_all; done) | exact (List.eq_nil_of_length_eq_zero (hnb4 (by assumption))).symm)
 have h1 := h_; have r1 := h_; clear h_; try simp only [bb] at h1
 refine AC.skip ?_
 refine AC.rS [0, 1, 2, 3] ?_
 refine AOps.empty rfl (by kernel_rfl) rfl (e := 46) (sz := 12) (n := 1005) (by kernel_rfl) (by kernel_rfl) (fun i_ j_ => nth (eCell (([] : List Cell).getD i_ zCell)) j_) (by kernel_rfl) (by kernel_rfl) rfl (by kernel_rfl) ?_
 refine AOps.n ⟨[(z41D_0 l), (4, B nb4), (5, tG 1005 12 0 (([] : List Cell).length))], [(z41D_1)]⟩ ?_
 refine AOps.n ⟨[(z41D_0 l), (5, tG 1005 12 0 (([] : List Cell).length))], [(z41D_1)]⟩ ?_
 refine AOps.mc [1, 2] (C' := (([] : List Cell).length = ([] : List Cell).length ∧ ([] : List Cell).length + l.length ≤ 9223372036854775807 ∧ (([] : List Cell).length + l.length) * 96 ≤ 140737488355328) ∧ True) ⟨[(7, tG 1005 12 0 (([] : List Cell).length + l.length))], [(1005, .arr 46 12 (([] : List Cell).length + l.length) fun i_ j_ => bif Nat.blt i_ ([] : List Cell).length then nth (eCell (([] : List Cell).getD i_ zCell)) j_ else nth (eCell (l.getD (i_ - ([] : List Cell).length) zCell)) j_)]⟩ (⟨by simp; omega, trivial⟩) ?_
 refine AOps.le (st' := ⟨[(7, tG 1005 12 0 ((([] : List Cell) ++ l).length))], [(1005, arow 46 12 eCell zCell (([] : List Cell) ++ l))]⟩) (Le.of (LeS.cons rfl (TLe.gs (lenL _ _)) LeS.nil) (LeE.cons rfl (BLe.appL (e := 46) (sz := 12) (enc := eCell) (d := zCell) (L := ([] : List Cell)) (K := l)) LeE.nil) (by kernel_rfl)) ?_
 refine AOps.e ⟨[(2, tG 1005 12 0 ((([] : List Cell) ++ l).length))], [(1005, arow 46 12 eCell zCell (([] : List Cell) ++ l))]⟩ ?_
 refine AC.ret ?_
 refine ResG.ret (Q := fun r_ e_ => r_ = tG 5000 12 0 l.length ∧ e_ = [(5000, arow 46 12 eCell zCell l)]) [(5000, 1005)] (us := [.c (.gs 1005 12 0 ((([] : List Cell) ++ l).length))]) (us' := [.c (.gs 5000 12 0 l.length)]) (env' := [(5000, arow 46 12 eCell zCell l)]) (by kernel_rfl) (us_cons (w' := .c (.gs 1005 12 0 l.length)) (by kernel_rfl) (ULe.c (CLe.gs (congrArg List.length (show ((([] : List Cell) ++ l)) = (l) from ?_)))) us_nil) (endE_cons (b' := arow 46 12 eCell zCell l) (by kernel_rfl) (by kernel_rfl) (BLe.eq (congrArg (arow 46 12 eCell zCell) (show ((([] : List Cell) ++ l)) = (l) from ?_))) endE_nil) (by kernel_rfl) ⟨rfl, rfl⟩
 iterate 2 (· first | rfl | (simp; done) | (have := hnb4 (by assumption); simp_all; done) | exact (List.eq_nil_of_length_eq_zero (hnb4 (by assumption))).symm)
abbrev z41G_0 (l : List Cell) : Nat × T := (0, tG 9500 12 0 l.length)
abbrev z41G_1 (l : List Cell) : Nat × Blk := (9500, arow 46 12 eCell zCell l)
abbrev z41G_2 : Nat × T := (5, tG 1005 12 0 (([] : List Cell).length))
abbrev z41G_3 : Nat × Blk := (1005, arow 46 12 eCell zCell ([] : List Cell))
abbrev z41G_4 (l : List Cell) : Nat × Blk := (1005, arow 46 12 eCell zCell (([] : List Cell) ++ l))
/-- slices.Clone[[]headgate/api.Cell,headgate/api.Cell]. -/
theorem ok_cloneG (l : List Cell) (hl : l.length ≤ 1000) :
 FnG Try.prog 41 [.c (.gs 9500 12 0 l.length)] [(9500, arow 46 12 eCell zCell l)] (fun r_ e_ => r_ = tG 5000 12 0 l.length ∧ e_ = [(5000, arow 46 12 eCell zCell l), (9500, arow 46 12 eCell zCell l)]) := by
 refine FnG.intro Try.func41 rfl (by kernel_rfl) (by kernel_rfl) (by kernel_rfl) (by kernel_rfl) (N := 8) (by kernel_rfl) ?_
 intro w0 m0 F_ β_
 show AC _ _ ⟨[(z41G_0 l)], [(z41G_1 l)]⟩ _
 refine AC.q ⟨[(z41G_0 l)], [(z41G_1 l)]⟩ ?_
 refine AC.seq ?_
 refine AC.rS [0, 1] ?_
 refine AOps.m [0] ⟨[(z41G_0 l), (3, tG 9500 12 0 l.length)], [(z41G_1 l)]⟩ ?_
 refine AOps.nilTest rfl (by kernel_rfl) rfl (e := 46) (by kernel_rfl) (n := l.length) (by kernel_rfl) rfl (by kernel_rfl) ?_
 intro nb4 hnb4
 refine AOps.n ⟨[(z41G_0 l), (4, B nb4)], [(z41G_1 l)]⟩ ?_
 refine AOps.done ?_
 refine AC.cd (b := nb4) (fun h_ => ?_) (fun h_ => ?_)
 have h1 := h_; have r1 := h_; clear h_; try simp only [bb] at h1
 refine AC.q ⟨[(2, tD (.v (.slice none 0 0)))], [(z41G_1 l)]⟩ ?_
 refine AC.nl 1002 2 46 12 (fun i_ j_ => nth (eCell (([] : List Cell).getD i_ zCell)) j_) ⟨[(2, tG 1002 12 0 (([] : List Cell).length))], [(1002, arow 46 12 eCell zCell ([] : List Cell)), (z41G_1 l)]⟩ ?_
 refine AC.ret ?_
 refine ResG.ret (Q := fun r_ e_ => r_ = tG 5000 12 0 l.length ∧ e_ = [(5000, arow 46 12 eCell zCell l), (9500, arow 46 12 eCell zCell l)]) [(5000, 1002), (9500, 9500)] (us := [.c (.gs 1002 12 0 (([] : List Cell).length))]) (us' := [.c (.gs 5000 12 0 l.length)]) (env' := [(5000, arow 46 12 eCell zCell l), (9500, arow 46 12 eCell zCell l)]) (by kernel_rfl) (us_cons (w' := .c (.gs 1002 12 0 l.length)) (by kernel_rfl) (ULe.c (CLe.gs (congrArg List.length (show (([] : List Cell)) = (l) from ?_)))) us_nil) (endE_cons (b' := arow 46 12 eCell zCell l) (by kernel_rfl) (by kernel_rfl) (BLe.eq (congrArg (arow 46 12 eCell zCell) (show (([] : List Cell)) = (l) from ?_))) (endE_cons (b' := arow 46 12 eCell zCell l) (by kernel_rfl) (by kernel_rfl) (BLe.refl _) endE_nil)) (by kernel_rfl) ⟨rfl, rfl⟩
 iterate 2 (· first | rfl | (simp; done) | (have := hnb4 (by assumption); simp_all; done) | exact (List.eq_nil_of_length_eq_zero (hnb4 (by assumption))).symm)
 have h1 := h_; have r1 := h_; clear h_; try simp only [bb] at h1
 refine AC.skip ?_
 refine AC.rS [0, 1, 2, 3] ?_
 refine AOps.empty rfl (by kernel_rfl) rfl (e := 46) (sz := 12) (n := 1005) (by kernel_rfl) (by kernel_rfl) (fun i_ j_ => nth (eCell (([] : List Cell).getD i_ zCell)) j_) (by kernel_rfl) (by kernel_rfl) rfl (by kernel_rfl) ?_
 refine AOps.n ⟨[(z41G_0 l), (4, B nb4), (z41G_2)], [(z41G_3), (z41G_1 l)]⟩ ?_
 refine AOps.n ⟨[(z41G_0 l), (z41G_2)], [(z41G_3), (z41G_1 l)]⟩ ?_
 refine AOps.m [1] ⟨[(z41G_2), (6, tG 9500 12 0 l.length)], [(z41G_3), (z41G_1 l)]⟩ ?_
 refine AOps.cons (step_appendG rfl (by kernel_rfl) rfl rfl rfl rfl (e := 46) (sz0 := 12) (n0 := 1005) (n2 := 9500) (len := ([] : List Cell).length) (k := l.length) (bytes := 96) (by kernel_rfl) (by kernel_rfl) (by kernel_rfl) rfl rfl (by kernel_rfl) (by simp; omega) (by kernel_rfl) rfl (by kernel_rfl)) ?_
 refine AOps.le (st' := ⟨[(6, tG 9500 12 0 l.length), (7, tG 1005 12 0 ((([] : List Cell) ++ l).length))], [(z41G_4 l), (z41G_1 l)]⟩) (Le.of (lk rfl (LeS.cons rfl (TLe.gs (lenL _ _)) LeS.nil)) (LeE.cons rfl (BLe.appL (e := 46) (sz := 12) (enc := eCell) (d := zCell) (L := ([] : List Cell)) (K := l)) (ek rfl LeE.nil)) (by kernel_rfl)) ?_
 refine AOps.n ⟨[(7, tG 1005 12 0 ((([] : List Cell) ++ l).length))], [(z41G_4 l), (z41G_1 l)]⟩ ?_
 refine AOps.e ⟨[(2, tG 1005 12 0 ((([] : List Cell) ++ l).length))], [(z41G_4 l), (z41G_1 l)]⟩ ?_
 refine AC.ret ?_
 refine ResG.ret (Q := fun r_ e_ => r_ = tG 5000 12 0 l.length ∧ e_ = [(5000, arow 46 12 eCell zCell l), (9500, arow 46 12 eCell zCell l)]) [(5000, 1005), (9500, 9500)] (us := [.c (.gs 1005 12 0 ((([] : List Cell) ++ l).length))]) (us' := [.c (.gs 5000 12 0 l.length)]) (env' := [(5000, arow 46 12 eCell zCell l), (9500, arow 46 12 eCell zCell l)]) (by kernel_rfl) (us_cons (w' := .c (.gs 1005 12 0 l.length)) (by kernel_rfl) (ULe.c (CLe.gs (congrArg List.length (show ((([] : List Cell) ++ l)) = (l) from ?_)))) us_nil) (endE_cons (b' := arow 46 12 eCell zCell l) (by kernel_rfl) (by kernel_rfl) (BLe.eq (congrArg (arow 46 12 eCell zCell) (show ((([] : List Cell) ++ l)) = (l) from ?_))) (endE_cons (b' := arow 46 12 eCell zCell l) (by kernel_rfl) (by kernel_rfl) (BLe.refl _) endE_nil)) (by kernel_rfl) ⟨rfl, rfl⟩
 iterate 2 (· first | rfl | (simp; done) | (have := hnb4 (by assumption); simp_all; done) | exact (List.eq_nil_of_length_eq_zero (hnb4 (by assumption))).symm)
end Go.Proofs.Ytfpmgnkbklnkaaa.Eng
end
