/- Steps of the proofs of this seat: part Law2. -/
import Derived.Test.YtbbhpddgjiifmaaLaw0
set_option linter.unusedSimpArgs false
set_option linter.unusedVariables false
namespace Go.Proofs.Ytbbhpddgjiifmaa
open Go.Proofs Go.RowKit

set_option maxHeartbeats 4000000 in
theorem C_OrderKnew {w : World} {Fa : Nat → Prop} {a : Ev} {da : Value} (ha : RdS w Fa da a.deps) (oa : a.Ok) {Fb : Nat → Prop} {b : Ev} {db : Value} (hb : RdS w Fb db b.deps) (ob : b.Ok) : Ret Try.prog 6 [.agg (a.cells da).toArray, .agg (b.cells db).toArray] w (fun r w' => r = .bool true ∧ Ext w w') := by
  have has : a.deps.length * 8 ≤ 140737488355328 := ha.small
  have hbs : b.deps.length * 8 ≤ 140737488355328 := hb.small
  refine Calls_of_WP (args := [.agg (a.cells da).toArray, .agg (b.cells db).toArray]) Try.func6 rfl rfl ?_
  refine WP_seq ?_
  refine WP_region0 (by kernel_rfl) (fun _ => ?_)
  refine st (ov_box (v := .agg (a.cells da).toArray) rfl (fun w1 b2 hn1 => ?_))
  have hb3 : w1.heap[b2]? = some (.cells (a.cells da).toArray 29) := hn1.at_
  have hs4 := hn1.size; have hs4e := hn1.eq
  refine st (ov_box (v := .agg (b.cells db).toArray) rfl (fun w2 b6 hn5 => ?_))
  have hb7 : w2.heap[b6]? = some (.cells (b.cells db).toArray 29) := hn5.at_
  have hs8 := hn5.size; have hs8e := hn5.eq
  refine st (ov_assign (v := .bool false) rfl ?_)
  refine st_nil ?_
  refine WP_seq ?_
  refine WP_seq ?_
  refine WP_draw Ext (AL [fun v w => v = (.agg (a.cells da).toArray : Value), fun v w => v = (.agg (b.cells db).toArray : Value), fun v w => v = (.bool (apart a b) : Value), fun v w => v = (.agg (b.cells db).toArray : Value), fun v w => v = (.agg (a.cells da).toArray : Value), fun v w => v = (.bool (apart b a) : Value), fun v w => v = (.bool (!((apart a b) == (apart b a))) : Value), fun v w => v = (.bool (!((apart a b) == (apart b a))) : Value), fun v w => v = (if (!((apart a b) == (apart b a))) = false then (.agg (a.cells da).toArray : Value) else undef), fun v w => v = (if (!((apart a b) == (apart b a))) = false then (.agg (b.cells db).toArray : Value) else undef), fun v w => v = (if (!((apart a b) == (apart b a))) = false then (.bool (apart a b) : Value) else undef), fun v w => v = (if (!((apart a b) == (apart b a))) = false then (.bool (apart a b) : Value) else undef), fun v w => v = (if ((!((apart a b) == (apart b a))) = false) ∧ (apart a b) = true then (.agg (a.cells da).toArray : Value) else undef), fun v w => v = (if ((!((apart a b) == (apart b a))) = false) ∧ (apart a b) = true then (.agg (b.cells db).toArray : Value) else undef), fun v w => v = (if ((!((apart a b) == (apart b a))) = false) ∧ (apart a b) = true then (.bool (before a b) : Value) else undef), fun v w => v = (if ((!((apart a b) == (apart b a))) = false) ∧ (apart a b) = true then (.bool (before a b) : Value) else undef), fun v w => v = (if (((!((apart a b) == (apart b a))) = false) ∧ (apart a b) = true) ∧ (before a b) = false then (.agg (b.cells db).toArray : Value) else undef), fun v w => v = (if (((!((apart a b) == (apart b a))) = false) ∧ (apart a b) = true) ∧ (before a b) = false then (.agg (a.cells da).toArray : Value) else undef), fun v w => v = (if (((!((apart a b) == (apart b a))) = false) ∧ (apart a b) = true) ∧ (before a b) = false then (.bool (before b a) : Value) else undef), fun v w => v = (if ((!((apart a b) == (apart b a))) = false) ∧ (apart a b) = true then (.bool ((before a b) || (before b a)) : Value) else undef), fun v w => v = (if ((!((apart a b) == (apart b a))) = false) ∧ (apart a b) = true then (.bool ((before a b) || (before b a)) : Value) else undef), fun v w => v = (if (((!((apart a b) == (apart b a))) = false) ∧ (apart a b) = true) ∧ ((before a b) || (before b a)) = false then (.pointer (some ⟨b2, 0, none⟩) : Value) else undef), fun v w => v = (if (((!((apart a b) == (apart b a))) = false) ∧ (apart a b) = true) ∧ ((before a b) || (before b a)) = false then (.agg #[.int .i64 (a.origin), .int .i64 (a.seq)] : Value) else undef), fun v w => v = (if (((!((apart a b) == (apart b a))) = false) ∧ (apart a b) = true) ∧ ((before a b) || (before b a)) = false then (.pointer (some ⟨b6, 0, none⟩) : Value) else undef), fun v w => v = (if (((!((apart a b) == (apart b a))) = false) ∧ (apart a b) = true) ∧ ((before a b) || (before b a)) = false then (.agg #[.int .i64 (b.origin), .int .i64 (b.seq)] : Value) else undef), fun v w => v = (if (((!((apart a b) == (apart b a))) = false) ∧ (apart a b) = true) ∧ ((before a b) || (before b a)) = false then (.bool (decide (a.origin = b.origin ∧ a.seq = b.seq)) : Value) else undef), fun v w => v = (if ((!((apart a b) == (apart b a))) = false) ∧ (apart a b) = true then (.bool (((before a b) || (before b a)) || (decide (a.origin = b.origin ∧ a.seq = b.seq))) : Value) else undef), fun v w => v = (if (!((apart a b) == (apart b a))) = false then (.bool ((apart a b) && (((before a b) || (before b a)) || (decide (a.origin = b.origin ∧ a.seq = b.seq)))) : Value) else undef), fun v w => v = (.bool ((!((apart a b) == (apart b a))) || ((apart a b) && (((before a b) || (before b a)) || (decide (a.origin = b.origin ∧ a.seq = b.seq))))) : Value)]) [[], [], [0, 1], [], [], [0, 1, 2, 3, 4], [0, 1, 2, 3, 4, 5], [0, 1, 2, 3, 4, 5, 6], [0, 1, 2, 3, 4, 5, 6, 7], [0, 1, 2, 3, 4, 5, 6, 7], [0, 1, 2, 3, 4, 5, 6, 7, 8, 9], [0, 1, 2, 3, 4, 5, 6, 7, 8, 9, 10], [0, 1, 2, 3, 4, 5, 6, 7, 8, 9, 10, 11], [0, 1, 2, 3, 4, 5, 6, 7, 8, 9, 10, 11], [0, 1, 2, 3, 4, 5, 6, 7, 8, 9, 10, 11, 12, 13], [0, 1, 2, 3, 4, 5, 6, 7, 8, 9, 10, 11, 12, 13, 14], [0, 1, 2, 3, 4, 5, 6, 7, 8, 9, 10, 11, 12, 13, 14, 15], [0, 1, 2, 3, 4, 5, 6, 7, 8, 9, 10, 11, 12, 13, 14, 15], [0, 1, 2, 3, 4, 5, 6, 7, 8, 9, 10, 11, 12, 13, 14, 15, 16, 17], [0, 1, 2, 3, 4, 5, 6, 7, 8, 9, 10, 11, 12, 13, 14, 15, 16, 17, 18], [0, 1, 2, 3, 4, 5, 6, 7, 8, 9, 10, 11, 12, 13, 14, 15, 16, 17, 18, 19], [0, 1, 2, 3, 4, 5, 6, 7, 8, 9, 10, 11, 12, 13, 14, 15, 16, 17, 18, 19, 20], [0, 1, 2, 3, 4, 5, 6, 7, 8, 9, 10, 11, 12, 13, 14, 15, 16, 17, 18, 19, 20, 21], [0, 1, 2, 3, 4, 5, 6, 7, 8, 9, 10, 11, 12, 13, 14, 15, 16, 17, 18, 19, 20], [0, 1, 2, 3, 4, 5, 6, 7, 8, 9, 10, 11, 12, 13, 14, 15, 16, 17, 18, 19, 20, 23], [0, 1, 2, 3, 4, 5, 6, 7, 8, 9, 10, 11, 12, 13, 14, 15, 16, 17, 18, 19, 20, 21, 22, 23, 24], [0, 1, 2, 3, 4, 5, 6, 7, 8, 9, 10, 11, 12, 13, 14, 15, 16, 17, 18, 19, 20, 21, 22, 23, 24, 25], [0, 1, 2, 3, 4, 5, 6, 7, 8, 9, 10, 11, 12, 13, 14, 15, 16, 17, 18, 19, 20, 21, 22, 23, 24, 25, 26], [0, 1, 2, 3, 4, 5, 6, 7, 8, 9, 10, 11, 12, 13, 14, 15, 16, 17, 18, 19, 20, 21, 22, 23, 24, 25, 26, 27]] 29 (by kernel_rfl) (by kernel_rfl) (by kernel_rfl) (fun w => Chg.refl _ w) (fun _ _ _ h1 h2 => h1.trans h2) (stabL ⟨fun _ _ _ _ h => h, fun _ _ _ _ h => h, fun _ _ _ _ h => h, fun _ _ _ _ h => h, fun _ _ _ _ h => h, fun _ _ _ _ h => h, fun _ _ _ _ h => h, fun _ _ _ _ h => h, fun _ _ _ _ h => h, fun _ _ _ _ h => h, fun _ _ _ _ h => h, fun _ _ _ _ h => h, fun _ _ _ _ h => h, fun _ _ _ _ h => h, fun _ _ _ _ h => h, fun _ _ _ _ h => h, fun _ _ _ _ h => h, fun _ _ _ _ h => h, fun _ _ _ _ h => h, fun _ _ _ _ h => h, fun _ _ _ _ h => h, fun _ _ _ _ h => h, fun _ _ _ _ h => h, fun _ _ _ _ h => h, fun _ _ _ _ h => h, fun _ _ _ _ h => h, fun _ _ _ _ h => h, fun _ _ _ _ h => h, fun _ _ _ _ h => h, trivial⟩) ?_
  intro w3 qh1 qh2 qh3 qh4
  have hx9 := ext_same qh1 qh2 qh3 qh4
  refine ⟨⟨?_, ?_, ?_, ?_, ?_, ?_, ?_, ?_, ?_, ?_, ?_, ?_, ?_, ?_, ?_, ?_, ?_, ?_, ?_, ?_, ?_, ?_, ?_, ?_, ?_, ?_, ?_, ?_, ?_, trivial⟩, ?_⟩
  · intro vals w4 hR10 hA
    have hs11 := hR10.size
    refine obl rfl ?_
    have h12 := (Chg.trans (Chg.trans hn5.ext hx9) hR10).keep hb3 (fun h => h)
    exact ov_loadk (k := 10) Try.isAgg29 Try.sizeOf29 rfl rfl (CellsAt.all h12) ⟨Chg.refl _ _, rfl⟩
  · intro vals w5 hR13 hA
    have hs14 := hR13.size
    refine obl rfl ?_
    have h15 := (Chg.trans hx9 hR13).keep hb7 (fun h => h)
    exact ov_loadk (k := 10) Try.isAgg29 Try.sizeOf29 rfl rfl (CellsAt.all h15) ⟨Chg.refl _ _, rfl⟩
  · intro vals w6 hR16 hA
    have hs17 := hR16.size
    have e0 : (vals 0) = (.agg (a.cells da).toArray : Value) := hA 0 (by decide)
    have e1 : (vals 1) = (.agg (b.cells db).toArray : Value) := hA 1 (by decide)
    refine obl rfl ?_
    have h18 := ha.ext (Chg.trans (Chg.trans (Chg.trans hn1.ext hn5.ext) hx9) hR16)
    have h19 := hb.ext (Chg.trans (Chg.trans (Chg.trans hn1.ext hn5.ext) hx9) hR16)
    exact ov_call (f := 13) (vals := [.agg (a.cells da).toArray, .agg (b.cells db).toArray]) (cap := []) (show _ = (.func (.func 13) #[] #[] : Value) from rfl) (mapL ⟨(show _ = (.agg (a.cells da).toArray : Value) from e0), (show _ = (.agg (b.cells db).toArray : Value) from e1), trivial⟩) Try.call13 (C_Apart h18 oa h19 ob) (fun _ _ h => ⟨h.2, h.1⟩)
  · intro vals w7 hR20 hA
    have hs21 := hR20.size
    refine obl rfl ?_
    have h22 := (Chg.trans hx9 hR20).keep hb7 (fun h => h)
    exact ov_loadk (k := 10) Try.isAgg29 Try.sizeOf29 rfl rfl (CellsAt.all h22) ⟨Chg.refl _ _, rfl⟩
  · intro vals w8 hR23 hA
    have hs24 := hR23.size
    refine obl rfl ?_
    have h25 := (Chg.trans (Chg.trans hn5.ext hx9) hR23).keep hb3 (fun h => h)
    exact ov_loadk (k := 10) Try.isAgg29 Try.sizeOf29 rfl rfl (CellsAt.all h25) ⟨Chg.refl _ _, rfl⟩
  · intro vals w9 hR26 hA
    have hs27 := hR26.size
    have e3 : (vals 3) = (.agg (b.cells db).toArray : Value) := hA 3 (by decide)
    have e4 : (vals 4) = (.agg (a.cells da).toArray : Value) := hA 4 (by decide)
    refine obl rfl ?_
    have h28 := hb.ext (Chg.trans (Chg.trans (Chg.trans hn1.ext hn5.ext) hx9) hR26)
    have h29 := ha.ext (Chg.trans (Chg.trans (Chg.trans hn1.ext hn5.ext) hx9) hR26)
    exact ov_call (f := 13) (vals := [.agg (b.cells db).toArray, .agg (a.cells da).toArray]) (cap := []) (show _ = (.func (.func 13) #[] #[] : Value) from rfl) (mapL ⟨(show _ = (.agg (b.cells db).toArray : Value) from e3), (show _ = (.agg (a.cells da).toArray : Value) from e4), trivial⟩) Try.call13 (C_Apart h28 ob h29 oa) (fun _ _ h => ⟨h.2, h.1⟩)
  · intro vals w10 hR30 hA
    have hs31 := hR30.size
    have e2 : (vals 2) = (.bool (apart a b) : Value) := hA 2 (by decide)
    have e5 : (vals 5) = (.bool (apart b a) : Value) := hA 5 (by decide)
    refine obl rfl ?_
    exact ov_neqb (a := apart a b) (b := apart b a) Try.underlying4 (show _ = (.bool (apart a b) : Value) from e2) (show _ = (.bool (apart b a) : Value) from e5) ⟨Chg.refl _ _, rfl⟩
  · intro vals w11 hR32 hA
    have hs33 := hR32.size
    have e6 : (vals 6) = (.bool (!((apart a b) == (apart b a))) : Value) := hA 6 (by decide)
    refine obl rfl ?_
    exact ov_move (v := .bool (!((apart a b) == (apart b a)))) (show _ = (.bool (!((apart a b) == (apart b a))) : Value) from e6) ⟨Chg.refl _ _, rfl⟩
  · intro vals w12 hR34 hA
    have hs35 := hR34.size
    have e7 : (vals 7) = (.bool (!((apart a b) == (apart b a))) : Value) := hA 7 (by decide)
    refine oblc rfl rfl (show _ = (.bool (!((apart a b) == (apart b a))) : Value) from e7) (fun hb36 => ?_) (fun hb36 => (if_neg hb36).symm)
    have hl37 : (!((apart a b) == (apart b a))) = false := hb36
    simp only [Bool.and_eq_true, Bool.or_eq_true, Bool.and_eq_false_iff, Bool.or_eq_false_iff, decide_eq_true_eq, decide_eq_false_iff_not, Bool.not_eq_true', Bool.not_eq_false', Int.not_lt, Int.not_le] at hl37
    have h38 := (Chg.trans (Chg.trans hn5.ext hx9) hR34).keep hb3 (fun h => h)
    exact ov_loadk (k := 10) Try.isAgg29 Try.sizeOf29 rfl rfl (CellsAt.all h38) ⟨Chg.refl _ _, (if_pos hb36).symm⟩
  · intro vals w13 hR39 hA
    have hs40 := hR39.size
    have e7 : (vals 7) = (.bool (!((apart a b) == (apart b a))) : Value) := hA 7 (by decide)
    refine oblc rfl rfl (show _ = (.bool (!((apart a b) == (apart b a))) : Value) from e7) (fun hb41 => ?_) (fun hb41 => (if_neg hb41).symm)
    have hl42 : (!((apart a b) == (apart b a))) = false := hb41
    simp only [Bool.and_eq_true, Bool.or_eq_true, Bool.and_eq_false_iff, Bool.or_eq_false_iff, decide_eq_true_eq, decide_eq_false_iff_not, Bool.not_eq_true', Bool.not_eq_false', Int.not_lt, Int.not_le] at hl42
    have h43 := (Chg.trans hx9 hR39).keep hb7 (fun h => h)
    exact ov_loadk (k := 10) Try.isAgg29 Try.sizeOf29 rfl rfl (CellsAt.all h43) ⟨Chg.refl _ _, (if_pos hb41).symm⟩
  · intro vals w14 hR44 hA
    have hs45 := hR44.size
    have e7 : (vals 7) = (.bool (!((apart a b) == (apart b a))) : Value) := hA 7 (by decide)
    have e8 : (vals 8) = (if (!((apart a b) == (apart b a))) = false then (.agg (a.cells da).toArray : Value) else undef) := hA 8 (by decide)
    have e9 : (vals 9) = (if (!((apart a b) == (apart b a))) = false then (.agg (b.cells db).toArray : Value) else undef) := hA 9 (by decide)
    refine oblc rfl rfl (show _ = (.bool (!((apart a b) == (apart b a))) : Value) from e7) (fun hb46 => ?_) (fun hb46 => (if_neg hb46).symm)
    have hl47 : (!((apart a b) == (apart b a))) = false := hb46
    simp only [Bool.and_eq_true, Bool.or_eq_true, Bool.and_eq_false_iff, Bool.or_eq_false_iff, decide_eq_true_eq, decide_eq_false_iff_not, Bool.not_eq_true', Bool.not_eq_false', Int.not_lt, Int.not_le] at hl47
    have h48 := ha.ext (Chg.trans (Chg.trans (Chg.trans hn1.ext hn5.ext) hx9) hR44)
    have h49 := hb.ext (Chg.trans (Chg.trans (Chg.trans hn1.ext hn5.ext) hx9) hR44)
    exact ov_call (f := 13) (vals := [.agg (a.cells da).toArray, .agg (b.cells db).toArray]) (cap := []) (show _ = (.func (.func 13) #[] #[] : Value) from rfl) (mapL ⟨(show _ = (.agg (a.cells da).toArray : Value) from (Eq.trans e8 (if_pos hb46))), (show _ = (.agg (b.cells db).toArray : Value) from (Eq.trans e9 (if_pos hb46))), trivial⟩) Try.call13 (C_Apart h48 oa h49 ob) (fun _ _ h => ⟨h.2, h.1.trans (if_pos hb46).symm⟩)
  · intro vals w15 hR50 hA
    have hs51 := hR50.size
    have e7 : (vals 7) = (.bool (!((apart a b) == (apart b a))) : Value) := hA 7 (by decide)
    have e10 : (vals 10) = (if (!((apart a b) == (apart b a))) = false then (.bool (apart a b) : Value) else undef) := hA 10 (by decide)
    refine oblc rfl rfl (show _ = (.bool (!((apart a b) == (apart b a))) : Value) from e7) (fun hb52 => ?_) (fun hb52 => (if_neg hb52).symm)
    have hl53 : (!((apart a b) == (apart b a))) = false := hb52
    simp only [Bool.and_eq_true, Bool.or_eq_true, Bool.and_eq_false_iff, Bool.or_eq_false_iff, decide_eq_true_eq, decide_eq_false_iff_not, Bool.not_eq_true', Bool.not_eq_false', Int.not_lt, Int.not_le] at hl53
    exact ov_move (v := .bool (apart a b)) (show _ = (.bool (apart a b) : Value) from (Eq.trans e10 (if_pos hb52))) ⟨Chg.refl _ _, (if_pos hb52).symm⟩
  · intro vals w16 hR54 hA
    have hs55 := hR54.size
    have e11 : (vals 11) = (if (!((apart a b) == (apart b a))) = false then (.bool (apart a b) : Value) else undef) := hA 11 (by decide)
    refine oblcP rfl rfl e11 (fun hb56 => ?_) (fun hb56 => (if_neg hb56).symm)
    have hl57 : (!((apart a b) == (apart b a))) = false := hb56.1
    simp only [Bool.and_eq_true, Bool.or_eq_true, Bool.and_eq_false_iff, Bool.or_eq_false_iff, decide_eq_true_eq, decide_eq_false_iff_not, Bool.not_eq_true', Bool.not_eq_false', Int.not_lt, Int.not_le] at hl57
    have hl58 : (apart a b) = true := hb56.2
    have h59 := (Chg.trans (Chg.trans hn5.ext hx9) hR54).keep hb3 (fun h => h)
    exact ov_loadk (k := 10) Try.isAgg29 Try.sizeOf29 rfl rfl (CellsAt.all h59) ⟨Chg.refl _ _, (if_pos hb56).symm⟩
  · intro vals w17 hR60 hA
    have hs61 := hR60.size
    have e11 : (vals 11) = (if (!((apart a b) == (apart b a))) = false then (.bool (apart a b) : Value) else undef) := hA 11 (by decide)
    refine oblcP rfl rfl e11 (fun hb62 => ?_) (fun hb62 => (if_neg hb62).symm)
    have hl63 : (!((apart a b) == (apart b a))) = false := hb62.1
    simp only [Bool.and_eq_true, Bool.or_eq_true, Bool.and_eq_false_iff, Bool.or_eq_false_iff, decide_eq_true_eq, decide_eq_false_iff_not, Bool.not_eq_true', Bool.not_eq_false', Int.not_lt, Int.not_le] at hl63
    have hl64 : (apart a b) = true := hb62.2
    have h65 := (Chg.trans hx9 hR60).keep hb7 (fun h => h)
    exact ov_loadk (k := 10) Try.isAgg29 Try.sizeOf29 rfl rfl (CellsAt.all h65) ⟨Chg.refl _ _, (if_pos hb62).symm⟩
  · intro vals w18 hR66 hA
    have hs67 := hR66.size
    have e11 : (vals 11) = (if (!((apart a b) == (apart b a))) = false then (.bool (apart a b) : Value) else undef) := hA 11 (by decide)
    have e12 : (vals 12) = (if ((!((apart a b) == (apart b a))) = false) ∧ (apart a b) = true then (.agg (a.cells da).toArray : Value) else undef) := hA 12 (by decide)
    have e13 : (vals 13) = (if ((!((apart a b) == (apart b a))) = false) ∧ (apart a b) = true then (.agg (b.cells db).toArray : Value) else undef) := hA 13 (by decide)
    refine oblcP rfl rfl e11 (fun hb68 => ?_) (fun hb68 => (if_neg hb68).symm)
    have hl69 : (!((apart a b) == (apart b a))) = false := hb68.1
    simp only [Bool.and_eq_true, Bool.or_eq_true, Bool.and_eq_false_iff, Bool.or_eq_false_iff, decide_eq_true_eq, decide_eq_false_iff_not, Bool.not_eq_true', Bool.not_eq_false', Int.not_lt, Int.not_le] at hl69
    have hl70 : (apart a b) = true := hb68.2
    have h71 := ha.ext (Chg.trans (Chg.trans (Chg.trans hn1.ext hn5.ext) hx9) hR66)
    have h72 := hb.ext (Chg.trans (Chg.trans (Chg.trans hn1.ext hn5.ext) hx9) hR66)
    exact ov_call (f := 11) (vals := [.agg (a.cells da).toArray, .agg (b.cells db).toArray]) (cap := []) (show _ = (.func (.func 11) #[] #[] : Value) from rfl) (mapL ⟨(show _ = (.agg (a.cells da).toArray : Value) from (Eq.trans e12 (if_pos ⟨hb68.1, hb68.2⟩))), (show _ = (.agg (b.cells db).toArray : Value) from (Eq.trans e13 (if_pos ⟨hb68.1, hb68.2⟩))), trivial⟩) Try.call11 (C_Before h71 oa h72 ob) (fun _ _ h => ⟨h.2, h.1.trans (if_pos hb68).symm⟩)
  · intro vals w19 hR73 hA
    have hs74 := hR73.size
    have e11 : (vals 11) = (if (!((apart a b) == (apart b a))) = false then (.bool (apart a b) : Value) else undef) := hA 11 (by decide)
    have e14 : (vals 14) = (if ((!((apart a b) == (apart b a))) = false) ∧ (apart a b) = true then (.bool (before a b) : Value) else undef) := hA 14 (by decide)
    refine oblcP rfl rfl e11 (fun hb75 => ?_) (fun hb75 => (if_neg hb75).symm)
    have hl76 : (!((apart a b) == (apart b a))) = false := hb75.1
    simp only [Bool.and_eq_true, Bool.or_eq_true, Bool.and_eq_false_iff, Bool.or_eq_false_iff, decide_eq_true_eq, decide_eq_false_iff_not, Bool.not_eq_true', Bool.not_eq_false', Int.not_lt, Int.not_le] at hl76
    have hl77 : (apart a b) = true := hb75.2
    exact ov_move (v := .bool (before a b)) (show _ = (.bool (before a b) : Value) from (Eq.trans e14 (if_pos ⟨hb75.1, hb75.2⟩))) ⟨Chg.refl _ _, (if_pos hb75).symm⟩
  · intro vals w20 hR78 hA
    have hs79 := hR78.size
    have e15 : (vals 15) = (if ((!((apart a b) == (apart b a))) = false) ∧ (apart a b) = true then (.bool (before a b) : Value) else undef) := hA 15 (by decide)
    refine oblcP rfl rfl e15 (fun hb80 => ?_) (fun hb80 => (if_neg hb80).symm)
    have hl81 : (!((apart a b) == (apart b a))) = false := hb80.1.1
    simp only [Bool.and_eq_true, Bool.or_eq_true, Bool.and_eq_false_iff, Bool.or_eq_false_iff, decide_eq_true_eq, decide_eq_false_iff_not, Bool.not_eq_true', Bool.not_eq_false', Int.not_lt, Int.not_le] at hl81
    have hl82 : (apart a b) = true := hb80.1.2
    have hl83 : (before a b) = false := hb80.2
    have h84 := (Chg.trans hx9 hR78).keep hb7 (fun h => h)
    exact ov_loadk (k := 10) Try.isAgg29 Try.sizeOf29 rfl rfl (CellsAt.all h84) ⟨Chg.refl _ _, (if_pos hb80).symm⟩
  · intro vals w21 hR85 hA
    have hs86 := hR85.size
    have e15 : (vals 15) = (if ((!((apart a b) == (apart b a))) = false) ∧ (apart a b) = true then (.bool (before a b) : Value) else undef) := hA 15 (by decide)
    refine oblcP rfl rfl e15 (fun hb87 => ?_) (fun hb87 => (if_neg hb87).symm)
    have hl88 : (!((apart a b) == (apart b a))) = false := hb87.1.1
    simp only [Bool.and_eq_true, Bool.or_eq_true, Bool.and_eq_false_iff, Bool.or_eq_false_iff, decide_eq_true_eq, decide_eq_false_iff_not, Bool.not_eq_true', Bool.not_eq_false', Int.not_lt, Int.not_le] at hl88
    have hl89 : (apart a b) = true := hb87.1.2
    have hl90 : (before a b) = false := hb87.2
    have h91 := (Chg.trans (Chg.trans hn5.ext hx9) hR85).keep hb3 (fun h => h)
    exact ov_loadk (k := 10) Try.isAgg29 Try.sizeOf29 rfl rfl (CellsAt.all h91) ⟨Chg.refl _ _, (if_pos hb87).symm⟩
  · intro vals w22 hR92 hA
    have hs93 := hR92.size
    have e15 : (vals 15) = (if ((!((apart a b) == (apart b a))) = false) ∧ (apart a b) = true then (.bool (before a b) : Value) else undef) := hA 15 (by decide)
    have e16 : (vals 16) = (if (((!((apart a b) == (apart b a))) = false) ∧ (apart a b) = true) ∧ (before a b) = false then (.agg (b.cells db).toArray : Value) else undef) := hA 16 (by decide)
    have e17 : (vals 17) = (if (((!((apart a b) == (apart b a))) = false) ∧ (apart a b) = true) ∧ (before a b) = false then (.agg (a.cells da).toArray : Value) else undef) := hA 17 (by decide)
    refine oblcP rfl rfl e15 (fun hb94 => ?_) (fun hb94 => (if_neg hb94).symm)
    have hl95 : (!((apart a b) == (apart b a))) = false := hb94.1.1
    simp only [Bool.and_eq_true, Bool.or_eq_true, Bool.and_eq_false_iff, Bool.or_eq_false_iff, decide_eq_true_eq, decide_eq_false_iff_not, Bool.not_eq_true', Bool.not_eq_false', Int.not_lt, Int.not_le] at hl95
    have hl96 : (apart a b) = true := hb94.1.2
    have hl97 : (before a b) = false := hb94.2
    have h98 := hb.ext (Chg.trans (Chg.trans (Chg.trans hn1.ext hn5.ext) hx9) hR92)
    have h99 := ha.ext (Chg.trans (Chg.trans (Chg.trans hn1.ext hn5.ext) hx9) hR92)
    exact ov_call (f := 11) (vals := [.agg (b.cells db).toArray, .agg (a.cells da).toArray]) (cap := []) (show _ = (.func (.func 11) #[] #[] : Value) from rfl) (mapL ⟨(show _ = (.agg (b.cells db).toArray : Value) from (Eq.trans e16 (if_pos ⟨⟨hb94.1.1, hb94.1.2⟩, hb94.2⟩))), (show _ = (.agg (a.cells da).toArray : Value) from (Eq.trans e17 (if_pos ⟨⟨hb94.1.1, hb94.1.2⟩, hb94.2⟩))), trivial⟩) Try.call11 (C_Before h98 ob h99 oa) (fun _ _ h => ⟨h.2, h.1.trans (if_pos hb94).symm⟩)
  · intro vals w23 hR100 hA
    have hs101 := hR100.size
    have e11 : (vals 11) = (if (!((apart a b) == (apart b a))) = false then (.bool (apart a b) : Value) else undef) := hA 11 (by decide)
    have e15 : (vals 15) = (if ((!((apart a b) == (apart b a))) = false) ∧ (apart a b) = true then (.bool (before a b) : Value) else undef) := hA 15 (by decide)
    have e18 : (vals 18) = (if (((!((apart a b) == (apart b a))) = false) ∧ (apart a b) = true) ∧ (before a b) = false then (.bool (before b a) : Value) else undef) := hA 18 (by decide)
    refine oblcP rfl rfl e11 (fun hb102 => ?_) (fun hb102 => (if_neg hb102).symm)
    have hl103 : (!((apart a b) == (apart b a))) = false := hb102.1
    simp only [Bool.and_eq_true, Bool.or_eq_true, Bool.and_eq_false_iff, Bool.or_eq_false_iff, decide_eq_true_eq, decide_eq_false_iff_not, Bool.not_eq_true', Bool.not_eq_false', Int.not_lt, Int.not_le] at hl103
    have hl104 : (apart a b) = true := hb102.2
    exact ov_pick_or (b := before a b) (b' := before b a) (show _ = (.bool (before a b) : Value) from (Eq.trans e15 (if_pos ⟨hb102.1, hb102.2⟩))) (fun hbp => (show _ = (.bool (before b a) : Value) from (Eq.trans e18 (if_pos ⟨⟨hb102.1, hb102.2⟩, hbp⟩)))) ⟨Chg.refl _ _, (if_pos hb102).symm⟩
  · intro vals w24 hR105 hA
    have hs106 := hR105.size
    have e11 : (vals 11) = (if (!((apart a b) == (apart b a))) = false then (.bool (apart a b) : Value) else undef) := hA 11 (by decide)
    have e19 : (vals 19) = (if ((!((apart a b) == (apart b a))) = false) ∧ (apart a b) = true then (.bool ((before a b) || (before b a)) : Value) else undef) := hA 19 (by decide)
    refine oblcP rfl rfl e11 (fun hb107 => ?_) (fun hb107 => (if_neg hb107).symm)
    have hl108 : (!((apart a b) == (apart b a))) = false := hb107.1
    simp only [Bool.and_eq_true, Bool.or_eq_true, Bool.and_eq_false_iff, Bool.or_eq_false_iff, decide_eq_true_eq, decide_eq_false_iff_not, Bool.not_eq_true', Bool.not_eq_false', Int.not_lt, Int.not_le] at hl108
    have hl109 : (apart a b) = true := hb107.2
    exact ov_move (v := .bool ((before a b) || (before b a))) (show _ = (.bool ((before a b) || (before b a)) : Value) from (Eq.trans e19 (if_pos ⟨hb107.1, hb107.2⟩))) ⟨Chg.refl _ _, (if_pos hb107).symm⟩
  · intro vals w25 hR110 hA
    have hs111 := hR110.size
    have e20 : (vals 20) = (if ((!((apart a b) == (apart b a))) = false) ∧ (apart a b) = true then (.bool ((before a b) || (before b a)) : Value) else undef) := hA 20 (by decide)
    refine oblcP rfl rfl e20 (fun hb112 => ?_) (fun hb112 => (if_neg hb112).symm)
    have hl113 : (!((apart a b) == (apart b a))) = false := hb112.1.1
    simp only [Bool.and_eq_true, Bool.or_eq_true, Bool.and_eq_false_iff, Bool.or_eq_false_iff, decide_eq_true_eq, decide_eq_false_iff_not, Bool.not_eq_true', Bool.not_eq_false', Int.not_lt, Int.not_le] at hl113
    have hl114 : (apart a b) = true := hb112.1.2
    have hl115 : ((before a b) || (before b a)) = false := hb112.2
    simp only [Bool.and_eq_true, Bool.or_eq_true, Bool.and_eq_false_iff, Bool.or_eq_false_iff, decide_eq_true_eq, decide_eq_false_iff_not, Bool.not_eq_true', Bool.not_eq_false', Int.not_lt, Int.not_le] at hl115
    exact fa29_0 rfl ⟨Chg.refl _ _, (if_pos hb112).symm⟩
  · intro vals w26 hR116 hA
    have hs117 := hR116.size
    have e20 : (vals 20) = (if ((!((apart a b) == (apart b a))) = false) ∧ (apart a b) = true then (.bool ((before a b) || (before b a)) : Value) else undef) := hA 20 (by decide)
    have e21 : (vals 21) = (if (((!((apart a b) == (apart b a))) = false) ∧ (apart a b) = true) ∧ ((before a b) || (before b a)) = false then (.pointer (some ⟨b2, 0, none⟩) : Value) else undef) := hA 21 (by decide)
    refine oblcP rfl rfl e20 (fun hb118 => ?_) (fun hb118 => (if_neg hb118).symm)
    have hl119 : (!((apart a b) == (apart b a))) = false := hb118.1.1
    simp only [Bool.and_eq_true, Bool.or_eq_true, Bool.and_eq_false_iff, Bool.or_eq_false_iff, decide_eq_true_eq, decide_eq_false_iff_not, Bool.not_eq_true', Bool.not_eq_false', Int.not_lt, Int.not_le] at hl119
    have hl120 : (apart a b) = true := hb118.1.2
    have hl121 : ((before a b) || (before b a)) = false := hb118.2
    simp only [Bool.and_eq_true, Bool.or_eq_true, Bool.and_eq_false_iff, Bool.or_eq_false_iff, decide_eq_true_eq, decide_eq_false_iff_not, Bool.not_eq_true', Bool.not_eq_false', Int.not_lt, Int.not_le] at hl121
    have h122 := (Chg.trans (Chg.trans hn5.ext hx9) hR116).keep hb3 (fun h => h)
    exact ov_loadk (k := 2) (cs := [.int .i64 (a.origin), .int .i64 (a.seq)]) Try.isAgg26 Try.sizeOf26 rfl (show _ = (.pointer (some ⟨b2, 0, none⟩) : Value) from (Eq.trans e21 (if_pos ⟨⟨hb118.1.1, hb118.1.2⟩, hb118.2⟩))) (CellsAt.sub (CellsAt.all h122) 0 (cs2 := [.int .i64 (a.origin), .int .i64 (a.seq)]) rfl) ⟨Chg.refl _ _, (if_pos hb118).symm⟩
  · intro vals w27 hR123 hA
    have hs124 := hR123.size
    have e20 : (vals 20) = (if ((!((apart a b) == (apart b a))) = false) ∧ (apart a b) = true then (.bool ((before a b) || (before b a)) : Value) else undef) := hA 20 (by decide)
    refine oblcP rfl rfl e20 (fun hb125 => ?_) (fun hb125 => (if_neg hb125).symm)
    have hl126 : (!((apart a b) == (apart b a))) = false := hb125.1.1
    simp only [Bool.and_eq_true, Bool.or_eq_true, Bool.and_eq_false_iff, Bool.or_eq_false_iff, decide_eq_true_eq, decide_eq_false_iff_not, Bool.not_eq_true', Bool.not_eq_false', Int.not_lt, Int.not_le] at hl126
    have hl127 : (apart a b) = true := hb125.1.2
    have hl128 : ((before a b) || (before b a)) = false := hb125.2
    simp only [Bool.and_eq_true, Bool.or_eq_true, Bool.and_eq_false_iff, Bool.or_eq_false_iff, decide_eq_true_eq, decide_eq_false_iff_not, Bool.not_eq_true', Bool.not_eq_false', Int.not_lt, Int.not_le] at hl128
    exact fa29_0 rfl ⟨Chg.refl _ _, (if_pos hb125).symm⟩
  · intro vals w28 hR129 hA
    have hs130 := hR129.size
    have e20 : (vals 20) = (if ((!((apart a b) == (apart b a))) = false) ∧ (apart a b) = true then (.bool ((before a b) || (before b a)) : Value) else undef) := hA 20 (by decide)
    have e23 : (vals 23) = (if (((!((apart a b) == (apart b a))) = false) ∧ (apart a b) = true) ∧ ((before a b) || (before b a)) = false then (.pointer (some ⟨b6, 0, none⟩) : Value) else undef) := hA 23 (by decide)
    refine oblcP rfl rfl e20 (fun hb131 => ?_) (fun hb131 => (if_neg hb131).symm)
    have hl132 : (!((apart a b) == (apart b a))) = false := hb131.1.1
    simp only [Bool.and_eq_true, Bool.or_eq_true, Bool.and_eq_false_iff, Bool.or_eq_false_iff, decide_eq_true_eq, decide_eq_false_iff_not, Bool.not_eq_true', Bool.not_eq_false', Int.not_lt, Int.not_le] at hl132
    have hl133 : (apart a b) = true := hb131.1.2
    have hl134 : ((before a b) || (before b a)) = false := hb131.2
    simp only [Bool.and_eq_true, Bool.or_eq_true, Bool.and_eq_false_iff, Bool.or_eq_false_iff, decide_eq_true_eq, decide_eq_false_iff_not, Bool.not_eq_true', Bool.not_eq_false', Int.not_lt, Int.not_le] at hl134
    have h135 := (Chg.trans hx9 hR129).keep hb7 (fun h => h)
    exact ov_loadk (k := 2) (cs := [.int .i64 (b.origin), .int .i64 (b.seq)]) Try.isAgg26 Try.sizeOf26 rfl (show _ = (.pointer (some ⟨b6, 0, none⟩) : Value) from (Eq.trans e23 (if_pos ⟨⟨hb131.1.1, hb131.1.2⟩, hb131.2⟩))) (CellsAt.sub (CellsAt.all h135) 0 (cs2 := [.int .i64 (b.origin), .int .i64 (b.seq)]) rfl) ⟨Chg.refl _ _, (if_pos hb131).symm⟩
  · intro vals w29 hR136 hA
    have hs137 := hR136.size
    have e20 : (vals 20) = (if ((!((apart a b) == (apart b a))) = false) ∧ (apart a b) = true then (.bool ((before a b) || (before b a)) : Value) else undef) := hA 20 (by decide)
    have e22 : (vals 22) = (if (((!((apart a b) == (apart b a))) = false) ∧ (apart a b) = true) ∧ ((before a b) || (before b a)) = false then (.agg #[.int .i64 (a.origin), .int .i64 (a.seq)] : Value) else undef) := hA 22 (by decide)
    have e24 : (vals 24) = (if (((!((apart a b) == (apart b a))) = false) ∧ (apart a b) = true) ∧ ((before a b) || (before b a)) = false then (.agg #[.int .i64 (b.origin), .int .i64 (b.seq)] : Value) else undef) := hA 24 (by decide)
    refine oblcP rfl rfl e20 (fun hb138 => ?_) (fun hb138 => (if_neg hb138).symm)
    have hl139 : (!((apart a b) == (apart b a))) = false := hb138.1.1
    simp only [Bool.and_eq_true, Bool.or_eq_true, Bool.and_eq_false_iff, Bool.or_eq_false_iff, decide_eq_true_eq, decide_eq_false_iff_not, Bool.not_eq_true', Bool.not_eq_false', Int.not_lt, Int.not_le] at hl139
    have hl140 : (apart a b) = true := hb138.1.2
    have hl141 : ((before a b) || (before b a)) = false := hb138.2
    simp only [Bool.and_eq_true, Bool.or_eq_true, Bool.and_eq_false_iff, Bool.or_eq_false_iff, decide_eq_true_eq, decide_eq_false_iff_not, Bool.not_eq_true', Bool.not_eq_false', Int.not_lt, Int.not_le] at hl141
    exact ov_eqlS (e := decide (a.origin = b.origin ∧ a.seq = b.seq)) (xs := #[.int .i64 (a.origin), .int .i64 (a.seq)]) (ys := #[.int .i64 (b.origin), .int .i64 (b.seq)]) eqId (show _ = (.agg #[.int .i64 (a.origin), .int .i64 (a.seq)] : Value) from (Eq.trans e22 (if_pos ⟨⟨hb138.1.1, hb138.1.2⟩, hb138.2⟩))) (show _ = (.agg #[.int .i64 (b.origin), .int .i64 (b.seq)] : Value) from (Eq.trans e24 (if_pos ⟨⟨hb138.1.1, hb138.1.2⟩, hb138.2⟩))) ⟨Chg.refl _ _, (if_pos hb138).symm⟩
  · intro vals w30 hR142 hA
    have hs143 := hR142.size
    have e11 : (vals 11) = (if (!((apart a b) == (apart b a))) = false then (.bool (apart a b) : Value) else undef) := hA 11 (by decide)
    have e20 : (vals 20) = (if ((!((apart a b) == (apart b a))) = false) ∧ (apart a b) = true then (.bool ((before a b) || (before b a)) : Value) else undef) := hA 20 (by decide)
    have e25 : (vals 25) = (if (((!((apart a b) == (apart b a))) = false) ∧ (apart a b) = true) ∧ ((before a b) || (before b a)) = false then (.bool (decide (a.origin = b.origin ∧ a.seq = b.seq)) : Value) else undef) := hA 25 (by decide)
    refine oblcP rfl rfl e11 (fun hb144 => ?_) (fun hb144 => (if_neg hb144).symm)
    have hl145 : (!((apart a b) == (apart b a))) = false := hb144.1
    simp only [Bool.and_eq_true, Bool.or_eq_true, Bool.and_eq_false_iff, Bool.or_eq_false_iff, decide_eq_true_eq, decide_eq_false_iff_not, Bool.not_eq_true', Bool.not_eq_false', Int.not_lt, Int.not_le] at hl145
    have hl146 : (apart a b) = true := hb144.2
    exact ov_pick_or (b := (before a b) || (before b a)) (b' := decide (a.origin = b.origin ∧ a.seq = b.seq)) (show _ = (.bool ((before a b) || (before b a)) : Value) from (Eq.trans e20 (if_pos ⟨hb144.1, hb144.2⟩))) (fun hbp => (show _ = (.bool (decide (a.origin = b.origin ∧ a.seq = b.seq)) : Value) from (Eq.trans e25 (if_pos ⟨⟨hb144.1, hb144.2⟩, hbp⟩)))) ⟨Chg.refl _ _, (if_pos hb144).symm⟩
  · intro vals w31 hR147 hA
    have hs148 := hR147.size
    have e7 : (vals 7) = (.bool (!((apart a b) == (apart b a))) : Value) := hA 7 (by decide)
    have e11 : (vals 11) = (if (!((apart a b) == (apart b a))) = false then (.bool (apart a b) : Value) else undef) := hA 11 (by decide)
    have e26 : (vals 26) = (if ((!((apart a b) == (apart b a))) = false) ∧ (apart a b) = true then (.bool (((before a b) || (before b a)) || (decide (a.origin = b.origin ∧ a.seq = b.seq))) : Value) else undef) := hA 26 (by decide)
    refine oblc rfl rfl (show _ = (.bool (!((apart a b) == (apart b a))) : Value) from e7) (fun hb149 => ?_) (fun hb149 => (if_neg hb149).symm)
    have hl150 : (!((apart a b) == (apart b a))) = false := hb149
    simp only [Bool.and_eq_true, Bool.or_eq_true, Bool.and_eq_false_iff, Bool.or_eq_false_iff, decide_eq_true_eq, decide_eq_false_iff_not, Bool.not_eq_true', Bool.not_eq_false', Int.not_lt, Int.not_le] at hl150
    exact ov_pick_and (b := apart a b) (b' := ((before a b) || (before b a)) || (decide (a.origin = b.origin ∧ a.seq = b.seq))) (show _ = (.bool (apart a b) : Value) from (Eq.trans e11 (if_pos hb149))) (fun hbp => (show _ = (.bool (((before a b) || (before b a)) || (decide (a.origin = b.origin ∧ a.seq = b.seq))) : Value) from (Eq.trans e26 (if_pos ⟨hb149, hbp⟩)))) ⟨Chg.refl _ _, (if_pos hb149).symm⟩
  · intro vals w32 hR151 hA
    have hs152 := hR151.size
    have e7 : (vals 7) = (.bool (!((apart a b) == (apart b a))) : Value) := hA 7 (by decide)
    have e27 : (vals 27) = (if (!((apart a b) == (apart b a))) = false then (.bool ((apart a b) && (((before a b) || (before b a)) || (decide (a.origin = b.origin ∧ a.seq = b.seq)))) : Value) else undef) := hA 27 (by decide)
    refine obl rfl ?_
    exact ov_pick_or (b := !((apart a b) == (apart b a))) (b' := (apart a b) && (((before a b) || (before b a)) || (decide (a.origin = b.origin ∧ a.seq = b.seq)))) (show _ = (.bool (!((apart a b) == (apart b a))) : Value) from e7) (fun hbp => (show _ = (.bool ((apart a b) && (((before a b) || (before b a)) || (decide (a.origin = b.origin ∧ a.seq = b.seq)))) : Value) from (Eq.trans e27 (if_pos hbp)))) ⟨Chg.refl _ _, rfl⟩
  intro vals w33 hR153 hA
  have hs154 := hR153.size
  have hs155 := hx9.size
  have e28 : (vals 28) = (.bool ((!((apart a b) == (apart b a))) || ((apart a b) && (((before a b) || (before b a)) || (decide (a.origin = b.origin ∧ a.seq = b.seq))))) : Value) := hA 28 (by decide)
  refine st_env (kv := [(0, .agg (a.cells da).toArray), (1, .agg (b.cells db).toArray), (2, .pointer (some ⟨b2, 0, none⟩)), (3, .pointer (some ⟨b6, 0, none⟩)), (4, .bool false), (33, .bool ((!((apart a b) == (apart b a))) || ((apart a b) && (((before a b) || (before b a)) || (decide (a.origin = b.origin ∧ a.seq = b.seq))))))]) ⟨rfl, rfl, rfl, rfl, rfl, e28, trivial⟩ (fun ρ33 => ?_)
  clear e28
  clear hA qh1 qh2 qh3 qh4
  refine st_nil ?_
  cases hc156 : (!((apart a b) == (apart b a))) || ((apart a b) && (((before a b) || (before b a)) || (decide (a.origin = b.origin ∧ a.seq = b.seq))))
  · skip
    simp only [Bool.and_eq_true, Bool.or_eq_true, Bool.and_eq_false_iff, Bool.or_eq_false_iff, decide_eq_true_eq, decide_eq_false_iff_not, Bool.not_eq_true', Bool.not_eq_false', Int.not_lt, Int.not_le] at hc156
    refine WP_cond_f rfl ?_
    refine WP_skip ?_
    refine WP_seq ?_
    refine WP_seq ?_
    refine WP_region (by kernel_rfl) ?_
    have h157 := (Chg.trans (Chg.trans hn5.ext hx9) hR153).keep hb3 (fun h => h)
    refine st (ov_loadk (k := 10) Try.isAgg29 Try.sizeOf29 rfl rfl (CellsAt.all h157) ?_)
    have h158 := (Chg.trans hx9 hR153).keep hb7 (fun h => h)
    refine st (ov_loadk (k := 10) Try.isAgg29 Try.sizeOf29 rfl rfl (CellsAt.all h158) ?_)
    have h159 := ha.ext (Chg.trans (Chg.trans (Chg.trans hn1.ext hn5.ext) hx9) hR153)
    have h160 := hb.ext (Chg.trans (Chg.trans (Chg.trans hn1.ext hn5.ext) hx9) hR153)
    refine st (ov_call (f := 13) (vals := [.agg (a.cells da).toArray, .agg (b.cells db).toArray]) (cap := []) (show _ = (.func (.func 13) #[] #[] : Value) from rfl) rfl Try.call13 (C_Apart h159 oa h160 ob) ?_)
    rintro _ w34 ⟨rfl, hx161⟩
    have hx161s := hx161.size
    refine st (ov_not (a := apart a b) rfl ?_)
    refine st (ov_move (v := .bool (!(apart a b))) rfl ?_)
    refine stc (V := .pointer (some ⟨b2, 0, none⟩)) rfl rfl (fun hb162 => ?_) ?_
    · have hl163 : (!(apart a b)) = true := hb162
      simp only [Bool.and_eq_true, Bool.or_eq_true, Bool.and_eq_false_iff, Bool.or_eq_false_iff, decide_eq_true_eq, decide_eq_false_iff_not, Bool.not_eq_true', Bool.not_eq_false', Int.not_lt, Int.not_le] at hl163
      exact fa29_0 rfl ⟨rfl, rfl⟩
    refine stc (V := .agg #[.int .i64 (a.origin), .int .i64 (a.seq)]) rfl rfl (fun hb164 => ?_) ?_
    · have hl165 : (!(apart a b)) = true := hb164
      simp only [Bool.and_eq_true, Bool.or_eq_true, Bool.and_eq_false_iff, Bool.or_eq_false_iff, decide_eq_true_eq, decide_eq_false_iff_not, Bool.not_eq_true', Bool.not_eq_false', Int.not_lt, Int.not_le] at hl165
      have h166 := hx161.keep h157 (fun h => h)
      exact ov_loadk (k := 2) (cs := [.int .i64 (a.origin), .int .i64 (a.seq)]) Try.isAgg26 Try.sizeOf26 rfl (show _ = (.pointer (some ⟨b2, 0, none⟩) : Value) from (if_pos hb164)) (CellsAt.sub (CellsAt.all h166) 0 (cs2 := [.int .i64 (a.origin), .int .i64 (a.seq)]) rfl) ⟨rfl, rfl⟩
    refine stc (V := .pointer (some ⟨b6, 0, none⟩)) rfl rfl (fun hb167 => ?_) ?_
    · have hl168 : (!(apart a b)) = true := hb167
      simp only [Bool.and_eq_true, Bool.or_eq_true, Bool.and_eq_false_iff, Bool.or_eq_false_iff, decide_eq_true_eq, decide_eq_false_iff_not, Bool.not_eq_true', Bool.not_eq_false', Int.not_lt, Int.not_le] at hl168
      exact fa29_0 rfl ⟨rfl, rfl⟩
    refine stc (V := .agg #[.int .i64 (b.origin), .int .i64 (b.seq)]) rfl rfl (fun hb169 => ?_) ?_
    · have hl170 : (!(apart a b)) = true := hb169
      simp only [Bool.and_eq_true, Bool.or_eq_true, Bool.and_eq_false_iff, Bool.or_eq_false_iff, decide_eq_true_eq, decide_eq_false_iff_not, Bool.not_eq_true', Bool.not_eq_false', Int.not_lt, Int.not_le] at hl170
      have h171 := hx161.keep h158 (fun h => h)
      exact ov_loadk (k := 2) (cs := [.int .i64 (b.origin), .int .i64 (b.seq)]) Try.isAgg26 Try.sizeOf26 rfl (show _ = (.pointer (some ⟨b6, 0, none⟩) : Value) from (if_pos hb169)) (CellsAt.sub (CellsAt.all h171) 0 (cs2 := [.int .i64 (b.origin), .int .i64 (b.seq)]) rfl) ⟨rfl, rfl⟩
    refine stc (V := .bool (!decide (a.origin = b.origin ∧ a.seq = b.seq))) rfl rfl (fun hb172 => ?_) ?_
    · have hl173 : (!(apart a b)) = true := hb172
      simp only [Bool.and_eq_true, Bool.or_eq_true, Bool.and_eq_false_iff, Bool.or_eq_false_iff, decide_eq_true_eq, decide_eq_false_iff_not, Bool.not_eq_true', Bool.not_eq_false', Int.not_lt, Int.not_le] at hl173
      exact ov_neqS (e := decide (a.origin = b.origin ∧ a.seq = b.seq)) (xs := #[.int .i64 (a.origin), .int .i64 (a.seq)]) (ys := #[.int .i64 (b.origin), .int .i64 (b.seq)]) neqId (show _ = (.agg #[.int .i64 (a.origin), .int .i64 (a.seq)] : Value) from (if_pos hb172)) (show _ = (.agg #[.int .i64 (b.origin), .int .i64 (b.seq)] : Value) from (if_pos hb172)) ⟨rfl, rfl⟩
    refine st (ov_pick_and (b := !(apart a b)) (b' := !decide (a.origin = b.origin ∧ a.seq = b.seq)) rfl (fun hbp => (show _ = (.bool (!decide (a.origin = b.origin ∧ a.seq = b.seq)) : Value) from (if_pos hbp))) ?_)
    refine st (ov_move (v := .bool ((!(apart a b)) && (!decide (a.origin = b.origin ∧ a.seq = b.seq)))) rfl ?_)
    refine stc (V := .agg (a.cells da).toArray) rfl rfl (fun hb174 => ?_) ?_
    · have hl175 : ((!(apart a b)) && (!decide (a.origin = b.origin ∧ a.seq = b.seq))) = true := hb174
      simp only [Bool.and_eq_true, Bool.or_eq_true, Bool.and_eq_false_iff, Bool.or_eq_false_iff, decide_eq_true_eq, decide_eq_false_iff_not, Bool.not_eq_true', Bool.not_eq_false', Int.not_lt, Int.not_le] at hl175
      have h176 := hx161.keep h157 (fun h => h)
      exact ov_loadk (k := 10) Try.isAgg29 Try.sizeOf29 rfl rfl (CellsAt.all h176) ⟨rfl, rfl⟩
    refine stc (V := .agg (b.cells db).toArray) rfl rfl (fun hb177 => ?_) ?_
    · have hl178 : ((!(apart a b)) && (!decide (a.origin = b.origin ∧ a.seq = b.seq))) = true := hb177
      simp only [Bool.and_eq_true, Bool.or_eq_true, Bool.and_eq_false_iff, Bool.or_eq_false_iff, decide_eq_true_eq, decide_eq_false_iff_not, Bool.not_eq_true', Bool.not_eq_false', Int.not_lt, Int.not_le] at hl178
      have h179 := hx161.keep h158 (fun h => h)
      exact ov_loadk (k := 10) Try.isAgg29 Try.sizeOf29 rfl rfl (CellsAt.all h179) ⟨rfl, rfl⟩
    refine stcw (V := .bool (before a b)) Ext (Chg.refl _ _) rfl rfl (fun hb180 => ?_) (fun w35 hx184 => ?_)
    · have hl181 : ((!(apart a b)) && (!decide (a.origin = b.origin ∧ a.seq = b.seq))) = true := hb180
      simp only [Bool.and_eq_true, Bool.or_eq_true, Bool.and_eq_false_iff, Bool.or_eq_false_iff, decide_eq_true_eq, decide_eq_false_iff_not, Bool.not_eq_true', Bool.not_eq_false', Int.not_lt, Int.not_le] at hl181
      have h182 := h159.ext hx161
      have h183 := h160.ext hx161
      exact ov_call (f := 11) (vals := [.agg (a.cells da).toArray, .agg (b.cells db).toArray]) (cap := []) (show _ = (.func (.func 11) #[] #[] : Value) from rfl) (mapL ⟨(show _ = (.agg (a.cells da).toArray : Value) from (if_pos hb180)), (show _ = (.agg (b.cells db).toArray : Value) from (if_pos hb180)), trivial⟩) Try.call11 (C_Before h182 oa h183 ob) (fun _ _ h => h)
    have hs185 := hx184.size
    refine stc (V := .bool (!(before a b))) rfl rfl (fun hb186 => ?_) ?_
    · have hl187 : ((!(apart a b)) && (!decide (a.origin = b.origin ∧ a.seq = b.seq))) = true := hb186
      simp only [Bool.and_eq_true, Bool.or_eq_true, Bool.and_eq_false_iff, Bool.or_eq_false_iff, decide_eq_true_eq, decide_eq_false_iff_not, Bool.not_eq_true', Bool.not_eq_false', Int.not_lt, Int.not_le] at hl187
      exact ov_not (a := before a b) (show _ = (.bool (before a b) : Value) from (if_pos hb186)) ⟨rfl, rfl⟩
    refine st (ov_pick_and (b := (!(apart a b)) && (!decide (a.origin = b.origin ∧ a.seq = b.seq))) (b' := !(before a b)) rfl (fun hbp => (show _ = (.bool (!(before a b)) : Value) from (if_pos hbp))) ?_)
    refine st (ov_move (v := .bool (((!(apart a b)) && (!decide (a.origin = b.origin ∧ a.seq = b.seq))) && (!(before a b)))) rfl ?_)
    refine stc (V := .agg (b.cells db).toArray) rfl rfl (fun hb188 => ?_) ?_
    · have hl189 : (((!(apart a b)) && (!decide (a.origin = b.origin ∧ a.seq = b.seq))) && (!(before a b))) = true := hb188
      simp only [Bool.and_eq_true, Bool.or_eq_true, Bool.and_eq_false_iff, Bool.or_eq_false_iff, decide_eq_true_eq, decide_eq_false_iff_not, Bool.not_eq_true', Bool.not_eq_false', Int.not_lt, Int.not_le] at hl189
      have h190 := (Chg.trans hx161 hx184).keep h158 (fun h => h)
      exact ov_loadk (k := 10) Try.isAgg29 Try.sizeOf29 rfl rfl (CellsAt.all h190) ⟨rfl, rfl⟩
    refine stc (V := .agg (a.cells da).toArray) rfl rfl (fun hb191 => ?_) ?_
    · have hl192 : (((!(apart a b)) && (!decide (a.origin = b.origin ∧ a.seq = b.seq))) && (!(before a b))) = true := hb191
      simp only [Bool.and_eq_true, Bool.or_eq_true, Bool.and_eq_false_iff, Bool.or_eq_false_iff, decide_eq_true_eq, decide_eq_false_iff_not, Bool.not_eq_true', Bool.not_eq_false', Int.not_lt, Int.not_le] at hl192
      have h193 := (Chg.trans hx161 hx184).keep h157 (fun h => h)
      exact ov_loadk (k := 10) Try.isAgg29 Try.sizeOf29 rfl rfl (CellsAt.all h193) ⟨rfl, rfl⟩
    refine stcw (V := .bool (before b a)) Ext (Chg.refl _ _) rfl rfl (fun hb194 => ?_) (fun w36 hx198 => ?_)
    · have hl195 : (((!(apart a b)) && (!decide (a.origin = b.origin ∧ a.seq = b.seq))) && (!(before a b))) = true := hb194
      simp only [Bool.and_eq_true, Bool.or_eq_true, Bool.and_eq_false_iff, Bool.or_eq_false_iff, decide_eq_true_eq, decide_eq_false_iff_not, Bool.not_eq_true', Bool.not_eq_false', Int.not_lt, Int.not_le] at hl195
      have h196 := h160.ext (Chg.trans hx161 hx184)
      have h197 := h159.ext (Chg.trans hx161 hx184)
      exact ov_call (f := 11) (vals := [.agg (b.cells db).toArray, .agg (a.cells da).toArray]) (cap := []) (show _ = (.func (.func 11) #[] #[] : Value) from rfl) (mapL ⟨(show _ = (.agg (b.cells db).toArray : Value) from (if_pos hb194)), (show _ = (.agg (a.cells da).toArray : Value) from (if_pos hb194)), trivial⟩) Try.call11 (C_Before h196 ob h197 oa) (fun _ _ h => h)
    have hs199 := hx198.size
    refine stc (V := .bool (!(before b a))) rfl rfl (fun hb200 => ?_) ?_
    · have hl201 : (((!(apart a b)) && (!decide (a.origin = b.origin ∧ a.seq = b.seq))) && (!(before a b))) = true := hb200
      simp only [Bool.and_eq_true, Bool.or_eq_true, Bool.and_eq_false_iff, Bool.or_eq_false_iff, decide_eq_true_eq, decide_eq_false_iff_not, Bool.not_eq_true', Bool.not_eq_false', Int.not_lt, Int.not_le] at hl201
      exact ov_not (a := before b a) (show _ = (.bool (before b a) : Value) from (if_pos hb200)) ⟨rfl, rfl⟩
    refine st (ov_pick_and (b := ((!(apart a b)) && (!decide (a.origin = b.origin ∧ a.seq = b.seq))) && (!(before a b))) (b' := !(before b a)) rfl (fun hbp => (show _ = (.bool (!(before b a)) : Value) from (if_pos hbp))) ?_)
    refine st_nil ?_
    cases hc202 : (((!(apart a b)) && (!decide (a.origin = b.origin ∧ a.seq = b.seq))) && (!(before a b))) && (!(before b a))
    · skip
      simp only [Bool.and_eq_true, Bool.or_eq_true, Bool.and_eq_false_iff, Bool.or_eq_false_iff, decide_eq_true_eq, decide_eq_false_iff_not, Bool.not_eq_true', Bool.not_eq_false', Int.not_lt, Int.not_le] at hc202
      refine WP_cond_f rfl ?_
      refine WP_skip ?_
      refine WP_seq ?_
      refine WP_region (by kernel_rfl) ?_
      have h203 := (Chg.trans (Chg.trans hx161 hx184) hx198).keep h157 (fun h => h)
      refine st (ov_loadk (k := 10) Try.isAgg29 Try.sizeOf29 rfl rfl (CellsAt.all h203) ?_)
      have h204 := (Chg.trans (Chg.trans hx161 hx184) hx198).keep h158 (fun h => h)
      refine st (ov_loadk (k := 10) Try.isAgg29 Try.sizeOf29 rfl rfl (CellsAt.all h204) ?_)
      have h205 := h159.ext (Chg.trans (Chg.trans hx161 hx184) hx198)
      have h206 := h160.ext (Chg.trans (Chg.trans hx161 hx184) hx198)
      refine st (ov_call (f := 11) (vals := [.agg (a.cells da).toArray, .agg (b.cells db).toArray]) (cap := []) (show _ = (.func (.func 11) #[] #[] : Value) from rfl) rfl Try.call11 (C_Before h205 oa h206 ob) ?_)
      rintro _ w37 ⟨rfl, hx207⟩
      have hx207s := hx207.size
      refine st (ov_not (a := before a b) rfl ?_)
      refine st (ov_move (v := .bool (!(before a b))) rfl ?_)
      refine stc (V := .pointer (some ⟨b6, 2, none⟩)) rfl rfl (fun hb208 => ?_) ?_
      · have hl209 : (!(before a b)) = false := hb208
        simp only [Bool.and_eq_true, Bool.or_eq_true, Bool.and_eq_false_iff, Bool.or_eq_false_iff, decide_eq_true_eq, decide_eq_false_iff_not, Bool.not_eq_true', Bool.not_eq_false', Int.not_lt, Int.not_le] at hl209
        exact fa29_1 rfl ⟨rfl, rfl⟩
      refine stc (V := .int .i64 (b.lam)) rfl rfl (fun hb210 => ?_) ?_
      · have hl211 : (!(before a b)) = false := hb210
        simp only [Bool.and_eq_true, Bool.or_eq_true, Bool.and_eq_false_iff, Bool.or_eq_false_iff, decide_eq_true_eq, decide_eq_false_iff_not, Bool.not_eq_true', Bool.not_eq_false', Int.not_lt, Int.not_le] at hl211
        have h212 := hx207.keep h204 (fun h => h)
        exact ov_load1 (v := .int .i64 (b.lam)) Try.isAgg3 (show _ = (.pointer (some ⟨b6, 2, none⟩) : Value) from (if_pos hb210)) (blk_cellL h212 rfl) ⟨rfl, rfl⟩
      refine stc (V := .pointer (some ⟨b2, 2, none⟩)) rfl rfl (fun hb213 => ?_) ?_
      · have hl214 : (!(before a b)) = false := hb213
        simp only [Bool.and_eq_true, Bool.or_eq_true, Bool.and_eq_false_iff, Bool.or_eq_false_iff, decide_eq_true_eq, decide_eq_false_iff_not, Bool.not_eq_true', Bool.not_eq_false', Int.not_lt, Int.not_le] at hl214
        exact fa29_1 rfl ⟨rfl, rfl⟩
      refine stc (V := .int .i64 (a.lam)) rfl rfl (fun hb215 => ?_) ?_
      · have hl216 : (!(before a b)) = false := hb215
        simp only [Bool.and_eq_true, Bool.or_eq_true, Bool.and_eq_false_iff, Bool.or_eq_false_iff, decide_eq_true_eq, decide_eq_false_iff_not, Bool.not_eq_true', Bool.not_eq_false', Int.not_lt, Int.not_le] at hl216
        have h217 := hx207.keep h203 (fun h => h)
        exact ov_load1 (v := .int .i64 (a.lam)) Try.isAgg3 (show _ = (.pointer (some ⟨b2, 2, none⟩) : Value) from (if_pos hb215)) (blk_cellL h217 rfl) ⟨rfl, rfl⟩
      refine stc (V := .bool (decide (b.lam ≤ a.lam))) rfl rfl (fun hb218 => ?_) ?_
      · have hl219 : (!(before a b)) = false := hb218
        simp only [Bool.and_eq_true, Bool.or_eq_true, Bool.and_eq_false_iff, Bool.or_eq_false_iff, decide_eq_true_eq, decide_eq_false_iff_not, Bool.not_eq_true', Bool.not_eq_false', Int.not_lt, Int.not_le] at hl219
        exact ov_leq (k := .i64) (a := b.lam) (b := a.lam) (show _ = (.int .i64 (b.lam) : Value) from (if_pos hb218)) (show _ = (.int .i64 (a.lam) : Value) from (if_pos hb218)) ⟨rfl, rfl⟩
      refine st (ov_pick_or (b := !(before a b)) (b' := decide (b.lam ≤ a.lam)) rfl (fun hbp => (show _ = (.bool (decide (b.lam ≤ a.lam)) : Value) from (if_pos hbp))) ?_)
      refine st (ov_move (v := .bool ((!(before a b)) || (decide (b.lam ≤ a.lam)))) rfl ?_)
      refine stc (V := .agg (a.cells da).toArray) rfl rfl (fun hb220 => ?_) ?_
      · have hl221 : ((!(before a b)) || (decide (b.lam ≤ a.lam))) = false := hb220
        simp only [Bool.and_eq_true, Bool.or_eq_true, Bool.and_eq_false_iff, Bool.or_eq_false_iff, decide_eq_true_eq, decide_eq_false_iff_not, Bool.not_eq_true', Bool.not_eq_false', Int.not_lt, Int.not_le] at hl221
        have h222 := hx207.keep h203 (fun h => h)
        exact ov_loadk (k := 10) Try.isAgg29 Try.sizeOf29 rfl rfl (CellsAt.all h222) ⟨rfl, rfl⟩
      refine stc (V := .agg (b.cells db).toArray) rfl rfl (fun hb223 => ?_) ?_
      · have hl224 : ((!(before a b)) || (decide (b.lam ≤ a.lam))) = false := hb223
        simp only [Bool.and_eq_true, Bool.or_eq_true, Bool.and_eq_false_iff, Bool.or_eq_false_iff, decide_eq_true_eq, decide_eq_false_iff_not, Bool.not_eq_true', Bool.not_eq_false', Int.not_lt, Int.not_le] at hl224
        have h225 := hx207.keep h204 (fun h => h)
        exact ov_loadk (k := 10) Try.isAgg29 Try.sizeOf29 rfl rfl (CellsAt.all h225) ⟨rfl, rfl⟩
      refine stcw (V := .bool (less a b)) Ext (Chg.refl _ _) rfl rfl (fun hb226 => ?_) (fun w38 hx230 => ?_)
      · have hl227 : ((!(before a b)) || (decide (b.lam ≤ a.lam))) = false := hb226
        simp only [Bool.and_eq_true, Bool.or_eq_true, Bool.and_eq_false_iff, Bool.or_eq_false_iff, decide_eq_true_eq, decide_eq_false_iff_not, Bool.not_eq_true', Bool.not_eq_false', Int.not_lt, Int.not_le] at hl227
        have h228 := h205.ext hx207
        have h229 := h206.ext hx207
        exact ov_call (f := 15) (vals := [.agg (a.cells da).toArray, .agg (b.cells db).toArray]) (cap := []) (show _ = (.func (.func 15) #[] #[] : Value) from rfl) (mapL ⟨(show _ = (.agg (a.cells da).toArray : Value) from (if_pos hb226)), (show _ = (.agg (b.cells db).toArray : Value) from (if_pos hb226)), trivial⟩) Try.call15 (C_Less h228 oa h229 ob) (fun _ _ h => h)
      have hs231 := hx230.size
      refine stc (V := .bool (less a b)) rfl rfl (fun hb232 => ?_) ?_
      · have hl233 : ((!(before a b)) || (decide (b.lam ≤ a.lam))) = false := hb232
        simp only [Bool.and_eq_true, Bool.or_eq_true, Bool.and_eq_false_iff, Bool.or_eq_false_iff, decide_eq_true_eq, decide_eq_false_iff_not, Bool.not_eq_true', Bool.not_eq_false', Int.not_lt, Int.not_le] at hl233
        exact ov_move (v := .bool (less a b)) (show _ = (.bool (less a b) : Value) from (if_pos hb232)) ⟨rfl, rfl⟩
      refine stcP (V := .agg (b.cells db).toArray) rfl rfl (fun hb234 => ?_) ?_
      · have hl235 : ((!(before a b)) || (decide (b.lam ≤ a.lam))) = false := hb234.1
        simp only [Bool.and_eq_true, Bool.or_eq_true, Bool.and_eq_false_iff, Bool.or_eq_false_iff, decide_eq_true_eq, decide_eq_false_iff_not, Bool.not_eq_true', Bool.not_eq_false', Int.not_lt, Int.not_le] at hl235
        have hl236 : (less a b) = true := hb234.2
        have h237 := (Chg.trans hx207 hx230).keep h204 (fun h => h)
        exact ov_loadk (k := 10) Try.isAgg29 Try.sizeOf29 rfl rfl (CellsAt.all h237) ⟨rfl, rfl⟩
      refine stcP (V := .agg (a.cells da).toArray) rfl rfl (fun hb238 => ?_) ?_
      · have hl239 : ((!(before a b)) || (decide (b.lam ≤ a.lam))) = false := hb238.1
        simp only [Bool.and_eq_true, Bool.or_eq_true, Bool.and_eq_false_iff, Bool.or_eq_false_iff, decide_eq_true_eq, decide_eq_false_iff_not, Bool.not_eq_true', Bool.not_eq_false', Int.not_lt, Int.not_le] at hl239
        have hl240 : (less a b) = true := hb238.2
        have h241 := (Chg.trans hx207 hx230).keep h203 (fun h => h)
        exact ov_loadk (k := 10) Try.isAgg29 Try.sizeOf29 rfl rfl (CellsAt.all h241) ⟨rfl, rfl⟩
      refine stcwP (V := .bool (less b a)) Ext (Chg.refl _ _) rfl rfl (fun hb242 => ?_) (fun w39 hx247 => ?_)
      · have hl243 : ((!(before a b)) || (decide (b.lam ≤ a.lam))) = false := hb242.1
        simp only [Bool.and_eq_true, Bool.or_eq_true, Bool.and_eq_false_iff, Bool.or_eq_false_iff, decide_eq_true_eq, decide_eq_false_iff_not, Bool.not_eq_true', Bool.not_eq_false', Int.not_lt, Int.not_le] at hl243
        have hl244 : (less a b) = true := hb242.2
        have h245 := h206.ext (Chg.trans hx207 hx230)
        have h246 := h205.ext (Chg.trans hx207 hx230)
        exact ov_call (f := 15) (vals := [.agg (b.cells db).toArray, .agg (a.cells da).toArray]) (cap := []) (show _ = (.func (.func 15) #[] #[] : Value) from rfl) (mapL ⟨(show _ = (.agg (b.cells db).toArray : Value) from (if_pos ⟨hb242.1, hb242.2⟩)), (show _ = (.agg (a.cells da).toArray : Value) from (if_pos ⟨hb242.1, hb242.2⟩)), trivial⟩) Try.call15 (C_Less h245 ob h246 oa) (fun _ _ h => h)
      have hs248 := hx247.size
      refine stcP (V := .bool (!(less b a))) rfl rfl (fun hb249 => ?_) ?_
      · have hl250 : ((!(before a b)) || (decide (b.lam ≤ a.lam))) = false := hb249.1
        simp only [Bool.and_eq_true, Bool.or_eq_true, Bool.and_eq_false_iff, Bool.or_eq_false_iff, decide_eq_true_eq, decide_eq_false_iff_not, Bool.not_eq_true', Bool.not_eq_false', Int.not_lt, Int.not_le] at hl250
        have hl251 : (less a b) = true := hb249.2
        exact ov_not (a := less b a) (show _ = (.bool (less b a) : Value) from (if_pos ⟨hb249.1, hb249.2⟩)) ⟨rfl, rfl⟩
      refine stc (V := .bool ((less a b) && (!(less b a)))) rfl rfl (fun hb252 => ?_) ?_
      · have hl253 : ((!(before a b)) || (decide (b.lam ≤ a.lam))) = false := hb252
        simp only [Bool.and_eq_true, Bool.or_eq_true, Bool.and_eq_false_iff, Bool.or_eq_false_iff, decide_eq_true_eq, decide_eq_false_iff_not, Bool.not_eq_true', Bool.not_eq_false', Int.not_lt, Int.not_le] at hl253
        exact ov_pick_and (b := less a b) (b' := !(less b a)) (show _ = (.bool (less a b) : Value) from (if_pos hb252)) (fun hbp => (show _ = (.bool (!(less b a)) : Value) from (if_pos ⟨hb252, hbp⟩))) ⟨rfl, rfl⟩
      refine st (ov_pick_or (b := (!(before a b)) || (decide (b.lam ≤ a.lam))) (b' := (less a b) && (!(less b a))) rfl (fun hbp => (show _ = (.bool ((less a b) && (!(less b a))) : Value) from (if_pos hbp))) ?_)
      refine st (ov_move (v := .bool (((!(before a b)) || (decide (b.lam ≤ a.lam))) || ((less a b) && (!(less b a))))) rfl ?_)
      refine stcw (V := .bool true) Ext (Chg.refl _ _) rfl rfl (fun hb254 => ?_) (fun w40 hx256 => ?_)
      · have hl255 : (((!(before a b)) || (decide (b.lam ≤ a.lam))) || ((less a b) && (!(less b a)))) = true := hb254
        simp only [Bool.and_eq_true, Bool.or_eq_true, Bool.and_eq_false_iff, Bool.or_eq_false_iff, decide_eq_true_eq, decide_eq_false_iff_not, Bool.not_eq_true', Bool.not_eq_false', Int.not_lt, Int.not_le] at hl255
        exact ov_call (f := 10) (vals := []) (cap := []) (show _ = (.func (.func 10) #[] #[] : Value) from rfl) rfl Try.call10 (C_works ) (fun _ _ h => h)
      have hs257 := hx256.size
      refine st (ov_pick_and (b := ((!(before a b)) || (decide (b.lam ≤ a.lam))) || ((less a b) && (!(less b a)))) (b' := true) rfl (fun hbp => (show _ = (.bool true : Value) from (if_pos hbp))) ?_)
      refine st (ov_assign (v := .bool ((((!(before a b)) || (decide (b.lam ≤ a.lam))) || ((less a b) && (!(less b a)))) && true)) rfl ?_)
      refine st_nil ?_
      refine WP_ret ?_
      refine fin1 Try.results6 (show _ = (.bool ((((!(before a b)) || (decide (b.lam ≤ a.lam))) || ((less a b) && (!(less b a)))) && true) : Value) from rfl) ?_
      refine ⟨?_, (Chg.trans (Chg.trans (Chg.trans (Chg.trans (Chg.trans (Chg.trans (Chg.trans (Chg.trans (Chg.trans (Chg.trans hn1.ext hn5.ext) hx9) hR153) hx161) hx184) hx198) hx207) hx230) hx247) hx256)⟩
      simp only [Bool.and_true, Bool.and_eq_true, Bool.or_eq_true, Bool.and_eq_false_iff, Bool.or_eq_false_iff, decide_eq_true_eq, decide_eq_false_iff_not, Bool.not_eq_true', Bool.not_eq_false', beqb_t, beqb_f, less_dec, apart, before] at hc156 hc202
      rw [show ((((!(before a b)) || (decide (b.lam ≤ a.lam))) || ((less a b) && (!(less b a)))) && true) = true from ?_]
      simp only [Bool.and_true, Bool.and_eq_true, Bool.or_eq_true, Bool.and_eq_false_iff, Bool.or_eq_false_iff, decide_eq_true_eq, decide_eq_false_iff_not, Bool.not_eq_true', Bool.not_eq_false', beqb_t, beqb_f, less_dec, apart, before]
      try simp only [LessP] at hc156 hc202
      try simp only [LessP]
      omega
    · skip
      simp only [Bool.and_eq_true, Bool.or_eq_true, Bool.and_eq_false_iff, Bool.or_eq_false_iff, decide_eq_true_eq, decide_eq_false_iff_not, Bool.not_eq_true', Bool.not_eq_false', Int.not_lt, Int.not_le] at hc202
      refine WP_cond_t rfl ?_
      refine WP_seq ?_
      refine WP_region0 (by kernel_rfl) (fun _ => ?_)
      refine st (ov_assign (v := .bool false) rfl ?_)
      refine st_nil ?_
      refine WP_ret ?_
      refine fin1 Try.results6 (show _ = (.bool false : Value) from rfl) ?_
      refine ⟨?_, (Chg.trans (Chg.trans (Chg.trans (Chg.trans (Chg.trans (Chg.trans hn1.ext hn5.ext) hx9) hR153) hx161) hx184) hx198)⟩
      simp only [Bool.and_true, Bool.and_eq_true, Bool.or_eq_true, Bool.and_eq_false_iff, Bool.or_eq_false_iff, decide_eq_true_eq, decide_eq_false_iff_not, Bool.not_eq_true', Bool.not_eq_false', beqb_t, beqb_f, less_dec, apart, before] at hc156 hc202
      exfalso
      try simp only [LessP] at hc156 hc202
      omega
  · skip
    simp only [Bool.and_eq_true, Bool.or_eq_true, Bool.and_eq_false_iff, Bool.or_eq_false_iff, decide_eq_true_eq, decide_eq_false_iff_not, Bool.not_eq_true', Bool.not_eq_false', Int.not_lt, Int.not_le] at hc156
    refine WP_cond_t rfl ?_
    refine WP_seq ?_
    refine WP_region0 (by kernel_rfl) (fun _ => ?_)
    refine st (ov_assign (v := .bool false) rfl ?_)
    refine st_nil ?_
    refine WP_ret ?_
    refine fin1 Try.results6 (show _ = (.bool false : Value) from rfl) ?_
    refine ⟨?_, (Chg.trans (Chg.trans (Chg.trans hn1.ext hn5.ext) hx9) hR153)⟩
    simp only [Bool.and_true, Bool.and_eq_true, Bool.or_eq_true, Bool.and_eq_false_iff, Bool.or_eq_false_iff, decide_eq_true_eq, decide_eq_false_iff_not, Bool.not_eq_true', Bool.not_eq_false', beqb_t, beqb_f, less_dec, apart, before] at hc156
    exfalso
    try simp only [LessP] at hc156
    omega

end Go.Proofs.Ytbbhpddgjiifmaa
