/- Steps of the proofs of this seat: part Fns3. -/
import Derived.Test.YtbbhpddgjiifmaaFns2
set_option linter.unusedSimpArgs false
set_option linter.unusedVariables false
namespace Go.Proofs.Ytbbhpddgjiifmaa
open Go.Proofs Go.RowKit

def apart (a b : Ev) : Bool := !decide (a.origin = b.origin ∧ a.seq = b.seq) && (!before a b && !before b a)
def less (a b : Ev) : Bool := decide (cmpP a b < 0)
theorem orL3 (a b c : Int) : orL [a, b, c] = if a ≠ 0 then a else if b ≠ 0 then b else if c ≠ 0 then c else 0 := rfl
/-- The document's order. -/
def lessR (a b : Ev) : Bool := if a.lam ≠ b.lam then decide (a.lam < b.lam) else if a.origin ≠ b.origin then decide (a.origin < b.origin) else decide (a.seq < b.seq)
theorem less_eq (a b : Ev) : less a b = lessR a b := by
  unfold less lessR cmpP
  rw [orL3, Bool.eq_iff_iff]
  unfold cmpI
  repeat' split
  all_goals (simp only [decide_eq_true_eq]; omega)

theorem C_Apart {w : World} {Fa : Nat → Prop} {a : Ev} {da : Value} (ha : RdS w Fa da a.deps) (oa : a.Ok) {Fb : Nat → Prop} {b : Ev} {db : Value} (hb : RdS w Fb db b.deps) (ob : b.Ok) : Ret Try.prog 13 [.agg (a.cells da).toArray, .agg (b.cells db).toArray] w (fun r w' => r = .bool (apart a b) ∧ Ext w w') := by
  have has : a.deps.length * 8 ≤ 140737488355328 := ha.small
  have hbs : b.deps.length * 8 ≤ 140737488355328 := hb.small
  refine Calls_of_WP (args := [.agg (a.cells da).toArray, .agg (b.cells db).toArray]) Try.func13 rfl rfl ?_
  refine WP_seq ?_
  refine WP_region0 (by kernel_rfl) (fun _ => ?_)
  refine st (ov_box (v := .agg (a.cells da).toArray) rfl (fun w1 b2 hn1 => ?_))
  have hb3 : w1.heap[b2]? = some (.cells (a.cells da).toArray 29) := hn1.at_
  have hs4 := hn1.size; have hs4e := hn1.eq
  refine st (ov_box (v := .agg (b.cells db).toArray) rfl (fun w2 b6 hn5 => ?_))
  have hb7 : w2.heap[b6]? = some (.cells (b.cells db).toArray 29) := hn5.at_
  have hs8 := hn5.size; have hs8e := hn5.eq
  refine st (ov_assign (v := .bool false) rfl ?_)
  refine st_nil ?_
  refine WP_seq ?_
  refine WP_region (by kernel_rfl) ?_
  refine st (fa29_0 rfl ?_)
  have h9 := hn5.ext.keep hb3 (fun h => h)
  refine st (ov_loadk (k := 2) (cs := [.int .i64 (a.origin), .int .i64 (a.seq)]) Try.isAgg26 Try.sizeOf26 rfl rfl (CellsAt.sub (CellsAt.all h9) 0 (cs2 := [.int .i64 (a.origin), .int .i64 (a.seq)]) rfl) ?_)
  refine st (fa29_0 rfl ?_)
  refine st (ov_loadk (k := 2) (cs := [.int .i64 (b.origin), .int .i64 (b.seq)]) Try.isAgg26 Try.sizeOf26 rfl rfl (CellsAt.sub (CellsAt.all hb7) 0 (cs2 := [.int .i64 (b.origin), .int .i64 (b.seq)]) rfl) ?_)
  refine st (ov_neqS (e := decide (a.origin = b.origin ∧ a.seq = b.seq)) (xs := #[.int .i64 (a.origin), .int .i64 (a.seq)]) (ys := #[.int .i64 (b.origin), .int .i64 (b.seq)]) neqId rfl rfl ?_)
  refine st (ov_move (v := .bool (!decide (a.origin = b.origin ∧ a.seq = b.seq))) rfl ?_)
  refine stc (V := .agg (a.cells da).toArray) rfl rfl (fun hb10 => ?_) ?_
  · have hl11 : (!decide (a.origin = b.origin ∧ a.seq = b.seq)) = true := hb10
    have hl11 := ndec_true hl11
    exact ov_loadk (k := 10) Try.isAgg29 Try.sizeOf29 rfl rfl (CellsAt.all h9) ⟨rfl, rfl⟩
  refine stc (V := .agg (b.cells db).toArray) rfl rfl (fun hb12 => ?_) ?_
  · have hl13 : (!decide (a.origin = b.origin ∧ a.seq = b.seq)) = true := hb12
    have hl13 := ndec_true hl13
    exact ov_loadk (k := 10) Try.isAgg29 Try.sizeOf29 rfl rfl (CellsAt.all hb7) ⟨rfl, rfl⟩
  refine stcw (V := .bool (before a b)) Ext (Chg.refl _ _) rfl rfl (fun hb14 => ?_) (fun w3 hx18 => ?_)
  · have hl15 : (!decide (a.origin = b.origin ∧ a.seq = b.seq)) = true := hb14
    have hl15 := ndec_true hl15
    have h16 := ha.ext (Chg.trans hn1.ext hn5.ext)
    have h17 := hb.ext (Chg.trans hn1.ext hn5.ext)
    exact ov_call (f := 11) (vals := [.agg (a.cells da).toArray, .agg (b.cells db).toArray]) (cap := []) (show _ = (.func (.func 11) #[] #[] : Value) from rfl) (mapL ⟨(show _ = (.agg (a.cells da).toArray : Value) from (if_pos hb14)), (show _ = (.agg (b.cells db).toArray : Value) from (if_pos hb14)), trivial⟩) Try.call11 (C_Before h16 oa h17 ob) (fun _ _ h => h)
  have hs19 := hx18.size
  refine stc (V := .bool (!(before a b))) rfl rfl (fun hb20 => ?_) ?_
  · have hl21 : (!decide (a.origin = b.origin ∧ a.seq = b.seq)) = true := hb20
    have hl21 := ndec_true hl21
    exact ov_not (a := before a b) (show _ = (.bool (before a b) : Value) from (if_pos hb20)) ⟨rfl, rfl⟩
  refine st (ov_pick_and (b := !decide (a.origin = b.origin ∧ a.seq = b.seq)) (b' := !(before a b)) rfl (fun hbp => (show _ = (.bool (!(before a b)) : Value) from (if_pos hbp))) ?_)
  refine st (ov_move (v := .bool ((!decide (a.origin = b.origin ∧ a.seq = b.seq)) && (!(before a b)))) rfl ?_)
  refine stc (V := .agg (b.cells db).toArray) rfl rfl (fun hb22 => ?_) ?_
  · have hl23 : ((!decide (a.origin = b.origin ∧ a.seq = b.seq)) && (!(before a b))) = true := hb22
    simp only [Bool.and_eq_true, Bool.or_eq_true, Bool.and_eq_false_iff, Bool.or_eq_false_iff, decide_eq_true_eq, decide_eq_false_iff_not, Bool.not_eq_true', Bool.not_eq_false', Int.not_lt, Int.not_le] at hl23
    have h24 := hx18.keep hb7 (fun h => h)
    exact ov_loadk (k := 10) Try.isAgg29 Try.sizeOf29 rfl rfl (CellsAt.all h24) ⟨rfl, rfl⟩
  refine stc (V := .agg (a.cells da).toArray) rfl rfl (fun hb25 => ?_) ?_
  · have hl26 : ((!decide (a.origin = b.origin ∧ a.seq = b.seq)) && (!(before a b))) = true := hb25
    simp only [Bool.and_eq_true, Bool.or_eq_true, Bool.and_eq_false_iff, Bool.or_eq_false_iff, decide_eq_true_eq, decide_eq_false_iff_not, Bool.not_eq_true', Bool.not_eq_false', Int.not_lt, Int.not_le] at hl26
    have h27 := hx18.keep h9 (fun h => h)
    exact ov_loadk (k := 10) Try.isAgg29 Try.sizeOf29 rfl rfl (CellsAt.all h27) ⟨rfl, rfl⟩
  refine stcw (V := .bool (before b a)) Ext (Chg.refl _ _) rfl rfl (fun hb28 => ?_) (fun w4 hx32 => ?_)
  · have hl29 : ((!decide (a.origin = b.origin ∧ a.seq = b.seq)) && (!(before a b))) = true := hb28
    simp only [Bool.and_eq_true, Bool.or_eq_true, Bool.and_eq_false_iff, Bool.or_eq_false_iff, decide_eq_true_eq, decide_eq_false_iff_not, Bool.not_eq_true', Bool.not_eq_false', Int.not_lt, Int.not_le] at hl29
    have h30 := hb.ext (Chg.trans (Chg.trans hn1.ext hn5.ext) hx18)
    have h31 := ha.ext (Chg.trans (Chg.trans hn1.ext hn5.ext) hx18)
    exact ov_call (f := 11) (vals := [.agg (b.cells db).toArray, .agg (a.cells da).toArray]) (cap := []) (show _ = (.func (.func 11) #[] #[] : Value) from rfl) (mapL ⟨(show _ = (.agg (b.cells db).toArray : Value) from (if_pos hb28)), (show _ = (.agg (a.cells da).toArray : Value) from (if_pos hb28)), trivial⟩) Try.call11 (C_Before h30 ob h31 oa) (fun _ _ h => h)
  have hs33 := hx32.size
  refine stc (V := .bool (!(before b a))) rfl rfl (fun hb34 => ?_) ?_
  · have hl35 : ((!decide (a.origin = b.origin ∧ a.seq = b.seq)) && (!(before a b))) = true := hb34
    simp only [Bool.and_eq_true, Bool.or_eq_true, Bool.and_eq_false_iff, Bool.or_eq_false_iff, decide_eq_true_eq, decide_eq_false_iff_not, Bool.not_eq_true', Bool.not_eq_false', Int.not_lt, Int.not_le] at hl35
    exact ov_not (a := before b a) (show _ = (.bool (before b a) : Value) from (if_pos hb34)) ⟨rfl, rfl⟩
  refine st (ov_pick_and (b := (!decide (a.origin = b.origin ∧ a.seq = b.seq)) && (!(before a b))) (b' := !(before b a)) rfl (fun hbp => (show _ = (.bool (!(before b a)) : Value) from (if_pos hbp))) ?_)
  refine st (ov_assign (v := .bool (((!decide (a.origin = b.origin ∧ a.seq = b.seq)) && (!(before a b))) && (!(before b a)))) rfl ?_)
  refine st_nil ?_
  refine WP_ret ?_
  refine fin1 Try.results13 (show _ = (.bool (((!decide (a.origin = b.origin ∧ a.seq = b.seq)) && (!(before a b))) && (!(before b a))) : Value) from rfl) ?_
  refine ⟨?_, (Chg.trans (Chg.trans (Chg.trans hn1.ext hn5.ext) hx18) hx32)⟩
  simp only [apart, Bool.and_assoc]

theorem C_Less {w : World} {Fa : Nat → Prop} {a : Ev} {da : Value} (ha : RdS w Fa da a.deps) (oa : a.Ok) {Fb : Nat → Prop} {b : Ev} {db : Value} (hb : RdS w Fb db b.deps) (ob : b.Ok) : Ret Try.prog 15 [.agg (a.cells da).toArray, .agg (b.cells db).toArray] w (fun r w' => r = .bool (less a b) ∧ Ext w w') := by
  have has : a.deps.length * 8 ≤ 140737488355328 := ha.small
  have hbs : b.deps.length * 8 ≤ 140737488355328 := hb.small
  refine Calls_of_WP (args := [.agg (a.cells da).toArray, .agg (b.cells db).toArray]) Try.func15 rfl rfl ?_
  refine WP_seq ?_
  refine WP_region0 (by kernel_rfl) (fun _ => ?_)
  refine st (ov_box (v := .agg (a.cells da).toArray) rfl (fun w1 b2 hn1 => ?_))
  have hb3 : w1.heap[b2]? = some (.cells (a.cells da).toArray 29) := hn1.at_
  have hs4 := hn1.size; have hs4e := hn1.eq
  refine st (ov_box (v := .agg (b.cells db).toArray) rfl (fun w2 b6 hn5 => ?_))
  have hb7 : w2.heap[b6]? = some (.cells (b.cells db).toArray 29) := hn5.at_
  have hs8 := hn5.size; have hs8e := hn5.eq
  refine st (ov_assign (v := .bool false) rfl ?_)
  refine st_nil ?_
  refine WP_seq ?_
  refine WP_draw Ext (AL [fun v w => v = (.agg (a.cells da).toArray : Value), fun v w => v = (.agg #[.int .i64 (a.lam), .int .i64 (a.origin), .int .i64 (a.seq)] : Value), fun v w => v = (.agg (b.cells db).toArray : Value)]) [[], [0], [], [0, 1, 2], [0, 1, 2, 3], [0, 1, 2, 3, 4], [0, 1, 2, 3, 4, 5]] 3 (by kernel_rfl) (by kernel_rfl) (by kernel_rfl) (fun w => Chg.refl _ w) (fun _ _ _ h1 h2 => h1.trans h2) (stabL ⟨fun _ _ _ _ h => h, fun _ _ _ _ h => h, fun _ _ _ _ h => h, trivial⟩) ?_
  intro w3 qh1 qh2 qh3 qh4
  have hx9 := ext_same qh1 qh2 qh3 qh4
  refine ⟨⟨?_, ?_, ?_, trivial⟩, ?_⟩
  · intro vals w4 hR10 hA
    have hs11 := hR10.size
    refine obl rfl ?_
    have h12 := (Chg.trans (Chg.trans hn5.ext hx9) hR10).keep hb3 (fun h => h)
    exact ov_loadk (k := 10) Try.isAgg29 Try.sizeOf29 rfl rfl (CellsAt.all h12) ⟨Chg.refl _ _, rfl⟩
  · intro vals w5 hR13 hA
    have hs14 := hR13.size
    have e0 : (vals 0) = (.agg (a.cells da).toArray : Value) := hA 0 (by decide)
    refine obl rfl ?_
    have h15 := ha.ext (Chg.trans (Chg.trans (Chg.trans hn1.ext hn5.ext) hx9) hR13)
    exact ov_call (f := 27) (vals := [.agg (a.cells da).toArray]) (cap := []) (show _ = (.func (.func 27) #[] #[] : Value) from rfl) (mapL ⟨(show _ = (.agg (a.cells da).toArray : Value) from e0), trivial⟩) Try.call27 (C_of h15 oa) (fun _ _ h => ⟨h.2, h.1⟩)
  · intro vals w6 hR16 hA
    have hs17 := hR16.size
    refine obl rfl ?_
    have h18 := (Chg.trans hx9 hR16).keep hb7 (fun h => h)
    exact ov_loadk (k := 10) Try.isAgg29 Try.sizeOf29 rfl rfl (CellsAt.all h18) ⟨Chg.refl _ _, rfl⟩
  intro vals w7 hR19 hA
  have hs20 := hR19.size
  have hs21 := hx9.size
  have e1 : (vals 1) = (.agg #[.int .i64 (a.lam), .int .i64 (a.origin), .int .i64 (a.seq)] : Value) := hA 1 (by decide)
  have e2 : (vals 2) = (.agg (b.cells db).toArray : Value) := hA 2 (by decide)
  refine st_env (kv := [(0, .agg (a.cells da).toArray), (1, .agg (b.cells db).toArray), (2, .pointer (some ⟨b2, 0, none⟩)), (3, .pointer (some ⟨b6, 0, none⟩)), (4, .bool false), (6, .agg #[.int .i64 (a.lam), .int .i64 (a.origin), .int .i64 (a.seq)]), (7, .agg (b.cells db).toArray)]) ⟨rfl, rfl, rfl, rfl, rfl, e1, e2, trivial⟩ (fun ρ7 => ?_)
  clear e1 e2
  clear hA qh1 qh2 qh3 qh4
  have h22 := hb.ext (Chg.trans (Chg.trans (Chg.trans hn1.ext hn5.ext) hx9) hR19)
  refine st (ov_call (f := 27) (vals := [.agg (b.cells db).toArray]) (cap := []) (show _ = (.func (.func 27) #[] #[] : Value) from rfl) rfl Try.call27 (C_of h22 ob) ?_)
  rintro _ w8 ⟨rfl, hx23⟩
  have hx23s := hx23.size
  refine st (ov_call (f := 28) (vals := [.agg #[.int .i64 (a.lam), .int .i64 (a.origin), .int .i64 (a.seq)], .agg #[.int .i64 (b.lam), .int .i64 (b.origin), .int .i64 (b.seq)]]) (cap := []) (show _ = (.func (.func 28) #[] #[] : Value) from rfl) rfl Try.call28 (C_compare oa.lam oa.origin oa.seq ob.lam ob.origin ob.seq) ?_)
  rintro _ w9 ⟨rfl, hx24⟩
  have hx24s := hx24.size
  refine st (ov_lss (k := .i64) (a := orL [cmpI a.lam b.lam, cmpI a.origin b.origin, cmpI a.seq b.seq]) (b := 0) rfl rfl ?_)
  refine st (ov_assign (v := .bool (decide ((orL [cmpI a.lam b.lam, cmpI a.origin b.origin, cmpI a.seq b.seq]) < 0))) rfl ?_)
  refine st_nil ?_
  refine WP_ret ?_
  refine fin1 Try.results15 (show _ = (.bool (decide ((orL [cmpI a.lam b.lam, cmpI a.origin b.origin, cmpI a.seq b.seq]) < 0)) : Value) from rfl) ?_
  refine ⟨?_, (Chg.trans (Chg.trans (Chg.trans (Chg.trans (Chg.trans hn1.ext hn5.ext) hx9) hR19) hx23) hx24)⟩
  rfl

end Go.Proofs.Ytbbhpddgjiifmaa
