/- Steps of the proofs of this seat: part Fns4. -/
import Derived.Test.YtbbhpddgjiifmaaFns3
set_option linter.unusedSimpArgs false
set_option linter.unusedVariables false
namespace Go.Proofs.Ytbbhpddgjiifmaa
open Go.Proofs Go.RowKit

theorem C_refGet {w : World} {Fl : Nat → Prop} {vl : Value} {l : List Int} (hl : RdS w Fl vl l) {o : Int} (ho : InR o) : Ret Try.prog 26 [vl, .int .i64 (o)] w (fun r w' => r = .int .i64 (get l o) ∧ Ext w w') := by
  have hls : l.length * 8 ≤ 140737488355328 := hl.small
  refine Calls_of_WP (args := [vl, .int .i64 (o)]) Try.func26 rfl rfl ?_
  refine WP_seq ?_
  refine WP_region0 (by kernel_rfl) (fun _ => ?_)
  refine st (ov_assign (v := .int .i64 (0)) rfl ?_)
  refine st_nil ?_
  refine WP_seq ?_
  refine WP_seq ?_
  refine WP_region (by kernel_rfl) ?_
  refine st (ov_move (v := .int .i64 (o)) rfl ?_)
  refine st (ov_geq (k := .i64) (a := o) (b := 0) rfl rfl ?_)
  refine st (ov_move (v := .bool (decide (0 ≤ o))) rfl ?_)
  refine stc (V := .int .i64 (o)) rfl rfl (fun hb1 => ?_) ?_
  · have hl2 : (decide (0 ≤ o)) = true := hb1
    have hl2 := of_decide_eq_true hl2
    exact ov_move (v := .int .i64 (o)) rfl ⟨rfl, rfl⟩
  refine stc (V := vl) rfl rfl (fun hb3 => ?_) ?_
  · have hl4 : (decide (0 ≤ o)) = true := hb3
    have hl4 := of_decide_eq_true hl4
    exact ov_move (v := vl) rfl ⟨rfl, rfl⟩
  refine stc (V := .int .i64 ((l.length : Nat) : Int)) rfl rfl (fun hb5 => ?_) ?_
  · have hl6 : (decide (0 ≤ o)) = true := hb5
    have hl6 := of_decide_eq_true hl6
    exact ov_len (n := l.length) Try.underlying27 (show _ = (vl : Value) from (if_pos hb5)) hl.sl ⟨rfl, rfl⟩
  refine stc (V := .bool (decide (o < ((l.length : Nat) : Int)))) rfl rfl (fun hb7 => ?_) ?_
  · have hl8 : (decide (0 ≤ o)) = true := hb7
    have hl8 := of_decide_eq_true hl8
    exact ov_lss (k := .i64) (a := o) (b := ((l.length : Nat) : Int)) (show _ = (.int .i64 (o) : Value) from (if_pos hb7)) (show _ = (.int .i64 ((l.length : Nat) : Int) : Value) from (if_pos hb7)) ⟨rfl, rfl⟩
  refine st (ov_pick_and (b := decide (0 ≤ o)) (b' := decide (o < ((l.length : Nat) : Int))) rfl (fun hbp => (show _ = (.bool (decide (o < ((l.length : Nat) : Int))) : Value) from (if_pos hbp))) ?_)
  refine st (ov_move (v := .bool ((decide (0 ≤ o)) && (decide (o < ((l.length : Nat) : Int))))) rfl ?_)
  refine stc (V := vl) rfl rfl (fun hb9 => ?_) ?_
  · have hl10 : ((decide (0 ≤ o)) && (decide (o < ((l.length : Nat) : Int)))) = true := hb9
    simp only [Bool.and_eq_true, Bool.or_eq_true, Bool.and_eq_false_iff, Bool.or_eq_false_iff, decide_eq_true_eq, decide_eq_false_iff_not, Bool.not_eq_true', Bool.not_eq_false', Int.not_lt, Int.not_le] at hl10
    exact ov_move (v := vl) rfl ⟨rfl, rfl⟩
  refine stc (V := .int .i64 (o)) rfl rfl (fun hb11 => ?_) ?_
  · have hl12 : ((decide (0 ≤ o)) && (decide (o < ((l.length : Nat) : Int)))) = true := hb11
    simp only [Bool.and_eq_true, Bool.or_eq_true, Bool.and_eq_false_iff, Bool.or_eq_false_iff, decide_eq_true_eq, decide_eq_false_iff_not, Bool.not_eq_true', Bool.not_eq_false', Int.not_lt, Int.not_le] at hl12
    exact ov_move (v := .int .i64 (o)) rfl ⟨rfl, rfl⟩
  refine stc (V := .pointer (some ⟨sb vl, so vl + o.toNat * 1, none⟩)) rfl rfl (fun hb13 => ?_) ?_
  · have hl14 : ((decide (0 ≤ o)) && (decide (o < ((l.length : Nat) : Int)))) = true := hb13
    simp only [Bool.and_eq_true, Bool.or_eq_true, Bool.and_eq_false_iff, Bool.or_eq_false_iff, decide_eq_true_eq, decide_eq_false_iff_not, Bool.not_eq_true', Bool.not_eq_false', Int.not_lt, Int.not_le] at hl14
    have hi15 : o.toNat < l.length := by omega
    have hi16 : o.toNat < l.length := by omega
    obtain ⟨hc16, hx16⟩ := hl.int hi16
    rw [← getD_at 0 hi16] at hc16 hx16
    exact ov_indexAddr (k := 1) (i := o) Try.underlying27 Try.sizeOf3 (show _ = (vl : Value) from (if_pos hb13)) hl.sl (show _ = (.int .i64 (o) : Value) from (if_pos hb13)) ⟨by omega, by omega⟩ ⟨rfl, rfl⟩
  refine stc (V := .int .i64 ((l.getD o.toNat 0))) rfl rfl (fun hb17 => ?_) ?_
  · have hl18 : ((decide (0 ≤ o)) && (decide (o < ((l.length : Nat) : Int)))) = true := hb17
    simp only [Bool.and_eq_true, Bool.or_eq_true, Bool.and_eq_false_iff, Bool.or_eq_false_iff, decide_eq_true_eq, decide_eq_false_iff_not, Bool.not_eq_true', Bool.not_eq_false', Int.not_lt, Int.not_le] at hl18
    have hi19 : o.toNat < l.length := by omega
    obtain ⟨hc19, hx19⟩ := hl.int hi19
    rw [← getD_at 0 hi19] at hc19 hx19
    exact ov_load1 (v := .int .i64 ((l.getD o.toNat 0))) Try.isAgg3 (show _ = (.pointer (some ⟨sb vl, so vl + o.toNat * 1, none⟩) : Value) from (if_pos hb17)) (hc19.get (j := 0) rfl) ⟨rfl, rfl⟩
  refine stc (V := .bool (decide (0 < (l.getD o.toNat 0)))) rfl rfl (fun hb20 => ?_) ?_
  · have hl21 : ((decide (0 ≤ o)) && (decide (o < ((l.length : Nat) : Int)))) = true := hb20
    simp only [Bool.and_eq_true, Bool.or_eq_true, Bool.and_eq_false_iff, Bool.or_eq_false_iff, decide_eq_true_eq, decide_eq_false_iff_not, Bool.not_eq_true', Bool.not_eq_false', Int.not_lt, Int.not_le] at hl21
    exact ov_gtr (k := .i64) (a := (l.getD o.toNat 0)) (b := 0) (show _ = (.int .i64 ((l.getD o.toNat 0)) : Value) from (if_pos hb20)) rfl ⟨rfl, rfl⟩
  refine st (ov_pick_and (b := (decide (0 ≤ o)) && (decide (o < ((l.length : Nat) : Int)))) (b' := decide (0 < (l.getD o.toNat 0))) rfl (fun hbp => (show _ = (.bool (decide (0 < (l.getD o.toNat 0))) : Value) from (if_pos hbp))) ?_)
  refine st_nil ?_
  cases hc22 : ((decide (0 ≤ o)) && (decide (o < ((l.length : Nat) : Int)))) && (decide (0 < (l.getD o.toNat 0)))
  · skip
    simp only [Bool.and_eq_true, Bool.or_eq_true, Bool.and_eq_false_iff, Bool.or_eq_false_iff, decide_eq_true_eq, decide_eq_false_iff_not, Bool.not_eq_true', Bool.not_eq_false', Int.not_lt, Int.not_le] at hc22
    refine WP_cond_f rfl ?_
    refine WP_skip ?_
    refine WP_seq ?_
    refine WP_region0 (by kernel_rfl) (fun _ => ?_)
    refine st (ov_assign (v := .int .i64 (0)) rfl ?_)
    refine st_nil ?_
    refine WP_ret ?_
    refine fin1 Try.results26 (show _ = (.int .i64 (0) : Value) from rfl) ?_
    refine ⟨?_, (Chg.refl _ _)⟩
    unfold get
    by_cases h0 : o < 0
    · rw [if_pos h0]
    · rw [if_neg h0, List.getD_eq_getElem?_getD]
      by_cases h1 : o.toNat < l.length
      · rw [List.getElem?_eq_getElem h1, Option.getD_some]
        have hg := getD_at 0 h1
        rw [← hg]
        rw [show max (l.getD o.toNat 0) 0 = 0 by omega]
      · rw [List.getElem?_eq_none (by omega)]; rfl
  · skip
    simp only [Bool.and_eq_true, Bool.or_eq_true, Bool.and_eq_false_iff, Bool.or_eq_false_iff, decide_eq_true_eq, decide_eq_false_iff_not, Bool.not_eq_true', Bool.not_eq_false', Int.not_lt, Int.not_le] at hc22
    refine WP_cond_t rfl ?_
    refine WP_seq ?_
    refine WP_region0 (by kernel_rfl) (fun _ => ?_)
    refine st (ov_move (v := vl) rfl ?_)
    refine st (ov_move (v := .int .i64 (o)) rfl ?_)
    have hi23 : o.toNat < l.length := by omega
    refine st (ov_indexAddr (k := 1) (i := o) Try.underlying27 Try.sizeOf3 rfl hl.sl rfl ⟨by omega, by omega⟩ ?_)
    have hi24 : o.toNat < l.length := by omega
    obtain ⟨hc24, hx24⟩ := hl.int hi24
    refine st (ov_load1 (v := .int .i64 (l[o.toNat])) Try.isAgg3 rfl (hc24.get (j := 0) rfl) ?_)
    refine st (ov_assign (v := .int .i64 (l[o.toNat])) rfl ?_)
    refine st_nil ?_
    refine WP_ret ?_
    refine fin1 Try.results26 (show _ = (.int .i64 (l[o.toNat]) : Value) from rfl) ?_
    refine ⟨?_, (Chg.refl _ _)⟩
    unfold get
    have hg := getD_at (l := l) (i := o.toNat) 0 (by omega)
    rw [if_neg (by omega), hg, show max l[o.toNat] 0 = l[o.toNat] by omega]

theorem C_refBefore {w : World} {Fa : Nat → Prop} {a : Ev} {da : Value} (ha : RdS w Fa da a.deps) (oa : a.Ok) {Fb : Nat → Prop} {b : Ev} {db : Value} (hb : RdS w Fb db b.deps) (ob : b.Ok) : Ret Try.prog 12 [.agg (a.cells da).toArray, .agg (b.cells db).toArray] w (fun r w' => r = .bool (before a b) ∧ Ext w w') := by
  have has : a.deps.length * 8 ≤ 140737488355328 := ha.small
  have hbs : b.deps.length * 8 ≤ 140737488355328 := hb.small
  refine Calls_of_WP (args := [.agg (a.cells da).toArray, .agg (b.cells db).toArray]) Try.func12 rfl rfl ?_
  refine WP_seq ?_
  refine WP_region0 (by kernel_rfl) (fun _ => ?_)
  refine st (ov_box (v := .agg (a.cells da).toArray) rfl (fun w1 b2 hn1 => ?_))
  have hb3 : w1.heap[b2]? = some (.cells (a.cells da).toArray 29) := hn1.at_
  have hs4 := hn1.size; have hs4e := hn1.eq
  refine st (ov_box (v := .agg (b.cells db).toArray) rfl (fun w2 b6 hn5 => ?_))
  have hb7 : w2.heap[b6]? = some (.cells (b.cells db).toArray 29) := hn5.at_
  have hs8 := hn5.size; have hs8e := hn5.eq
  refine st (ov_assign (v := .bool false) rfl ?_)
  refine st_nil ?_
  refine WP_seq ?_
  refine WP_draw Ext (AL [fun v w => v = (.pointer (some ⟨b6, 3, none⟩) : Value), fun v w => v = (db : Value), fun v w => v = (.pointer (some ⟨b2, 0, none⟩) : Value), fun v w => v = (.pointer (some ⟨b2, 0, none⟩) : Value), fun v w => v = (.int .i64 (a.origin) : Value), fun v w => v = (.int .i64 (get b.deps a.origin) : Value), fun v w => v = (.pointer (some ⟨b2, 0, none⟩) : Value), fun v w => v = (.pointer (some ⟨b2, 1, none⟩) : Value), fun v w => v = (.int .i64 (a.seq) : Value)]) [[], [0], [], [2], [2, 3], [0, 1, 2, 3, 4], [], [6], [6, 7], [0, 1, 2, 3, 4, 5, 6, 7, 8], [0, 1, 2, 3, 4, 5, 6, 7, 8, 9]] 9 (by kernel_rfl) (by kernel_rfl) (by kernel_rfl) (fun w => Chg.refl _ w) (fun _ _ _ h1 h2 => h1.trans h2) (stabL ⟨fun _ _ _ _ h => h, fun _ _ _ _ h => h, fun _ _ _ _ h => h, fun _ _ _ _ h => h, fun _ _ _ _ h => h, fun _ _ _ _ h => h, fun _ _ _ _ h => h, fun _ _ _ _ h => h, fun _ _ _ _ h => h, trivial⟩) ?_
  intro w3 qh1 qh2 qh3 qh4
  have hx9 := ext_same qh1 qh2 qh3 qh4
  refine ⟨⟨?_, ?_, ?_, ?_, ?_, ?_, ?_, ?_, ?_, trivial⟩, ?_⟩
  · intro vals w4 hR10 hA
    have hs11 := hR10.size
    refine obl rfl ?_
    exact fa29_2 rfl ⟨Chg.refl _ _, rfl⟩
  · intro vals w5 hR12 hA
    have hs13 := hR12.size
    have e0 : (vals 0) = (.pointer (some ⟨b6, 3, none⟩) : Value) := hA 0 (by decide)
    refine obl rfl ?_
    have h14 := (Chg.trans hx9 hR12).keep hb7 (fun h => h)
    exact ov_load1 (v := db) Try.isAgg27 (show _ = (.pointer (some ⟨b6, 3, none⟩) : Value) from e0) (blk_cellL h14 rfl) ⟨Chg.refl _ _, rfl⟩
  · intro vals w6 hR15 hA
    have hs16 := hR15.size
    refine obl rfl ?_
    exact fa29_0 rfl ⟨Chg.refl _ _, rfl⟩
  · intro vals w7 hR17 hA
    have hs18 := hR17.size
    have e2 : (vals 2) = (.pointer (some ⟨b2, 0, none⟩) : Value) := hA 2 (by decide)
    refine obl rfl ?_
    exact fa26_0 (show _ = (.pointer (some ⟨b2, 0, none⟩) : Value) from e2) ⟨Chg.refl _ _, rfl⟩
  · intro vals w8 hR19 hA
    have hs20 := hR19.size
    have e3 : (vals 3) = (.pointer (some ⟨b2, 0, none⟩) : Value) := hA 3 (by decide)
    refine obl rfl ?_
    have h21 := (Chg.trans (Chg.trans hn5.ext hx9) hR19).keep hb3 (fun h => h)
    exact ov_load1 (v := .int .i64 (a.origin)) Try.isAgg3 (show _ = (.pointer (some ⟨b2, 0, none⟩) : Value) from e3) (blk_cellL h21 rfl) ⟨Chg.refl _ _, rfl⟩
  · intro vals w9 hR22 hA
    have hs23 := hR22.size
    have e1 : (vals 1) = (db : Value) := hA 1 (by decide)
    have e4 : (vals 4) = (.int .i64 (a.origin) : Value) := hA 4 (by decide)
    refine obl rfl ?_
    have h24 := hb.ext (Chg.trans (Chg.trans (Chg.trans hn1.ext hn5.ext) hx9) hR22)
    exact ov_call (f := 26) (vals := [db, .int .i64 (a.origin)]) (cap := []) (show _ = (.func (.func 26) #[] #[] : Value) from rfl) (mapL ⟨(show _ = (db : Value) from e1), (show _ = (.int .i64 (a.origin) : Value) from e4), trivial⟩) Try.call26 (C_refGet h24 oa.origin) (fun _ _ h => ⟨h.2, h.1⟩)
  · intro vals w10 hR25 hA
    have hs26 := hR25.size
    refine obl rfl ?_
    exact fa29_0 rfl ⟨Chg.refl _ _, rfl⟩
  · intro vals w11 hR27 hA
    have hs28 := hR27.size
    have e6 : (vals 6) = (.pointer (some ⟨b2, 0, none⟩) : Value) := hA 6 (by decide)
    refine obl rfl ?_
    exact fa26_1 (show _ = (.pointer (some ⟨b2, 0, none⟩) : Value) from e6) ⟨Chg.refl _ _, rfl⟩
  · intro vals w12 hR29 hA
    have hs30 := hR29.size
    have e7 : (vals 7) = (.pointer (some ⟨b2, 1, none⟩) : Value) := hA 7 (by decide)
    refine obl rfl ?_
    have h31 := (Chg.trans (Chg.trans hn5.ext hx9) hR29).keep hb3 (fun h => h)
    exact ov_load1 (v := .int .i64 (a.seq)) Try.isAgg3 (show _ = (.pointer (some ⟨b2, 1, none⟩) : Value) from e7) (blk_cellL h31 rfl) ⟨Chg.refl _ _, rfl⟩
  intro vals w13 hR32 hA
  have hs33 := hR32.size
  have hs34 := hx9.size
  have e5 : (vals 5) = (.int .i64 (get b.deps a.origin) : Value) := hA 5 (by decide)
  have e8 : (vals 8) = (.int .i64 (a.seq) : Value) := hA 8 (by decide)
  refine st_env (kv := [(0, .agg (a.cells da).toArray), (1, .agg (b.cells db).toArray), (2, .pointer (some ⟨b2, 0, none⟩)), (3, .pointer (some ⟨b6, 0, none⟩)), (4, .bool false), (10, .int .i64 (get b.deps a.origin)), (13, .int .i64 (a.seq))]) ⟨rfl, rfl, rfl, rfl, rfl, e5, e8, trivial⟩ (fun ρ13 => ?_)
  clear e5 e8
  clear hA qh1 qh2 qh3 qh4
  refine st (ov_geq (k := .i64) (a := get b.deps a.origin) (b := a.seq) rfl rfl ?_)
  refine st (ov_assign (v := .bool (decide (a.seq ≤ (get b.deps a.origin)))) rfl ?_)
  refine st_nil ?_
  refine WP_ret ?_
  refine fin1 Try.results12 (show _ = (.bool (decide (a.seq ≤ (get b.deps a.origin))) : Value) from rfl) ?_
  refine ⟨?_, (Chg.trans (Chg.trans (Chg.trans hn1.ext hn5.ext) hx9) hR32)⟩
  rfl

theorem C_SameInts {w : World} {Fa : Nat → Prop} {va : Value} {a : List Int} (ha : RdS w Fa va a) {Fb : Nat → Prop} {vb : Value} {b : List Int} (hb : RdS w Fb vb b) : Ret Try.prog 34 [va, vb] w (fun r w' => r = .bool (decide (a = b)) ∧ Ext w w') := by
  have has : a.length * 8 ≤ 140737488355328 := ha.small
  have hbs : b.length * 8 ≤ 140737488355328 := hb.small
  refine Calls_of_WP (args := [va, vb]) Try.func34 rfl rfl ?_
  refine WP_seq ?_
  refine WP_region0 (by kernel_rfl) (fun _ => ?_)
  refine st (ov_assign (v := .bool false) rfl ?_)
  refine st_nil ?_
  refine WP_seq ?_
  refine WP_seq ?_
  refine WP_region0 (by kernel_rfl) (fun _ => ?_)
  refine st (ov_move (v := va) rfl ?_)
  refine st (ov_len (n := a.length) Try.underlying27 rfl ha.sl ?_)
  refine st (ov_move (v := vb) rfl ?_)
  refine st (ov_len (n := b.length) Try.underlying27 rfl hb.sl ?_)
  refine st (ov_neq (k := .i64) (a := ((a.length : Nat) : Int)) (b := ((b.length : Nat) : Int)) rfl rfl ?_)
  refine st_nil ?_
  cases hc1 : !decide (((a.length : Nat) : Int) = ((b.length : Nat) : Int))
  · skip
    have hc1 := ndec_false hc1
    refine WP_cond_f rfl ?_
    refine WP_skip ?_
    refine WP_seq ?_
    refine WP_seq ?_
    refine WP_region0 (by kernel_rfl) (fun _ => ?_)
    refine st (ov_assign (v := .int .i64 (0)) rfl ?_)
    refine st_nil ?_
    refine WP_block ?_
    refine WP_loop (fun m σ wq => ∃ (k : Nat) (ρ : Env), m = a.length - k ∧ σ = setAll ρ [(0, va), (1, vb), (5, .int .i64 ((k : Nat) : Int))] ∧ (Ext w wq) ∧ (k ≤ a.length) ∧ (a.length = b.length) ∧ (a.take k = b.take k)) ⟨0, _, rfl, setAll_self ⟨rfl, rfl, rfl, trivial⟩, (Chg.refl _ _), Nat.zero_le _, by omega, rfl⟩ ?_
    rintro m6 σ7 w1 ⟨k, ρ1, rfl, rfl, hx2, hk3, hv4, hv5⟩
    have hx2s := hx2.size
    refine WP_seq ?_
    refine WP_seq ?_
    refine WP_region0 (by kernel_rfl) (fun _ => ?_)
    refine st (ov_move (v := .int .i64 ((k : Nat) : Int)) rfl ?_)
    refine st (ov_move (v := va) rfl ?_)
    refine st (ov_len (n := a.length) Try.underlying27 rfl ha.sl ?_)
    refine st (ov_lss (k := .i64) (a := ((k : Nat) : Int)) (b := ((a.length : Nat) : Int)) rfl rfl ?_)
    refine st_nil ?_
    cases hc8 : decide (((k : Nat) : Int) < ((a.length : Nat) : Int))
    · skip
      have hc8 := of_decide_eq_false hc8
      refine WP_cond_f rfl ?_
      refine WP_exit ?_
      refine blk_exit ?_
      refine WP_seq ?_
      refine WP_region0 (by kernel_rfl) (fun _ => ?_)
      refine st (ov_assign (v := .bool true) rfl ?_)
      refine st_nil ?_
      refine WP_ret ?_
      refine fin1 Try.results34 (show _ = (.bool true : Value) from rfl) ?_
      refine ⟨?_, hx2⟩
      rw [decide_eq_true (by rw [← List.take_of_length_le (l := a) (i := k) (by omega), ← List.take_of_length_le (l := b) (i := k) (by omega)]; assumption)]
    · skip
      have hc8 := of_decide_eq_true hc8
      refine WP_cond_t rfl ?_
      refine WP_skip ?_
      refine WP_seq ?_
      refine WP_block ?_
      refine WP_seq ?_
      refine WP_draw Ext (AL [fun v w => v = (va : Value), fun v w => v = (.int .i64 ((k : Nat) : Int) : Value), fun v w => v = (.pointer (some ⟨sb va, so va + k * 1, none⟩) : Value), fun v w => v = (.int .i64 (a[k]) : Value), fun v w => v = (vb : Value), fun v w => v = (.int .i64 ((k : Nat) : Int) : Value), fun v w => v = (.pointer (some ⟨sb vb, so vb + k * 1, none⟩) : Value), fun v w => v = (.int .i64 (b[k]) : Value)]) [[], [], [0, 1], [0, 1, 2], [], [], [4, 5], [4, 5, 6], [0, 1, 2, 3, 4, 5, 6, 7]] 8 (by kernel_rfl) (by kernel_rfl) (by kernel_rfl) (fun w => Chg.refl _ w) (fun _ _ _ h1 h2 => h1.trans h2) (stabL ⟨fun _ _ _ _ h => h, fun _ _ _ _ h => h, fun _ _ _ _ h => h, fun _ _ _ _ h => h, fun _ _ _ _ h => h, fun _ _ _ _ h => h, fun _ _ _ _ h => h, fun _ _ _ _ h => h, trivial⟩) ?_
      intro w2 qh1 qh2 qh3 qh4
      have hx9 := ext_same qh1 qh2 qh3 qh4
      refine ⟨⟨?_, ?_, ?_, ?_, ?_, ?_, ?_, ?_, trivial⟩, ?_⟩
      · intro vals w3 hR10 hA
        have hs11 := hR10.size
        refine obl rfl ?_
        exact ov_move (v := va) rfl ⟨Chg.refl _ _, rfl⟩
      · intro vals w4 hR12 hA
        have hs13 := hR12.size
        refine obl rfl ?_
        exact ov_move (v := .int .i64 ((k : Nat) : Int)) rfl ⟨Chg.refl _ _, rfl⟩
      · intro vals w5 hR14 hA
        have hs15 := hR14.size
        have e0 : (vals 0) = (va : Value) := hA 0 (by decide)
        have e1 : (vals 1) = (.int .i64 ((k : Nat) : Int) : Value) := hA 1 (by decide)
        refine obl rfl ?_
        have hi16 : k < a.length := by omega
        have h18 := ha.ext hx2
        have hi17 : k < a.length := by omega
        obtain ⟨hc17, hx17⟩ := h18.int hi17
        exact ov_indexAddrN (k := 1) (i := k) Try.underlying27 Try.sizeOf3 (show _ = (va : Value) from e0) ha.sl (show _ = (.int .i64 ((k : Nat) : Int) : Value) from e1) hi16 ⟨Chg.refl _ _, rfl⟩
      · intro vals w6 hR19 hA
        have hs20 := hR19.size
        have e2 : (vals 2) = (.pointer (some ⟨sb va, so va + k * 1, none⟩) : Value) := hA 2 (by decide)
        refine obl rfl ?_
        have h22 := ha.ext hx2
        have hi21 : k < a.length := by omega
        obtain ⟨hc21, hx21⟩ := h22.int hi21
        have h23 := hc21.mono (fun hb => (Chg.trans hx9 hR19).block _ hb (fun h => h))
        exact ov_load1 (v := .int .i64 (a[k])) Try.isAgg3 (show _ = (.pointer (some ⟨sb va, so va + k * 1, none⟩) : Value) from e2) (h23.get (j := 0) rfl) ⟨Chg.refl _ _, rfl⟩
      · intro vals w7 hR24 hA
        have hs25 := hR24.size
        refine obl rfl ?_
        exact ov_move (v := vb) rfl ⟨Chg.refl _ _, rfl⟩
      · intro vals w8 hR26 hA
        have hs27 := hR26.size
        refine obl rfl ?_
        exact ov_move (v := .int .i64 ((k : Nat) : Int)) rfl ⟨Chg.refl _ _, rfl⟩
      · intro vals w9 hR28 hA
        have hs29 := hR28.size
        have e4 : (vals 4) = (vb : Value) := hA 4 (by decide)
        have e5 : (vals 5) = (.int .i64 ((k : Nat) : Int) : Value) := hA 5 (by decide)
        refine obl rfl ?_
        have hi30 : k < b.length := by omega
        have h32 := hb.ext hx2
        have hi31 : k < b.length := by omega
        obtain ⟨hc31, hx31⟩ := h32.int hi31
        exact ov_indexAddrN (k := 1) (i := k) Try.underlying27 Try.sizeOf3 (show _ = (vb : Value) from e4) hb.sl (show _ = (.int .i64 ((k : Nat) : Int) : Value) from e5) hi30 ⟨Chg.refl _ _, rfl⟩
      · intro vals w10 hR33 hA
        have hs34 := hR33.size
        have e6 : (vals 6) = (.pointer (some ⟨sb vb, so vb + k * 1, none⟩) : Value) := hA 6 (by decide)
        refine obl rfl ?_
        have h36 := hb.ext hx2
        have hi35 : k < b.length := by omega
        obtain ⟨hc35, hx35⟩ := h36.int hi35
        have h37 := hc35.mono (fun hb => (Chg.trans hx9 hR33).block _ hb (fun h => h))
        exact ov_load1 (v := .int .i64 (b[k])) Try.isAgg3 (show _ = (.pointer (some ⟨sb vb, so vb + k * 1, none⟩) : Value) from e6) (h37.get (j := 0) rfl) ⟨Chg.refl _ _, rfl⟩
      intro vals w11 hR38 hA
      have hs39 := hR38.size
      have hs40 := hx9.size
      have e3 : (vals 3) = (.int .i64 (a[k]) : Value) := hA 3 (by decide)
      have e7 : (vals 7) = (.int .i64 (b[k]) : Value) := hA 7 (by decide)
      refine st_env (kv := [(0, va), (1, vb), (5, .int .i64 ((k : Nat) : Int)), (11, .int .i64 ((k : Nat) : Int)), (12, va), (13, .int .i64 ((a.length : Nat) : Int)), (14, .bool true), (20, .int .i64 (a[k])), (24, .int .i64 (b[k]))]) ⟨rfl, rfl, rfl, rfl, rfl, rfl, rfl, e3, e7, trivial⟩ (fun ρ11 => ?_)
      clear e3 e7
      clear hA qh1 qh2 qh3 qh4
      refine st (ov_neq (k := .i64) (a := a[k]) (b := b[k]) rfl rfl ?_)
      refine st_nil ?_
      cases hc41 : !decide ((a[k]) = (b[k]))
      · skip
        have hc41 := ndec_false hc41
        refine WP_cond_f rfl ?_
        refine WP_skip ?_
        refine WP_region0 (by kernel_rfl) (fun _ => ?_)
        refine st (ov_move (v := .int .i64 ((k : Nat) : Int)) rfl ?_)
        have hr42 : InR ((k + 1 : Nat) : Int) := by omega
        refine st (ov_add (r := ((k + 1 : Nat) : Int)) (k := .i64) (a := ((k : Nat) : Int)) (b := 1) rfl rfl (by rw [show (((k : Nat) : Int) + 1 : Int) = ((k + 1 : Nat) : Int) by omega]; exact wrap_in hr42) ?_)
        refine st (ov_assign (v := .int .i64 ((k + 1 : Nat) : Int)) rfl ?_)
        refine st_nil ?_
        exact ⟨_, by omega, k + 1, _, rfl, setAll_self ⟨rfl, rfl, rfl, trivial⟩, (Chg.trans (Chg.trans hx2 hx9) hR38), by omega, hv4, (by rw [List.take_succ_eq_append_getElem (by omega), List.take_succ_eq_append_getElem (by omega), hv5, ‹a[k] = b[k]›])⟩
      · skip
        have hc41 := ndec_true hc41
        refine WP_cond_t rfl ?_
        refine WP_seq ?_
        refine WP_region0 (by kernel_rfl) (fun _ => ?_)
        refine st (ov_assign (v := .bool false) rfl ?_)
        refine st_nil ?_
        refine WP_ret ?_
        refine fin1 Try.results34 (show _ = (.bool false : Value) from rfl) ?_
        refine ⟨?_, (Chg.trans (Chg.trans hx2 hx9) hR38)⟩
        rw [decide_eq_false (by intro h; subst h; first | omega | exact absurd rfl ‹_›)]
  · skip
    have hc1 := ndec_true hc1
    refine WP_cond_t rfl ?_
    refine WP_seq ?_
    refine WP_region0 (by kernel_rfl) (fun _ => ?_)
    refine st (ov_assign (v := .bool false) rfl ?_)
    refine st_nil ?_
    refine WP_ret ?_
    refine fin1 Try.results34 (show _ = (.bool false : Value) from rfl) ?_
    refine ⟨?_, (Chg.refl _ _)⟩
    rw [decide_eq_false (by intro h; subst h; first | omega | exact absurd rfl ‹_›)]

end Go.Proofs.Ytbbhpddgjiifmaa
