/- Steps of the proofs of this seat: part Kit3. -/
import Derived.Test.YtbbhpddgjiifmaaKit2
set_option linter.unusedSimpArgs false
set_option linter.unusedVariables false
namespace Go.Proofs.Ytbbhpddgjiifmaa
open Go.Proofs Go.RowKit

theorem C_SortS {w : World} {Fl : Nat → Prop} {vl : Value} {l : List Ev} (hl : RdS w Fl vl l) : Ret Try.prog 18 [vl] w (fun r w' => Ext w w' ∧ Fresh 29 w.heap.size w' r (srt l)) := by rw [← srt_eq]; exact C_Sort hl
theorem C_refLessS {w : World} {Fa : Nat → Prop} {a : Ev} {da : Value} (ha : RdS w Fa da a.deps) (oa : a.Ok) {Fb : Nat → Prop} {b : Ev} {db : Value} (hb : RdS w Fb db b.deps) (ob : b.Ok) : Ret Try.prog 16 [.agg (a.cells da).toArray, .agg (b.cells db).toArray] w (fun r w' => r = .bool (less a b) ∧ Ext w w') := by rw [less_eq]; exact C_refLess ha oa hb ob
theorem srt_take {l : List Ev} {k : Nat} (h : k < l.length) : srt (l.take (k + 1)) = insBack (srt (l.take k)) l[k] := by
  rw [List.take_succ_eq_append_getElem h, srt, List.foldl_append]; rfl

theorem C_refSort {w : World} {Fl : Nat → Prop} {vl : Value} {l : List Ev} (hl : RdS w Fl vl l) : Ret Try.prog 20 [vl] w (fun r w' => Ext w w' ∧ Fresh 29 w.heap.size w' r (srt l)) := by
  have hls : l.length * 96 ≤ 140737488355328 := hl.small
  refine Calls_of_WP (args := [vl]) Try.func20 rfl rfl ?_
  refine WP_seq ?_
  refine WP_region0 (by kernel_rfl) (fun _ => ?_)
  refine st (ov_assign (v := (.slice none 0 0)) rfl ?_)
  refine st_nil ?_
  refine WP_seq ?_
  refine WP_region0 (by kernel_rfl) (fun _ => ?_)
  refine st (ov_assign (v := (.slice none 0 0)) rfl ?_)
  refine st_nil ?_
  refine WP_seq ?_
  refine WP_seq ?_
  refine WP_region0 (by kernel_rfl) (fun _ => ?_)
  refine st (ov_assign (v := .int .i64 (0)) rfl ?_)
  refine st_nil ?_
  refine WP_block ?_
  refine WP_loop (fun m σ wq => ∃ (k : Nat) (vo : Value) (G : Nat → Prop) (ρ : Env), m = l.length - k ∧ σ = setAll ρ [(0, vl), (4, .int .i64 ((k : Nat) : Int)), (3, vo)] ∧ (Ext w wq) ∧ (k ≤ l.length) ∧ (OwnS 29 w.heap.size wq G vo (srt (l.take k))) ∧ (∀ b, G b → w.heap.size ≤ b)) ⟨0, (.slice none 0 0), (fun _ => False), _, rfl, setAll_self ⟨rfl, rfl, rfl, trivial⟩, (Chg.refl _ _), Nat.zero_le _, OwnS.nil _ _ _ _ (fun _ h => h.elim), (fun _ h => h.elim)⟩ ?_
  rintro m5 σ6 w1 ⟨k, vo, G, ρ1, rfl, rfl, hx1, hk2, ho3, hF4⟩
  have hx1s := hx1.size
  have hsm0 : (srt (l.take k)).length * 96 ≤ 140737488355328 := ho3.small
  have hsl : (srt (l.take k)).length = k := by rw [srt_length, List.length_take]; omega
  refine WP_seq ?_
  refine WP_seq ?_
  refine WP_region0 (by kernel_rfl) (fun _ => ?_)
  refine st (ov_move (v := .int .i64 ((k : Nat) : Int)) rfl ?_)
  refine st (ov_move (v := vl) rfl ?_)
  refine st (ov_len (n := l.length) Try.underlying22 rfl hl.sl ?_)
  refine st (ov_lss (k := .i64) (a := ((k : Nat) : Int)) (b := ((l.length : Nat) : Int)) rfl rfl ?_)
  refine st_nil ?_
  cases hc7 : decide (((k : Nat) : Int) < ((l.length : Nat) : Int))
  · skip
    have hc7 := of_decide_eq_false hc7
    refine WP_cond_f rfl ?_
    refine WP_exit ?_
    refine blk_exit ?_
    refine WP_seq ?_
    refine WP_region0 (by kernel_rfl) (fun _ => ?_)
    refine st (ov_move (v := vo) rfl ?_)
    refine st (ov_assign (v := vo) rfl ?_)
    refine st_nil ?_
    refine WP_ret ?_
    refine fin1 Try.results20 (show _ = (vo : Value) from rfl) ?_
    have hz := List.take_of_length_le (l := l) (i := k) (by omega)
    rw [hz] at ho3
    exact ⟨hx1, G, ho3, hF4⟩
  · skip
    have hc7 := of_decide_eq_true hc7
    refine WP_cond_t rfl ?_
    refine WP_skip ?_
    refine WP_seq ?_
    refine WP_block ?_
    refine WP_seq ?_
    refine WP_region0 (by kernel_rfl) (fun _ => ?_)
    refine st (ov_move (v := vl) rfl ?_)
    refine st (ov_move (v := .int .i64 ((k : Nat) : Int)) rfl ?_)
    have hi8 : k < l.length := by omega
    have h10 := hl.ext hx1
    have hi9 : k < l.length := by omega
    obtain ⟨hc9, hd9, hok9⟩ := h10.ev hi9
    refine st (ov_indexAddrN (k := 10) (i := k) Try.underlying22 Try.sizeOf29 rfl hl.sl rfl hi8 ?_)
    refine st (ov_loadk (k := 10) Try.isAgg29 Try.sizeOf29 rfl rfl hc9 ?_)
    refine st (ov_alloc Try.zeroValue29 (fun w2 b12 hn11 => ?_))
    have hb13 : w2.heap[b12]? = some (.cells #[.int .i64 (0), .int .i64 (0), .int .i64 (0), (.slice none 0 0), .int .i64 (0), .int .i64 (0), .int .i64 (0), .int .i64 (0), .int .i64 (0), .int .i64 (0)] 29) := hn11.at_
    have hs14 := hn11.size; have hs14e := hn11.eq
    refine stn (ov_store (v := .agg ((l[k]).cells (cellV w1 (sb vl) (so vl + k * 10 + 3))).toArray) (c' := ((l[k]).cells (cellV w1 (sb vl) (so vl + k * 10 + 3))).toArray) Try.sizeOf29 rfl rfl hb13 (all1 ⟨rfl, rfl, rfl, hd9.sl.one, rfl, rfl, rfl, rfl, rfl, rfl, trivial⟩) (Nat.le_of_ble_eq_true rfl) rfl (fun w3 hp15 => ?_))
    have hs16 := hp15.size
    refine st_nil ?_
    refine WP_seq ?_
    refine WP_region0 (by kernel_rfl) (fun _ => ?_)
    refine st (ov_assign (v := (.slice none 0 0)) rfl ?_)
    refine st_nil ?_
    refine WP_seq ?_
    refine WP_seq ?_
    refine WP_region0 (by kernel_rfl) (fun _ => ?_)
    refine st (ov_assign (v := .int .i64 (0)) rfl ?_)
    refine st_nil ?_
    refine WP_block ?_
    have hdsm : (l[k]).deps.length * 8 ≤ 140737488355328 := hd9.small
    refine WP_loop (fun m σ wq => ∃ (k2 : Nat) (vd : Value) (ρ : Env), m = (l[k]).deps.length - k2 ∧ σ = setAll ρ [(0, vl), (3, vo), (4, .int .i64 ((k : Nat) : Int)), (5, .pointer (some ⟨b12, 0, none⟩)), (7, .int .i64 ((k2 : Nat) : Int)), (6, vd)] ∧ (Ext w3 wq) ∧ (k2 ≤ (l[k]).deps.length) ∧ (OwnS (α := Int) 3 w3.heap.size wq (fun _ => False) vd ((l[k]).deps.take k2))) ⟨0, (.slice none 0 0), _, rfl, setAll_self ⟨rfl, rfl, rfl, rfl, rfl, rfl, trivial⟩, (Chg.refl _ _), Nat.zero_le _, OwnS.nil _ _ _ _ (fun _ h => h.elim)⟩ ?_
    rintro m20 σ21 w4 ⟨k2, vd, ρ4, rfl, rfl, hx17, hk18, ho19⟩
    have hx17s := hx17.size
    refine WP_seq ?_
    refine WP_seq ?_
    refine WP_region0 (by kernel_rfl) (fun _ => ?_)
    refine st (ov_move (v := .int .i64 ((k2 : Nat) : Int)) rfl ?_)
    refine st (fa29_2 rfl ?_)
    have h22 := hx17.keep hp15.at_ (fun h => h)
    refine st (ov_load1 (v := (cellV w1 (sb vl) (so vl + k * 10 + 3))) Try.isAgg27 rfl (blk_cellL h22 rfl) ?_)
    refine st (ov_len (n := ((l[k]).deps).length) Try.underlying27 rfl hd9.sl ?_)
    refine st (ov_lss (k := .i64) (a := ((k2 : Nat) : Int)) (b := ((((l[k]).deps).length : Nat) : Int)) rfl rfl ?_)
    refine st_nil ?_
    cases hc23 : decide (((k2 : Nat) : Int) < ((((l[k]).deps).length : Nat) : Int))
    · skip
      have hc23 := of_decide_eq_false hc23
      have hz2 := List.take_of_length_le (l := (l[k]).deps) (i := k2) (by omega)
      have hfd := ho19
      rw [hz2] at hfd
      have hfd : Fresh 3 w3.heap.size w4 vd (l[k]).deps := ⟨_, hfd, fun _ h => h.elim⟩
      have hfdr := hfd.rd
      refine WP_cond_f rfl ?_
      refine WP_exit ?_
      refine blk_exit ?_
      refine WP_seq ?_
      refine WP_region0 (by kernel_rfl) (fun _ => ?_)
      refine st (ov_move (v := vd) rfl ?_)
      refine st (fa29_2 rfl ?_)
      refine stn (ov_store1 (v := vd) (c := [.int .i64 ((l[k]).origin), .int .i64 ((l[k]).seq), .int .i64 ((l[k]).lam), (cellV w1 (sb vl) (so vl + k * 10 + 3)), .int .i64 ((l[k]).typ), .int .i64 ((l[k]).agg), .int .i64 ((l[k]).field), .int .i64 ((l[k]).op), .int .i64 ((l[k]).arg), .int .i64 ((l[k]).key)]) (c' := [.int .i64 ((l[k]).origin), .int .i64 ((l[k]).seq), .int .i64 ((l[k]).lam), vd, .int .i64 ((l[k]).typ), .int .i64 ((l[k]).agg), .int .i64 ((l[k]).field), .int .i64 ((l[k]).op), .int .i64 ((l[k]).arg), .int .i64 ((l[k]).key)]) Try.sizeOf27 rfl rfl h22 hfdr.sl.one rfl rfl (fun w5 hp24 => ?_))
      have hs25 := hp24.size
      refine st_nil ?_
      refine WP_seq ?_
      refine WP_region0 (by kernel_rfl) (fun _ => ?_)
      refine st (ov_move (v := vo) rfl ?_)
      refine st (ov_len (n := (srt (l.take k)).length) Try.underlying22 rfl ho3.isSl ?_)
      refine st (ov_assign (v := .int .i64 (((srt (l.take k)).length : Nat) : Int)) rfl ?_)
      refine st_nil ?_
      refine WP_seq ?_
      refine WP_block ?_
      refine WP_loop (fun m σ wq => ∃ (a : Nat) (ρ : Env), m = 2 * a ∧ σ = setAll ρ [(0, vl), (3, vo), (4, .int .i64 ((k : Nat) : Int)), (5, .pointer (some ⟨b12, 0, none⟩)), (8, .int .i64 ((a : Nat) : Int))] ∧ (Ext w5 wq) ∧ (a ≤ (srt (l.take k)).length) ∧ (insPos (srt (l.take k)) l[k] a = insPos (srt (l.take k)) l[k] (srt (l.take k)).length)) ⟨(srt (l.take k)).length, _, rfl, setAll_self ⟨rfl, rfl, rfl, rfl, rfl, trivial⟩, (Chg.refl _ _), Nat.le_refl _, rfl⟩ ?_
      rintro m27 σ28 w6 ⟨a, ρ6, rfl, rfl, hx26, ha, hin⟩
      have hx26s := hx26.size
      refine WP_seq ?_
      refine WP_seq ?_
      refine WP_draw Ext (AL [fun v w => v = (.int .i64 ((a : Nat) : Int) : Value), fun v w => v = (.bool (decide (0 < ((a : Nat) : Int))) : Value), fun v w => v = (.bool (decide (0 < ((a : Nat) : Int))) : Value), fun v w => v = (if (decide (0 < ((a : Nat) : Int))) = true then (.agg ((l[k]).cells vd).toArray : Value) else undef), fun v w => v = (if (decide (0 < ((a : Nat) : Int))) = true then (vo : Value) else undef), fun v w => v = (if (decide (0 < ((a : Nat) : Int))) = true then (.int .i64 ((a : Nat) : Int) : Value) else undef), fun v w => v = (if (decide (0 < ((a : Nat) : Int))) = true then (.int .i64 ((a - 1 : Nat) : Int) : Value) else undef), fun v w => v = (if (decide (0 < ((a : Nat) : Int))) = true then (.pointer (some ⟨sb vo, so vo + (a - 1) * 10, none⟩) : Value) else undef), fun v w => v = (if (decide (0 < ((a : Nat) : Int))) = true then (.agg (((srt (l.take k)).getD (a - 1) default).cells (cellV w6 (sb vo) (so vo + (a - 1) * 10 + 3))).toArray : Value) else undef), fun v w => v = (if (decide (0 < ((a : Nat) : Int))) = true then (.bool (less (l[k]) ((srt (l.take k)).getD (a - 1) default)) : Value) else undef), fun v w => v = (.bool ((decide (0 < ((a : Nat) : Int))) && (less (l[k]) ((srt (l.take k)).getD (a - 1) default))) : Value)]) [[], [0], [0, 1], [0, 1, 2], [0, 1, 2], [0, 1, 2], [0, 1, 2, 5], [0, 1, 2, 4, 5, 6], [0, 1, 2, 4, 5, 6, 7], [0, 1, 2, 3, 4, 5, 6, 7, 8], [0, 1, 2, 3, 4, 5, 6, 7, 8, 9]] 11 (by kernel_rfl) (by kernel_rfl) (by kernel_rfl) (fun w => Chg.refl _ w) (fun _ _ _ h1 h2 => h1.trans h2) (stabL ⟨fun _ _ _ _ h => h, fun _ _ _ _ h => h, fun _ _ _ _ h => h, fun _ _ _ _ h => h, fun _ _ _ _ h => h, fun _ _ _ _ h => h, fun _ _ _ _ h => h, fun _ _ _ _ h => h, fun _ _ _ _ h => h, fun _ _ _ _ h => h, fun _ _ _ _ h => h, trivial⟩) ?_
      intro w7 qh1 qh2 qh3 qh4
      have hx29 := ext_same qh1 qh2 qh3 qh4
      refine ⟨⟨?_, ?_, ?_, ?_, ?_, ?_, ?_, ?_, ?_, ?_, ?_, trivial⟩, ?_⟩
      · intro vals w8 hR30 hA
        have hs31 := hR30.size
        refine obl rfl ?_
        exact ov_move (v := .int .i64 ((a : Nat) : Int)) rfl ⟨Chg.refl _ _, rfl⟩
      · intro vals w9 hR32 hA
        have hs33 := hR32.size
        have e0 : (vals 0) = (.int .i64 ((a : Nat) : Int) : Value) := hA 0 (by decide)
        refine obl rfl ?_
        exact ov_gtr (k := .i64) (a := ((a : Nat) : Int)) (b := 0) (show _ = (.int .i64 ((a : Nat) : Int) : Value) from e0) rfl ⟨Chg.refl _ _, rfl⟩
      · intro vals w10 hR34 hA
        have hs35 := hR34.size
        have e1 : (vals 1) = (.bool (decide (0 < ((a : Nat) : Int))) : Value) := hA 1 (by decide)
        refine obl rfl ?_
        exact ov_move (v := .bool (decide (0 < ((a : Nat) : Int)))) (show _ = (.bool (decide (0 < ((a : Nat) : Int))) : Value) from e1) ⟨Chg.refl _ _, rfl⟩
      · intro vals w11 hR36 hA
        have hs37 := hR36.size
        have e2 : (vals 2) = (.bool (decide (0 < ((a : Nat) : Int))) : Value) := hA 2 (by decide)
        refine oblc rfl rfl (show _ = (.bool (decide (0 < ((a : Nat) : Int))) : Value) from e2) (fun hb38 => ?_) (fun hb38 => (if_neg hb38).symm)
        have hl39 : (decide (0 < ((a : Nat) : Int))) = true := hb38
        have hl39 := of_decide_eq_true hl39
        have h40 := (Chg.trans (Chg.trans hx26 hx29) hR36).keep hp24.at_ (fun h => h)
        exact ov_loadk (k := 10) Try.isAgg29 Try.sizeOf29 rfl rfl (CellsAt.all h40) ⟨Chg.refl _ _, (if_pos hb38).symm⟩
      · intro vals w12 hR41 hA
        have hs42 := hR41.size
        have e2 : (vals 2) = (.bool (decide (0 < ((a : Nat) : Int))) : Value) := hA 2 (by decide)
        refine oblc rfl rfl (show _ = (.bool (decide (0 < ((a : Nat) : Int))) : Value) from e2) (fun hb43 => ?_) (fun hb43 => (if_neg hb43).symm)
        have hl44 : (decide (0 < ((a : Nat) : Int))) = true := hb43
        have hl44 := of_decide_eq_true hl44
        exact ov_move (v := vo) rfl ⟨Chg.refl _ _, (if_pos hb43).symm⟩
      · intro vals w13 hR45 hA
        have hs46 := hR45.size
        have e2 : (vals 2) = (.bool (decide (0 < ((a : Nat) : Int))) : Value) := hA 2 (by decide)
        refine oblc rfl rfl (show _ = (.bool (decide (0 < ((a : Nat) : Int))) : Value) from e2) (fun hb47 => ?_) (fun hb47 => (if_neg hb47).symm)
        have hl48 : (decide (0 < ((a : Nat) : Int))) = true := hb47
        have hl48 := of_decide_eq_true hl48
        exact ov_move (v := .int .i64 ((a : Nat) : Int)) rfl ⟨Chg.refl _ _, (if_pos hb47).symm⟩
      · intro vals w14 hR49 hA
        have hs50 := hR49.size
        have e2 : (vals 2) = (.bool (decide (0 < ((a : Nat) : Int))) : Value) := hA 2 (by decide)
        have e5 : (vals 5) = (if (decide (0 < ((a : Nat) : Int))) = true then (.int .i64 ((a : Nat) : Int) : Value) else undef) := hA 5 (by decide)
        refine oblc rfl rfl (show _ = (.bool (decide (0 < ((a : Nat) : Int))) : Value) from e2) (fun hb51 => ?_) (fun hb51 => (if_neg hb51).symm)
        have hl52 : (decide (0 < ((a : Nat) : Int))) = true := hb51
        have hl52 := of_decide_eq_true hl52
        have hr53 : InR ((a - 1 : Nat) : Int) := by omega
        exact ov_sub (r := ((a - 1 : Nat) : Int)) (k := .i64) (a := ((a : Nat) : Int)) (b := 1) (show _ = (.int .i64 ((a : Nat) : Int) : Value) from (Eq.trans e5 (if_pos hb51))) rfl (by rw [show (((a : Nat) : Int) - 1 : Int) = ((a - 1 : Nat) : Int) by omega]; exact wrap_in hr53) ⟨Chg.refl _ _, (if_pos hb51).symm⟩
      · intro vals w15 hR54 hA
        have hs55 := hR54.size
        have e2 : (vals 2) = (.bool (decide (0 < ((a : Nat) : Int))) : Value) := hA 2 (by decide)
        have e4 : (vals 4) = (if (decide (0 < ((a : Nat) : Int))) = true then (vo : Value) else undef) := hA 4 (by decide)
        have e6 : (vals 6) = (if (decide (0 < ((a : Nat) : Int))) = true then (.int .i64 ((a - 1 : Nat) : Int) : Value) else undef) := hA 6 (by decide)
        refine oblc rfl rfl (show _ = (.bool (decide (0 < ((a : Nat) : Int))) : Value) from e2) (fun hb56 => ?_) (fun hb56 => (if_neg hb56).symm)
        have hl57 : (decide (0 < ((a : Nat) : Int))) = true := hb56
        have hl57 := of_decide_eq_true hl57
        have hi58 : a - 1 < (srt (l.take k)).length := by omega
        have h60 := ho3.ext (Chg.trans (Chg.new (Chg.trans (Chg.new hn11.ext hp15.chg (fun i hi hO => by subst hO; omega)) hx17) hp24.chg (fun i hi hO => by subst hO; omega)) hx26)
        have hi59 : a - 1 < (srt (l.take k)).length := by omega
        obtain ⟨hc59, hd59, hok59⟩ := h60.ev hi59
        rw [← getD_at default hi59] at hc59 hd59 hok59
        exact ov_indexAddrN (k := 10) (i := a - 1) Try.underlying22 Try.sizeOf29 (show _ = (vo : Value) from (Eq.trans e4 (if_pos hb56))) ho3.isSl (show _ = (.int .i64 ((a - 1 : Nat) : Int) : Value) from (Eq.trans e6 (if_pos hb56))) hi58 ⟨Chg.refl _ _, (if_pos hb56).symm⟩
      · intro vals w16 hR61 hA
        have hs62 := hR61.size
        have e2 : (vals 2) = (.bool (decide (0 < ((a : Nat) : Int))) : Value) := hA 2 (by decide)
        have e7 : (vals 7) = (if (decide (0 < ((a : Nat) : Int))) = true then (.pointer (some ⟨sb vo, so vo + (a - 1) * 10, none⟩) : Value) else undef) := hA 7 (by decide)
        refine oblc rfl rfl (show _ = (.bool (decide (0 < ((a : Nat) : Int))) : Value) from e2) (fun hb63 => ?_) (fun hb63 => (if_neg hb63).symm)
        have hl64 : (decide (0 < ((a : Nat) : Int))) = true := hb63
        have hl64 := of_decide_eq_true hl64
        have h66 := ho3.ext (Chg.trans (Chg.new (Chg.trans (Chg.new hn11.ext hp15.chg (fun i hi hO => by subst hO; omega)) hx17) hp24.chg (fun i hi hO => by subst hO; omega)) hx26)
        have hi65 : a - 1 < (srt (l.take k)).length := by omega
        obtain ⟨hc65, hd65, hok65⟩ := h66.ev hi65
        rw [← getD_at default hi65] at hc65 hd65 hok65
        have h67 := hc65.mono (fun hb => (Chg.trans hx29 hR61).block _ hb (fun h => h))
        exact ov_loadk (k := 10) Try.isAgg29 Try.sizeOf29 rfl (show _ = (.pointer (some ⟨sb vo, so vo + (a - 1) * 10, none⟩) : Value) from (Eq.trans e7 (if_pos hb63))) h67 ⟨Chg.refl _ _, (if_pos hb63).symm⟩
      · intro vals w17 hR68 hA
        have hs69 := hR68.size
        have e2 : (vals 2) = (.bool (decide (0 < ((a : Nat) : Int))) : Value) := hA 2 (by decide)
        have e3 : (vals 3) = (if (decide (0 < ((a : Nat) : Int))) = true then (.agg ((l[k]).cells vd).toArray : Value) else undef) := hA 3 (by decide)
        have e8 : (vals 8) = (if (decide (0 < ((a : Nat) : Int))) = true then (.agg (((srt (l.take k)).getD (a - 1) default).cells (cellV w6 (sb vo) (so vo + (a - 1) * 10 + 3))).toArray : Value) else undef) := hA 8 (by decide)
        refine oblc rfl rfl (show _ = (.bool (decide (0 < ((a : Nat) : Int))) : Value) from e2) (fun hb70 => ?_) (fun hb70 => (if_neg hb70).symm)
        have hl71 : (decide (0 < ((a : Nat) : Int))) = true := hb70
        have hl71 := of_decide_eq_true hl71
        have h73 := ((((hfd.put hp24.chg (by omega)).ext hx26).ext hx29).ext hR68)
        have h72 := h73.rd
        have h75 := ho3.ext (Chg.trans (Chg.new (Chg.trans (Chg.new hn11.ext hp15.chg (fun i hi hO => by subst hO; omega)) hx17) hp24.chg (fun i hi hO => by subst hO; omega)) hx26)
        have hi74 : a - 1 < (srt (l.take k)).length := by omega
        obtain ⟨hc74, hd74, hok74⟩ := h75.ev hi74
        rw [← getD_at default hi74] at hc74 hd74 hok74
        have h76 := hd74.ext (Chg.trans hx29 hR68)
        exact ov_call (f := 16) (vals := [.agg ((l[k]).cells vd).toArray, .agg (((srt (l.take k)).getD (a - 1) default).cells (cellV w6 (sb vo) (so vo + (a - 1) * 10 + 3))).toArray]) (cap := []) (show _ = (.func (.func 16) #[] #[] : Value) from rfl) (mapL ⟨(show _ = (.agg ((l[k]).cells vd).toArray : Value) from (Eq.trans e3 (if_pos hb70))), (show _ = (.agg (((srt (l.take k)).getD (a - 1) default).cells (cellV w6 (sb vo) (so vo + (a - 1) * 10 + 3))).toArray : Value) from (Eq.trans e8 (if_pos hb70))), trivial⟩) Try.call16 (C_refLessS h72 hok9 h76 hok74) (fun _ _ h => ⟨h.2, h.1.trans (if_pos hb70).symm⟩)
      · intro vals w18 hR77 hA
        have hs78 := hR77.size
        have e2 : (vals 2) = (.bool (decide (0 < ((a : Nat) : Int))) : Value) := hA 2 (by decide)
        have e9 : (vals 9) = (if (decide (0 < ((a : Nat) : Int))) = true then (.bool (less (l[k]) ((srt (l.take k)).getD (a - 1) default)) : Value) else undef) := hA 9 (by decide)
        refine obl rfl ?_
        exact ov_pick_and (b := decide (0 < ((a : Nat) : Int))) (b' := less (l[k]) ((srt (l.take k)).getD (a - 1) default)) (show _ = (.bool (decide (0 < ((a : Nat) : Int))) : Value) from e2) (fun hbp => (show _ = (.bool (less (l[k]) ((srt (l.take k)).getD (a - 1) default)) : Value) from (Eq.trans e9 (if_pos hbp)))) ⟨Chg.refl _ _, rfl⟩
      intro vals w19 hR79 hA
      have hs80 := hR79.size
      have hs81 := hx29.size
      have e10 : (vals 10) = (.bool ((decide (0 < ((a : Nat) : Int))) && (less (l[k]) ((srt (l.take k)).getD (a - 1) default))) : Value) := hA 10 (by decide)
      refine st_env (kv := [(0, vl), (3, vo), (4, .int .i64 ((k : Nat) : Int)), (5, .pointer (some ⟨b12, 0, none⟩)), (8, .int .i64 ((a : Nat) : Int)), (49, .bool ((decide (0 < ((a : Nat) : Int))) && (less (l[k]) ((srt (l.take k)).getD (a - 1) default))))]) ⟨rfl, rfl, rfl, rfl, rfl, e10, trivial⟩ (fun ρ19 => ?_)
      clear e10
      clear hA qh1 qh2 qh3 qh4
      refine st_nil ?_
      cases hc82 : (decide (0 < ((a : Nat) : Int))) && (less (l[k]) ((srt (l.take k)).getD (a - 1) default))
      · skip
        simp only [Bool.and_eq_true, Bool.or_eq_true, Bool.and_eq_false_iff, Bool.or_eq_false_iff, decide_eq_true_eq, decide_eq_false_iff_not, Bool.not_eq_true', Bool.not_eq_false', Int.not_lt, Int.not_le] at hc82
        have hstop : insPos (srt (l.take k)) l[k] a = a := insPos_stop (hc82.imp (fun h => by omega) (fun h => h))
        refine WP_cond_f rfl ?_
        refine WP_exit ?_
        refine blk_exit ?_
        refine WP_seq ?_
        refine WP_region0 (by kernel_rfl) (fun _ => ?_)
        refine st (ov_move (v := vo) rfl ?_)
        have h83 := (Chg.trans (Chg.trans hx26 hx29) hR79).keep hp24.at_ (fun h => h)
        refine st (ov_loadk (k := 10) Try.isAgg29 Try.sizeOf29 rfl rfl (CellsAt.all h83) ?_)
        refine st (ov_buildSlice (k := 10) (parts' := [(0, .agg ((l[k]).cells vd).toArray)]) (c := ((l[k]).cells vd).toArray) Try.underlying22 Try.sizeOf29 Try.zeroValue29 (by decide) rfl (by kernel_rfl) (fun w20 b85 hn84 => ?_))
        have hb86 : w20.heap[b85]? = some (.cells ((l[k]).cells vd).toArray 29) := hn84.at_
        have hs87 := hn84.size; have hs87e := hn84.eq
        have h88 := (((((hfd.put hp24.chg (by omega)).ext hx26).ext hx29).ext hR79).ext hn84.ext)
        have h89 := ho3.ext (Chg.trans (Chg.trans (Chg.trans (Chg.trans (Chg.new (Chg.trans (Chg.new hn11.ext hp15.chg (fun i hi hO => by subst hO; omega)) hx17) hp24.chg (fun i hi hO => by subst hO; omega)) hx26) hx29) hR79) hn84.ext)
        have h90 := hn84.ext.keep h83 (fun h => h)
        refine st (ov_append1 (bytes := 96) (x1 := l[k]) (F' := (fun b => G b ∨ vd.ownBlock = some b ∨ b = b12)) elem22 rfl h89 rfl hb86 (G := (fun b => G b ∨ vd.ownBlock = some b ∨ b = b12)) (show Rep.rd _ _ _ _ from ⟨_, rfl, (h88.rdInt).weak (fun _ _ h => .inr (.inl h)), hok9⟩) (fun _ h => .inl h) (fun _ _ h => h) (fun b hb h => h.elim (ho3.apart b hb) (fun h => h.elim (fun h => by have h1 := (ho3.lt b hb).2; have h2 := (hfd.lt b h).1; omega) (fun h => by have h : b = b12 := h; have h1 := (ho3.lt b hb).2; omega))) (fun b h => h.elim (h89.bound b) (fun h => h.elim (fun h => (h88.lt b h).2) (fun h => by have h : b = b12 := h; omega))) (by omega) (by first | omega | (simp only [List.length_take, List.length_drop, List.length_nil, List.length_append, List.length_cons]; omega)) rfl (fun v91 w21 ho92 hch93 => ?_))
        have hla94 : (srt (l.take k) ++ [l[k]]).length = (srt (l.take k)).length + 1 := by simp only [List.length_append, List.length_cons, List.length_nil]
        have hs95 := hch93.size
        refine st (ov_assign (v := v91) rfl ?_)
        refine st_nil ?_
        refine WP_seq ?_
        refine WP_seq ?_
        refine WP_region0 (by kernel_rfl) (fun _ => ?_)
        refine st (ov_move (v := v91) rfl ?_)
        refine st (ov_len (n := (srt (l.take k) ++ [l[k]]).length) Try.underlying22 rfl ho92.isSl ?_)
        have hr96 : InR ((((srt (l.take k) ++ [l[k]]).length) - 1 : Nat) : Int) := by omega
        refine st (ov_sub (r := ((((srt (l.take k) ++ [l[k]]).length) - 1 : Nat) : Int)) (k := .i64) (a := (((srt (l.take k) ++ [l[k]]).length : Nat) : Int)) (b := 1) rfl rfl (by rw [show ((((srt (l.take k) ++ [l[k]]).length : Nat) : Int) - 1 : Int) = ((((srt (l.take k) ++ [l[k]]).length) - 1 : Nat) : Int) by omega]; exact wrap_in hr96) ?_)
        refine st (ov_assign (v := .int .i64 ((((srt (l.take k) ++ [l[k]]).length) - 1 : Nat) : Int)) rfl ?_)
        refine st_nil ?_
        refine WP_block ?_
        have hr97 : RdS w21 (fun b => G b ∨ vd.ownBlock = some b ∨ b = b12) vd (l[k]).deps := RdS.own (h88.rdInt.weak (fun _ _ h => .inr (.inl h))) (h89.weak (F' := (fun b => G b ∨ vd.ownBlock = some b ∨ b = b12)) (fun _ h => .inl h) (fun b hb h => h.elim (ho3.apart b hb) (fun h => h.elim (fun h => by have h1 := (ho3.lt b hb).2; have h2 := (hfd.lt b h).1; omega) (fun h => by have h : b = b12 := h; have h1 := (ho3.lt b hb).2; omega))) (fun b h => h.elim (h89.bound b) (fun h => h.elim (fun h => (h88.lt b h).2) (fun h => by have h : b = b12 := h; omega)))) hch93
        have hap : ∀ i, v91.ownBlock = some i → b12 ≠ i := fun i hi e => ho92.apart i hi (.inr (.inr e.symm))
        refine WP_loop (fun m σ wq => ∃ (q : Nat) (L3 : List Ev) (ρ : Env), m = 2 * q ∧ σ = setAll ρ [(0, vl), (3, v91), (4, .int .i64 ((k : Nat) : Int)), (5, .pointer (some ⟨b12, 0, none⟩)), (8, .int .i64 ((a : Nat) : Int)), (9, .int .i64 ((q : Nat) : Int))] ∧ (Chg (fun i => v91.ownBlock = some i) w21 wq) ∧ (OwnS 29 w.heap.size wq (fun b => G b ∨ vd.ownBlock = some b ∨ b = b12) v91 L3) ∧ (RdS wq (fun b => G b ∨ vd.ownBlock = some b ∨ b = b12) vd (l[k]).deps) ∧ (wq.heap[b12]? = some (.cells ((l[k]).cells vd).toArray 29)) ∧ (q ≤ (srt (l.take k)).length) ∧ (L3.length = (srt (l.take k)).length + 1) ∧ (shiftS a q L3 = shiftS a (((srt (l.take k)) ++ [l[k]]).length - 1) ((srt (l.take k)) ++ [l[k]]))) ⟨((srt (l.take k)) ++ [l[k]]).length - 1, (srt (l.take k)) ++ [l[k]], _, rfl, setAll_self ⟨rfl, rfl, rfl, rfl, rfl, rfl, trivial⟩, (Chg.refl _ _), ho92, hr97, (hch93.keep h90 (fun hO => by have h1 := (ho3.lt _ hO).2; omega)), by omega, by omega, rfl⟩ ?_
        rintro m98 σ99 w22 ⟨q, L3, ρ22, rfl, rfl, hx3, ho3, hd3, hb3, hq, hl3, hs3⟩
        have hx3s := hx3.size
        have hsm3 : L3.length * 96 ≤ 140737488355328 := ho3.small
        refine WP_seq ?_
        refine WP_seq ?_
        refine WP_region0 (by kernel_rfl) (fun _ => ?_)
        refine st (ov_move (v := .int .i64 ((q : Nat) : Int)) rfl ?_)
        refine st (ov_move (v := .int .i64 ((a : Nat) : Int)) rfl ?_)
        refine st (ov_gtr (k := .i64) (a := ((q : Nat) : Int)) (b := ((a : Nat) : Int)) rfl rfl ?_)
        refine st_nil ?_
        cases hc100 : decide (((a : Nat) : Int) < ((q : Nat) : Int))
        · skip
          have hc100 := of_decide_eq_false hc100
          refine WP_cond_f rfl ?_
          refine WP_exit ?_
          refine blk_exit ?_
          refine WP_region0 (by kernel_rfl) (fun _ => ?_)
          refine st (ov_move (v := v91) rfl ?_)
          refine st (ov_move (v := .int .i64 ((a : Nat) : Int)) rfl ?_)
          refine st (ov_loadk (k := 10) Try.isAgg29 Try.sizeOf29 rfl rfl (CellsAt.all hb3) ?_)
          have hi101 : a < L3.length := by omega
          have hi102 : a < L3.length := by omega
          obtain ⟨hc102, hd102, hok102⟩ := ho3.ev hi102
          refine st (ov_indexAddrN (k := 10) (i := a) Try.underlying22 Try.sizeOf29 rfl ho3.isSl rfl hi101 ?_)
          refine stn (ov_storeOwn (i := a) (u := .agg ((l[k]).cells vd).toArray) Try.sizeOf29 ho3 (by first | omega | (simp only [List.length_set]; omega)) rfl rfl rfl (show Rep.rd _ _ _ (l[k]) from ⟨_, rfl, hd3, hok9⟩) (fun w23 ho104 hch103 => ?_))
          have h105 := hd3.own ho3 hch103
          have h106 := hch103.keep hb3 (fun e => hap _ e rfl)
          have h107 := hd102.own ho3 hch103
          have hs108 := hch103.size
          refine st_nil ?_
          refine WP_region0 (by kernel_rfl) (fun _ => ?_)
          refine st (ov_move (v := .int .i64 ((k : Nat) : Int)) rfl ?_)
          have hr109 : InR ((k + 1 : Nat) : Int) := by omega
          refine st (ov_add (r := ((k + 1 : Nat) : Int)) (k := .i64) (a := ((k : Nat) : Int)) (b := 1) rfl rfl (by rw [show (((k : Nat) : Int) + 1 : Int) = ((k + 1 : Nat) : Int) by omega]; exact wrap_in hr109) ?_)
          refine st (ov_assign (v := .int .i64 ((k + 1 : Nat) : Int)) rfl ?_)
          refine st_nil ?_
          exact ⟨_, by omega, k + 1, v91, (fun b => G b ∨ vd.ownBlock = some b ∨ b = b12), _, rfl, setAll_self ⟨rfl, rfl, rfl, trivial⟩, (Chg.new (Chg.new (Chg.new (Chg.trans (Chg.trans (Chg.trans (Chg.trans (Chg.new (Chg.trans (Chg.new (Chg.trans hx1 hn11.ext) hp15.chg (fun i hi hO => by subst hO; omega)) hx17) hp24.chg (fun i hi hO => by subst hO; omega)) hx26) hx29) hR79) hn84.ext) hch93 (fun i hi hO => by have := (h89.lt i hO).1; omega)) hx3 (fun i hi hO => by have := (ho92.lt i hO).1; omega)) hch103 (fun i hi hO => by have := (ho3.lt i hO).1; omega)), by omega, (by rw [srt_take (by omega), ← shift_ins (hin.symm.trans hstop), show (srt (l.take k)).length + 1 - 1 = ((srt (l.take k)) ++ [l[k]]).length - 1 by simp, ← hs3, shiftS_no (by omega)]; exact ho104), (fun b h => h.elim (hF4 b) (fun h => h.elim (fun h => by have := (hfd.lt b h).1; omega) (fun h => by have h : b = b12 := h; omega)))⟩
        · skip
          have hc100 := of_decide_eq_true hc100
          refine WP_cond_t rfl ?_
          refine WP_skip ?_
          refine WP_seq ?_
          refine WP_block ?_
          refine WP_region0 (by kernel_rfl) (fun _ => ?_)
          refine st (ov_move (v := v91) rfl ?_)
          refine st (ov_move (v := .int .i64 ((q : Nat) : Int)) rfl ?_)
          refine st (ov_move (v := v91) rfl ?_)
          refine st (ov_move (v := .int .i64 ((q : Nat) : Int)) rfl ?_)
          have hr110 : InR ((q - 1 : Nat) : Int) := by omega
          refine st (ov_sub (r := ((q - 1 : Nat) : Int)) (k := .i64) (a := ((q : Nat) : Int)) (b := 1) rfl rfl (by rw [show (((q : Nat) : Int) - 1 : Int) = ((q - 1 : Nat) : Int) by omega]; exact wrap_in hr110) ?_)
          have hi111 : q - 1 < L3.length := by omega
          have hi112 : q - 1 < L3.length := by omega
          obtain ⟨hc112, hd112, hok112⟩ := ho3.ev hi112
          rw [← getD_at default hi112] at hc112 hd112 hok112
          refine st (ov_indexAddrN (k := 10) (i := q - 1) Try.underlying22 Try.sizeOf29 rfl ho3.isSl rfl hi111 ?_)
          refine st (ov_loadk (k := 10) Try.isAgg29 Try.sizeOf29 rfl rfl hc112 ?_)
          have hi113 : q < L3.length := by omega
          refine st (ov_indexAddrN (k := 10) (i := q) Try.underlying22 Try.sizeOf29 rfl ho3.isSl rfl hi113 ?_)
          refine stn (ov_storeOwn (i := q) (u := .agg ((L3.getD (q - 1) default).cells (cellV w22 (sb v91) (so v91 + (q - 1) * 10 + 3))).toArray) Try.sizeOf29 ho3 (by first | omega | (simp only [List.length_set]; omega)) rfl rfl rfl (show Rep.rd _ _ _ (L3.getD (q - 1) default) from ⟨_, rfl, hd112, hok112⟩) (fun w24 ho115 hch114 => ?_))
          have h116 := hd3.own ho3 hch114
          have h117 := hch114.keep hb3 (fun e => hap _ e rfl)
          have h118 := hd112.own ho3 hch114
          have hs119 := hch114.size
          refine st_nil ?_
          refine WP_region0 (by kernel_rfl) (fun _ => ?_)
          refine st (ov_move (v := .int .i64 ((q : Nat) : Int)) rfl ?_)
          have hr120 : InR ((q - 1 : Nat) : Int) := by omega
          refine st (ov_sub (r := ((q - 1 : Nat) : Int)) (k := .i64) (a := ((q : Nat) : Int)) (b := 1) rfl rfl (by rw [show (((q : Nat) : Int) - 1 : Int) = ((q - 1 : Nat) : Int) by omega]; exact wrap_in hr120) ?_)
          refine st (ov_assign (v := .int .i64 ((q - 1 : Nat) : Int)) rfl ?_)
          refine st_nil ?_
          exact ⟨_, by omega, q - 1, L3.set q (L3.getD (q - 1) default), _, rfl, setAll_self ⟨rfl, rfl, rfl, rfl, rfl, rfl, trivial⟩, (Chg.trans hx3 hch114), ho115, h116, h117, by omega, by simp only [List.length_set]; exact hl3, (by rw [← hs3]; exact (shiftS_yes (by omega)).symm)⟩
      · skip
        simp only [Bool.and_eq_true, Bool.or_eq_true, Bool.and_eq_false_iff, Bool.or_eq_false_iff, decide_eq_true_eq, decide_eq_false_iff_not, Bool.not_eq_true', Bool.not_eq_false', Int.not_lt, Int.not_le] at hc82
        refine WP_cond_t rfl ?_
        refine WP_skip ?_
        refine WP_block ?_
        refine WP_region0 (by kernel_rfl) (fun _ => ?_)
        refine st (ov_move (v := .int .i64 ((a : Nat) : Int)) rfl ?_)
        have hr121 : InR ((a - 1 : Nat) : Int) := by omega
        refine st (ov_sub (r := ((a - 1 : Nat) : Int)) (k := .i64) (a := ((a : Nat) : Int)) (b := 1) rfl rfl (by rw [show (((a : Nat) : Int) - 1 : Int) = ((a - 1 : Nat) : Int) by omega]; exact wrap_in hr121) ?_)
        refine st (ov_assign (v := .int .i64 ((a - 1 : Nat) : Int)) rfl ?_)
        refine st_nil ?_
        exact ⟨_, by omega, a - 1, _, rfl, setAll_self ⟨rfl, rfl, rfl, rfl, rfl, trivial⟩, (Chg.trans (Chg.trans hx26 hx29) hR79), by omega, (by rw [← hin]; exact (insPos_go (by omega) hc82.2).symm)⟩
    · skip
      have hc23 := of_decide_eq_true hc23
      refine WP_cond_t rfl ?_
      refine WP_skip ?_
      refine WP_seq ?_
      refine WP_block ?_
      refine WP_region0 (by kernel_rfl) (fun _ => ?_)
      refine st (ov_move (v := vd) rfl ?_)
      refine st (fa29_2 rfl ?_)
      refine st (ov_load1 (v := (cellV w1 (sb vl) (so vl + k * 10 + 3))) Try.isAgg27 rfl (blk_cellL h22 rfl) ?_)
      refine st (ov_move (v := .int .i64 ((k2 : Nat) : Int)) rfl ?_)
      have hi122 : k2 < ((l[k]).deps).length := by omega
      have h124 := hd9.ext (Chg.trans (Chg.new hn11.ext hp15.chg (fun i hi hO => by subst hO; omega)) hx17)
      have hi123 : k2 < ((l[k]).deps).length := by omega
      obtain ⟨hc123, hx123⟩ := h124.int hi123
      refine st (ov_indexAddrN (k := 1) (i := k2) Try.underlying27 Try.sizeOf3 rfl hd9.sl rfl hi122 ?_)
      refine st (ov_load1 (v := .int .i64 (((l[k]).deps)[k2])) Try.isAgg3 rfl (hc123.get (j := 0) rfl) ?_)
      refine st (ov_buildSlice (k := 1) (parts' := [(0, .int .i64 (((l[k]).deps)[k2]))]) (c := #[.int .i64 (((l[k]).deps)[k2])]) Try.underlying27 Try.sizeOf3 Try.zeroValue3 (by decide) rfl (by kernel_rfl) (fun w25 b126 hn125 => ?_))
      have hb127 : w25.heap[b126]? = some (.cells #[.int .i64 (((l[k]).deps)[k2])] 3) := hn125.at_
      have hs128 := hn125.size; have hs128e := hn125.eq
      have hrd129 : RdS (α := Int) w25 (fun _ => True) ((.slice (some ⟨b126, 0, none⟩) 1 1)) [((l[k]).deps)[k2]] := RdS.ints (l := [((l[k]).deps)[k2]]) hb127 ⟨hx123, trivial⟩
      have h133 := ho19.ext hn125.ext
      refine st (ov_append1 (bytes := 8) (x1 := (l[k]).deps[k2]) (F' := (fun _ => False)) elem27 rfl h133 rfl hb127 (G := fun _ => False) (show Rep.rd _ _ _ _ from ⟨rfl, hx123⟩) (fun _ h => h) (fun _ _ h => h) h133.apart h133.bound (by omega) (by first | omega | (simp only [List.length_take, List.length_drop, List.length_nil, List.length_append, List.length_cons]; omega)) rfl (fun v130 w26 ho131 hch132 => ?_))
      have hla134 : ((l[k]).deps.take k2 ++ [(l[k]).deps[k2]]).length = ((l[k]).deps.take k2).length + 1 := by simp only [List.length_append, List.length_cons, List.length_nil]
      have hs135 := hch132.size
      refine st (ov_assign (v := v130) rfl ?_)
      refine st_nil ?_
      refine WP_region0 (by kernel_rfl) (fun _ => ?_)
      refine st (ov_move (v := .int .i64 ((k2 : Nat) : Int)) rfl ?_)
      have hr136 : InR ((k2 + 1 : Nat) : Int) := by omega
      refine st (ov_add (r := ((k2 + 1 : Nat) : Int)) (k := .i64) (a := ((k2 : Nat) : Int)) (b := 1) rfl rfl (by rw [show (((k2 : Nat) : Int) + 1 : Int) = ((k2 + 1 : Nat) : Int) by omega]; exact wrap_in hr136) ?_)
      refine st (ov_assign (v := .int .i64 ((k2 + 1 : Nat) : Int)) rfl ?_)
      refine st_nil ?_
      exact ⟨_, by omega, k2 + 1, v130, _, rfl, setAll_self ⟨rfl, rfl, rfl, rfl, rfl, rfl, trivial⟩, (Chg.new (Chg.trans hx17 hn125.ext) hch132 (fun i hi hO => by have := (h133.lt i hO).1; omega)), by omega, (by rw [List.take_succ_eq_append_getElem (by omega)]; exact ho131)⟩

end Go.Proofs.Ytbbhpddgjiifmaa
