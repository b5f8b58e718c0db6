/- Steps of the proofs of this seat: part LTurns. -/
import Derived.Test.YtbbpmhfcgoljdaaL0
set_option linter.unusedSimpArgs false
set_option linter.unusedVariables false
namespace Go.Proofs.Ytbbpmhfcgoljdaa
open Go.Proofs Go.RowKit

def turnQ (l : List Ent) (g : List Int) (q k : Nat) : List PE := (List.range k).map fun i => (l.getD ((i + q) % l.length) default, regI g ((i + q) % l.length))
def revQ (l : List Ent) (g : List Int) (k : Nat) : List PE := (List.range k).map fun i => (l.getD (l.length - 1 - i) default, regI g (l.length - 1 - i))
theorem turnQ_succ (l : List Ent) (g : List Int) (q k : Nat) : turnQ l g q (k + 1) = turnQ l g q k ++ [(l.getD ((k + q) % l.length) default, regI g ((k + q) % l.length))] := by
  unfold turnQ; rw [List.range_succ, List.map_append]; rfl
theorem revQ_succ (l : List Ent) (g : List Int) (k : Nat) : revQ l g (k + 1) = revQ l g k ++ [(l.getD (l.length - 1 - k) default, regI g (l.length - 1 - k))] := by
  unfold revQ; rw [List.range_succ, List.map_append]; rfl
theorem turnQ_len (l : List Ent) (g : List Int) (q k : Nat) : (turnQ l g q k).length = k := by simp [turnQ]
theorem revQ_len (l : List Ent) (g : List Int) (k : Nat) : (revQ l g k).length = k := by simp [revQ]
theorem pairs_get {l : List Ent} {g : List Int} {i : Nat} (h : i < l.length) (h2 : i < (pairs l g).length) : (pairs l g)[i] = (l.getD i default, regI g i) := by
  have := pairs_at (g := g) h
  rw [List.getElem?_eq_getElem h2] at this
  rw [Option.some.inj this, getD_at _ h]
theorem revQ_perm (l : List Ent) (g : List Int) : (revQ l g l.length).Perm (pairs l g) := by
  have : revQ l g l.length = (pairs l g).reverse := by
    refine List.ext_getElem (by rw [revQ_len, List.length_reverse, pairs_length]) fun i h1 h2 => ?_
    rw [revQ_len] at h1
    rw [List.getElem_reverse, pairs_get (by rw [pairs_length]; omega)]
    simp [revQ, pairs_length]
  rw [this]; exact List.reverse_perm _
theorem turnQ_perm (l : List Ent) (g : List Int) (q : Nat) : (turnQ l g q l.length).Perm (pairs l g) := by
  rcases Nat.eq_zero_or_pos l.length with h0 | h0
  · rw [h0]
    have : pairs l g = [] := List.length_eq_zero_iff.1 (by rw [pairs_length]; exact h0)
    rw [this]; exact List.Perm.refl _
  have hr := Nat.mod_lt q h0
  have : turnQ l g q l.length = (pairs l g).drop (q % l.length) ++ (pairs l g).take (q % l.length) := by
    refine List.ext_getElem (by rw [turnQ_len, List.length_append, List.length_drop, List.length_take, pairs_length]; omega) fun i h1 h2 => ?_
    rw [turnQ_len] at h1
    have e : (i + q) % l.length = if i < l.length - q % l.length then i + q % l.length else i - (l.length - q % l.length) := by
      rw [← Nat.add_mod_mod]
      split
      · exact Nat.mod_eq_of_lt (by omega)
      · rw [Nat.mod_eq_sub_mod (by omega), Nat.mod_eq_of_lt (by omega)]; omega
    have e2 : (turnQ l g q l.length)[i]'(by rw [turnQ_len]; exact h1) = (l.getD ((i + q) % l.length) default, regI g ((i + q) % l.length)) := by simp [turnQ]
    rw [e2, e, List.getElem_append]
    simp only [List.length_drop, pairs_length]
    split
    · rw [List.getElem_drop, pairs_get (by omega), Nat.add_comm]
    · rw [List.getElem_take, pairs_get (by omega)]
  rw [this]
  have h := (List.perm_append_comm (l₁ := (pairs l g).drop (q % l.length)) (l₂ := (pairs l g).take (q % l.length)))
  rw [List.take_append_drop] at h
  exact h
theorem turn_rows {p : Prj} (hp : ¬ p.pmake = 5) {l : List Ent} {g : List Int} {q k : Nat} (hk : k = l.length) : rowsL p (entsOf (turnQ l g q k)) (regsOf (turnQ l g q k)) = rowsL p l g := by
  subst hk
  rw [rowsL_eq, rowsL_eq, entsOf, regsOf, pairs_zip]; exact rows_perm hp (turnQ_perm l g q)
theorem rev_rows {p : Prj} (hp : ¬ p.pmake = 5) {l : List Ent} {g : List Int} {k : Nat} (hk : k = l.length) : rowsL p (entsOf (revQ l g k)) (regsOf (revQ l g k)) = rowsL p l g := by
  subst hk
  rw [rowsL_eq, rowsL_eq, entsOf, regsOf, pairs_zip]; exact rows_perm hp (revQ_perm l g)

set_option maxHeartbeats 4000000 in
theorem C_ProjTurns {w : World} {p : Prj} (op : p.Ok) {Fl : Nat → Prop} {vl : Value} {l : List Ent} (hl0 : RdS w Fl vl l) {Fg : Nat → Prop} {vg : Value} {g : List Int} (hg : RdS w Fg vg g) {t : Int} (ht : InR t) : Ret Try.prog 4 [.agg (p.cells).toArray, vl, vg, .int .i64 (t)] w (fun r w' => r = .bool true ∧ Ext w w') := by
  have hgs : g.length * 8 ≤ 140737488355328 := hg.small
  have hl := hl0.bnd
  have hls : l.length * 120 ≤ 140737488355328 := hl.small
  refine Calls_of_WP (args := [.agg (p.cells).toArray, vl, vg, .int .i64 (t)]) Try.func4 rfl rfl ?_
  refine WP_seq ?_
  refine WP_region0 (by kernel_rfl) (fun _ => ?_)
  refine st (ov_box (v := .agg (p.cells).toArray) rfl (fun w1 b2 hn1 => ?_))
  have hb3 : w1.heap[b2]? = some (.cells (p.cells).toArray 23) := hn1.at_
  have hs4 := hn1.size; have hs4e := hn1.eq
  refine st (ov_assign (v := .bool false) rfl ?_)
  refine st_nil ?_
  refine WP_seq ?_
  refine WP_seq ?_
  refine WP_region (by kernel_rfl) ?_
  refine st (ov_move (v := vl) rfl ?_)
  have h8 := hl.ext hn1.ext
  refine st (ov_call (f := 9) (vals := [vl]) (cap := []) (show _ = (.func (.func 9) #[] #[] : Value) from rfl) rfl Try.call9 (C_Long h8) ?_)
  rintro _ w2 ⟨bb5, rfl, hlong7, hx6⟩
  have hx6s := hx6.size
  refine st (ov_move (v := .bool bb5) rfl ?_)
  refine stc (V := vg) rfl rfl (fun hb9 => ?_) ?_
  · have hl10 : bb5 = false := hb9
    exact ov_move (v := vg) rfl ⟨rfl, rfl⟩
  refine stc (V := .int .i64 ((g.length : Nat) : Int)) rfl rfl (fun hb11 => ?_) ?_
  · have hl12 : bb5 = false := hb11
    exact ov_len (n := g.length) Try.underlying25 (show _ = (vg : Value) from (if_pos hb11)) hg.sl ⟨rfl, rfl⟩
  refine stc (V := .bool (decide (100 < ((g.length : Nat) : Int)))) rfl rfl (fun hb13 => ?_) ?_
  · have hl14 : bb5 = false := hb13
    exact ov_gtr (k := .i64) (a := ((g.length : Nat) : Int)) (b := 100) (show _ = (.int .i64 ((g.length : Nat) : Int) : Value) from (if_pos hb13)) rfl ⟨rfl, rfl⟩
  refine st (ov_pick_or (b := bb5) (b' := decide (100 < ((g.length : Nat) : Int))) rfl (fun hbp => (show _ = (.bool (decide (100 < ((g.length : Nat) : Int))) : Value) from (if_pos hbp))) ?_)
  refine st (ov_move (v := .bool (bb5 || (decide (100 < ((g.length : Nat) : Int))))) rfl ?_)
  refine stc (V := .pointer (some ⟨b2, 4, none⟩)) rfl rfl (fun hb15 => ?_) ?_
  · have hl16 : (bb5 || (decide (100 < ((g.length : Nat) : Int)))) = false := hb15
    simp only [Bool.and_eq_true, Bool.or_eq_true, Bool.and_eq_false_iff, Bool.or_eq_false_iff, decide_eq_true_eq, decide_eq_false_iff_not, Bool.not_eq_true', Bool.not_eq_false', Int.not_lt, Int.not_le] at hl16
    exact fa23_4 rfl ⟨rfl, rfl⟩
  refine stc (V := .int .i64 (p.pmake)) rfl rfl (fun hb17 => ?_) ?_
  · have hl18 : (bb5 || (decide (100 < ((g.length : Nat) : Int)))) = false := hb17
    simp only [Bool.and_eq_true, Bool.or_eq_true, Bool.and_eq_false_iff, Bool.or_eq_false_iff, decide_eq_true_eq, decide_eq_false_iff_not, Bool.not_eq_true', Bool.not_eq_false', Int.not_lt, Int.not_le] at hl18
    have h19 := hx6.keep hb3 (fun h => h)
    exact ov_load1 (v := .int .i64 (p.pmake)) Try.isAgg3 (show _ = (.pointer (some ⟨b2, 4, none⟩) : Value) from (if_pos hb17)) (blk_cellL h19 rfl) ⟨rfl, rfl⟩
  refine stc (V := .bool (decide (p.pmake = 5))) rfl rfl (fun hb20 => ?_) ?_
  · have hl21 : (bb5 || (decide (100 < ((g.length : Nat) : Int)))) = false := hb20
    simp only [Bool.and_eq_true, Bool.or_eq_true, Bool.and_eq_false_iff, Bool.or_eq_false_iff, decide_eq_true_eq, decide_eq_false_iff_not, Bool.not_eq_true', Bool.not_eq_false', Int.not_lt, Int.not_le] at hl21
    exact ov_eql (k := .i64) (a := p.pmake) (b := 5) (show _ = (.int .i64 (p.pmake) : Value) from (if_pos hb20)) rfl ⟨rfl, rfl⟩
  refine st (ov_pick_or (b := bb5 || (decide (100 < ((g.length : Nat) : Int)))) (b' := decide (p.pmake = 5)) rfl (fun hbp => (show _ = (.bool (decide (p.pmake = 5)) : Value) from (if_pos hbp))) ?_)
  refine st_nil ?_
  cases hc22 : (bb5 || (decide (100 < ((g.length : Nat) : Int)))) || (decide (p.pmake = 5))
  · skip
    simp only [Bool.and_eq_true, Bool.or_eq_true, Bool.and_eq_false_iff, Bool.or_eq_false_iff, decide_eq_true_eq, decide_eq_false_iff_not, Bool.not_eq_true', Bool.not_eq_false', Int.not_lt, Int.not_le] at hc22
    have hl300 := hlong7 hc22.1.1
    refine WP_cond_f rfl ?_
    refine WP_skip ?_
    refine WP_seq ?_
    refine WP_region0 (by kernel_rfl) (fun _ => ?_)
    refine st (ov_move (v := .int .i64 (t)) rfl ?_)
    refine st (ov_move (v := vl) rfl ?_)
    refine st (ov_len (n := l.length) Try.underlying24 rfl h8.sl ?_)
    have hr23 : InR ((l.length + 1 : Nat) : Int) := by omega
    refine st (ov_add (r := ((l.length + 1 : Nat) : Int)) (k := .i64) (a := ((l.length : Nat) : Int)) (b := 1) rfl rfl (by rw [show (((l.length : Nat) : Int) + 1 : Int) = ((l.length + 1 : Nat) : Int) by omega]; exact wrap_in hr23) ?_)
    refine st (ov_call (f := 14) (vals := [.int .i64 (t), .int .i64 ((l.length + 1 : Nat) : Int)]) (cap := []) (show _ = (.func (.func 14) #[] #[] : Value) from rfl) rfl Try.call14 (C_Pick (n := l.length + 1) ht (by omega) (by omega)) ?_)
    rintro _ w3 ⟨q24, rfl, hq25, hx26⟩
    have hx26s := hx26.size
    refine st (ov_assign (v := .int .i64 ((q24 : Nat) : Int)) rfl ?_)
    refine st_nil ?_
    refine WP_seq ?_
    refine WP_region0 (by kernel_rfl) (fun _ => ?_)
    refine st (ov_assign (v := (.slice none 0 0)) rfl ?_)
    refine st_nil ?_
    refine WP_seq ?_
    refine WP_region0 (by kernel_rfl) (fun _ => ?_)
    refine st (ov_assign (v := (.slice none 0 0)) rfl ?_)
    refine st_nil ?_
    refine WP_seq ?_
    refine WP_region0 (by kernel_rfl) (fun _ => ?_)
    refine st (ov_assign (v := (.slice none 0 0)) rfl ?_)
    refine st_nil ?_
    refine WP_seq ?_
    refine WP_region0 (by kernel_rfl) (fun _ => ?_)
    refine st (ov_assign (v := (.slice none 0 0)) rfl ?_)
    refine st_nil ?_
    refine WP_seq ?_
    refine WP_seq ?_
    refine WP_region0 (by kernel_rfl) (fun _ => ?_)
    refine st (ov_assign (v := .int .i64 (0)) rfl ?_)
    refine st_nil ?_
    refine WP_block ?_
    refine WP_loop (fun mq σ wq => ∃ (k : Nat) (vx : Value) (vr : Value) (vy : Value) (vz : Value) (ρ : Env), mq = l.length - k ∧ σ = setAll ρ [(1, vl), (2, vg), (3, .int .i64 ((q24 : Nat) : Int)), (4, .pointer (some ⟨b2, 0, none⟩)), (13, .int .i64 ((k : Nat) : Int)), (9, vx), (10, vr), (11, vy), (12, vz)] ∧ (Ext w3 wq) ∧ (k ≤ l.length) ∧ (OwnS (α := Ent) 38 w3.heap.size wq (fun b => b < w.heap.size) vx (entsOf (turnQ l g q24 k))) ∧ (OwnS (α := Int) 3 w3.heap.size wq (fun _ => False) vr (regsOf (turnQ l g q24 k))) ∧ (OwnS (α := Ent) 38 w3.heap.size wq (fun b => b < w.heap.size) vy (entsOf (revQ l g k))) ∧ (OwnS (α := Int) 3 w3.heap.size wq (fun _ => False) vz (regsOf (revQ l g k))) ∧ (∀ b, vx.ownBlock = some b → vr.ownBlock ≠ some b) ∧ (∀ b, vx.ownBlock = some b → vy.ownBlock ≠ some b) ∧ (∀ b, vx.ownBlock = some b → vz.ownBlock ≠ some b) ∧ (∀ b, vr.ownBlock = some b → vy.ownBlock ≠ some b) ∧ (∀ b, vr.ownBlock = some b → vz.ownBlock ≠ some b) ∧ (∀ b, vy.ownBlock = some b → vz.ownBlock ≠ some b)) ⟨0, .slice none 0 0, .slice none 0 0, .slice none 0 0, .slice none 0 0, _, rfl, setAll_self ⟨rfl, rfl, rfl, rfl, rfl, rfl, rfl, rfl, rfl, trivial⟩, (Chg.refl _ _), Nat.zero_le _, OwnS.nil _ _ _ _ (fun b hb => by have hb : b < w.heap.size := hb; exact ⟨by omega, fun h => by omega⟩), OwnS.nil _ _ _ _ (fun _ h => h.elim), OwnS.nil _ _ _ _ (fun b hb => by have hb : b < w.heap.size := hb; exact ⟨by omega, fun h => by omega⟩), OwnS.nil _ _ _ _ (fun _ h => h.elim), (fun b h => by cases h), (fun b h => by cases h), (fun b h => by cases h), (fun b h => by cases h), (fun b h => by cases h), (fun b h => by cases h)⟩ ?_
    rintro m27 σ28 w4 ⟨k, vx, vr, vy, vz, ρ4, rfl, rfl, hxM, hkM, ho_vx, ho_vr, ho_vy, ho_vz, hap_vx_vr, hap_vx_vy, hap_vx_vz, hap_vr_vy, hap_vr_vz, hap_vy_vz⟩
    have hxMs := hxM.size
    have hap_vr_vx : ∀ b, vr.ownBlock = some b → vx.ownBlock ≠ some b := fun b h1 h2 => hap_vx_vr b h2 h1
    have hap_vy_vx : ∀ b, vy.ownBlock = some b → vx.ownBlock ≠ some b := fun b h1 h2 => hap_vx_vy b h2 h1
    have hap_vz_vx : ∀ b, vz.ownBlock = some b → vx.ownBlock ≠ some b := fun b h1 h2 => hap_vx_vz b h2 h1
    have hap_vy_vr : ∀ b, vy.ownBlock = some b → vr.ownBlock ≠ some b := fun b h1 h2 => hap_vr_vy b h2 h1
    have hap_vz_vr : ∀ b, vz.ownBlock = some b → vr.ownBlock ≠ some b := fun b h1 h2 => hap_vr_vz b h2 h1
    have hap_vz_vy : ∀ b, vz.ownBlock = some b → vy.ownBlock ≠ some b := fun b h1 h2 => hap_vy_vz b h2 h1
    have het : (entsOf (turnQ l g q24 k)).length = k := by rw [entsOf_len, turnQ_len]
    have hrt : (regsOf (turnQ l g q24 k)).length = k := by rw [regsOf_len, turnQ_len]
    have her : (entsOf (revQ l g k)).length = k := by rw [entsOf_len, revQ_len]
    have hrr : (regsOf (revQ l g k)).length = k := by rw [regsOf_len, revQ_len]
    refine WP_seq ?_
    refine WP_seq ?_
    refine WP_region0 (by kernel_rfl) (fun _ => ?_)
    refine st (ov_move (v := .int .i64 ((k : Nat) : Int)) rfl ?_)
    refine st (ov_move (v := vl) rfl ?_)
    refine st (ov_len (n := l.length) Try.underlying24 rfl h8.sl ?_)
    refine st (ov_lss (k := .i64) (a := ((k : Nat) : Int)) (b := ((l.length : Nat) : Int)) rfl rfl ?_)
    refine st_nil ?_
    cases hc29 : decide (((k : Nat) : Int) < ((l.length : Nat) : Int))
    · skip
      have hc29 := of_decide_eq_false hc29
      refine WP_cond_f rfl ?_
      refine WP_exit ?_
      refine blk_exit ?_
      refine WP_seq ?_
      refine WP_region0 (by kernel_rfl) (fun _ => ?_)
      have h30 := (Chg.trans (Chg.trans hx6 hx26) hxM).keep hb3 (fun h => h)
      refine st (ov_loadk (k := 5) Try.isAgg23 Try.sizeOf23 rfl rfl (CellsAt.all h30) ?_)
      refine st (ov_move (v := vl) rfl ?_)
      refine st (ov_move (v := vg) rfl ?_)
      have h31 := h8.ext (Chg.trans (Chg.trans hx6 hx26) hxM)
      have h32 := hg.ext (Chg.trans (Chg.trans (Chg.trans hn1.ext hx6) hx26) hxM)
      refine st (ov_call (f := 11) (vals := [.agg (p.cells).toArray, vl, vg]) (cap := []) (show _ = (.func (.func 11) #[] #[] : Value) from rfl) rfl Try.call11 (C_all op h31 h32 (by omega)) ?_)
      rintro v35 w5 ⟨hx33, hf34⟩
      have hx33s := hx33.size
      have hf34r := hf34.rd
      refine st (ov_assign (v := v35) rfl ?_)
      refine st_nil ?_
      refine WP_seq ?_
      refine WP_region (by kernel_rfl) ?_
      have h36 := hx33.keep h30 (fun h => h)
      refine st (ov_loadk (k := 5) Try.isAgg23 Try.sizeOf23 rfl rfl (CellsAt.all h36) ?_)
      refine st (ov_move (v := vx) rfl ?_)
      refine st (ov_move (v := vr) rfl ?_)
      have h37 := OwnS.toRd (F' := (fun b => (fun b => b < w.heap.size) b ∨ vx.ownBlock = some b)) ho_vx (fun _ h => .inl h) (fun _ h => .inr h)
      have h38 := h37.ext hx33
      have h39 := OwnS.toRd (F' := (fun b => (fun _ => False) b ∨ vr.ownBlock = some b)) ho_vr (fun _ h => .inl h) (fun _ h => .inr h)
      have h40 := h39.ext hx33
      refine st (ov_call (f := 11) (vals := [.agg (p.cells).toArray, vx, vr]) (cap := []) (show _ = (.func (.func 11) #[] #[] : Value) from rfl) rfl Try.call11 (C_all op h38 h40 (by omega)) ?_)
      rintro v43 w6 ⟨hx41, hf42⟩
      have hx41s := hx41.size
      have hf42r := hf42.rd
      refine st (ov_move (v := v35) rfl ?_)
      have h44 := hf34r.ext hx41
      refine st (ov_call (f := 15) (vals := [v43, v35]) (cap := []) (show _ = (.func (.func 15) #[] #[] : Value) from rfl) rfl Try.call15 (C_SameRows hf42r h44) ?_)
      rintro _ w7 ⟨rfl, hx45⟩
      have hx45s := hx45.size
      refine st (ov_move (v := .bool (decide ((rowsL p (entsOf (turnQ l g q24 k)) (regsOf (turnQ l g q24 k))) = (rowsL p l g)))) rfl ?_)
      cases hg46 : decide ((rowsL p (entsOf (turnQ l g q24 k)) (regsOf (turnQ l g q24 k))) = (rowsL p l g))
      · skip
        have hg46 := of_decide_eq_false hg46
        exact absurd (turn_rows hc22.2 (by omega)) hg46
      · skip
        have hg46 := of_decide_eq_true hg46
        have h47 := (Chg.trans hx41 hx45).keep h36 (fun h => h)
        refine sty rfl rfl (ov_loadk (k := 5) Try.isAgg23 Try.sizeOf23 rfl rfl (CellsAt.all h47) ?_)
        refine sty rfl rfl (ov_move (v := vy) rfl ?_)
        refine sty rfl rfl (ov_move (v := vz) rfl ?_)
        have h48 := OwnS.toRd (F' := (fun b => (fun b => b < w.heap.size) b ∨ vy.ownBlock = some b)) ho_vy (fun _ h => .inl h) (fun _ h => .inr h)
        have h49 := h48.ext (Chg.trans (Chg.trans hx33 hx41) hx45)
        have h50 := OwnS.toRd (F' := (fun b => (fun _ => False) b ∨ vz.ownBlock = some b)) ho_vz (fun _ h => .inl h) (fun _ h => .inr h)
        have h51 := h50.ext (Chg.trans (Chg.trans hx33 hx41) hx45)
        refine sty rfl rfl (ov_call (f := 11) (vals := [.agg (p.cells).toArray, vy, vz]) (cap := []) (show _ = (.func (.func 11) #[] #[] : Value) from rfl) rfl Try.call11 (C_all op h49 h51 (by omega)) ?_)
        rintro v54 w8 ⟨hx52, hf53⟩
        have hx52s := hx52.size
        have hf53r := hf53.rd
        refine sty rfl rfl (ov_move (v := v35) rfl ?_)
        have h55 := h44.ext (Chg.trans hx45 hx52)
        refine sty rfl rfl (ov_call (f := 15) (vals := [v54, v35]) (cap := []) (show _ = (.func (.func 15) #[] #[] : Value) from rfl) rfl Try.call15 (C_SameRows hf53r h55) ?_)
        rintro _ w9 ⟨rfl, hx56⟩
        have hx56s := hx56.size
        refine st (ov_pick_t (v := .bool (decide ((rowsL p (entsOf (revQ l g k)) (regsOf (revQ l g k))) = (rowsL p l g)))) rfl rfl ?_)
        refine st (ov_move (v := .bool (decide ((rowsL p (entsOf (revQ l g k)) (regsOf (revQ l g k))) = (rowsL p l g)))) rfl ?_)
        refine stcw (V := .bool true) Ext (Chg.refl _ _) rfl rfl (fun hb57 => ?_) (fun w10 hx59 => ?_)
        · have hl58 : (decide ((rowsL p (entsOf (revQ l g k)) (regsOf (revQ l g k))) = (rowsL p l g))) = true := hb57
          have hl58 := of_decide_eq_true hl58
          exact ov_call (f := 10) (vals := []) (cap := []) (show _ = (.func (.func 10) #[] #[] : Value) from rfl) rfl Try.call10 (C_works ) (fun _ _ h => h)
        have hs60 := hx59.size
        refine st (ov_pick_and (b := decide ((rowsL p (entsOf (revQ l g k)) (regsOf (revQ l g k))) = (rowsL p l g))) (b' := true) rfl (fun hbp => (show _ = (.bool true : Value) from (if_pos hbp))) ?_)
        refine st (ov_assign (v := .bool ((decide ((rowsL p (entsOf (revQ l g k)) (regsOf (revQ l g k))) = (rowsL p l g))) && true)) rfl ?_)
        refine st_nil ?_
        refine WP_ret ?_
        refine fin1 Try.results4 (show _ = (.bool ((decide ((rowsL p (entsOf (revQ l g k)) (regsOf (revQ l g k))) = (rowsL p l g))) && true) : Value) from rfl) ?_
        refine ⟨?_, (Chg.trans (Chg.trans (Chg.trans (Chg.trans (Chg.trans (Chg.trans (Chg.trans (Chg.trans (Chg.trans hn1.ext hx6) hx26) hxM) hx33) hx41) hx45) hx52) hx56) hx59)⟩
        rw [rev_rows hc22.2 (by omega)]
        simp
    · skip
      have hc29 := of_decide_eq_true hc29
      refine WP_cond_t rfl ?_
      refine WP_skip ?_
      refine WP_seq ?_
      refine WP_block ?_
      refine WP_seq ?_
      refine WP_region0 (by kernel_rfl) (fun _ => ?_)
      refine st (ov_move (v := .int .i64 ((k : Nat) : Int)) rfl ?_)
      refine st (ov_move (v := .int .i64 ((q24 : Nat) : Int)) rfl ?_)
      have hr61 : InR ((k + q24 : Nat) : Int) := by omega
      refine st (ov_add (r := ((k + q24 : Nat) : Int)) (k := .i64) (a := ((k : Nat) : Int)) (b := ((q24 : Nat) : Int)) rfl rfl (by rw [show (((k : Nat) : Int) + ((q24 : Nat) : Int) : Int) = ((k + q24 : Nat) : Int) by omega]; exact wrap_in hr61) ?_)
      refine st (ov_move (v := vl) rfl ?_)
      refine st (ov_len (n := l.length) Try.underlying24 rfl h8.sl ?_)
      have h062 : (0 : Int) < ((l.length : Nat) : Int) := by omega
      have h062m : (k + q24) % l.length < l.length := Nat.mod_lt _ (by omega)
      refine st (ov_rem (r := (((k + q24) % l.length : Nat) : Int)) rfl rfl h062 (Int.ofNat_tmod _ _).symm ?_)
      refine st (ov_assign (v := .int .i64 (((k + q24) % l.length : Nat) : Int)) rfl ?_)
      refine st_nil ?_
      refine WP_seq ?_
      refine WP_region0 (by kernel_rfl) (fun _ => ?_)
      refine st (ov_move (v := vx) rfl ?_)
      refine st (ov_move (v := vl) rfl ?_)
      refine st (ov_move (v := .int .i64 (((k + q24) % l.length : Nat) : Int)) rfl ?_)
      have hi63 : (k + q24) % l.length < l.length := by assumption
      have h65 := h8.ext (Chg.trans (Chg.trans hx6 hx26) hxM)
      have hi64 : (k + q24) % l.length < l.length := by first | omega | assumption
      obtain ⟨hc64, hd64_0, hok64⟩ := h65.ent hi64
      rw [← getD_at default hi64] at hc64 hd64_0 hok64
      refine st (ov_indexAddrN (k := 13) (i := (k + q24) % l.length) Try.underlying24 Try.sizeOf38 rfl h8.sl rfl hi63 ?_)
      refine st (ov_loadk (k := 13) Try.isAgg38 Try.sizeOf38 rfl rfl hc64 ?_)
      refine st (ov_buildSlice (k := 13) (parts' := [(0, .agg ((l.getD ((k + q24) % l.length) default).cells (cellV w4 (sb vl) (so vl + ((k + q24) % l.length) * 13 + 3))).toArray)]) (c := ((l.getD ((k + q24) % l.length) default).cells (cellV w4 (sb vl) (so vl + ((k + q24) % l.length) * 13 + 3))).toArray) Try.underlying24 Try.sizeOf38 Try.zeroValue38 (by decide) rfl (by kernel_rfl) (fun w11 b67 hn66 => ?_))
      have hb68 : w11.heap[b67]? = some (.cells ((l.getD ((k + q24) % l.length) default).cells (cellV w4 (sb vl) (so vl + ((k + q24) % l.length) * 13 + 3))).toArray 38) := hn66.at_
      have hs69 := hn66.size; have hs69e := hn66.eq
      have h70 := hd64_0.ext hn66.ext
      have h75 := ho_vr.ext hn66.ext
      have h76 := ho_vy.ext hn66.ext
      have h77 := ho_vz.ext hn66.ext
      have h78 := ho_vx.ext hn66.ext
      refine st (ov_append1B (bytes := 120) (x1 := (l.getD ((k + q24) % l.length) default)) (F' := (fun b => b < w.heap.size)) elem24 rfl h78 rfl hb68 (G := (fun b => b < w.heap.size)) (show Rep.rd _ _ _ _ from ⟨_, rfl, h70, hok64⟩) (fun _ h => h) (fun _ _ h => h) h78.apart h78.bound (by omega) (by first | omega | (simp only [List.length_take, List.length_drop, List.length_nil, List.length_append, List.length_cons]; omega)) rfl (fun v71 w12 ho72 hch73 hbk74 => ?_))
      have hla79 : (entsOf (turnQ l g q24 k) ++ [(l.getD ((k + q24) % l.length) default)]).length = (entsOf (turnQ l g q24 k)).length + 1 := by simp only [List.length_append, List.length_cons, List.length_nil]
      have hap80 : ∀ b, v71.ownBlock = some b → vr.ownBlock ≠ some b := fun b h1 h2 => by rcases hbk74 with e | e; rw [e] at h1; exact hap_vx_vr b h1 h2; have := e b h1; have := (h75.lt b h2).2; omega
      have hap81 : ∀ b, vr.ownBlock = some b → v71.ownBlock ≠ some b := fun b h1 h2 => hap80 b h2 h1
      have ho82 := OwnS.chg h75 hch73 (fun b h1 hO => hap_vx_vr b hO h1) (fun b hF hO => hF.elim)
      have hap83 : ∀ b, v71.ownBlock = some b → vy.ownBlock ≠ some b := fun b h1 h2 => by rcases hbk74 with e | e; rw [e] at h1; exact hap_vx_vy b h1 h2; have := e b h1; have := (h76.lt b h2).2; omega
      have hap84 : ∀ b, vy.ownBlock = some b → v71.ownBlock ≠ some b := fun b h1 h2 => hap83 b h2 h1
      have ho85 := OwnS.chg h76 hch73 (fun b h1 hO => hap_vx_vy b hO h1) (fun b hF hO => (by have := (h78.lt b hO).1; have hF : b < w.heap.size := hF; omega))
      have hap86 : ∀ b, v71.ownBlock = some b → vz.ownBlock ≠ some b := fun b h1 h2 => by rcases hbk74 with e | e; rw [e] at h1; exact hap_vx_vz b h1 h2; have := e b h1; have := (h77.lt b h2).2; omega
      have hap87 : ∀ b, vz.ownBlock = some b → v71.ownBlock ≠ some b := fun b h1 h2 => hap86 b h2 h1
      have ho88 := OwnS.chg h77 hch73 (fun b h1 hO => hap_vx_vz b hO h1) (fun b hF hO => hF.elim)
      have hs89 := hch73.size
      refine st (ov_assign (v := v71) rfl ?_)
      refine st_nil ?_
      refine WP_seq ?_
      refine WP_region0 (by kernel_rfl) (fun _ => ?_)
      refine st (ov_move (v := vr) rfl ?_)
      refine st (ov_move (v := vg) rfl ?_)
      refine st (ov_move (v := .int .i64 (((k + q24) % l.length : Nat) : Int)) rfl ?_)
      have h90 := hg.ext (Chg.new (Chg.trans (Chg.trans (Chg.trans (Chg.trans hn1.ext hx6) hx26) hxM) hn66.ext) hch73 (fun i hi hO => by have := (h78.lt i hO).1; omega))
      refine st (ov_call (f := 13) (vals := [vg, .int .i64 (((k + q24) % l.length : Nat) : Int)]) (cap := []) (show _ = (.func (.func 13) #[] #[] : Value) from rfl) rfl Try.call13 (C_reg h90 (i := (k + q24) % l.length) (by omega)) ?_)
      rintro _ w13 ⟨rfl, hx91⟩
      have hx91s := hx91.size
      refine st (ov_buildSlice (k := 1) (parts' := [(0, .int .i64 (regI g ((k + q24) % l.length)))]) (c := #[.int .i64 (regI g ((k + q24) % l.length))]) Try.underlying25 Try.sizeOf3 Try.zeroValue3 (by decide) rfl (by kernel_rfl) (fun w14 b93 hn92 => ?_))
      have hb94 : w14.heap[b93]? = some (.cells #[.int .i64 (regI g ((k + q24) % l.length))] 3) := hn92.at_
      have hs95 := hn92.size; have hs95e := hn92.eq
      have hrd96 : RdS (α := Int) w14 (fun _ => True) ((.slice (some ⟨b93, 0, none⟩) 1 1)) [regI g ((k + q24) % l.length)] := RdS.ints (l := [regI g ((k + q24) % l.length)]) hb94 ⟨(regI_in h90.allR _), trivial⟩
      have h101 := ho85.ext (Chg.trans hx91 hn92.ext)
      have h102 := ho88.ext (Chg.trans hx91 hn92.ext)
      have h103 := ho72.ext (Chg.trans hx91 hn92.ext)
      have h104 := ho82.ext (Chg.trans hx91 hn92.ext)
      refine st (ov_append1B (bytes := 8) (x1 := regI g ((k + q24) % l.length)) (F' := (fun _ => False)) elem25 rfl h104 rfl hb94 (G := fun _ => False) (show Rep.rd _ _ _ _ from ⟨rfl, (regI_in h90.allR _)⟩) (fun _ h => h) (fun _ _ h => h) h104.apart h104.bound (by omega) (by first | omega | (simp only [List.length_take, List.length_drop, List.length_nil, List.length_append, List.length_cons]; omega)) rfl (fun v97 w15 ho98 hch99 hbk100 => ?_))
      have hla105 : (regsOf (turnQ l g q24 k) ++ [regI g ((k + q24) % l.length)]).length = (regsOf (turnQ l g q24 k)).length + 1 := by simp only [List.length_append, List.length_cons, List.length_nil]
      have hap106 : ∀ b, v97.ownBlock = some b → vy.ownBlock ≠ some b := fun b h1 h2 => by rcases hbk100 with e | e; rw [e] at h1; exact hap_vr_vy b h1 h2; have := e b h1; have := (h101.lt b h2).2; omega
      have hap107 : ∀ b, vy.ownBlock = some b → v97.ownBlock ≠ some b := fun b h1 h2 => hap106 b h2 h1
      have ho108 := OwnS.chg h101 hch99 (fun b h1 hO => hap_vr_vy b hO h1) (fun b hF hO => (by have := (h104.lt b hO).1; have hF : b < w.heap.size := hF; omega))
      have hap109 : ∀ b, v97.ownBlock = some b → vz.ownBlock ≠ some b := fun b h1 h2 => by rcases hbk100 with e | e; rw [e] at h1; exact hap_vr_vz b h1 h2; have := e b h1; have := (h102.lt b h2).2; omega
      have hap110 : ∀ b, vz.ownBlock = some b → v97.ownBlock ≠ some b := fun b h1 h2 => hap109 b h2 h1
      have ho111 := OwnS.chg h102 hch99 (fun b h1 hO => hap_vr_vz b hO h1) (fun b hF hO => hF.elim)
      have hap112 : ∀ b, v97.ownBlock = some b → v71.ownBlock ≠ some b := fun b h1 h2 => by rcases hbk100 with e | e; rw [e] at h1; exact hap81 b h1 h2; have := e b h1; have := (h103.lt b h2).2; omega
      have hap113 : ∀ b, v71.ownBlock = some b → v97.ownBlock ≠ some b := fun b h1 h2 => hap112 b h2 h1
      have ho114 := OwnS.chg h103 hch99 (fun b h1 hO => hap81 b hO h1) (fun b hF hO => (by have := (h104.lt b hO).1; have hF : b < w.heap.size := hF; omega))
      have hs115 := hch99.size
      refine st (ov_assign (v := v97) rfl ?_)
      refine st_nil ?_
      refine WP_seq ?_
      refine WP_region0 (by kernel_rfl) (fun _ => ?_)
      refine st (ov_move (v := vl) rfl ?_)
      refine st (ov_len (n := l.length) Try.underlying24 rfl h65.sl ?_)
      have hr116 : InR ((l.length - 1 : Nat) : Int) := by omega
      refine st (ov_sub (r := ((l.length - 1 : Nat) : Int)) (k := .i64) (a := ((l.length : Nat) : Int)) (b := 1) rfl rfl (by rw [show (((l.length : Nat) : Int) - 1 : Int) = ((l.length - 1 : Nat) : Int) by omega]; exact wrap_in hr116) ?_)
      refine st (ov_move (v := .int .i64 ((k : Nat) : Int)) rfl ?_)
      have hr117 : InR (((l.length - 1) - k : Nat) : Int) := by omega
      refine st (ov_sub (r := (((l.length - 1) - k : Nat) : Int)) (k := .i64) (a := ((l.length - 1 : Nat) : Int)) (b := ((k : Nat) : Int)) rfl rfl (by rw [show (((l.length - 1 : Nat) : Int) - ((k : Nat) : Int) : Int) = (((l.length - 1) - k : Nat) : Int) by omega]; exact wrap_in hr117) ?_)
      refine st (ov_assign (v := .int .i64 (((l.length - 1) - k : Nat) : Int)) rfl ?_)
      refine st_nil ?_
      refine WP_seq ?_
      refine WP_region0 (by kernel_rfl) (fun _ => ?_)
      refine st (ov_move (v := vy) rfl ?_)
      refine st (ov_move (v := vl) rfl ?_)
      refine st (ov_move (v := .int .i64 (((l.length - 1) - k : Nat) : Int)) rfl ?_)
      have hi118 : (l.length - 1) - k < l.length := by first | omega | assumption
      have h120 := h8.ext (Chg.new (Chg.trans (Chg.trans (Chg.new (Chg.trans (Chg.trans (Chg.trans hx6 hx26) hxM) hn66.ext) hch73 (fun i hi hO => by have := (h78.lt i hO).1; omega)) hx91) hn92.ext) hch99 (fun i hi hO => by have := (h104.lt i hO).1; omega))
      have hi119 : (l.length - 1) - k < l.length := by first | omega | assumption
      obtain ⟨hc119, hd119_0, hok119⟩ := h120.ent hi119
      rw [← getD_at default hi119] at hc119 hd119_0 hok119
      refine st (ov_indexAddrN (k := 13) (i := (l.length - 1) - k) Try.underlying24 Try.sizeOf38 rfl h65.sl rfl hi118 ?_)
      refine st (ov_loadk (k := 13) Try.isAgg38 Try.sizeOf38 rfl rfl hc119 ?_)
      refine st (ov_buildSlice (k := 13) (parts' := [(0, .agg ((l.getD ((l.length - 1) - k) default).cells (cellV w15 (sb vl) (so vl + ((l.length - 1) - k) * 13 + 3))).toArray)]) (c := ((l.getD ((l.length - 1) - k) default).cells (cellV w15 (sb vl) (so vl + ((l.length - 1) - k) * 13 + 3))).toArray) Try.underlying24 Try.sizeOf38 Try.zeroValue38 (by decide) rfl (by kernel_rfl) (fun w16 b122 hn121 => ?_))
      have hb123 : w16.heap[b122]? = some (.cells ((l.getD ((l.length - 1) - k) default).cells (cellV w15 (sb vl) (so vl + ((l.length - 1) - k) * 13 + 3))).toArray 38) := hn121.at_
      have hs124 := hn121.size; have hs124e := hn121.eq
      have h125 := hd119_0.ext hn121.ext
      have h130 := ho111.ext hn121.ext
      have h131 := ho114.ext hn121.ext
      have h132 := ho98.ext hn121.ext
      have h133 := ho108.ext hn121.ext
      refine st (ov_append1B (bytes := 120) (x1 := (l.getD ((l.length - 1) - k) default)) (F' := (fun b => b < w.heap.size)) elem24 rfl h133 rfl hb123 (G := (fun b => b < w.heap.size)) (show Rep.rd _ _ _ _ from ⟨_, rfl, h125, hok119⟩) (fun _ h => h) (fun _ _ h => h) h133.apart h133.bound (by omega) (by first | omega | (simp only [List.length_take, List.length_drop, List.length_nil, List.length_append, List.length_cons]; omega)) rfl (fun v126 w17 ho127 hch128 hbk129 => ?_))
      have hla134 : (entsOf (revQ l g k) ++ [(l.getD ((l.length - 1) - k) default)]).length = (entsOf (revQ l g k)).length + 1 := by simp only [List.length_append, List.length_cons, List.length_nil]
      have hap135 : ∀ b, v126.ownBlock = some b → vz.ownBlock ≠ some b := fun b h1 h2 => by rcases hbk129 with e | e; rw [e] at h1; exact hap_vy_vz b h1 h2; have := e b h1; have := (h130.lt b h2).2; omega
      have hap136 : ∀ b, vz.ownBlock = some b → v126.ownBlock ≠ some b := fun b h1 h2 => hap135 b h2 h1
      have ho137 := OwnS.chg h130 hch128 (fun b h1 hO => hap_vy_vz b hO h1) (fun b hF hO => hF.elim)
      have hap138 : ∀ b, v126.ownBlock = some b → v71.ownBlock ≠ some b := fun b h1 h2 => by rcases hbk129 with e | e; rw [e] at h1; exact hap84 b h1 h2; have := e b h1; have := (h131.lt b h2).2; omega
      have hap139 : ∀ b, v71.ownBlock = some b → v126.ownBlock ≠ some b := fun b h1 h2 => hap138 b h2 h1
      have ho140 := OwnS.chg h131 hch128 (fun b h1 hO => hap84 b hO h1) (fun b hF hO => (by have := (h133.lt b hO).1; have hF : b < w.heap.size := hF; omega))
      have hap141 : ∀ b, v126.ownBlock = some b → v97.ownBlock ≠ some b := fun b h1 h2 => by rcases hbk129 with e | e; rw [e] at h1; exact hap107 b h1 h2; have := e b h1; have := (h132.lt b h2).2; omega
      have hap142 : ∀ b, v97.ownBlock = some b → v126.ownBlock ≠ some b := fun b h1 h2 => hap141 b h2 h1
      have ho143 := OwnS.chg h132 hch128 (fun b h1 hO => hap107 b hO h1) (fun b hF hO => hF.elim)
      have hs144 := hch128.size
      refine st (ov_assign (v := v126) rfl ?_)
      refine st_nil ?_
      refine WP_region0 (by kernel_rfl) (fun _ => ?_)
      refine st (ov_move (v := vz) rfl ?_)
      refine st (ov_move (v := vg) rfl ?_)
      refine st (ov_move (v := .int .i64 (((l.length - 1) - k : Nat) : Int)) rfl ?_)
      have h145 := hg.ext (Chg.new (Chg.trans (Chg.new (Chg.trans (Chg.trans (Chg.new (Chg.trans (Chg.trans (Chg.trans (Chg.trans hn1.ext hx6) hx26) hxM) hn66.ext) hch73 (fun i hi hO => by have := (h78.lt i hO).1; omega)) hx91) hn92.ext) hch99 (fun i hi hO => by have := (h104.lt i hO).1; omega)) hn121.ext) hch128 (fun i hi hO => by have := (h133.lt i hO).1; omega))
      refine st (ov_call (f := 13) (vals := [vg, .int .i64 (((l.length - 1) - k : Nat) : Int)]) (cap := []) (show _ = (.func (.func 13) #[] #[] : Value) from rfl) rfl Try.call13 (C_reg h145 (i := (l.length - 1) - k) (by omega)) ?_)
      rintro _ w18 ⟨rfl, hx146⟩
      have hx146s := hx146.size
      refine st (ov_buildSlice (k := 1) (parts' := [(0, .int .i64 (regI g ((l.length - 1) - k)))]) (c := #[.int .i64 (regI g ((l.length - 1) - k))]) Try.underlying25 Try.sizeOf3 Try.zeroValue3 (by decide) rfl (by kernel_rfl) (fun w19 b148 hn147 => ?_))
      have hb149 : w19.heap[b148]? = some (.cells #[.int .i64 (regI g ((l.length - 1) - k))] 3) := hn147.at_
      have hs150 := hn147.size; have hs150e := hn147.eq
      have hrd151 : RdS (α := Int) w19 (fun _ => True) ((.slice (some ⟨b148, 0, none⟩) 1 1)) [regI g ((l.length - 1) - k)] := RdS.ints (l := [regI g ((l.length - 1) - k)]) hb149 ⟨(regI_in h145.allR _), trivial⟩
      have h156 := ho140.ext (Chg.trans hx146 hn147.ext)
      have h157 := ho143.ext (Chg.trans hx146 hn147.ext)
      have h158 := ho127.ext (Chg.trans hx146 hn147.ext)
      have h159 := ho137.ext (Chg.trans hx146 hn147.ext)
      refine st (ov_append1B (bytes := 8) (x1 := regI g ((l.length - 1) - k)) (F' := (fun _ => False)) elem25 rfl h159 rfl hb149 (G := fun _ => False) (show Rep.rd _ _ _ _ from ⟨rfl, (regI_in h145.allR _)⟩) (fun _ h => h) (fun _ _ h => h) h159.apart h159.bound (by omega) (by first | omega | (simp only [List.length_take, List.length_drop, List.length_nil, List.length_append, List.length_cons]; omega)) rfl (fun v152 w20 ho153 hch154 hbk155 => ?_))
      have hla160 : (regsOf (revQ l g k) ++ [regI g ((l.length - 1) - k)]).length = (regsOf (revQ l g k)).length + 1 := by simp only [List.length_append, List.length_cons, List.length_nil]
      have hap161 : ∀ b, v152.ownBlock = some b → v71.ownBlock ≠ some b := fun b h1 h2 => by rcases hbk155 with e | e; rw [e] at h1; exact hap87 b h1 h2; have := e b h1; have := (h156.lt b h2).2; omega
      have hap162 : ∀ b, v71.ownBlock = some b → v152.ownBlock ≠ some b := fun b h1 h2 => hap161 b h2 h1
      have ho163 := OwnS.chg h156 hch154 (fun b h1 hO => hap87 b hO h1) (fun b hF hO => (by have := (h159.lt b hO).1; have hF : b < w.heap.size := hF; omega))
      have hap164 : ∀ b, v152.ownBlock = some b → v97.ownBlock ≠ some b := fun b h1 h2 => by rcases hbk155 with e | e; rw [e] at h1; exact hap110 b h1 h2; have := e b h1; have := (h157.lt b h2).2; omega
      have hap165 : ∀ b, v97.ownBlock = some b → v152.ownBlock ≠ some b := fun b h1 h2 => hap164 b h2 h1
      have ho166 := OwnS.chg h157 hch154 (fun b h1 hO => hap110 b hO h1) (fun b hF hO => hF.elim)
      have hap167 : ∀ b, v152.ownBlock = some b → v126.ownBlock ≠ some b := fun b h1 h2 => by rcases hbk155 with e | e; rw [e] at h1; exact hap136 b h1 h2; have := e b h1; have := (h158.lt b h2).2; omega
      have hap168 : ∀ b, v126.ownBlock = some b → v152.ownBlock ≠ some b := fun b h1 h2 => hap167 b h2 h1
      have ho169 := OwnS.chg h158 hch154 (fun b h1 hO => hap136 b hO h1) (fun b hF hO => (by have := (h159.lt b hO).1; have hF : b < w.heap.size := hF; omega))
      have hs170 := hch154.size
      refine st (ov_assign (v := v152) rfl ?_)
      refine st_nil ?_
      refine WP_region0 (by kernel_rfl) (fun _ => ?_)
      refine st (ov_move (v := .int .i64 ((k : Nat) : Int)) rfl ?_)
      have hr171 : InR ((k + 1 : Nat) : Int) := by omega
      refine st (ov_add (r := ((k + 1 : Nat) : Int)) (k := .i64) (a := ((k : Nat) : Int)) (b := 1) rfl rfl (by rw [show (((k : Nat) : Int) + 1 : Int) = ((k + 1 : Nat) : Int) by omega]; exact wrap_in hr171) ?_)
      refine st (ov_assign (v := .int .i64 ((k + 1 : Nat) : Int)) rfl ?_)
      refine st_nil ?_
      exact ⟨_, by omega, k + 1, v71, v97, v126, v152, _, rfl, setAll_self ⟨rfl, rfl, rfl, rfl, rfl, rfl, rfl, rfl, rfl, trivial⟩, (Chg.new (Chg.trans (Chg.trans (Chg.new (Chg.trans (Chg.new (Chg.trans (Chg.trans (Chg.new (Chg.trans hxM hn66.ext) hch73 (fun i hi hO => by have := (h78.lt i hO).1; omega)) hx91) hn92.ext) hch99 (fun i hi hO => by have := (h104.lt i hO).1; omega)) hn121.ext) hch128 (fun i hi hO => by have := (h133.lt i hO).1; omega)) hx146) hn147.ext) hch154 (fun i hi hO => by have := (h159.lt i hO).1; omega)), by omega, (by rw [turnQ_succ, entsOf_app]; exact ho163), (by rw [turnQ_succ, regsOf_app]; exact ho166), (by rw [revQ_succ, entsOf_app]; exact ho169), (by rw [revQ_succ, regsOf_app]; exact ho153), hap113, hap139, hap162, hap142, hap165, hap168⟩
  · skip
    simp only [Bool.and_eq_true, Bool.or_eq_true, Bool.and_eq_false_iff, Bool.or_eq_false_iff, decide_eq_true_eq, decide_eq_false_iff_not, Bool.not_eq_true', Bool.not_eq_false', Int.not_lt, Int.not_le] at hc22
    refine WP_cond_t rfl ?_
    refine WP_seq ?_
    refine WP_region0 (by kernel_rfl) (fun _ => ?_)
    refine st (ov_call (f := 10) (vals := []) (cap := []) (show _ = (.func (.func 10) #[] #[] : Value) from rfl) rfl Try.call10 (C_works ) ?_)
    rintro _ w21 ⟨rfl, hx172⟩
    have hx172s := hx172.size
    refine st (ov_assign (v := .bool true) rfl ?_)
    refine st_nil ?_
    refine WP_ret ?_
    refine fin1 Try.results4 (show _ = (.bool true : Value) from rfl) ?_
    exact ⟨rfl, (Chg.trans (Chg.trans hn1.ext hx6) hx172)⟩

end Go.Proofs.Ytbbpmhfcgoljdaa
