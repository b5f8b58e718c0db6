/- Steps of the proofs of this seat: part J0. -/
import Derived.Test.YtbbpmhfcgoljdaaPlain16c
set_option linter.unusedSimpArgs false
set_option linter.unusedVariables false
namespace Go.Proofs.Ytbbpmhfcgoljdaa
open Go.Proofs Go.RowKit

theorem findR_at' {l : List Row} {G : Int} {k : Nat} (hk : k < l.length) (h : ∀ j, j < k → (l.getD j default).group ≠ G) (he : (l.getD k default).group = G) : findR l G = l.getD k default := by
  rw [getD_at _ hk] at he ⊢
  exact findR_at hk h he
theorem findR_ok {w : World} {F : Nat → Prop} {v : Value} {l : List Row} (h : RdS w F v l) (G : Int) : (findR l G).Ok := by
  unfold findR
  cases hf : l.find? (fun x => decide (x.group = G)) with
  | none => exact ⟨by decide, by decide, by decide⟩
  | some x =>
    obtain ⟨i, hi, rfl⟩ := List.getElem_of_mem (List.mem_of_find?_eq_some hf)
    exact (h.row hi).2

theorem C_find {w : World} {Fl : Nat → Prop} {vl : Value} {l : List Row} (hl : RdS w Fl vl l) {b1 : Int} (hb1 : InR b1) : Ret Try.prog 16 [vl, .int .i64 (b1)] w (fun r w' => r = .agg ((findR l b1).cells).toArray ∧ Ext w w') := by
  have hls : l.length * 24 ≤ 140737488355328 := hl.small
  refine Calls_of_WP (args := [vl, .int .i64 (b1)]) Try.func16 rfl rfl ?_
  refine WP_seq ?_
  refine WP_region0 (by kernel_rfl) (fun _ => ?_)
  refine st (ov_alloc Try.zeroValue31 (fun w1 b2 hn1 => ?_))
  have hb3 : w1.heap[b2]? = some (.cells #[.int .i64 (0), .int .i64 (0), .int .i64 (0)] 31) := hn1.at_
  have hs4 := hn1.size; have hs4e := hn1.eq
  refine st_nil ?_
  refine WP_seq ?_
  refine WP_seq ?_
  refine WP_region0 (by kernel_rfl) (fun _ => ?_)
  refine st (ov_assign (v := .int .i64 (0)) rfl ?_)
  refine st_nil ?_
  refine WP_block ?_
  refine WP_loop (fun mq σ wq => ∃ (k : Nat) (ρ : Env), mq = l.length - k ∧ σ = setAll ρ [(0, vl), (1, .int .i64 (b1)), (4, .pointer (some ⟨b2, 0, none⟩)), (5, .int .i64 ((k : Nat) : Int))] ∧ (Ext w1 wq) ∧ (k ≤ l.length) ∧ (∀ j, j < k → (l.getD j default).group ≠ b1)) ⟨0, _, rfl, setAll_self ⟨rfl, rfl, rfl, rfl, trivial⟩, (Chg.refl _ _), Nat.zero_le _, (fun j h => absurd h (Nat.not_lt_zero j))⟩ ?_
  rintro m8 σ9 w2 ⟨k, ρ2, rfl, rfl, hx5, hk6, hnf⟩
  have hx5s := hx5.size
  refine WP_seq ?_
  refine WP_seq ?_
  refine WP_region0 (by kernel_rfl) (fun _ => ?_)
  refine st (ov_move (v := .int .i64 ((k : Nat) : Int)) rfl ?_)
  refine st (ov_move (v := vl) rfl ?_)
  refine st (ov_len (n := l.length) Try.underlying28 rfl hl.sl ?_)
  refine st (ov_lss (k := .i64) (a := ((k : Nat) : Int)) (b := ((l.length : Nat) : Int)) rfl rfl ?_)
  refine st_nil ?_
  cases hc10 : decide (((k : Nat) : Int) < ((l.length : Nat) : Int))
  · skip
    have hc10 := of_decide_eq_false hc10
    refine WP_cond_f rfl ?_
    refine WP_exit ?_
    refine blk_exit ?_
    refine WP_seq ?_
    refine WP_region0 (by kernel_rfl) (fun _ => ?_)
    refine st (ov_build (parts' := []) (v := .agg #[.int .i64 (0), .int .i64 (0), .int .i64 (0)]) rfl (by simp [Instr.build, Instr.fill, go_sem]) ?_)
    have h11 := hx5.keep hb3 (fun h => h)
    refine stn (ov_store (v := .agg #[.int .i64 (0), .int .i64 (0), .int .i64 (0)]) (c' := #[.int .i64 (0), .int .i64 (0), .int .i64 (0)]) Try.sizeOf31 rfl rfl h11 (all1 ⟨rfl, rfl, rfl, trivial⟩) (Nat.le_of_ble_eq_true rfl) rfl (fun w3 hp12 => ?_))
    have hs13 := hp12.size
    refine st_nil ?_
    refine WP_ret ?_
    refine finc (b := b2) Try.results16 Try.isAgg31 Try.sizeOf31 rfl rfl (CellsAt.all hp12.at_) ?_
    refine ⟨?_, (Chg.new (Chg.trans hn1.ext hx5) hp12.chg (fun i hi hO => by subst hO; omega))⟩
    first | exact congrArg (fun q : Row => Value.agg q.cells.toArray) (findR_at' (by assumption) hnf hc10).symm | exact congrArg (fun q : Row => Value.agg q.cells.toArray) (findR_none (fun j hj => hnf j (by omega))).symm
  · skip
    have hc10 := of_decide_eq_true hc10
    refine WP_cond_t rfl ?_
    refine WP_skip ?_
    refine WP_seq ?_
    refine WP_block ?_
    refine WP_seq ?_
    refine WP_region0 (by kernel_rfl) (fun _ => ?_)
    refine st (ov_move (v := vl) rfl ?_)
    refine st (ov_move (v := .int .i64 ((k : Nat) : Int)) rfl ?_)
    have hi14 : k < l.length := by omega
    have h16 := hl.ext (Chg.trans hn1.ext hx5)
    have hi15 : k < l.length := by omega
    obtain ⟨hc15, hok15⟩ := h16.row hi15
    rw [← getD_at default hi15] at hc15 hok15
    refine st (ov_indexAddrN (k := 3) (i := k) Try.underlying28 Try.sizeOf31 rfl hl.sl rfl hi14 ?_)
    refine st (fa31_0 rfl ?_)
    refine st (ov_load1 (v := .int .i64 ((l.getD k default).group)) Try.isAgg3 rfl (hc15.get (j := 0) rfl) ?_)
    refine st (ov_move (v := .int .i64 (b1)) rfl ?_)
    refine st (ov_eql (k := .i64) (a := (l.getD k default).group) (b := b1) rfl rfl ?_)
    refine st_nil ?_
    cases hc17 : decide (((l.getD k default).group) = b1)
    · skip
      have hc17 := of_decide_eq_false hc17
      refine WP_cond_f rfl ?_
      refine WP_skip ?_
      refine WP_region0 (by kernel_rfl) (fun _ => ?_)
      refine st (ov_move (v := .int .i64 ((k : Nat) : Int)) rfl ?_)
      have hr18 : InR ((k + 1 : Nat) : Int) := by omega
      refine st (ov_add (r := ((k + 1 : Nat) : Int)) (k := .i64) (a := ((k : Nat) : Int)) (b := 1) rfl rfl (by rw [show (((k : Nat) : Int) + 1 : Int) = ((k + 1 : Nat) : Int) by omega]; exact wrap_in hr18) ?_)
      refine st (ov_assign (v := .int .i64 ((k + 1 : Nat) : Int)) rfl ?_)
      refine st_nil ?_
      exact ⟨_, by omega, k + 1, _, rfl, setAll_self ⟨rfl, rfl, rfl, rfl, trivial⟩, hx5, by omega, (fun j hj => by rcases Nat.lt_or_eq_of_le (Nat.le_of_lt_succ hj) with h | h; exact hnf j h; subst h; exact hc17)⟩
    · skip
      have hc17 := of_decide_eq_true hc17
      refine WP_cond_t rfl ?_
      refine WP_seq ?_
      refine WP_region0 (by kernel_rfl) (fun _ => ?_)
      refine st (ov_move (v := vl) rfl ?_)
      refine st (ov_move (v := .int .i64 ((k : Nat) : Int)) rfl ?_)
      have hi19 : k < l.length := by omega
      refine st (ov_indexAddrN (k := 3) (i := k) Try.underlying28 Try.sizeOf31 rfl h16.sl rfl hi19 ?_)
      refine st (ov_loadk (k := 3) Try.isAgg31 Try.sizeOf31 rfl rfl hc15 ?_)
      have h20 := hx5.keep hb3 (fun h => h)
      refine stn (ov_store (v := .agg ((l.getD k default).cells).toArray) (c' := ((l.getD k default).cells).toArray) Try.sizeOf31 rfl rfl h20 (all1 ⟨rfl, rfl, rfl, trivial⟩) (Nat.le_of_ble_eq_true rfl) rfl (fun w4 hp21 => ?_))
      have hs22 := hp21.size
      refine st_nil ?_
      refine WP_ret ?_
      refine finc (b := b2) Try.results16 Try.isAgg31 Try.sizeOf31 rfl rfl (CellsAt.all hp21.at_) ?_
      refine ⟨?_, (Chg.new (Chg.trans hn1.ext hx5) hp21.chg (fun i hi hO => by subst hO; omega))⟩
      first | exact congrArg (fun q : Row => Value.agg q.cells.toArray) (findR_at' (by assumption) hnf hc17).symm | exact congrArg (fun q : Row => Value.agg q.cells.toArray) (findR_none (fun j hj => hnf j (by omega))).symm

end Go.Proofs.Ytbbpmhfcgoljdaa
