/- Steps of the proofs of this seat: part R4. -/
import Derived.Test.YtbbpmhfcgoljdaaR3
set_option linter.unusedSimpArgs false
set_option linter.unusedVariables false
namespace Go.Proofs.Ytbbpmhfcgoljdaa
open Go.Proofs Go.RowKit

theorem C_mark {w : World} {i : Int} (hi : InR i) (hi2 : 0 ≤ i ∧ i ≤ 1000000) : Ret Try.prog 33 [.int .i64 (i)] w (fun r w' => r = .agg (((⟨77 + i, -9, 3⟩ : Row)).cells).toArray ∧ Ext w w') := by
  refine Calls_of_WP (args := [.int .i64 (i)]) Try.func33 rfl rfl ?_
  refine WP_seq ?_
  refine WP_region0 (by kernel_rfl) (fun _ => ?_)
  refine st (ov_alloc Try.zeroValue31 (fun w1 b2 hn1 => ?_))
  have hb3 : w1.heap[b2]? = some (.cells #[.int .i64 (0), .int .i64 (0), .int .i64 (0)] 31) := hn1.at_
  have hs4 := hn1.size; have hs4e := hn1.eq
  refine st_nil ?_
  refine WP_seq ?_
  refine WP_region0 (by kernel_rfl) (fun _ => ?_)
  refine st (ov_move (v := .int .i64 (i)) rfl ?_)
  have hr5 : InR (77 + i) := by omega
  refine st (ov_add (r := 77 + i) (k := .i64) (a := 77) (b := i) rfl rfl (wrap_in hr5) ?_)
  have ok6 : Row.Ok (⟨77 + i, -9, 3⟩ : Row) := ⟨(show InR (77 + i) from hr5), (show InR (-9) from (by omega)), (show InR (3) from (by omega))⟩
  refine st (ov_build (parts' := [(0, .int .i64 (77 + i)), (1, .int .i64 (-9)), (2, .int .i64 (3))]) (v := .agg ((⟨77 + i, -9, 3⟩ : Row).cells).toArray) rfl (by simp [Instr.build, Instr.fill, Prj.cells, Ent.cells, Ev.cells, Row.cells, go_sem]) ?_)
  refine stn (ov_store (v := .agg ((⟨77 + i, -9, 3⟩ : Row).cells).toArray) (c' := ((⟨77 + i, -9, 3⟩ : Row).cells).toArray) Try.sizeOf31 rfl rfl hb3 (all1 ⟨rfl, rfl, rfl, trivial⟩) (Nat.le_of_ble_eq_true rfl) rfl (fun w2 hp7 => ?_))
  have hs8 := hp7.size
  refine st_nil ?_
  refine WP_ret ?_
  refine finc (b := b2) Try.results33 Try.isAgg31 Try.sizeOf31 rfl rfl (CellsAt.all hp7.at_) ?_
  refine ⟨?_, (Chg.new hn1.ext hp7.chg (fun i hi hO => by subst hO; omega))⟩
  rfl

theorem C_spoil {w : World} {lo : Nat} {vx : Value} {l : List Row} (hox : OwnS (α := Row) 31 lo w (fun _ => False) vx l) (hll : l.length ≤ 100000) : Ret Try.prog 25 [vx] w (fun r w' => r = .tuple #[] ∧ Chg (fun b => vx.ownBlock = some b) w w') := by
  refine Calls_of_WP (args := [vx]) Try.func25 rfl rfl ?_
  refine WP_seq ?_
  refine WP_region0 (by kernel_rfl) (fun _ => ?_)
  refine st (ov_assign (v := .int .i64 (0)) rfl ?_)
  refine st_nil ?_
  refine WP_block ?_
  refine WP_loop (fun mq σ wq => ∃ (k : Nat) (l2 : List Row) (ρ : Env), mq = l.length - k ∧ σ = setAll ρ [(0, vx), (2, .int .i64 ((k : Nat) : Int))] ∧ (Chg (fun b => vx.ownBlock = some b) w wq) ∧ (k ≤ l.length) ∧ (l2.length = l.length) ∧ (OwnS (α := Row) 31 lo wq (fun _ => False) vx l2)) ⟨0, l, _, rfl, setAll_self ⟨rfl, rfl, trivial⟩, (Chg.refl _ _), Nat.zero_le _, rfl, hox⟩ ?_
  rintro m1 σ2 w1 ⟨k, l2, ρ1, rfl, rfl, hcS, hkS, hlS, hoS⟩
  have hcSs := hcS.size
  refine WP_seq ?_
  refine WP_seq ?_
  refine WP_region0 (by kernel_rfl) (fun _ => ?_)
  refine st (ov_move (v := .int .i64 ((k : Nat) : Int)) rfl ?_)
  refine st (ov_move (v := vx) rfl ?_)
  refine st (ov_len (n := l2.length) Try.underlying28 rfl hoS.isSl ?_)
  refine st (ov_lss (k := .i64) (a := ((k : Nat) : Int)) (b := ((l2.length : Nat) : Int)) rfl rfl ?_)
  refine st_nil ?_
  cases hc3 : decide (((k : Nat) : Int) < ((l2.length : Nat) : Int))
  · skip
    have hc3 := of_decide_eq_false hc3
    refine WP_cond_f rfl ?_
    refine WP_exit ?_
    refine blk_exit ?_
    refine fin0 Try.results25 ?_
    exact ⟨rfl, hcS⟩
  · skip
    have hc3 := of_decide_eq_true hc3
    refine WP_cond_t rfl ?_
    refine WP_skip ?_
    refine WP_seq ?_
    refine WP_block ?_
    refine WP_region0 (by kernel_rfl) (fun _ => ?_)
    refine st (ov_move (v := vx) rfl ?_)
    refine st (ov_move (v := .int .i64 ((k : Nat) : Int)) rfl ?_)
    refine st (ov_move (v := .int .i64 ((k : Nat) : Int)) rfl ?_)
    have hr4 : InR ((k + 7 : Nat) : Int) := by omega
    refine st (ov_add (r := ((k + 7 : Nat) : Int)) (k := .i64) (a := ((k : Nat) : Int)) (b := 7) rfl rfl (by rw [show (((k : Nat) : Int) + 7 : Int) = ((k + 7 : Nat) : Int) by omega]; exact wrap_in hr4) ?_)
    refine st (ov_call (f := 33) (vals := [.int .i64 ((k + 7 : Nat) : Int)]) (cap := []) (show _ = (.func (.func 33) #[] #[] : Value) from rfl) rfl Try.call33 (C_mark hr4 (by omega)) ?_)
    rintro _ w2 ⟨rfl, hx5⟩
    have hx5s := hx5.size
    have ok6 : Row.Ok (⟨77 + ((k + 7 : Nat) : Int), -9, 3⟩ : Row) := ⟨(show InR (77 + ((k + 7 : Nat) : Int)) by omega), (show InR (-9) by decide), (show InR 3 by decide)⟩
    have hi7 : k < l2.length := by omega
    have h9 := hoS.ext hx5
    have hi8 : k < l2.length := by omega
    obtain ⟨hc8, hok8⟩ := h9.row hi8
    refine st (ov_indexAddrN (k := 3) (i := k) Try.underlying28 Try.sizeOf31 rfl hoS.isSl rfl hi7 ?_)
    refine stn (ov_storeOwn (i := k) (u := .agg ((⟨77 + ((k + 7 : Nat) : Int), -9, 3⟩ : Row).cells).toArray) Try.sizeOf31 h9 (by first | omega | (simp only [List.length_set]; omega)) rfl rfl rfl (show Rep.rd _ _ _ (⟨77 + ((k + 7 : Nat) : Int), -9, 3⟩ : Row) from ⟨rfl, ok6⟩) (fun w3 ho11 hch10 => ?_))
    have hs12 := hch10.size
    refine st_nil ?_
    refine WP_region0 (by kernel_rfl) (fun _ => ?_)
    refine st (ov_move (v := .int .i64 ((k : Nat) : Int)) rfl ?_)
    have hr13 : InR ((k + 1 : Nat) : Int) := by omega
    refine st (ov_add (r := ((k + 1 : Nat) : Int)) (k := .i64) (a := ((k : Nat) : Int)) (b := 1) rfl rfl (by rw [show (((k : Nat) : Int) + 1 : Int) = ((k + 1 : Nat) : Int) by omega]; exact wrap_in hr13) ?_)
    refine st (ov_assign (v := .int .i64 ((k + 1 : Nat) : Int)) rfl ?_)
    refine st_nil ?_
    exact ⟨_, by omega, k + 1, l2.set k (⟨77 + ((k + 7 : Nat) : Int), -9, 3⟩ : Row), _, rfl, setAll_self ⟨rfl, rfl, trivial⟩, (Chg.trans (Chg.trans hcS (Chg.ext _ hx5)) hch10), by omega, (by simp only [List.length_set]; exact hlS), ho11⟩

end Go.Proofs.Ytbbpmhfcgoljdaa
