/- Steps of the proofs of this seat: part Srt3. -/
import Derived.Test.YtbbhpddgjiifmaaSrt2
set_option linter.unusedSimpArgs false
set_option linter.unusedVariables false
namespace Go.Proofs.Ytbbhpddgjiifmaa
open Go.Proofs Go.RowKit

theorem C_sym (N : Nat) : SymC N := by
  induction N with
  | zero => intro lo F vv l a md b cb w ho hcb h1 h2 h3 hN hne; omega
  | succ N ih => intro lo F vv l a md b cb w ho hcb h1 h2 h3 hN hne; exact C_sym1 ho hcb ih h1 h2 h3 hN hne
theorem sift_eq (a : Nat) : ∀ (j : Nat) (l : List Ev), sift l a j = siftG less l a j
  | 0, _ => rfl
  | j + 1, l => by
    rw [sift, siftG]
    split
    · exact sift_eq a j _
    · rfl
theorem insFrom_eq (a : Nat) : ∀ (n i : Nat) (l : List Ev), insFrom a n i l = insG less a n i l
  | 0, _, _ => rfl
  | n + 1, i, l => by rw [insFrom, insG, sift_eq, insFrom_eq a n]
theorem insFrom_length (a n i : Nat) (l : List Ev) : (insFrom a n i l).length = l.length := by rw [insFrom_eq, insG_length]
theorem less_iff (a b : Ev) : less a b = true ↔ (a.lam < b.lam ∨ a.lam = b.lam ∧ (a.origin < b.origin ∨ a.origin = b.origin ∧ a.seq < b.seq)) := by
  rw [less_eq]
  unfold lessR
  repeat' split
  all_goals (simp only [decide_eq_true_eq]; omega)
theorem less_stable (l : List Ev) : stableL less l = insFrom 0 (l.length - (0 + 1)) (0 + 1) l := by
  rw [insFrom_eq]
  refine stable_is_ins less (fun x => ?_) (fun x y z => ?_) (fun x y z => ?_) l
  · cases h : less x x with
    | false => rfl
    | true => have := (less_iff x x).1 h; omega
  · simp only [less_iff]; omega
  · simp only [less_iff]; omega

theorem C_stable {w : World} {lo : Nat} {F : Nat → Prop} {vv : Value} {l : List Ev} (ho : OwnS 29 lo w F vv l)  {cb : Nat} (hcb : w.heap[cb]? = some (.cells #[.func (.func 28) #[] #[]] 49)) (hne : vv.ownBlock ≠ some cb) : Ret Try.prog 38 [vv, .int .i64 ((l.length : Nat) : Int), .func (.func 39) #[] #[.pointer (some ⟨cb, 0, none⟩)]] w (fun r w' => r = .tuple #[] ∧ OwnS 29 lo w' F vv (insFrom 0 (l.length - (0 + 1)) (0 + 1) l) ∧ Chg (fun i => vv.ownBlock = some i) w w') := by
  have hsm0 : l.length * 96 ≤ 140737488355328 := ho.small
  refine Calls_of_WP (args := [vv, .int .i64 ((l.length : Nat) : Int), .func (.func 39) #[] #[.pointer (some ⟨cb, 0, none⟩)]]) Try.func38 rfl rfl ?_
  refine WP_seq ?_
  refine WP_region0 (by kernel_rfl) (fun _ => ?_)
  refine st (ov_assign (v := .int .i64 (20)) rfl ?_)
  refine st_nil ?_
  refine WP_seq ?_
  refine WP_region0 (by kernel_rfl) (fun _ => ?_)
  refine st (ov_move (v := .int .i64 (20)) rfl ?_)
  refine st (ov_assign (v := .int .i64 (0)) rfl ?_)
  refine st (ov_assign (v := .int .i64 (20)) rfl ?_)
  refine st_nil ?_
  refine WP_seq ?_
  refine WP_block ?_
  refine WP_loop (fun m σ wq => ∃ (p : Nat) (g : Nat) (L : List Ev) (ρ : Env), m = l.length - p ∧ σ = setAll ρ [(0, vv), (1, .int .i64 ((l.length : Nat) : Int)), (2, .func (.func 39) #[] #[.pointer (some ⟨cb, 0, none⟩)]), (6, .int .i64 (20)), (7, .int .i64 ((p : Nat) : Int)), (8, .int .i64 ((p + 20 : Nat) : Int))] ∧ (Chg (fun i => vv.ownBlock = some i) w wq) ∧ (OwnS 29 lo wq F vv L) ∧ (wq.heap[cb]? = some (.cells #[.func (.func 28) #[] #[]] 49)) ∧ (p ≤ l.length) ∧ (l.length ≤ p + g) ∧ (L.length = l.length) ∧ (insB less g p L = insB less l.length 0 l)) ⟨0, l.length, l, _, rfl, setAll_self ⟨rfl, rfl, rfl, rfl, rfl, rfl, trivial⟩, (Chg.refl _ _), ho, hcb, Nat.zero_le _, by omega, rfl, rfl⟩ ?_
  rintro m1 σ2 w1 ⟨p, g, L, ρ1, rfl, rfl, hx, ho1, hcb1, hp, hg, hl1, hin⟩
  have hxs := hx.size
  refine WP_seq ?_
  refine WP_seq ?_
  refine WP_region0 (by kernel_rfl) (fun _ => ?_)
  refine st (ov_move (v := .int .i64 ((p + 20 : Nat) : Int)) rfl ?_)
  refine st (ov_move (v := .int .i64 ((l.length : Nat) : Int)) rfl ?_)
  refine st (ov_leq (k := .i64) (a := ((p + 20 : Nat) : Int)) (b := ((l.length : Nat) : Int)) rfl rfl ?_)
  refine st_nil ?_
  cases hc3 : decide (((p + 20 : Nat) : Int) ≤ ((l.length : Nat) : Int))
  · skip
    have hc3 := of_decide_eq_false hc3
    refine WP_cond_f rfl ?_
    refine WP_exit ?_
    refine blk_exit ?_
    refine WP_seq ?_
    refine WP_region0 (by kernel_rfl) (fun _ => ?_)
    refine st (ov_move (v := vv) rfl ?_)
    refine st (ov_move (v := .int .i64 ((p : Nat) : Int)) rfl ?_)
    refine st (ov_move (v := .int .i64 ((l.length : Nat) : Int)) rfl ?_)
    refine st (ov_move (v := .func (.func 39) #[] #[.pointer (some ⟨cb, 0, none⟩)]) rfl ?_)
    refine st (ov_call (f := 42) (vals := [vv, .int .i64 ((p : Nat) : Int), .int .i64 ((l.length : Nat) : Int), .func (.func 39) #[] #[.pointer (some ⟨cb, 0, none⟩)]]) (cap := []) (show _ = (.func (.func 42) #[] #[] : Value) from rfl) rfl Try.call42 (C_ins (a := p) (b := l.length) ho1 hcb1 (by omega) (by omega) hne) ?_)
    rintro _ w2 ⟨rfl, ho5, hch4⟩
    have hch4s := hch4.size
    have h6 := hch4.keep hcb1 (fun e => hne e)
    refine st_nil ?_
    refine WP_block ?_
    refine WP_loop (fun m σ wq => ∃ (bs : Nat) (g2 : Nat) (L2 : List Ev) (ρ : Env), m = l.length - bs ∧ σ = setAll ρ [(0, vv), (1, .int .i64 ((l.length : Nat) : Int)), (2, .func (.func 39) #[] #[.pointer (some ⟨cb, 0, none⟩)]), (6, .int .i64 ((bs : Nat) : Int))] ∧ (Chg (fun i => vv.ownBlock = some i) w2 wq) ∧ (OwnS 29 lo wq F vv L2) ∧ (wq.heap[cb]? = some (.cells #[.func (.func 28) #[] #[]] 49)) ∧ (1 ≤ bs) ∧ (l.length ≤ bs + g2) ∧ (L2.length = l.length) ∧ (mergeAll less g2 bs L2 = stableL less l)) ⟨20, l.length, insFrom p (l.length - (p + 1)) (p + 1) (L), _, rfl, setAll_self ⟨rfl, rfl, rfl, rfl, trivial⟩, (Chg.refl _ _), ho5, h6, by omega, by omega, by rw [insFrom_length]; exact hl1, (by unfold stableL; rw [← hin, insB_no (by omega), insFrom_eq, hl1])⟩ ?_
    rintro m7 σ8 w3 ⟨bs, g2, L2, ρ3, rfl, rfl, hx2, ho2, hcb2, hbs, hg2, hl2, hall⟩
    have hx2s := hx2.size
    refine WP_seq ?_
    refine WP_seq ?_
    refine WP_region0 (by kernel_rfl) (fun _ => ?_)
    refine st (ov_move (v := .int .i64 ((bs : Nat) : Int)) rfl ?_)
    refine st (ov_move (v := .int .i64 ((l.length : Nat) : Int)) rfl ?_)
    refine st (ov_lss (k := .i64) (a := ((bs : Nat) : Int)) (b := ((l.length : Nat) : Int)) rfl rfl ?_)
    refine st_nil ?_
    cases hc9 : decide (((bs : Nat) : Int) < ((l.length : Nat) : Int))
    · skip
      have hc9 := of_decide_eq_false hc9
      refine WP_cond_f rfl ?_
      refine WP_exit ?_
      refine blk_exit ?_
      refine fin0 Try.results38 ?_
      refine ⟨rfl, ?_, (Chg.trans (Chg.trans hx hch4) hx2)⟩
      rw [← less_stable, ← hall, mergeAll_no (by omega)]
      exact ho2
    · skip
      have hc9 := of_decide_eq_true hc9
      refine WP_cond_t rfl ?_
      refine WP_skip ?_
      refine WP_block ?_
      refine WP_seq ?_
      refine WP_region0 (by kernel_rfl) (fun _ => ?_)
      refine st (ov_move (v := .int .i64 ((bs : Nat) : Int)) rfl ?_)
      have hr10 : InR ((2 * bs : Nat) : Int) := by omega
      refine st (ov_mul (r := ((2 * bs : Nat) : Int)) (k := .i64) (a := 2) (b := ((bs : Nat) : Int)) rfl rfl (by rw [show (2 * ((bs : Nat) : Int) : Int) = ((2 * bs : Nat) : Int) by omega]; exact wrap_in hr10) ?_)
      refine st (ov_assign (v := .int .i64 (0)) rfl ?_)
      refine st (ov_assign (v := .int .i64 ((2 * bs : Nat) : Int)) rfl ?_)
      refine st_nil ?_
      refine WP_seq ?_
      refine WP_block ?_
      refine WP_loop (fun m σ wq => ∃ (p : Nat) (q : Nat) (g3 : Nat) (L3 : List Ev) (ρ : Env), m = l.length - p ∧ σ = setAll ρ [(0, vv), (1, .int .i64 ((l.length : Nat) : Int)), (2, .func (.func 39) #[] #[.pointer (some ⟨cb, 0, none⟩)]), (6, .int .i64 ((bs : Nat) : Int)), (7, .int .i64 ((p : Nat) : Int)), (8, .int .i64 ((q : Nat) : Int))] ∧ (Chg (fun i => vv.ownBlock = some i) w3 wq) ∧ (OwnS 29 lo wq F vv L3) ∧ (wq.heap[cb]? = some (.cells #[.func (.func 28) #[] #[]] 49)) ∧ (p ≤ l.length) ∧ (q = p + 2 * bs) ∧ (l.length < p + g3) ∧ (L3.length = l.length) ∧ (mergeRow less bs g3 p L3 = mergeRow less bs (l.length + 1) 0 L2)) ⟨0, 2 * bs, l.length + 1, L2, _, rfl, setAll_self ⟨rfl, rfl, rfl, rfl, rfl, rfl, trivial⟩, (Chg.refl _ _), ho2, hcb2, Nat.zero_le _, by omega, by omega, hl2, rfl⟩ ?_
      rintro m11 σ12 w4 ⟨p, q, g3, L3, ρ4, rfl, rfl, hx3, ho3, hcb3, hp, hq, hg3, hl3, hrow⟩
      have hx3s := hx3.size
      refine WP_seq ?_
      refine WP_seq ?_
      refine WP_region0 (by kernel_rfl) (fun _ => ?_)
      refine st (ov_move (v := .int .i64 ((q : Nat) : Int)) rfl ?_)
      refine st (ov_move (v := .int .i64 ((l.length : Nat) : Int)) rfl ?_)
      refine st (ov_leq (k := .i64) (a := ((q : Nat) : Int)) (b := ((l.length : Nat) : Int)) rfl rfl ?_)
      refine st_nil ?_
      cases hc13 : decide (((q : Nat) : Int) ≤ ((l.length : Nat) : Int))
      · skip
        have hc13 := of_decide_eq_false hc13
        refine WP_cond_f rfl ?_
        refine WP_exit ?_
        refine blk_exit ?_
        refine WP_seq ?_
        refine WP_seq ?_
        refine WP_region0 (by kernel_rfl) (fun _ => ?_)
        refine st (ov_move (v := .int .i64 ((p : Nat) : Int)) rfl ?_)
        refine st (ov_move (v := .int .i64 ((bs : Nat) : Int)) rfl ?_)
        have hr14 : InR ((p + bs : Nat) : Int) := by omega
        refine st (ov_add (r := ((p + bs : Nat) : Int)) (k := .i64) (a := ((p : Nat) : Int)) (b := ((bs : Nat) : Int)) rfl rfl (by rw [show (((p : Nat) : Int) + ((bs : Nat) : Int) : Int) = ((p + bs : Nat) : Int) by omega]; exact wrap_in hr14) ?_)
        refine st (ov_assign (v := .int .i64 ((p + bs : Nat) : Int)) rfl ?_)
        refine st_nil ?_
        refine WP_seq ?_
        refine WP_region0 (by kernel_rfl) (fun _ => ?_)
        refine st (ov_move (v := .int .i64 ((p + bs : Nat) : Int)) rfl ?_)
        refine st (ov_move (v := .int .i64 ((l.length : Nat) : Int)) rfl ?_)
        refine st (ov_lss (k := .i64) (a := ((p + bs : Nat) : Int)) (b := ((l.length : Nat) : Int)) rfl rfl ?_)
        refine st_nil ?_
        cases hc15 : decide (((p + bs : Nat) : Int) < ((l.length : Nat) : Int))
        · skip
          have hc15 := of_decide_eq_false hc15
          refine WP_cond_f rfl ?_
          refine WP_skip ?_
          refine WP_region0 (by kernel_rfl) (fun _ => ?_)
          refine st (ov_move (v := .int .i64 ((bs : Nat) : Int)) rfl ?_)
          have hr16 : InR ((bs * 2 : Nat) : Int) := by omega
          refine st (ov_mul (r := ((bs * 2 : Nat) : Int)) (k := .i64) (a := ((bs : Nat) : Int)) (b := 2) rfl rfl (by rw [show (((bs : Nat) : Int) * 2 : Int) = ((bs * 2 : Nat) : Int) by omega]; exact wrap_in hr16) ?_)
          refine st (ov_assign (v := .int .i64 ((bs * 2 : Nat) : Int)) rfl ?_)
          refine st_nil ?_
          exact ⟨_, by omega, bs * 2, g2 - 1, L3, _, rfl, setAll_self ⟨rfl, rfl, rfl, rfl, trivial⟩, (Chg.trans hx2 hx3), ho3, hcb3, by omega, by omega, by first | exact hl3 | (simp only [symL_length]; exact hl3), (by rw [Nat.mul_comm bs 2]; refine Eq.trans ?_ ((mergeAll_yes (g := g2) (bs := bs) (d := L2) (by omega) (by omega)).symm.trans hall); rw [hl2, ← hrow]; first | rw [mergeRow_f (by omega) (by omega)] | (rw [mergeRow_t (by omega) (by omega) (by omega), hl3]))⟩
        · skip
          have hc15 := of_decide_eq_true hc15
          refine WP_cond_t rfl ?_
          refine WP_region0 (by kernel_rfl) (fun _ => ?_)
          refine st (ov_move (v := vv) rfl ?_)
          refine st (ov_move (v := .int .i64 ((p : Nat) : Int)) rfl ?_)
          refine st (ov_move (v := .int .i64 ((p + bs : Nat) : Int)) rfl ?_)
          refine st (ov_move (v := .int .i64 ((l.length : Nat) : Int)) rfl ?_)
          refine st (ov_move (v := .func (.func 39) #[] #[.pointer (some ⟨cb, 0, none⟩)]) rfl ?_)
          refine st (ov_call (f := 43) (vals := [vv, .int .i64 ((p : Nat) : Int), .int .i64 ((p + bs : Nat) : Int), .int .i64 ((l.length : Nat) : Int), .func (.func 39) #[] #[.pointer (some ⟨cb, 0, none⟩)]]) (cap := []) (show _ = (.func (.func 43) #[] #[] : Value) from rfl) rfl Try.call43 (C_sym (l.length - p) (a := p) (md := p + bs) (b := l.length) ho3 hcb3 (by omega) (by omega) (by omega) (Nat.le_refl _) hne) ?_)
          rintro _ w5 ⟨rfl, ho18, hch17⟩
          have hch17s := hch17.size
          have h19 := hch17.keep hcb3 (fun e => hne e)
          refine st_nil ?_
          refine WP_region0 (by kernel_rfl) (fun _ => ?_)
          refine st (ov_move (v := .int .i64 ((bs : Nat) : Int)) rfl ?_)
          have hr20 : InR ((bs * 2 : Nat) : Int) := by omega
          refine st (ov_mul (r := ((bs * 2 : Nat) : Int)) (k := .i64) (a := ((bs : Nat) : Int)) (b := 2) rfl rfl (by rw [show (((bs : Nat) : Int) * 2 : Int) = ((bs * 2 : Nat) : Int) by omega]; exact wrap_in hr20) ?_)
          refine st (ov_assign (v := .int .i64 ((bs * 2 : Nat) : Int)) rfl ?_)
          refine st_nil ?_
          exact ⟨_, by omega, bs * 2, g2 - 1, symL less (l.length - (p)) (p) (p + bs) (l.length) (L3), _, rfl, setAll_self ⟨rfl, rfl, rfl, rfl, trivial⟩, (Chg.trans (Chg.trans hx2 hx3) hch17), ho18, h19, by omega, by omega, by first | exact hl3 | (simp only [symL_length]; exact hl3), (by rw [Nat.mul_comm bs 2]; refine Eq.trans ?_ ((mergeAll_yes (g := g2) (bs := bs) (d := L2) (by omega) (by omega)).symm.trans hall); rw [hl2, ← hrow]; first | rw [mergeRow_f (by omega) (by omega)] | (rw [mergeRow_t (by omega) (by omega) (by omega), hl3]))⟩
      · skip
        have hc13 := of_decide_eq_true hc13
        refine WP_cond_t rfl ?_
        refine WP_skip ?_
        refine WP_block ?_
        refine WP_seq ?_
        refine WP_region0 (by kernel_rfl) (fun _ => ?_)
        refine st (ov_move (v := vv) rfl ?_)
        refine st (ov_move (v := .int .i64 ((p : Nat) : Int)) rfl ?_)
        refine st (ov_move (v := .int .i64 ((p : Nat) : Int)) rfl ?_)
        refine st (ov_move (v := .int .i64 ((bs : Nat) : Int)) rfl ?_)
        have hr21 : InR ((p + bs : Nat) : Int) := by omega
        refine st (ov_add (r := ((p + bs : Nat) : Int)) (k := .i64) (a := ((p : Nat) : Int)) (b := ((bs : Nat) : Int)) rfl rfl (by rw [show (((p : Nat) : Int) + ((bs : Nat) : Int) : Int) = ((p + bs : Nat) : Int) by omega]; exact wrap_in hr21) ?_)
        refine st (ov_move (v := .int .i64 ((q : Nat) : Int)) rfl ?_)
        refine st (ov_move (v := .func (.func 39) #[] #[.pointer (some ⟨cb, 0, none⟩)]) rfl ?_)
        refine st (ov_call (f := 43) (vals := [vv, .int .i64 ((p : Nat) : Int), .int .i64 ((p + bs : Nat) : Int), .int .i64 ((q : Nat) : Int), .func (.func 39) #[] #[.pointer (some ⟨cb, 0, none⟩)]]) (cap := []) (show _ = (.func (.func 43) #[] #[] : Value) from rfl) rfl Try.call43 (C_sym (q - p) (a := p) (md := p + bs) (b := q) ho3 hcb3 (by omega) (by omega) (by omega) (Nat.le_refl _) hne) ?_)
        rintro _ w6 ⟨rfl, ho23, hch22⟩
        have hch22s := hch22.size
        have h24 := hch22.keep hcb3 (fun e => hne e)
        refine st_nil ?_
        refine WP_seq ?_
        refine WP_region0 (by kernel_rfl) (fun _ => ?_)
        refine st (ov_move (v := .int .i64 ((q : Nat) : Int)) rfl ?_)
        refine st (ov_assign (v := .int .i64 ((q : Nat) : Int)) rfl ?_)
        refine st_nil ?_
        refine WP_region0 (by kernel_rfl) (fun _ => ?_)
        refine st (ov_move (v := .int .i64 ((q : Nat) : Int)) rfl ?_)
        refine st (ov_move (v := .int .i64 ((bs : Nat) : Int)) rfl ?_)
        have hr25 : InR ((2 * bs : Nat) : Int) := by omega
        refine st (ov_mul (r := ((2 * bs : Nat) : Int)) (k := .i64) (a := 2) (b := ((bs : Nat) : Int)) rfl rfl (by rw [show (2 * ((bs : Nat) : Int) : Int) = ((2 * bs : Nat) : Int) by omega]; exact wrap_in hr25) ?_)
        have hr26 : InR ((q + (2 * bs) : Nat) : Int) := by omega
        refine st (ov_add (r := ((q + (2 * bs) : Nat) : Int)) (k := .i64) (a := ((q : Nat) : Int)) (b := ((2 * bs : Nat) : Int)) rfl rfl (by rw [show (((q : Nat) : Int) + ((2 * bs : Nat) : Int) : Int) = ((q + (2 * bs) : Nat) : Int) by omega]; exact wrap_in hr26) ?_)
        refine st (ov_assign (v := .int .i64 ((q + (2 * bs) : Nat) : Int)) rfl ?_)
        refine st_nil ?_
        exact ⟨_, by omega, q, q + (2 * bs), g3 - 1, symL less (q - (p)) (p) (p + bs) (q) (L3), _, rfl, setAll_self ⟨rfl, rfl, rfl, rfl, rfl, rfl, trivial⟩, (Chg.trans hx3 hch22), ho23, h24, by omega, by omega, by omega, by simp only [symL_length]; exact hl3, (by rw [← hrow, show q - p = 2 * bs by omega, hq]; exact (mergeRow_yes (by omega) (by omega)).symm)⟩
  · skip
    have hc3 := of_decide_eq_true hc3
    refine WP_cond_t rfl ?_
    refine WP_skip ?_
    refine WP_block ?_
    refine WP_seq ?_
    refine WP_region0 (by kernel_rfl) (fun _ => ?_)
    refine st (ov_move (v := vv) rfl ?_)
    refine st (ov_move (v := .int .i64 ((p : Nat) : Int)) rfl ?_)
    refine st (ov_move (v := .int .i64 ((p + 20 : Nat) : Int)) rfl ?_)
    refine st (ov_move (v := .func (.func 39) #[] #[.pointer (some ⟨cb, 0, none⟩)]) rfl ?_)
    refine st (ov_call (f := 42) (vals := [vv, .int .i64 ((p : Nat) : Int), .int .i64 ((p + 20 : Nat) : Int), .func (.func 39) #[] #[.pointer (some ⟨cb, 0, none⟩)]]) (cap := []) (show _ = (.func (.func 42) #[] #[] : Value) from rfl) rfl Try.call42 (C_ins (a := p) (b := p + 20) ho1 hcb1 (by omega) (by omega) hne) ?_)
    rintro _ w7 ⟨rfl, ho28, hch27⟩
    have hch27s := hch27.size
    have h29 := hch27.keep hcb1 (fun e => hne e)
    refine st_nil ?_
    refine WP_seq ?_
    refine WP_region0 (by kernel_rfl) (fun _ => ?_)
    refine st (ov_move (v := .int .i64 ((p + 20 : Nat) : Int)) rfl ?_)
    refine st (ov_assign (v := .int .i64 ((p + 20 : Nat) : Int)) rfl ?_)
    refine st_nil ?_
    refine WP_region0 (by kernel_rfl) (fun _ => ?_)
    refine st (ov_move (v := .int .i64 ((p + 20 : Nat) : Int)) rfl ?_)
    refine st (ov_move (v := .int .i64 (20)) rfl ?_)
    have hr30 : InR ((p + 20 + 20 : Nat) : Int) := by omega
    refine st (ov_add (r := ((p + 20 + 20 : Nat) : Int)) (k := .i64) (a := ((p + 20 : Nat) : Int)) (b := 20) rfl rfl (by rw [show (((p + 20 : Nat) : Int) + 20 : Int) = ((p + 20 + 20 : Nat) : Int) by omega]; exact wrap_in hr30) ?_)
    refine st (ov_assign (v := .int .i64 ((p + 20 + 20 : Nat) : Int)) rfl ?_)
    refine st_nil ?_
    exact ⟨_, by omega, p + 20, g - 1, insFrom p (p + 20 - (p + 1)) (p + 1) (L), _, rfl, setAll_self ⟨rfl, rfl, rfl, rfl, rfl, rfl, trivial⟩, (Chg.trans hx hch27), ho28, h29, by omega, by omega, by rw [insFrom_length]; exact hl1, (by rw [← hin, insFrom_eq]; exact (insB_yes (by omega) (by omega)).symm)⟩

theorem C_sortStable {w : World} {lo : Nat} {F : Nat → Prop} {vv : Value} {l : List Ev} (ho : OwnS 29 lo w F vv l) {cb : Nat} (hcb : w.heap[cb]? = some (.cells #[.func (.func 28) #[] #[]] 49)) (hne : vv.ownBlock ≠ some cb) : Ret Try.prog 31 [vv, .func (.func 39) #[] #[.pointer (some ⟨cb, 0, none⟩)]] w (fun r w' => r = .tuple #[] ∧ OwnS 29 lo w' F vv (insFrom 0 (l.length - (0 + 1)) (0 + 1) l) ∧ Chg (fun i => vv.ownBlock = some i) w w') := by
  have hsm0 : l.length * 96 ≤ 140737488355328 := ho.small
  refine Calls_of_WP (args := [vv, .func (.func 39) #[] #[.pointer (some ⟨cb, 0, none⟩)]]) Try.func31 rfl rfl ?_
  refine WP_region0 (by kernel_rfl) (fun _ => ?_)
  refine st (ov_move (v := vv) rfl ?_)
  refine st (ov_move (v := vv) rfl ?_)
  refine st (ov_len (n := l.length) Try.underlying22 rfl ho.isSl ?_)
  refine st (ov_move (v := .func (.func 39) #[] #[.pointer (some ⟨cb, 0, none⟩)]) rfl ?_)
  refine st (ov_call (f := 38) (vals := [vv, .int .i64 ((l.length : Nat) : Int), .func (.func 39) #[] #[.pointer (some ⟨cb, 0, none⟩)]]) (cap := []) (show _ = (.func (.func 38) #[] #[] : Value) from rfl) rfl Try.call38 (C_stable  ho hcb  hne) ?_)
  rintro _ w1 ⟨rfl, ho2, hch1⟩
  have hch1s := hch1.size
  have h3 := hch1.keep hcb (fun e => hne e)
  refine st_nil ?_
  refine fin0 Try.results31 ?_
  exact ⟨rfl, ho2, hch1⟩

end Go.Proofs.Ytbbhpddgjiifmaa
