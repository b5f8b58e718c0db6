/- Steps of the proofs of this seat: part S5. -/
import Derived.Test.YtbbpmhfcgoljdaaS3
import Derived.Test.YtbbpmhfcgoljdaaLMeans
import Derived.Test.YtbbpmhfcgoljdaaLTurns
import Derived.Test.YtbbpmhfcgoljdaaLVoid
import Derived.Test.YtbbpmhfcgoljdaaOps2
set_option linter.unusedSimpArgs false
set_option linter.unusedVariables false
namespace Go.Proofs.Ytbbpmhfcgoljdaa
open Go.Proofs Go.RowKit

theorem D_ProjMeans {G : Nat → Prop} {W w : World} {Rs : List HP} {p : Prj} (op : p.Ok) {vl : Value} {l : List Ent} (hl : RdS W G vl l) {vg : Value} {g : List Int} (hg : RdS W G vg g) (hS0 : Sep G W Rs w) : Ret Try.prog 3 [.agg (p.cells).toArray, vl, vg] w (fun r w' => r = (.bool true : Value) ∧ Sep G W Rs w') := by
  refine Ret.mono (C_ProjMeans op (hS0.rds hl) (hS0.rds hg)) ?_
  rintro r w1 ⟨rfl, hx⟩
  exact ⟨rfl, hS0.ext hx⟩

theorem D_ProjVoid {G : Nat → Prop} {W w : World} {Rs : List HP} {p : Prj} (op : p.Ok) {vl : Value} {l : List Ent} (hl : RdS W G vl l) {vg : Value} {g : List Int} (hg : RdS W G vg g) (hS0 : Sep G W Rs w) : Ret Try.prog 5 [.agg (p.cells).toArray, vl, vg] w (fun r w' => r = (.bool true : Value) ∧ Sep G W Rs w') := by
  refine Ret.mono (C_ProjVoid op (hS0.rds hl) (hS0.rds hg)) ?_
  rintro r w1 ⟨rfl, hx⟩
  exact ⟨rfl, hS0.ext hx⟩

theorem D_ProjTurns {G : Nat → Prop} {W w : World} {Rs : List HP} {p : Prj} (op : p.Ok) {vl : Value} {l : List Ent} (hl : RdS W G vl l) {vg : Value} {g : List Int} (hg : RdS W G vg g) {t : Int} (ht : InR t) (hS0 : Sep G W Rs w) : Ret Try.prog 4 [.agg (p.cells).toArray, vl, vg, .int .i64 (t)] w (fun r w' => r = (.bool true : Value) ∧ Sep G W Rs w') := by
  refine Ret.mono (C_ProjTurns op (hS0.rds hl) (hS0.rds hg) ht) ?_
  rintro r w1 ⟨rfl, hx⟩
  exact ⟨rfl, hS0.ext hx⟩

theorem D_sets {G : Nat → Prop} {W w : World} {Rs : List HP} {f : Int} (hf : InR f) {b : Int} (hb : InR b) (hS0 : Sep G W Rs w) : Ret Try.prog 26 [.int .i64 (f), .int .i64 (b)] w (fun r w' => r = (.agg ((setsE f b).cells (.slice none 0 0)).toArray : Value) ∧ ((setsE f b).Ok) ∧ Sep G W Rs w') := by
  refine Ret.mono (C_sets hf hb) ?_
  rintro r w1 ⟨rfl, hx⟩
  exact ⟨rfl, setsE_ok hf hb, hS0.ext hx⟩

theorem el24 : Elem Try.prog 24 38 13 120 := ⟨Try.underlying24, _, _, rfl, rfl, rfl, rfl, rfl⟩
set_option maxHeartbeats 4000000 in
set_option maxRecDepth 100000 in
theorem D_ProjKnown {G : Nat → Prop} {W w : World} {Rs : List HP}  (hS0 : Sep G W Rs w) : Ret Try.prog 8 [] w (fun r w' => r = (.bool true : Value) ∧ Sep G W Rs w') := by
  refine Calls_of_WP (args := []) Try.func8 rfl rfl ?_
  refine WP_seq ?_
  refine WP_region0 (by kernel_rfl) (fun _ => ?_)
  refine st (ov_assign (v := .bool false) rfl ?_)
  refine st_nil ?_
  refine WP_seq ?_
  refine WP_region0 (by kernel_rfl) (fun _ => ?_)
  refine st (ov_buildSlice (k := 1) (parts' := [(0, .int .i64 (-9223372036854775808)), (1, .int .i64 (-1)), (2, .int .i64 (0)), (3, .int .i64 (1)), (4, .int .i64 (5)), (5, .int .i64 (9223372036854775807))]) (c := #[.int .i64 (-9223372036854775808), .int .i64 (-1), .int .i64 (0), .int .i64 (1), .int .i64 (5), .int .i64 (9223372036854775807)]) Try.underlying25 Try.sizeOf3 Try.zeroValue3 (by decide) rfl (by kernel_rfl) ?_)
  intro w3 b2 hn1
  have hS4 : Sep G W ((Blk b2 #[.int .i64 (-9223372036854775808), .int .i64 (-1), .int .i64 (0), .int .i64 (1), .int .i64 (5), .int .i64 (9223372036854775807)] 3) :: Rs) w3 := hS0.new hn1
  refine st (ov_assign (v := (.slice (some ⟨b2, 0, none⟩) 6 6)) rfl ?_)
  refine st_nil ?_
  refine WP_seq ?_
  refine WP_region0 (by kernel_rfl) (fun _ => ?_)
  refine st (ov_assign (v := (.slice none 0 0)) rfl ?_)
  refine st_nil ?_
  refine WP_seq ?_
  refine WP_seq ?_
  refine WP_region0 (by kernel_rfl) (fun _ => ?_)
  refine st (ov_assign (v := .int .i64 (0)) rfl ?_)
  refine st_nil ?_
  refine WP_block ?_
  have hS5 : Sep G W ((RowE (α := Int) own 3 (.slice (some ⟨b2, 0, none⟩) 6 6) [-9223372036854775808, -1, 0, 1, 5, 9223372036854775807]) :: Rs) w3 := Sep.blkRow (src := own) (l := [-9223372036854775808, -1, 0, 1, 5, 9223372036854775807]) (css := [[.int .i64 (-9223372036854775808)], [.int .i64 (-1)], [.int .i64 (0)], [.int .i64 (1)], [.int .i64 (5)], [.int .i64 (9223372036854775807)]]) hS4 rfl ⟨fun _ _ => ⟨rfl, (by decide)⟩, fun _ _ => ⟨rfl, (by decide)⟩, fun _ _ => ⟨rfl, (by decide)⟩, fun _ _ => ⟨rfl, (by decide)⟩, fun _ _ => ⟨rfl, (by decide)⟩, fun _ _ => ⟨rfl, (by decide)⟩, trivial⟩ (by first | decide | (simp only [List.length_cons, List.length_nil]; decide))
  have hr6 := hS5.row (i := 0) rfl
  have hr6s : [-9223372036854775808, -1, 0, 1, 5, 9223372036854775807].length * 8 ≤ 140737488355328 := hr6.2
  have hS7 : Sep G W ((RowE (α := Ent) own 38 (.slice none 0 0) ([] : List Ent)) :: (RowE (α := Int) own 3 (.slice (some ⟨b2, 0, none⟩) 6 6) [-9223372036854775808, -1, 0, 1, 5, 9223372036854775807]) :: Rs) w3 := hS5.rowNil own 38
  refine WP_loop (fun mq σ wq => ∃ (k : Nat) (vo : Value) (le : List Ent) (ρ : Env), mq = 20 - k ∧ σ = setAll ρ [(1, (.slice (some ⟨b2, 0, none⟩) 6 6)), (2, vo), (3, .int .i64 ((k : Nat) : Int))] ∧ (k ≤ 20) ∧ (le.length = k) ∧ Sep G W ((RowE (α := Ent) own 38 vo le) :: (RowE (α := Int) own 3 (.slice (some ⟨b2, 0, none⟩) 6 6) [-9223372036854775808, -1, 0, 1, 5, 9223372036854775807]) :: Rs) wq) ⟨0, .slice none 0 0, [], _, rfl, setAll_self ⟨rfl, rfl, rfl, trivial⟩, by omega, rfl, hS7⟩ ?_
  rintro m9 σ10 w8 ⟨k, vo, le, ρl1, rfl, rfl, hk, hle, hS11⟩
  have hr12 := hS11.row (i := 0) rfl
  have hr12s : le.length * 120 ≤ 140737488355328 := hr12.2
  refine WP_seq ?_
  refine WP_seq ?_
  refine WP_region0 (by kernel_rfl) (fun _ => ?_)
  refine st (ov_move (v := .int .i64 ((k : Nat) : Int)) rfl ?_)
  refine st (ov_lss (k := .i64) (a := ((k : Nat) : Int)) (b := 20) rfl rfl ?_)
  refine st_nil ?_
  cases hc13 : decide (((k : Nat) : Int) < 20)
  · skip
    have hc13 := of_decide_eq_false hc13
    refine WP_cond_f rfl ?_
    refine WP_exit ?_
    refine blk_exit ?_
    refine WP_seq ?_
    refine WP_seq ?_
    refine WP_region0 (by kernel_rfl) (fun _ => ?_)
    refine st (ov_assign (v := .int .i64 (-1)) rfl ?_)
    refine st_nil ?_
    refine WP_block ?_
    obtain ⟨G14, hA16, hB17, hS18, hk19⟩ := hS11.lend
    have hrd20 := RowE.rd hA16
    have hrd20s : le.length * 120 ≤ 140737488355328 := hrd20.small
    obtain ⟨G21, hA23, hB24, hS25, hk26⟩ := hS18.lend
    have hrd27 := RowE.rd hA23
    have hrd27s : [-9223372036854775808, -1, 0, 1, 5, 9223372036854775807].length * 8 ≤ 140737488355328 := hrd27.small
    refine WP_loop (fun mq σ wq => ∃ (gx : Int) (ρ : Env), mq = (5 - gx).toNat ∧ σ = setAll ρ [(1, (.slice (some ⟨b2, 0, none⟩) 6 6)), (2, vo), (5, .int .i64 (gx))] ∧ (-1 ≤ gx ∧ gx ≤ 5) ∧ Sep G21 w8 Rs wq) ⟨-1, _, rfl, setAll_self ⟨rfl, rfl, rfl, trivial⟩, by omega, hS25⟩ ?_
    rintro m29 σ30 w28 ⟨gx, ρl2, rfl, rfl, hgx, hS31⟩
    refine WP_seq ?_
    refine WP_seq ?_
    refine WP_region0 (by kernel_rfl) (fun _ => ?_)
    refine st (ov_move (v := .int .i64 (gx)) rfl ?_)
    refine st (ov_leq (k := .i64) (a := gx) (b := 4) rfl rfl ?_)
    refine st_nil ?_
    cases hc32 : decide (gx ≤ 4)
    · skip
      have hc32 := of_decide_eq_false hc32
      refine WP_cond_f rfl ?_
      refine WP_exit ?_
      refine blk_exit ?_
      refine WP_seq ?_
      refine WP_region0 (by kernel_rfl) (fun _ => ?_)
      refine st (ov_call (f := 10) (vals := []) (cap := []) (show _ = (.func (.func 10) #[] #[] : Value) from rfl) rfl Try.call10 (D_works  hS31) ?_)
      rintro _ w33 ⟨rfl, hS34⟩
      refine st (ov_assign (v := .bool true) rfl ?_)
      refine st_nil ?_
      refine WP_ret ?_
      refine fin1 Try.results8 (show _ = (.bool true : Value) from rfl) ?_
      have hS35 : Sep G14 w8 ((RowE (α := Int) own 3 (.slice (some ⟨b2, 0, none⟩) 6 6) [-9223372036854775808, -1, 0, 1, 5, 9223372036854775807]) :: Rs) w33 := hk26 _ _ hS34
      have hS36 : Sep G W ((RowE (α := Ent) own 38 vo le) :: (RowE (α := Int) own 3 (.slice (some ⟨b2, 0, none⟩) 6 6) [-9223372036854775808, -1, 0, 1, 5, 9223372036854775807]) :: Rs) w33 := hk19 _ _ hS35
      have hS37 : Sep G W Rs w33 := hS36.sel 2 [] (Nat.le_add_left _ _) rfl rfl
      refine ⟨rfl, hS37⟩
    · skip
      have hc32 := of_decide_eq_true hc32
      refine WP_cond_t rfl ?_
      refine WP_skip ?_
      refine WP_seq ?_
      refine WP_block ?_
      refine WP_seq ?_
      refine WP_region0 (by kernel_rfl) (fun _ => ?_)
      refine st (ov_assign (v := .int .i64 (-1)) rfl ?_)
      refine st_nil ?_
      refine WP_block ?_
      refine WP_loop (fun mq σ wq => ∃ (mx : Int) (ρ : Env), mq = (7 - mx).toNat ∧ σ = setAll ρ [(1, (.slice (some ⟨b2, 0, none⟩) 6 6)), (2, vo), (5, .int .i64 (gx)), (6, .int .i64 (mx))] ∧ (-1 ≤ mx ∧ mx ≤ 7) ∧ Sep G21 w8 Rs wq) ⟨-1, _, rfl, setAll_self ⟨rfl, rfl, rfl, rfl, trivial⟩, by omega, hS31⟩ ?_
      rintro m39 σ40 w38 ⟨mx, ρl3, rfl, rfl, hmx, hS41⟩
      refine WP_seq ?_
      refine WP_seq ?_
      refine WP_region0 (by kernel_rfl) (fun _ => ?_)
      refine st (ov_move (v := .int .i64 (mx)) rfl ?_)
      refine st (ov_leq (k := .i64) (a := mx) (b := 6) rfl rfl ?_)
      refine st_nil ?_
      cases hc42 : decide (mx ≤ 6)
      · skip
        have hc42 := of_decide_eq_false hc42
        refine WP_cond_f rfl ?_
        refine WP_exit ?_
        refine blk_exit ?_
        refine WP_region0 (by kernel_rfl) (fun _ => ?_)
        refine st (ov_move (v := .int .i64 (gx)) rfl ?_)
        have hr43 : InR (gx + 1) := by omega
        refine st (ov_add (r := gx + 1) (k := .i64) (a := gx) (b := 1) rfl rfl (wrap_in hr43) ?_)
        refine st (ov_assign (v := .int .i64 (gx + 1)) rfl ?_)
        refine st_nil ?_
        exact ⟨_, by omega, gx + 1, _, rfl, setAll_self ⟨rfl, rfl, rfl, trivial⟩, by omega, hS41⟩
      · skip
        have hc42 := of_decide_eq_true hc42
        refine WP_cond_t rfl ?_
        refine WP_skip ?_
        refine WP_seq ?_
        refine WP_block ?_
        refine WP_seq ?_
        refine WP_region0 (by kernel_rfl) (fun _ => ?_)
        refine st (ov_assign (v := .int .i64 (0)) rfl ?_)
        refine st_nil ?_
        refine WP_block ?_
        refine WP_loop (fun mq σ wq => ∃ (z : Nat) (ρ : Env), mq = 6 - z ∧ σ = setAll ρ [(1, (.slice (some ⟨b2, 0, none⟩) 6 6)), (2, vo), (5, .int .i64 (gx)), (6, .int .i64 (mx)), (7, .int .i64 ((z : Nat) : Int))] ∧ (z ≤ 6) ∧ Sep G21 w8 Rs wq) ⟨0, _, rfl, setAll_self ⟨rfl, rfl, rfl, rfl, rfl, trivial⟩, Nat.zero_le _, hS41⟩ ?_
        rintro m45 σ46 w44 ⟨z, ρl4, rfl, rfl, hkz, hS47⟩
        refine WP_seq ?_
        refine WP_seq ?_
        refine WP_region0 (by kernel_rfl) (fun _ => ?_)
        refine st (ov_move (v := .int .i64 ((z : Nat) : Int)) rfl ?_)
        refine st (ov_move (v := (.slice (some ⟨b2, 0, none⟩) 6 6)) rfl ?_)
        refine st (ov_len (n := 6) Try.underlying25 rfl (⟨_, 6, rfl, Nat.le_refl _, fun _ => ⟨_, _, rfl⟩⟩ : IsSl _ 6) ?_)
        refine st (ov_lss (k := .i64) (a := ((z : Nat) : Int)) (b := ((6 : Nat) : Int)) rfl rfl ?_)
        refine st_nil ?_
        cases hc48 : decide (((z : Nat) : Int) < ((6 : Nat) : Int))
        · skip
          have hc48 := of_decide_eq_false hc48
          refine WP_cond_f rfl ?_
          refine WP_exit ?_
          refine blk_exit ?_
          refine WP_region0 (by kernel_rfl) (fun _ => ?_)
          refine st (ov_move (v := .int .i64 (mx)) rfl ?_)
          have hr49 : InR (mx + 1) := by omega
          refine st (ov_add (r := mx + 1) (k := .i64) (a := mx) (b := 1) rfl rfl (wrap_in hr49) ?_)
          refine st (ov_assign (v := .int .i64 (mx + 1)) rfl ?_)
          refine st_nil ?_
          exact ⟨_, by omega, mx + 1, _, rfl, setAll_self ⟨rfl, rfl, rfl, rfl, trivial⟩, by omega, hS47⟩
        · skip
          have hc48 := of_decide_eq_true hc48
          refine WP_cond_t rfl ?_
          refine WP_skip ?_
          refine WP_seq ?_
          refine WP_block ?_
          refine WP_seq ?_
          refine WP_region0 (by kernel_rfl) (fun _ => ?_)
          refine st (ov_move (v := .int .i64 (gx)) rfl ?_)
          refine st (ov_move (v := .int .i64 (mx)) rfl ?_)
          refine st (ov_move (v := .int .i64 ((z : Nat) : Int)) rfl ?_)
          have h050 : (0 : Int) < 2 := by omega
          have h050m : z % 2 < 2 := Nat.mod_lt _ (by omega)
          refine st (ov_rem (r := ((z % 2 : Nat) : Int)) rfl rfl h050 (Int.ofNat_tmod _ _).symm ?_)
          refine st (ov_move (v := .int .i64 ((z : Nat) : Int)) rfl ?_)
          refine st (ov_quo (r := ((z / 5 : Nat) : Int)) rfl rfl (by omega) (by rw [show Int.tdiv (((z : Nat) : Int)) (5) = ((z / 5 : Nat) : Int) from (Int.ofNat_tdiv _ _).symm]; exact wrap_in (by omega)) ?_)
          have ok51 : Prj.Ok (⟨((z / 5 : Nat) : Int), ((z % 2 : Nat) : Int), gx, 0, mx⟩ : Prj) := ⟨(show InR (((z / 5 : Nat) : Int)) from (by omega)), (show InR (((z % 2 : Nat) : Int)) from (by omega)), (show InR (gx) from (by omega)), (show InR (0) from (by decide)), (show InR (mx) from (by omega))⟩
          refine st (ov_build (parts' := [(2, .int .i64 (gx)), (4, .int .i64 (mx)), (1, .int .i64 ((z % 2 : Nat) : Int)), (0, .int .i64 ((z / 5 : Nat) : Int))]) (v := .agg ((⟨((z / 5 : Nat) : Int), ((z % 2 : Nat) : Int), gx, 0, mx⟩ : Prj).cells).toArray) rfl (by simp [Instr.build, Instr.fill, Ev.cells, go_sem, Ev.cells, Ent.cells, Row.cells, Prj.cells]) ?_)
          refine st (ov_alloc Try.zeroValue23 ?_)
          intro w54 b53 hn52
          have hS55 : Sep G21 w8 ((Blk b53 #[.int .i64 (0), .int .i64 (0), .int .i64 (0), .int .i64 (0), .int .i64 (0)] 23) :: Rs) w54 := hS47.new hn52
          refine stn (ov_store (v := .agg ((⟨((z / 5 : Nat) : Int), ((z % 2 : Nat) : Int), gx, 0, mx⟩ : Prj).cells).toArray) (c' := ((⟨((z / 5 : Nat) : Int), ((z % 2 : Nat) : Int), gx, 0, mx⟩ : Prj).cells).toArray) Try.sizeOf23 rfl rfl (hS55.blk (i := 0) rfl) (all1 ⟨rfl, rfl, rfl, rfl, rfl, trivial⟩) (Nat.le_of_ble_eq_true rfl) rfl ?_)
          intro w56 hp57
          have hS58 : Sep G21 w8 ((Blk b53 ((⟨((z / 5 : Nat) : Int), ((z % 2 : Nat) : Int), gx, 0, mx⟩ : Prj).cells).toArray 23) :: Rs) w56 := hS55.put (i := 0) rfl hp57
          refine st_nil ?_
          refine WP_seq ?_
          refine WP_draw4 (WF [fun vals wq => Sep G21 w8 ((Blk b53 ((⟨((z / 5 : Nat) : Int), ((z % 2 : Nat) : Int), gx, 0, mx⟩ : Prj).cells).toArray 23) :: Rs) wq, fun vals wq => (vals 5 = (.bool true : Value)) ∧ Sep G21 w8 ((Blk b53 ((⟨((z / 5 : Nat) : Int), ((z % 2 : Nat) : Int), gx, 0, mx⟩ : Prj).cells).toArray 23) :: Rs) wq, fun vals wq => (vals 5 = (.bool true : Value)) ∧ (vals 13 = (.bool true : Value)) ∧ Sep G21 w8 ((Blk b53 ((⟨((z / 5 : Nat) : Int), ((z % 2 : Nat) : Int), gx, 0, mx⟩ : Prj).cells).toArray 23) :: Rs) wq, fun vals wq => (vals 5 = (.bool true : Value)) ∧ (vals 13 = (.bool true : Value)) ∧ (vals 24 = (.bool true : Value)) ∧ Sep G21 w8 ((Blk b53 ((⟨((z / 5 : Nat) : Int), ((z % 2 : Nat) : Int), gx, 0, mx⟩ : Prj).cells).toArray 23) :: Rs) wq, fun vals wq => (vals 5 = (.bool true : Value)) ∧ (vals 13 = (.bool true : Value)) ∧ (vals 24 = (.bool true : Value)) ∧ (vals 33 = (.bool true : Value)) ∧ Sep G21 w8 ((Blk b53 ((⟨((z / 5 : Nat) : Int), ((z % 2 : Nat) : Int), gx, 0, mx⟩ : Prj).cells).toArray 23) :: Rs) wq]) (AF [fun vals => vals 0 = (.agg ((⟨((z / 5 : Nat) : Int), ((z % 2 : Nat) : Int), gx, 0, mx⟩ : Prj).cells).toArray : Value), fun vals => vals 1 = (vo : Value), fun vals => vals 2 = ((.slice (some ⟨b2, 0, none⟩) 6 6) : Value), fun vals => vals 3 = (.int .i64 ((z : Nat) : Int) : Value), fun vals => vals 4 = (.int .i64 ((3 * z : Nat) : Int) : Value), fun _ => True, fun vals => vals 6 = (.bool false : Value), fun vals => vals 7 = (.bool false : Value), fun vals => vals 8 = (.agg ((⟨((z / 5 : Nat) : Int), ((z % 2 : Nat) : Int), gx, 0, mx⟩ : Prj).cells).toArray : Value), fun vals => vals 9 = (vo : Value), fun vals => vals 10 = ((.slice (some ⟨b2, 0, none⟩) 6 6) : Value), fun vals => vals 11 = (.int .i64 ((z : Nat) : Int) : Value), fun vals => vals 12 = ((subV 1 (.slice (some ⟨b2, 0, none⟩) 6 6) 0 z) : Value), fun _ => True, fun vals => vals 14 = (.bool false : Value), fun vals => vals 15 = (.bool false : Value), fun vals => vals 16 = (.bool false : Value), fun vals => vals 17 = (.agg ((⟨((z / 5 : Nat) : Int), ((z % 2 : Nat) : Int), gx, 0, mx⟩ : Prj).cells).toArray : Value), fun vals => vals 18 = (vo : Value), fun vals => vals 19 = ((.slice (some ⟨b2, 0, none⟩) 6 6) : Value), fun vals => vals 20 = (.int .i64 ((z : Nat) : Int) : Value), fun vals => vals 21 = ((subV 1 (.slice (some ⟨b2, 0, none⟩) 6 6) z 6) : Value), fun vals => vals 22 = (.int .i64 ((z : Nat) : Int) : Value), fun vals => vals 23 = (.int .i64 ((5 * z : Nat) : Int) : Value), fun _ => True, fun vals => vals 25 = (.bool false : Value), fun vals => vals 26 = (.bool false : Value), fun vals => vals 27 = (.bool false : Value), fun vals => vals 28 = (.agg ((⟨((z / 5 : Nat) : Int), ((z % 2 : Nat) : Int), gx, 0, mx⟩ : Prj).cells).toArray : Value), fun vals => vals 29 = (vo : Value), fun vals => vals 30 = (.int .i64 ((z : Nat) : Int) : Value), fun vals => vals 31 = ((subV 13 vo z le.length) : Value), fun vals => vals 32 = ((.slice (some ⟨b2, 0, none⟩) 6 6) : Value), fun _ => True, fun vals => vals 34 = (.bool false : Value), fun vals => vals 35 = (.bool false : Value)]) [[], [], [], [], [3], [0, 1, 2, 3, 4], [0, 1, 2, 3, 4, 5], [0, 1, 2, 3, 4, 5, 6], [0, 1, 2, 3, 4, 5, 6, 7], [0, 1, 2, 3, 4, 5, 6, 7], [0, 1, 2, 3, 4, 5, 6, 7], [0, 1, 2, 3, 4, 5, 6, 7], [0, 1, 2, 3, 4, 5, 6, 7, 10, 11], [0, 1, 2, 3, 4, 5, 6, 7, 8, 9, 10, 11, 12], [0, 1, 2, 3, 4, 5, 6, 7, 8, 9, 10, 11, 12, 13], [0, 1, 2, 3, 4, 5, 6, 7, 8, 9, 10, 11, 12, 13, 14], [0, 1, 2, 3, 4, 5, 6, 7, 8, 9, 10, 11, 12, 13, 14, 15], [0, 1, 2, 3, 4, 5, 6, 7, 8, 9, 10, 11, 12, 13, 14, 15, 16], [0, 1, 2, 3, 4, 5, 6, 7, 8, 9, 10, 11, 12, 13, 14, 15, 16], [0, 1, 2, 3, 4, 5, 6, 7, 8, 9, 10, 11, 12, 13, 14, 15, 16], [0, 1, 2, 3, 4, 5, 6, 7, 8, 9, 10, 11, 12, 13, 14, 15, 16], [0, 1, 2, 3, 4, 5, 6, 7, 8, 9, 10, 11, 12, 13, 14, 15, 16, 19, 20], [0, 1, 2, 3, 4, 5, 6, 7, 8, 9, 10, 11, 12, 13, 14, 15, 16], [0, 1, 2, 3, 4, 5, 6, 7, 8, 9, 10, 11, 12, 13, 14, 15, 16, 22], [0, 1, 2, 3, 4, 5, 6, 7, 8, 9, 10, 11, 12, 13, 14, 15, 16, 17, 18, 19, 20, 21, 22, 23], [0, 1, 2, 3, 4, 5, 6, 7, 8, 9, 10, 11, 12, 13, 14, 15, 16, 17, 18, 19, 20, 21, 22, 23, 24], [0, 1, 2, 3, 4, 5, 6, 7, 8, 9, 10, 11, 12, 13, 14, 15, 16, 17, 18, 19, 20, 21, 22, 23, 24, 25], [0, 1, 2, 3, 4, 5, 6, 7, 8, 9, 10, 11, 12, 13, 14, 15, 16, 17, 18, 19, 20, 21, 22, 23, 24, 25, 26], [0, 1, 2, 3, 4, 5, 6, 7, 8, 9, 10, 11, 12, 13, 14, 15, 16, 17, 18, 19, 20, 21, 22, 23, 24, 25, 26, 27], [0, 1, 2, 3, 4, 5, 6, 7, 8, 9, 10, 11, 12, 13, 14, 15, 16, 17, 18, 19, 20, 21, 22, 23, 24, 25, 26, 27], [0, 1, 2, 3, 4, 5, 6, 7, 8, 9, 10, 11, 12, 13, 14, 15, 16, 17, 18, 19, 20, 21, 22, 23, 24, 25, 26, 27], [0, 1, 2, 3, 4, 5, 6, 7, 8, 9, 10, 11, 12, 13, 14, 15, 16, 17, 18, 19, 20, 21, 22, 23, 24, 25, 26, 27, 29, 30], [0, 1, 2, 3, 4, 5, 6, 7, 8, 9, 10, 11, 12, 13, 14, 15, 16, 17, 18, 19, 20, 21, 22, 23, 24, 25, 26, 27], [0, 1, 2, 3, 4, 5, 6, 7, 8, 9, 10, 11, 12, 13, 14, 15, 16, 17, 18, 19, 20, 21, 22, 23, 24, 25, 26, 27, 28, 29, 30, 31, 32], [0, 1, 2, 3, 4, 5, 6, 7, 8, 9, 10, 11, 12, 13, 14, 15, 16, 17, 18, 19, 20, 21, 22, 23, 24, 25, 26, 27, 28, 29, 30, 31, 32, 33], [0, 1, 2, 3, 4, 5, 6, 7, 8, 9, 10, 11, 12, 13, 14, 15, 16, 17, 18, 19, 20, 21, 22, 23, 24, 25, 26, 27, 28, 29, 30, 31, 32, 33, 34]] [5, 13, 24, 33] [(0, 0), (0, 0), (0, 0), (0, 0), (0, 0), (0, 0), (1, 1), (1, 1), (1, 1), (1, 1), (1, 1), (1, 1), (1, 1), (1, 1), (2, 2), (2, 2), (2, 2), (2, 2), (2, 2), (2, 2), (2, 2), (2, 2), (2, 2), (2, 2), (2, 2), (3, 3), (3, 3), (3, 3), (3, 3), (3, 3), (3, 3), (3, 3), (3, 3), (3, 3), (4, 4), (4, 4)] (by kernel_rfl) (by kernel_rfl) (by kernel_rfl) rfl (by kernel_rfl) (by kernel_rfl) (fun _ h1 h2 h3 h4 _ => hS58.same h1 h2 h3 h4) ?_ ?_ ⟨?_, ?_, ?_, ?_, ?_, ?_, ?_, ?_, ?_, ?_, ?_, ?_, ?_, ?_, ?_, ?_, ?_, ?_, ?_, ?_, ?_, ?_, ?_, ?_, ?_, ?_, ?_, ?_, ?_, ?_, ?_, ?_, ?_, ?_, ?_, ?_, trivial⟩ ?_
          · intro k vals vals' w hv h
            have e : ∀ j ∈ ([5, 13, 24, 33] : List Nat), vals' j = vals j := hv
            match k, h with
            | 0, h => exact h
            | 1, h => exact (by simpa only [WF, List.getElem?_cons_zero, List.getElem?_cons_succ, e 5 (by decide)] using h)
            | 2, h => exact (by simpa only [WF, List.getElem?_cons_zero, List.getElem?_cons_succ, e 5 (by decide), e 13 (by decide)] using h)
            | 3, h => exact (by simpa only [WF, List.getElem?_cons_zero, List.getElem?_cons_succ, e 5 (by decide), e 13 (by decide), e 24 (by decide)] using h)
            | 4, h => exact (by simpa only [WF, List.getElem?_cons_zero, List.getElem?_cons_succ, e 5 (by decide), e 13 (by decide), e 24 (by decide), e 33 (by decide)] using h)
            | _ + 5, _ => trivial
          · intro i vals vals' hv h
            match i, hv, h with
            | 0, hv, h => exact (hv 0 (.inl rfl)).trans h
            | 1, hv, h => exact (hv 1 (.inl rfl)).trans h
            | 2, hv, h => exact (hv 2 (.inl rfl)).trans h
            | 3, hv, h => exact (hv 3 (.inl rfl)).trans h
            | 4, hv, h => exact (hv 4 (.inl rfl)).trans h
            | 5, _, _ => trivial
            | 6, hv, h => exact (hv 6 (.inl rfl)).trans h
            | 7, hv, h => exact (hv 7 (.inl rfl)).trans h
            | 8, hv, h => exact (hv 8 (.inl rfl)).trans h
            | 9, hv, h => exact (hv 9 (.inl rfl)).trans h
            | 10, hv, h => exact (hv 10 (.inl rfl)).trans h
            | 11, hv, h => exact (hv 11 (.inl rfl)).trans h
            | 12, hv, h => exact (hv 12 (.inl rfl)).trans h
            | 13, _, _ => trivial
            | 14, hv, h => exact (hv 14 (.inl rfl)).trans h
            | 15, hv, h => exact (hv 15 (.inl rfl)).trans h
            | 16, hv, h => exact (hv 16 (.inl rfl)).trans h
            | 17, hv, h => exact (hv 17 (.inl rfl)).trans h
            | 18, hv, h => exact (hv 18 (.inl rfl)).trans h
            | 19, hv, h => exact (hv 19 (.inl rfl)).trans h
            | 20, hv, h => exact (hv 20 (.inl rfl)).trans h
            | 21, hv, h => exact (hv 21 (.inl rfl)).trans h
            | 22, hv, h => exact (hv 22 (.inl rfl)).trans h
            | 23, hv, h => exact (hv 23 (.inl rfl)).trans h
            | 24, _, _ => trivial
            | 25, hv, h => exact (hv 25 (.inl rfl)).trans h
            | 26, hv, h => exact (hv 26 (.inl rfl)).trans h
            | 27, hv, h => exact (hv 27 (.inl rfl)).trans h
            | 28, hv, h => exact (hv 28 (.inl rfl)).trans h
            | 29, hv, h => exact (hv 29 (.inl rfl)).trans h
            | 30, hv, h => exact (hv 30 (.inl rfl)).trans h
            | 31, hv, h => exact (hv 31 (.inl rfl)).trans h
            | 32, hv, h => exact (hv 32 (.inl rfl)).trans h
            | 33, _, _ => trivial
            | 34, hv, h => exact (hv 34 (.inl rfl)).trans h
            | 35, hv, h => exact (hv 35 (.inl rfl)).trans h
            | _ + 36, _, _ => trivial
          · intro k363 vals w364 h367 h368 hW366 hA365
            obtain rfl : k363 = 0 := Nat.le_antisymm h368 h367
            have hS369 : Sep G21 w8 ((Blk b53 ((⟨((z / 5 : Nat) : Int), ((z % 2 : Nat) : Int), gx, 0, mx⟩ : Prj).cells).toArray 23) :: Rs) w364 := hW366
            refine obl rfl ?_
            exact ov_loadk (k := 5) Try.isAgg23 Try.sizeOf23 rfl rfl (CellsAt.all (hS369.blk (i := 0) rfl)) (fun vals' hv _ => ⟨rfl, hv⟩)
          · intro k370 vals w371 h374 h375 hW373 hA372
            refine obl rfl ?_
            exact ov_move (v := vo) rfl (fun vals' hv _ => ⟨rfl, hv⟩)
          · intro k376 vals w377 h380 h381 hW379 hA378
            refine obl rfl ?_
            exact ov_move (v := (.slice (some ⟨b2, 0, none⟩) 6 6)) rfl (fun vals' hv _ => ⟨rfl, hv⟩)
          · intro k382 vals w383 h386 h387 hW385 hA384
            refine obl rfl ?_
            exact ov_move (v := .int .i64 ((z : Nat) : Int)) rfl (fun vals' hv _ => ⟨rfl, hv⟩)
          · intro k388 vals w389 h392 h393 hW391 hA390
            obtain rfl : k388 = 0 := Nat.le_antisymm h393 h392
            have hS394 : Sep G21 w8 ((Blk b53 ((⟨((z / 5 : Nat) : Int), ((z % 2 : Nat) : Int), gx, 0, mx⟩ : Prj).cells).toArray 23) :: Rs) w389 := hW391
            have e395 : vals 3 = (.int .i64 ((z : Nat) : Int) : Value) := hA390 3 (by decide)
            refine obl rfl ?_
            have hr396 : InR ((3 * z : Nat) : Int) := by first | omega | (simp only [List.length_append, List.length_cons, List.length_nil, List.length_take, List.length_drop, List.length_set, List.length_replicate]; omega)
            exact ov_mul (r := ((3 * z : Nat) : Int)) (k := .i64) (a := 3) (b := ((z : Nat) : Int)) rfl (show _ = (.int .i64 ((z : Nat) : Int) : Value) from e395) (by rw [show (3 * ((z : Nat) : Int) : Int) = ((3 * z : Nat) : Int) by first | omega | (simp only [List.length_append, List.length_cons, List.length_nil, List.length_take, List.length_drop, List.length_set, List.length_replicate]; omega)]; exact wrap_in hr396) (fun vals' hv _ => ⟨rfl, hv⟩)
          · intro k93 vals w94 h97 h98 hW96 hA95
            obtain rfl : k93 = 0 := Nat.le_antisymm h98 h97
            have hS99 : Sep G21 w8 ((Blk b53 ((⟨((z / 5 : Nat) : Int), ((z % 2 : Nat) : Int), gx, 0, mx⟩ : Prj).cells).toArray 23) :: Rs) w94 := hW96
            have e100 : vals 0 = (.agg ((⟨((z / 5 : Nat) : Int), ((z % 2 : Nat) : Int), gx, 0, mx⟩ : Prj).cells).toArray : Value) := hA95 0 (by decide)
            have e101 : vals 1 = (vo : Value) := hA95 1 (by decide)
            have e102 : vals 2 = ((.slice (some ⟨b2, 0, none⟩) 6 6) : Value) := hA95 2 (by decide)
            have e103 : vals 4 = (.int .i64 ((3 * z : Nat) : Int) : Value) := hA95 4 (by decide)
            refine obl rfl ?_
            refine (ov_call (f := 7) (vals := [.agg ((⟨((z / 5 : Nat) : Int), ((z % 2 : Nat) : Int), gx, 0, mx⟩ : Prj).cells).toArray, vo, (.slice (some ⟨b2, 0, none⟩) 6 6), .int .i64 ((3 * z : Nat) : Int)]) (cap := []) (show _ = (.func (.func 7) #[] #[] : Value) from rfl) (mapL ⟨(show _ = (.agg ((⟨((z / 5 : Nat) : Int), ((z % 2 : Nat) : Int), gx, 0, mx⟩ : Prj).cells).toArray : Value) from e100), (show _ = (vo : Value) from e101), (show _ = ((.slice (some ⟨b2, 0, none⟩) 6 6) : Value) from e102), (show _ = (.int .i64 ((3 * z : Nat) : Int) : Value) from e103), trivial⟩) Try.call7 (D_ProjRows (p := (⟨((z / 5 : Nat) : Int), ((z % 2 : Nat) : Int), gx, 0, mx⟩ : Prj)) (l := le) (vl := vo) (g := [-9223372036854775808, -1, 0, 1, 5, 9223372036854775807]) (vg := (.slice (some ⟨b2, 0, none⟩) 6 6)) (c := ((3 * z : Nat) : Int)) ok51 (RdS.base hrd20 hB24) hrd27 (by omega) hS99) ?_)
            rintro _ w104 ⟨rfl, hS105⟩
            intro vals' hv hv'
            refine ⟨?_, trivial⟩
            show (vals' 5 = (.bool true : Value)) ∧ Sep G21 w8 ((Blk b53 ((⟨((z / 5 : Nat) : Int), ((z % 2 : Nat) : Int), gx, 0, mx⟩ : Prj).cells).toArray 23) :: Rs) w104
            exact ⟨hv, hS105⟩
          · intro k397 vals w398 h401 h402 hW400 hA399
            obtain rfl : k397 = 1 := Nat.le_antisymm h402 h401
            obtain ⟨he106, hS403⟩ : (vals 5 = (.bool true : Value)) ∧ Sep G21 w8 ((Blk b53 ((⟨((z / 5 : Nat) : Int), ((z % 2 : Nat) : Int), gx, 0, mx⟩ : Prj).cells).toArray 23) :: Rs) w398 := hW400
            refine obl rfl ?_
            exact ov_not (a := true) (show _ = (.bool true : Value) from he106) (fun vals' hv _ => ⟨rfl, hv⟩)
          · intro k404 vals w405 h408 h409 hW407 hA406
            have e410 : vals 6 = (.bool false : Value) := hA406 6 (by decide)
            refine obl rfl ?_
            exact ov_move (v := .bool false) (show _ = (.bool false : Value) from e410) (fun vals' hv _ => ⟨rfl, hv⟩)
          · intro k411 vals w412 h415 h416 hW414 hA413
            obtain rfl : k411 = 1 := Nat.le_antisymm h416 h415
            obtain ⟨he106, hS417⟩ : (vals 5 = (.bool true : Value)) ∧ Sep G21 w8 ((Blk b53 ((⟨((z / 5 : Nat) : Int), ((z % 2 : Nat) : Int), gx, 0, mx⟩ : Prj).cells).toArray 23) :: Rs) w412 := hW414
            have e418 : vals 7 = (.bool false : Value) := hA413 7 (by decide)
            refine oblc rfl rfl (show _ = (.bool false : Value) from e418) (fun _ => ?_) (fun hb => absurd rfl hb)
            exact ov_loadk (k := 5) Try.isAgg23 Try.sizeOf23 rfl rfl (CellsAt.all (hS417.blk (i := 0) rfl)) (fun vals' hv _ => ⟨rfl, hv⟩)
          · intro k419 vals w420 h423 h424 hW422 hA421
            have e425 : vals 7 = (.bool false : Value) := hA421 7 (by decide)
            refine oblc rfl rfl (show _ = (.bool false : Value) from e425) (fun _ => ?_) (fun hb => absurd rfl hb)
            exact ov_move (v := vo) rfl (fun vals' hv _ => ⟨rfl, hv⟩)
          · intro k426 vals w427 h430 h431 hW429 hA428
            have e432 : vals 7 = (.bool false : Value) := hA428 7 (by decide)
            refine oblc rfl rfl (show _ = (.bool false : Value) from e432) (fun _ => ?_) (fun hb => absurd rfl hb)
            exact ov_move (v := (.slice (some ⟨b2, 0, none⟩) 6 6)) rfl (fun vals' hv _ => ⟨rfl, hv⟩)
          · intro k433 vals w434 h437 h438 hW436 hA435
            have e439 : vals 7 = (.bool false : Value) := hA435 7 (by decide)
            refine oblc rfl rfl (show _ = (.bool false : Value) from e439) (fun _ => ?_) (fun hb => absurd rfl hb)
            exact ov_move (v := .int .i64 ((z : Nat) : Int)) rfl (fun vals' hv _ => ⟨rfl, hv⟩)
          · intro k440 vals w441 h444 h445 hW443 hA442
            obtain rfl : k440 = 1 := Nat.le_antisymm h445 h444
            obtain ⟨he106, hS446⟩ : (vals 5 = (.bool true : Value)) ∧ Sep G21 w8 ((Blk b53 ((⟨((z / 5 : Nat) : Int), ((z % 2 : Nat) : Int), gx, 0, mx⟩ : Prj).cells).toArray 23) :: Rs) w441 := hW443
            have e447 : vals 7 = (.bool false : Value) := hA442 7 (by decide)
            have e448 : vals 10 = ((.slice (some ⟨b2, 0, none⟩) 6 6) : Value) := hA442 10 (by decide)
            have e449 : vals 11 = (.int .i64 ((z : Nat) : Int) : Value) := hA442 11 (by decide)
            refine oblc rfl rfl (show _ = (.bool false : Value) from e447) (fun _ => ?_) (fun hb => absurd rfl hb)
            exact ov_sliceHi (j := z) (k := 1) (n := 6) Try.underlying25 Try.sizeOf3 (show _ = ((.slice (some ⟨b2, 0, none⟩) 6 6) : Value) from e448) (⟨_, 6, rfl, Nat.le_refl _, fun _ => ⟨_, _, rfl⟩⟩ : IsSl _ 6) (show _ = (.int .i64 ((z : Nat) : Int) : Value) from e449) (by first | omega | (simp only [List.length_append, List.length_cons, List.length_nil, List.length_take, List.length_drop, List.length_set, List.length_replicate]; omega)) (fun vals' hv _ => ⟨rfl, hv⟩)
          · intro k160 vals w161 h164 h165 hW163 hA162
            obtain rfl : k160 = 1 := Nat.le_antisymm h165 h164
            obtain ⟨he106, hS166⟩ : (vals 5 = (.bool true : Value)) ∧ Sep G21 w8 ((Blk b53 ((⟨((z / 5 : Nat) : Int), ((z % 2 : Nat) : Int), gx, 0, mx⟩ : Prj).cells).toArray 23) :: Rs) w161 := hW163
            have e167 : vals 7 = (.bool false : Value) := hA162 7 (by decide)
            have e168 : vals 8 = (.agg ((⟨((z / 5 : Nat) : Int), ((z % 2 : Nat) : Int), gx, 0, mx⟩ : Prj).cells).toArray : Value) := hA162 8 (by decide)
            have e169 : vals 9 = (vo : Value) := hA162 9 (by decide)
            have e170 : vals 12 = ((subV 1 (.slice (some ⟨b2, 0, none⟩) 6 6) 0 z) : Value) := hA162 12 (by decide)
            refine oblc rfl rfl (show _ = (.bool false : Value) from e167) (fun _ => ?_) (fun hb => absurd rfl hb)
            have h171 := RdS.sub_hi (j := z) hrd27 (by first | omega | (simp only [List.length_drop, List.length_take]; omega))
            have h171s : ([-9223372036854775808, -1, 0, 1, 5, 9223372036854775807].take z).length * 8 ≤ 140737488355328 := h171.small
            refine (ov_call (f := 3) (vals := [.agg ((⟨((z / 5 : Nat) : Int), ((z % 2 : Nat) : Int), gx, 0, mx⟩ : Prj).cells).toArray, vo, (subV 1 (.slice (some ⟨b2, 0, none⟩) 6 6) 0 z)]) (cap := []) (show _ = (.func (.func 3) #[] #[] : Value) from rfl) (mapL ⟨(show _ = (.agg ((⟨((z / 5 : Nat) : Int), ((z % 2 : Nat) : Int), gx, 0, mx⟩ : Prj).cells).toArray : Value) from e168), (show _ = (vo : Value) from e169), (show _ = ((subV 1 (.slice (some ⟨b2, 0, none⟩) 6 6) 0 z) : Value) from e170), trivial⟩) Try.call3 (D_ProjMeans (p := (⟨((z / 5 : Nat) : Int), ((z % 2 : Nat) : Int), gx, 0, mx⟩ : Prj)) (l := le) (vl := vo) (g := [-9223372036854775808, -1, 0, 1, 5, 9223372036854775807].take z) (vg := (subV 1 (.slice (some ⟨b2, 0, none⟩) 6 6) 0 z)) ok51 (RdS.base hrd20 hB24) h171 hS166) ?_)
            rintro _ w172 ⟨rfl, hS173⟩
            intro vals' hv hv'
            refine ⟨?_, trivial⟩
            show (vals' 5 = (.bool true : Value)) ∧ (vals' 13 = (.bool true : Value)) ∧ Sep G21 w8 ((Blk b53 ((⟨((z / 5 : Nat) : Int), ((z % 2 : Nat) : Int), gx, 0, mx⟩ : Prj).cells).toArray 23) :: Rs) w172
            exact ⟨(by rw [hv' 5 (by decide)]; exact he106), hv, hS173⟩
          · intro k450 vals w451 h454 h455 hW453 hA452
            obtain rfl : k450 = 2 := Nat.le_antisymm h455 h454
            obtain ⟨he106, he174, hS456⟩ : (vals 5 = (.bool true : Value)) ∧ (vals 13 = (.bool true : Value)) ∧ Sep G21 w8 ((Blk b53 ((⟨((z / 5 : Nat) : Int), ((z % 2 : Nat) : Int), gx, 0, mx⟩ : Prj).cells).toArray 23) :: Rs) w451 := hW453
            have e457 : vals 7 = (.bool false : Value) := hA452 7 (by decide)
            refine oblc rfl rfl (show _ = (.bool false : Value) from e457) (fun _ => ?_) (fun hb => absurd rfl hb)
            exact ov_not (a := true) (show _ = (.bool true : Value) from he174) (fun vals' hv _ => ⟨rfl, hv⟩)
          · intro k458 vals w459 h462 h463 hW461 hA460
            have e464 : vals 7 = (.bool false : Value) := hA460 7 (by decide)
            have e465 : vals 14 = (.bool false : Value) := hA460 14 (by decide)
            refine obl rfl ?_
            exact ov_pick_f (v := .bool false) (show _ = (.bool false : Value) from e464) (show _ = (.bool false : Value) from e465) (fun vals' hv _ => ⟨rfl, hv⟩)
          · intro k466 vals w467 h470 h471 hW469 hA468
            have e472 : vals 15 = (.bool false : Value) := hA468 15 (by decide)
            refine obl rfl ?_
            exact ov_move (v := .bool false) (show _ = (.bool false : Value) from e472) (fun vals' hv _ => ⟨rfl, hv⟩)
          · intro k473 vals w474 h477 h478 hW476 hA475
            obtain rfl : k473 = 2 := Nat.le_antisymm h478 h477
            obtain ⟨he106, he174, hS479⟩ : (vals 5 = (.bool true : Value)) ∧ (vals 13 = (.bool true : Value)) ∧ Sep G21 w8 ((Blk b53 ((⟨((z / 5 : Nat) : Int), ((z % 2 : Nat) : Int), gx, 0, mx⟩ : Prj).cells).toArray 23) :: Rs) w474 := hW476
            have e480 : vals 16 = (.bool false : Value) := hA475 16 (by decide)
            refine oblc rfl rfl (show _ = (.bool false : Value) from e480) (fun _ => ?_) (fun hb => absurd rfl hb)
            exact ov_loadk (k := 5) Try.isAgg23 Try.sizeOf23 rfl rfl (CellsAt.all (hS479.blk (i := 0) rfl)) (fun vals' hv _ => ⟨rfl, hv⟩)
          · intro k481 vals w482 h485 h486 hW484 hA483
            have e487 : vals 16 = (.bool false : Value) := hA483 16 (by decide)
            refine oblc rfl rfl (show _ = (.bool false : Value) from e487) (fun _ => ?_) (fun hb => absurd rfl hb)
            exact ov_move (v := vo) rfl (fun vals' hv _ => ⟨rfl, hv⟩)
          · intro k488 vals w489 h492 h493 hW491 hA490
            have e494 : vals 16 = (.bool false : Value) := hA490 16 (by decide)
            refine oblc rfl rfl (show _ = (.bool false : Value) from e494) (fun _ => ?_) (fun hb => absurd rfl hb)
            exact ov_move (v := (.slice (some ⟨b2, 0, none⟩) 6 6)) rfl (fun vals' hv _ => ⟨rfl, hv⟩)
          · intro k495 vals w496 h499 h500 hW498 hA497
            have e501 : vals 16 = (.bool false : Value) := hA497 16 (by decide)
            refine oblc rfl rfl (show _ = (.bool false : Value) from e501) (fun _ => ?_) (fun hb => absurd rfl hb)
            exact ov_move (v := .int .i64 ((z : Nat) : Int)) rfl (fun vals' hv _ => ⟨rfl, hv⟩)
          · intro k502 vals w503 h506 h507 hW505 hA504
            obtain rfl : k502 = 2 := Nat.le_antisymm h507 h506
            obtain ⟨he106, he174, hS508⟩ : (vals 5 = (.bool true : Value)) ∧ (vals 13 = (.bool true : Value)) ∧ Sep G21 w8 ((Blk b53 ((⟨((z / 5 : Nat) : Int), ((z % 2 : Nat) : Int), gx, 0, mx⟩ : Prj).cells).toArray 23) :: Rs) w503 := hW505
            have e509 : vals 16 = (.bool false : Value) := hA504 16 (by decide)
            have e510 : vals 19 = ((.slice (some ⟨b2, 0, none⟩) 6 6) : Value) := hA504 19 (by decide)
            have e511 : vals 20 = (.int .i64 ((z : Nat) : Int) : Value) := hA504 20 (by decide)
            refine oblc rfl rfl (show _ = (.bool false : Value) from e509) (fun _ => ?_) (fun hb => absurd rfl hb)
            exact ov_sliceLo (i := z) (k := 1) (n := 6) Try.underlying25 Try.sizeOf3 (show _ = ((.slice (some ⟨b2, 0, none⟩) 6 6) : Value) from e510) (⟨_, 6, rfl, Nat.le_refl _, fun _ => ⟨_, _, rfl⟩⟩ : IsSl _ 6) (show _ = (.int .i64 ((z : Nat) : Int) : Value) from e511) (by first | omega | (simp only [List.length_append, List.length_cons, List.length_nil, List.length_take, List.length_drop, List.length_set, List.length_replicate]; omega)) (fun vals' hv _ => ⟨rfl, hv⟩)
          · intro k512 vals w513 h516 h517 hW515 hA514
            have e518 : vals 16 = (.bool false : Value) := hA514 16 (by decide)
            refine oblc rfl rfl (show _ = (.bool false : Value) from e518) (fun _ => ?_) (fun hb => absurd rfl hb)
            exact ov_move (v := .int .i64 ((z : Nat) : Int)) rfl (fun vals' hv _ => ⟨rfl, hv⟩)
          · intro k519 vals w520 h523 h524 hW522 hA521
            obtain rfl : k519 = 2 := Nat.le_antisymm h524 h523
            obtain ⟨he106, he174, hS525⟩ : (vals 5 = (.bool true : Value)) ∧ (vals 13 = (.bool true : Value)) ∧ Sep G21 w8 ((Blk b53 ((⟨((z / 5 : Nat) : Int), ((z % 2 : Nat) : Int), gx, 0, mx⟩ : Prj).cells).toArray 23) :: Rs) w520 := hW522
            have e526 : vals 16 = (.bool false : Value) := hA521 16 (by decide)
            have e527 : vals 22 = (.int .i64 ((z : Nat) : Int) : Value) := hA521 22 (by decide)
            refine oblc rfl rfl (show _ = (.bool false : Value) from e526) (fun _ => ?_) (fun hb => absurd rfl hb)
            have hr528 : InR ((5 * z : Nat) : Int) := by first | omega | (simp only [List.length_append, List.length_cons, List.length_nil, List.length_take, List.length_drop, List.length_set, List.length_replicate]; omega)
            exact ov_mul (r := ((5 * z : Nat) : Int)) (k := .i64) (a := 5) (b := ((z : Nat) : Int)) rfl (show _ = (.int .i64 ((z : Nat) : Int) : Value) from e527) (by rw [show (5 * ((z : Nat) : Int) : Int) = ((5 * z : Nat) : Int) by first | omega | (simp only [List.length_append, List.length_cons, List.length_nil, List.length_take, List.length_drop, List.length_set, List.length_replicate]; omega)]; exact wrap_in hr528) (fun vals' hv _ => ⟨rfl, hv⟩)
          · intro k254 vals w255 h258 h259 hW257 hA256
            obtain rfl : k254 = 2 := Nat.le_antisymm h259 h258
            obtain ⟨he106, he174, hS260⟩ : (vals 5 = (.bool true : Value)) ∧ (vals 13 = (.bool true : Value)) ∧ Sep G21 w8 ((Blk b53 ((⟨((z / 5 : Nat) : Int), ((z % 2 : Nat) : Int), gx, 0, mx⟩ : Prj).cells).toArray 23) :: Rs) w255 := hW257
            have e261 : vals 16 = (.bool false : Value) := hA256 16 (by decide)
            have e262 : vals 17 = (.agg ((⟨((z / 5 : Nat) : Int), ((z % 2 : Nat) : Int), gx, 0, mx⟩ : Prj).cells).toArray : Value) := hA256 17 (by decide)
            have e263 : vals 18 = (vo : Value) := hA256 18 (by decide)
            have e264 : vals 21 = ((subV 1 (.slice (some ⟨b2, 0, none⟩) 6 6) z 6) : Value) := hA256 21 (by decide)
            have e265 : vals 23 = (.int .i64 ((5 * z : Nat) : Int) : Value) := hA256 23 (by decide)
            refine oblc rfl rfl (show _ = (.bool false : Value) from e261) (fun _ => ?_) (fun hb => absurd rfl hb)
            have h266 := RdS.sub_lo (i := z) hrd27 (by first | omega | (simp only [List.length_drop, List.length_take]; omega))
            have h266s : ([-9223372036854775808, -1, 0, 1, 5, 9223372036854775807].drop z).length * 8 ≤ 140737488355328 := h266.small
            refine (ov_call (f := 4) (vals := [.agg ((⟨((z / 5 : Nat) : Int), ((z % 2 : Nat) : Int), gx, 0, mx⟩ : Prj).cells).toArray, vo, (subV 1 (.slice (some ⟨b2, 0, none⟩) 6 6) z 6), .int .i64 ((5 * z : Nat) : Int)]) (cap := []) (show _ = (.func (.func 4) #[] #[] : Value) from rfl) (mapL ⟨(show _ = (.agg ((⟨((z / 5 : Nat) : Int), ((z % 2 : Nat) : Int), gx, 0, mx⟩ : Prj).cells).toArray : Value) from e262), (show _ = (vo : Value) from e263), (show _ = ((subV 1 (.slice (some ⟨b2, 0, none⟩) 6 6) z 6) : Value) from e264), (show _ = (.int .i64 ((5 * z : Nat) : Int) : Value) from e265), trivial⟩) Try.call4 (D_ProjTurns (p := (⟨((z / 5 : Nat) : Int), ((z % 2 : Nat) : Int), gx, 0, mx⟩ : Prj)) (l := le) (vl := vo) (g := [-9223372036854775808, -1, 0, 1, 5, 9223372036854775807].drop z) (vg := (subV 1 (.slice (some ⟨b2, 0, none⟩) 6 6) z 6)) (t := ((5 * z : Nat) : Int)) ok51 (RdS.base hrd20 hB24) h266 (by omega) hS260) ?_)
            rintro _ w267 ⟨rfl, hS268⟩
            intro vals' hv hv'
            refine ⟨?_, trivial⟩
            show (vals' 5 = (.bool true : Value)) ∧ (vals' 13 = (.bool true : Value)) ∧ (vals' 24 = (.bool true : Value)) ∧ Sep G21 w8 ((Blk b53 ((⟨((z / 5 : Nat) : Int), ((z % 2 : Nat) : Int), gx, 0, mx⟩ : Prj).cells).toArray 23) :: Rs) w267
            exact ⟨(by rw [hv' 5 (by decide)]; exact he106), (by rw [hv' 13 (by decide)]; exact he174), hv, hS268⟩
          · intro k529 vals w530 h533 h534 hW532 hA531
            obtain rfl : k529 = 3 := Nat.le_antisymm h534 h533
            obtain ⟨he106, he174, he269, hS535⟩ : (vals 5 = (.bool true : Value)) ∧ (vals 13 = (.bool true : Value)) ∧ (vals 24 = (.bool true : Value)) ∧ Sep G21 w8 ((Blk b53 ((⟨((z / 5 : Nat) : Int), ((z % 2 : Nat) : Int), gx, 0, mx⟩ : Prj).cells).toArray 23) :: Rs) w530 := hW532
            have e536 : vals 16 = (.bool false : Value) := hA531 16 (by decide)
            refine oblc rfl rfl (show _ = (.bool false : Value) from e536) (fun _ => ?_) (fun hb => absurd rfl hb)
            exact ov_not (a := true) (show _ = (.bool true : Value) from he269) (fun vals' hv _ => ⟨rfl, hv⟩)
          · intro k537 vals w538 h541 h542 hW540 hA539
            have e543 : vals 16 = (.bool false : Value) := hA539 16 (by decide)
            have e544 : vals 25 = (.bool false : Value) := hA539 25 (by decide)
            refine obl rfl ?_
            exact ov_pick_f (v := .bool false) (show _ = (.bool false : Value) from e543) (show _ = (.bool false : Value) from e544) (fun vals' hv _ => ⟨rfl, hv⟩)
          · intro k545 vals w546 h549 h550 hW548 hA547
            have e551 : vals 26 = (.bool false : Value) := hA547 26 (by decide)
            refine obl rfl ?_
            exact ov_move (v := .bool false) (show _ = (.bool false : Value) from e551) (fun vals' hv _ => ⟨rfl, hv⟩)
          · intro k552 vals w553 h556 h557 hW555 hA554
            obtain rfl : k552 = 3 := Nat.le_antisymm h557 h556
            obtain ⟨he106, he174, he269, hS558⟩ : (vals 5 = (.bool true : Value)) ∧ (vals 13 = (.bool true : Value)) ∧ (vals 24 = (.bool true : Value)) ∧ Sep G21 w8 ((Blk b53 ((⟨((z / 5 : Nat) : Int), ((z % 2 : Nat) : Int), gx, 0, mx⟩ : Prj).cells).toArray 23) :: Rs) w553 := hW555
            have e559 : vals 27 = (.bool false : Value) := hA554 27 (by decide)
            refine oblc rfl rfl (show _ = (.bool false : Value) from e559) (fun _ => ?_) (fun hb => absurd rfl hb)
            exact ov_loadk (k := 5) Try.isAgg23 Try.sizeOf23 rfl rfl (CellsAt.all (hS558.blk (i := 0) rfl)) (fun vals' hv _ => ⟨rfl, hv⟩)
          · intro k560 vals w561 h564 h565 hW563 hA562
            have e566 : vals 27 = (.bool false : Value) := hA562 27 (by decide)
            refine oblc rfl rfl (show _ = (.bool false : Value) from e566) (fun _ => ?_) (fun hb => absurd rfl hb)
            exact ov_move (v := vo) rfl (fun vals' hv _ => ⟨rfl, hv⟩)
          · intro k567 vals w568 h571 h572 hW570 hA569
            have e573 : vals 27 = (.bool false : Value) := hA569 27 (by decide)
            refine oblc rfl rfl (show _ = (.bool false : Value) from e573) (fun _ => ?_) (fun hb => absurd rfl hb)
            exact ov_move (v := .int .i64 ((z : Nat) : Int)) rfl (fun vals' hv _ => ⟨rfl, hv⟩)
          · intro k574 vals w575 h578 h579 hW577 hA576
            obtain rfl : k574 = 3 := Nat.le_antisymm h579 h578
            obtain ⟨he106, he174, he269, hS580⟩ : (vals 5 = (.bool true : Value)) ∧ (vals 13 = (.bool true : Value)) ∧ (vals 24 = (.bool true : Value)) ∧ Sep G21 w8 ((Blk b53 ((⟨((z / 5 : Nat) : Int), ((z % 2 : Nat) : Int), gx, 0, mx⟩ : Prj).cells).toArray 23) :: Rs) w575 := hW577
            have e581 : vals 27 = (.bool false : Value) := hA576 27 (by decide)
            have e582 : vals 29 = (vo : Value) := hA576 29 (by decide)
            have e583 : vals 30 = (.int .i64 ((z : Nat) : Int) : Value) := hA576 30 (by decide)
            refine oblc rfl rfl (show _ = (.bool false : Value) from e581) (fun _ => ?_) (fun hb => absurd rfl hb)
            exact ov_sliceLo (i := z) (k := 13) (n := le.length) Try.underlying24 Try.sizeOf38 (show _ = (vo : Value) from e582) (RdS.base hrd20 hB24).sl (show _ = (.int .i64 ((z : Nat) : Int) : Value) from e583) (by first | omega | (simp only [List.length_append, List.length_cons, List.length_nil, List.length_take, List.length_drop, List.length_set, List.length_replicate]; omega)) (fun vals' hv _ => ⟨rfl, hv⟩)
          · intro k584 vals w585 h588 h589 hW587 hA586
            have e590 : vals 27 = (.bool false : Value) := hA586 27 (by decide)
            refine oblc rfl rfl (show _ = (.bool false : Value) from e590) (fun _ => ?_) (fun hb => absurd rfl hb)
            exact ov_move (v := (.slice (some ⟨b2, 0, none⟩) 6 6)) rfl (fun vals' hv _ => ⟨rfl, hv⟩)
          · intro k332 vals w333 h336 h337 hW335 hA334
            obtain rfl : k332 = 3 := Nat.le_antisymm h337 h336
            obtain ⟨he106, he174, he269, hS338⟩ : (vals 5 = (.bool true : Value)) ∧ (vals 13 = (.bool true : Value)) ∧ (vals 24 = (.bool true : Value)) ∧ Sep G21 w8 ((Blk b53 ((⟨((z / 5 : Nat) : Int), ((z % 2 : Nat) : Int), gx, 0, mx⟩ : Prj).cells).toArray 23) :: Rs) w333 := hW335
            have e339 : vals 27 = (.bool false : Value) := hA334 27 (by decide)
            have e340 : vals 28 = (.agg ((⟨((z / 5 : Nat) : Int), ((z % 2 : Nat) : Int), gx, 0, mx⟩ : Prj).cells).toArray : Value) := hA334 28 (by decide)
            have e341 : vals 31 = ((subV 13 vo z le.length) : Value) := hA334 31 (by decide)
            have e342 : vals 32 = ((.slice (some ⟨b2, 0, none⟩) 6 6) : Value) := hA334 32 (by decide)
            refine oblc rfl rfl (show _ = (.bool false : Value) from e339) (fun _ => ?_) (fun hb => absurd rfl hb)
            have h343 := RdS.sub_lo (i := z) (RdS.base hrd20 hB24) (by first | omega | (simp only [List.length_drop, List.length_take]; omega))
            have h343s : (le.drop z).length * 120 ≤ 140737488355328 := h343.small
            refine (ov_call (f := 5) (vals := [.agg ((⟨((z / 5 : Nat) : Int), ((z % 2 : Nat) : Int), gx, 0, mx⟩ : Prj).cells).toArray, (subV 13 vo z le.length), (.slice (some ⟨b2, 0, none⟩) 6 6)]) (cap := []) (show _ = (.func (.func 5) #[] #[] : Value) from rfl) (mapL ⟨(show _ = (.agg ((⟨((z / 5 : Nat) : Int), ((z % 2 : Nat) : Int), gx, 0, mx⟩ : Prj).cells).toArray : Value) from e340), (show _ = ((subV 13 vo z le.length) : Value) from e341), (show _ = ((.slice (some ⟨b2, 0, none⟩) 6 6) : Value) from e342), trivial⟩) Try.call5 (D_ProjVoid (p := (⟨((z / 5 : Nat) : Int), ((z % 2 : Nat) : Int), gx, 0, mx⟩ : Prj)) (l := le.drop z) (vl := (subV 13 vo z le.length)) (g := [-9223372036854775808, -1, 0, 1, 5, 9223372036854775807]) (vg := (.slice (some ⟨b2, 0, none⟩) 6 6)) ok51 h343 hrd27 hS338) ?_)
            rintro _ w344 ⟨rfl, hS345⟩
            intro vals' hv hv'
            refine ⟨?_, trivial⟩
            show (vals' 5 = (.bool true : Value)) ∧ (vals' 13 = (.bool true : Value)) ∧ (vals' 24 = (.bool true : Value)) ∧ (vals' 33 = (.bool true : Value)) ∧ Sep G21 w8 ((Blk b53 ((⟨((z / 5 : Nat) : Int), ((z % 2 : Nat) : Int), gx, 0, mx⟩ : Prj).cells).toArray 23) :: Rs) w344
            exact ⟨(by rw [hv' 5 (by decide)]; exact he106), (by rw [hv' 13 (by decide)]; exact he174), (by rw [hv' 24 (by decide)]; exact he269), hv, hS345⟩
          · intro k591 vals w592 h595 h596 hW594 hA593
            obtain rfl : k591 = 4 := Nat.le_antisymm h596 h595
            obtain ⟨he106, he174, he269, he346, hS597⟩ : (vals 5 = (.bool true : Value)) ∧ (vals 13 = (.bool true : Value)) ∧ (vals 24 = (.bool true : Value)) ∧ (vals 33 = (.bool true : Value)) ∧ Sep G21 w8 ((Blk b53 ((⟨((z / 5 : Nat) : Int), ((z % 2 : Nat) : Int), gx, 0, mx⟩ : Prj).cells).toArray 23) :: Rs) w592 := hW594
            have e598 : vals 27 = (.bool false : Value) := hA593 27 (by decide)
            refine oblc rfl rfl (show _ = (.bool false : Value) from e598) (fun _ => ?_) (fun hb => absurd rfl hb)
            exact ov_not (a := true) (show _ = (.bool true : Value) from he346) (fun vals' hv _ => ⟨rfl, hv⟩)
          · intro k599 vals w600 h603 h604 hW602 hA601
            have e605 : vals 27 = (.bool false : Value) := hA601 27 (by decide)
            have e606 : vals 34 = (.bool false : Value) := hA601 34 (by decide)
            refine obl rfl ?_
            exact ov_pick_f (v := .bool false) (show _ = (.bool false : Value) from e605) (show _ = (.bool false : Value) from e606) (fun vals' hv _ => ⟨rfl, hv⟩)
          intro vals w607 hW608 hA609
          obtain ⟨he106, he174, he269, he346, hS610⟩ : (vals 5 = (.bool true : Value)) ∧ (vals 13 = (.bool true : Value)) ∧ (vals 24 = (.bool true : Value)) ∧ (vals 33 = (.bool true : Value)) ∧ Sep G21 w8 ((Blk b53 ((⟨((z / 5 : Nat) : Int), ((z % 2 : Nat) : Int), gx, 0, mx⟩ : Prj).cells).toArray 23) :: Rs) w607 := hW608
          have e611 : vals 35 = (.bool false : Value) := hA609 35 (by decide)
          refine st_env (kv := [(1, (.slice (some ⟨b2, 0, none⟩) 6 6)), (2, vo), (5, .int .i64 (gx)), (6, .int .i64 (mx)), (7, .int .i64 ((z : Nat) : Int)), (49, .int .i64 ((z : Nat) : Int)), (50, (.slice (some ⟨b2, 0, none⟩) 6 6)), (51, .int .i64 ((6 : Nat) : Int)), (52, .bool true), (55, .int .i64 (gx)), (56, .int .i64 (mx)), (57, .int .i64 ((z : Nat) : Int)), (58, .int .i64 ((z % 2 : Nat) : Int)), (59, .int .i64 ((z : Nat) : Int)), (60, .int .i64 ((z / 5 : Nat) : Int)), (61, .agg ((⟨((z / 5 : Nat) : Int), ((z % 2 : Nat) : Int), gx, 0, mx⟩ : Prj).cells).toArray), (8, .pointer (some ⟨b53, 0, none⟩)), (97, .bool false)]) ⟨rfl, rfl, rfl, rfl, rfl, rfl, rfl, rfl, rfl, rfl, rfl, rfl, rfl, rfl, rfl, rfl, rfl, (by exact e611), trivial⟩ (fun ρw607 => ?_)
          refine st_nil ?_
          refine WP_cond_f rfl ?_
          refine WP_skip ?_
          refine WP_region0 (by kernel_rfl) (fun _ => ?_)
          refine st (ov_move (v := .int .i64 ((z : Nat) : Int)) rfl ?_)
          have hr612 : InR ((z + 1 : Nat) : Int) := by first | omega | (simp only [List.length_append, List.length_cons, List.length_nil, List.length_take, List.length_drop, List.length_set, List.length_replicate]; omega)
          refine st (ov_add (r := ((z + 1 : Nat) : Int)) (k := .i64) (a := ((z : Nat) : Int)) (b := 1) rfl rfl (by rw [show (((z : Nat) : Int) + 1 : Int) = ((z + 1 : Nat) : Int) by first | omega | (simp only [List.length_append, List.length_cons, List.length_nil, List.length_take, List.length_drop, List.length_set, List.length_replicate]; omega)]; exact wrap_in hr612) ?_)
          refine st (ov_assign (v := .int .i64 ((z + 1 : Nat) : Int)) rfl ?_)
          refine st_nil ?_
          have hS613 : Sep G21 w8 Rs w607 := hS610.sel 1 [] (Nat.le_add_left _ _) rfl rfl
          exact ⟨_, by omega, z + 1, _, rfl, setAll_self ⟨rfl, rfl, rfl, rfl, rfl, trivial⟩, by omega, hS613⟩
  · skip
    have hc13 := of_decide_eq_true hc13
    refine WP_cond_t rfl ?_
    refine WP_skip ?_
    refine WP_seq ?_
    refine WP_block ?_
    refine WP_seq ?_
    refine WP_region0 (by kernel_rfl) (fun _ => ?_)
    refine st (ov_move (v := .int .i64 ((k : Nat) : Int)) rfl ?_)
    have h0614 : (0 : Int) < 5 := by omega
    have h0614m : k % 5 < 5 := Nat.mod_lt _ (by omega)
    refine st (ov_rem (r := ((k % 5 : Nat) : Int)) rfl rfl h0614 (Int.ofNat_tmod _ _).symm ?_)
    refine st (ov_quo (r := (((k % 5) / 4 : Nat) : Int)) rfl rfl (by omega) (by rw [show Int.tdiv (((k % 5 : Nat) : Int)) (4) = (((k % 5) / 4 : Nat) : Int) from (Int.ofNat_tdiv _ _).symm]; exact wrap_in (by omega)) ?_)
    refine st (ov_move (v := (.slice (some ⟨b2, 0, none⟩) 6 6)) rfl ?_)
    refine st (ov_move (v := .int .i64 ((k : Nat) : Int)) rfl ?_)
    have hr615 : InR ((k * 7 : Nat) : Int) := by first | omega | (simp only [List.length_append, List.length_cons, List.length_nil, List.length_take, List.length_drop, List.length_set, List.length_replicate]; omega)
    refine st (ov_mul (r := ((k * 7 : Nat) : Int)) (k := .i64) (a := ((k : Nat) : Int)) (b := 7) rfl rfl (by rw [show (((k : Nat) : Int) * 7 : Int) = ((k * 7 : Nat) : Int) by first | omega | (simp only [List.length_append, List.length_cons, List.length_nil, List.length_take, List.length_drop, List.length_set, List.length_replicate]; omega)]; exact wrap_in hr615) ?_)
    have h0616 : (0 : Int) < 6 := by omega
    have h0616m : (k * 7) % 6 < 6 := Nat.mod_lt _ (by omega)
    refine st (ov_rem (r := (((k * 7) % 6 : Nat) : Int)) rfl rfl h0616 (Int.ofNat_tmod _ _).symm ?_)
    have hi617 : (k * 7) % 6 < [-9223372036854775808, -1, 0, 1, 5, 9223372036854775807].length := (by first | omega | (simp only [List.length_append, List.length_cons, List.length_nil, List.length_take, List.length_drop, List.length_set, List.length_replicate]; omega))
    refine st (ov_indexAddrN (k := 1) (i := (k * 7) % 6) Try.underlying25 Try.sizeOf3 rfl hr6.1 rfl hi617 ?_)
    have hi619 : (k * 7) % 6 < [-9223372036854775808, -1, 0, 1, 5, 9223372036854775807].length := (by first | omega | (simp only [List.length_append, List.length_cons, List.length_nil, List.length_take, List.length_drop, List.length_set, List.length_replicate]; omega))
    obtain ⟨_, _, hce618, rfl, hxe618⟩ := hS11.rowAt (i := 1) (j := (k * 7) % 6) rfl hi619
    rw [← getD_at 0 hi619] at hce618 hxe618
    refine st (ov_load1 (v := .int .i64 (([-9223372036854775808, -1, 0, 1, 5, 9223372036854775807].getD ((k * 7) % 6) 0))) Try.isAgg3 rfl (hce618.get (j := 0) rfl) ?_)
    refine st (ov_call (f := 26) (vals := [.int .i64 (((k % 5) / 4 : Nat) : Int), .int .i64 (([-9223372036854775808, -1, 0, 1, 5, 9223372036854775807].getD ((k * 7) % 6) 0))]) (cap := []) (show _ = (.func (.func 26) #[] #[] : Value) from rfl) rfl Try.call26 (D_sets (f := (((k % 5) / 4 : Nat) : Int)) (b := ([-9223372036854775808, -1, 0, 1, 5, 9223372036854775807].getD ((k * 7) % 6) 0)) (by omega) hxe618 hS11) ?_)
    rintro _ w621 ⟨rfl, hok620, hS622⟩
    refine st (ov_alloc Try.zeroValue38 ?_)
    intro w625 b624 hn623
    have hS626 : Sep G W ((Blk b624 #[.int .i64 (0), .int .i64 (0), .int .i64 (0), (.slice none 0 0), .int .i64 (0), .int .i64 (0), .int .i64 (0), .int .i64 (0), .int .i64 (0), .int .i64 (0), .bool false, .int .i64 (0), .int .i64 (0)] 38) :: (RowE (α := Ent) own 38 vo le) :: (RowE (α := Int) own 3 (.slice (some ⟨b2, 0, none⟩) 6 6) [-9223372036854775808, -1, 0, 1, 5, 9223372036854775807]) :: Rs) w625 := hS622.new hn623
    refine stn (ov_store (v := .agg ((setsE (((k % 5) / 4 : Nat) : Int) ([-9223372036854775808, -1, 0, 1, 5, 9223372036854775807].getD ((k * 7) % 6) 0)).cells (.slice none 0 0)).toArray) (c' := ((setsE (((k % 5) / 4 : Nat) : Int) ([-9223372036854775808, -1, 0, 1, 5, 9223372036854775807].getD ((k * 7) % 6) 0)).cells (.slice none 0 0)).toArray) Try.sizeOf38 rfl rfl (hS626.blk (i := 0) rfl) (all1 ⟨rfl, rfl, rfl, rfl, rfl, rfl, rfl, rfl, rfl, rfl, rfl, rfl, rfl, trivial⟩) (Nat.le_of_ble_eq_true rfl) rfl ?_)
    intro w627 hp628
    have hS629 : Sep G W ((Blk b624 ((setsE (((k % 5) / 4 : Nat) : Int) ([-9223372036854775808, -1, 0, 1, 5, 9223372036854775807].getD ((k * 7) % 6) 0)).cells (.slice none 0 0)).toArray 38) :: (RowE (α := Ent) own 38 vo le) :: (RowE (α := Int) own 3 (.slice (some ⟨b2, 0, none⟩) 6 6) [-9223372036854775808, -1, 0, 1, 5, 9223372036854775807]) :: Rs) w627 := hS626.put (i := 0) rfl hp628
    refine st_nil ?_
    refine WP_seq ?_
    refine WP_region0 (by kernel_rfl) (fun _ => ?_)
    refine st (ov_move (v := .int .i64 ((k : Nat) : Int)) rfl ?_)
    have h0630 : (0 : Int) < 3 := by omega
    have h0630m : k % 3 < 3 := Nat.mod_lt _ (by omega)
    refine st (ov_rem (r := ((k % 3 : Nat) : Int)) rfl rfl h0630 (Int.ofNat_tmod _ _).symm ?_)
    refine st (fd38_0 rfl ?_)
    refine st (fd36_4 rfl ?_)
    refine stn (ov_store1 (v := .int .i64 ((k % 3 : Nat) : Int)) (c := [.int .i64 ((setsE (((k % 5) / 4 : Nat) : Int) ([-9223372036854775808, -1, 0, 1, 5, 9223372036854775807].getD ((k * 7) % 6) 0)).ev.origin), .int .i64 ((setsE (((k % 5) / 4 : Nat) : Int) ([-9223372036854775808, -1, 0, 1, 5, 9223372036854775807].getD ((k * 7) % 6) 0)).ev.seq), .int .i64 ((setsE (((k % 5) / 4 : Nat) : Int) ([-9223372036854775808, -1, 0, 1, 5, 9223372036854775807].getD ((k * 7) % 6) 0)).ev.lam), (.slice none 0 0), .int .i64 ((setsE (((k % 5) / 4 : Nat) : Int) ([-9223372036854775808, -1, 0, 1, 5, 9223372036854775807].getD ((k * 7) % 6) 0)).ev.typ), .int .i64 ((setsE (((k % 5) / 4 : Nat) : Int) ([-9223372036854775808, -1, 0, 1, 5, 9223372036854775807].getD ((k * 7) % 6) 0)).ev.agg), .int .i64 ((setsE (((k % 5) / 4 : Nat) : Int) ([-9223372036854775808, -1, 0, 1, 5, 9223372036854775807].getD ((k * 7) % 6) 0)).ev.field), .int .i64 ((setsE (((k % 5) / 4 : Nat) : Int) ([-9223372036854775808, -1, 0, 1, 5, 9223372036854775807].getD ((k * 7) % 6) 0)).ev.op), .int .i64 ((setsE (((k % 5) / 4 : Nat) : Int) ([-9223372036854775808, -1, 0, 1, 5, 9223372036854775807].getD ((k * 7) % 6) 0)).ev.arg), .int .i64 ((setsE (((k % 5) / 4 : Nat) : Int) ([-9223372036854775808, -1, 0, 1, 5, 9223372036854775807].getD ((k * 7) % 6) 0)).ev.key), .bool ((setsE (((k % 5) / 4 : Nat) : Int) ([-9223372036854775808, -1, 0, 1, 5, 9223372036854775807].getD ((k * 7) % 6) 0)).void), .int .i64 ((setsE (((k % 5) / 4 : Nat) : Int) ([-9223372036854775808, -1, 0, 1, 5, 9223372036854775807].getD ((k * 7) % 6) 0)).byO), .int .i64 ((setsE (((k % 5) / 4 : Nat) : Int) ([-9223372036854775808, -1, 0, 1, 5, 9223372036854775807].getD ((k * 7) % 6) 0)).byS)]) (c' := [.int .i64 ((setsE (((k % 5) / 4 : Nat) : Int) ([-9223372036854775808, -1, 0, 1, 5, 9223372036854775807].getD ((k * 7) % 6) 0)).ev.origin), .int .i64 ((setsE (((k % 5) / 4 : Nat) : Int) ([-9223372036854775808, -1, 0, 1, 5, 9223372036854775807].getD ((k * 7) % 6) 0)).ev.seq), .int .i64 ((setsE (((k % 5) / 4 : Nat) : Int) ([-9223372036854775808, -1, 0, 1, 5, 9223372036854775807].getD ((k * 7) % 6) 0)).ev.lam), (.slice none 0 0), .int .i64 ((setsE (((k % 5) / 4 : Nat) : Int) ([-9223372036854775808, -1, 0, 1, 5, 9223372036854775807].getD ((k * 7) % 6) 0)).ev.typ), .int .i64 ((k % 3 : Nat) : Int), .int .i64 ((setsE (((k % 5) / 4 : Nat) : Int) ([-9223372036854775808, -1, 0, 1, 5, 9223372036854775807].getD ((k * 7) % 6) 0)).ev.field), .int .i64 ((setsE (((k % 5) / 4 : Nat) : Int) ([-9223372036854775808, -1, 0, 1, 5, 9223372036854775807].getD ((k * 7) % 6) 0)).ev.op), .int .i64 ((setsE (((k % 5) / 4 : Nat) : Int) ([-9223372036854775808, -1, 0, 1, 5, 9223372036854775807].getD ((k * 7) % 6) 0)).ev.arg), .int .i64 ((setsE (((k % 5) / 4 : Nat) : Int) ([-9223372036854775808, -1, 0, 1, 5, 9223372036854775807].getD ((k * 7) % 6) 0)).ev.key), .bool ((setsE (((k % 5) / 4 : Nat) : Int) ([-9223372036854775808, -1, 0, 1, 5, 9223372036854775807].getD ((k * 7) % 6) 0)).void), .int .i64 ((setsE (((k % 5) / 4 : Nat) : Int) ([-9223372036854775808, -1, 0, 1, 5, 9223372036854775807].getD ((k * 7) % 6) 0)).byO), .int .i64 ((setsE (((k % 5) / 4 : Nat) : Int) ([-9223372036854775808, -1, 0, 1, 5, 9223372036854775807].getD ((k * 7) % 6) 0)).byS)]) Try.sizeOf3 rfl rfl (hS629.blk (i := 0) rfl) rfl rfl rfl ?_)
    intro w631 hp632
    have ok633 : Ent.Ok (⟨(⟨(setsE (((k % 5) / 4 : Nat) : Int) ([-9223372036854775808, -1, 0, 1, 5, 9223372036854775807].getD ((k * 7) % 6) 0)).ev.origin, (setsE (((k % 5) / 4 : Nat) : Int) ([-9223372036854775808, -1, 0, 1, 5, 9223372036854775807].getD ((k * 7) % 6) 0)).ev.seq, (setsE (((k % 5) / 4 : Nat) : Int) ([-9223372036854775808, -1, 0, 1, 5, 9223372036854775807].getD ((k * 7) % 6) 0)).ev.lam, [], (setsE (((k % 5) / 4 : Nat) : Int) ([-9223372036854775808, -1, 0, 1, 5, 9223372036854775807].getD ((k * 7) % 6) 0)).ev.typ, ((k % 3 : Nat) : Int), (setsE (((k % 5) / 4 : Nat) : Int) ([-9223372036854775808, -1, 0, 1, 5, 9223372036854775807].getD ((k * 7) % 6) 0)).ev.field, (setsE (((k % 5) / 4 : Nat) : Int) ([-9223372036854775808, -1, 0, 1, 5, 9223372036854775807].getD ((k * 7) % 6) 0)).ev.op, (setsE (((k % 5) / 4 : Nat) : Int) ([-9223372036854775808, -1, 0, 1, 5, 9223372036854775807].getD ((k * 7) % 6) 0)).ev.arg, (setsE (((k % 5) / 4 : Nat) : Int) ([-9223372036854775808, -1, 0, 1, 5, 9223372036854775807].getD ((k * 7) % 6) 0)).ev.key⟩), (setsE (((k % 5) / 4 : Nat) : Int) ([-9223372036854775808, -1, 0, 1, 5, 9223372036854775807].getD ((k * 7) % 6) 0)).void, (setsE (((k % 5) / 4 : Nat) : Int) ([-9223372036854775808, -1, 0, 1, 5, 9223372036854775807].getD ((k * 7) % 6) 0)).byO, (setsE (((k % 5) / 4 : Nat) : Int) ([-9223372036854775808, -1, 0, 1, 5, 9223372036854775807].getD ((k * 7) % 6) 0)).byS⟩ : Ent) := ⟨⟨(show InR ((setsE (((k % 5) / 4 : Nat) : Int) ([-9223372036854775808, -1, 0, 1, 5, 9223372036854775807].getD ((k * 7) % 6) 0)).ev.origin) from hok620.ev.origin), (show InR ((setsE (((k % 5) / 4 : Nat) : Int) ([-9223372036854775808, -1, 0, 1, 5, 9223372036854775807].getD ((k * 7) % 6) 0)).ev.seq) from hok620.ev.seq), (show InR ((setsE (((k % 5) / 4 : Nat) : Int) ([-9223372036854775808, -1, 0, 1, 5, 9223372036854775807].getD ((k * 7) % 6) 0)).ev.lam) from hok620.ev.lam), (show InR ((setsE (((k % 5) / 4 : Nat) : Int) ([-9223372036854775808, -1, 0, 1, 5, 9223372036854775807].getD ((k * 7) % 6) 0)).ev.typ) from hok620.ev.typ), (show InR (((k % 3 : Nat) : Int)) from (by omega)), (show InR ((setsE (((k % 5) / 4 : Nat) : Int) ([-9223372036854775808, -1, 0, 1, 5, 9223372036854775807].getD ((k * 7) % 6) 0)).ev.field) from hok620.ev.field), (show InR ((setsE (((k % 5) / 4 : Nat) : Int) ([-9223372036854775808, -1, 0, 1, 5, 9223372036854775807].getD ((k * 7) % 6) 0)).ev.op) from hok620.ev.op), (show InR ((setsE (((k % 5) / 4 : Nat) : Int) ([-9223372036854775808, -1, 0, 1, 5, 9223372036854775807].getD ((k * 7) % 6) 0)).ev.arg) from hok620.ev.arg), (show InR ((setsE (((k % 5) / 4 : Nat) : Int) ([-9223372036854775808, -1, 0, 1, 5, 9223372036854775807].getD ((k * 7) % 6) 0)).ev.key) from hok620.ev.key)⟩, (show InR ((setsE (((k % 5) / 4 : Nat) : Int) ([-9223372036854775808, -1, 0, 1, 5, 9223372036854775807].getD ((k * 7) % 6) 0)).byO) from hok620.byO), (show InR ((setsE (((k % 5) / 4 : Nat) : Int) ([-9223372036854775808, -1, 0, 1, 5, 9223372036854775807].getD ((k * 7) % 6) 0)).byS) from hok620.byS)⟩
    have hS634 : Sep G W ((Blk b624 ((⟨(⟨(setsE (((k % 5) / 4 : Nat) : Int) ([-9223372036854775808, -1, 0, 1, 5, 9223372036854775807].getD ((k * 7) % 6) 0)).ev.origin, (setsE (((k % 5) / 4 : Nat) : Int) ([-9223372036854775808, -1, 0, 1, 5, 9223372036854775807].getD ((k * 7) % 6) 0)).ev.seq, (setsE (((k % 5) / 4 : Nat) : Int) ([-9223372036854775808, -1, 0, 1, 5, 9223372036854775807].getD ((k * 7) % 6) 0)).ev.lam, [], (setsE (((k % 5) / 4 : Nat) : Int) ([-9223372036854775808, -1, 0, 1, 5, 9223372036854775807].getD ((k * 7) % 6) 0)).ev.typ, ((k % 3 : Nat) : Int), (setsE (((k % 5) / 4 : Nat) : Int) ([-9223372036854775808, -1, 0, 1, 5, 9223372036854775807].getD ((k * 7) % 6) 0)).ev.field, (setsE (((k % 5) / 4 : Nat) : Int) ([-9223372036854775808, -1, 0, 1, 5, 9223372036854775807].getD ((k * 7) % 6) 0)).ev.op, (setsE (((k % 5) / 4 : Nat) : Int) ([-9223372036854775808, -1, 0, 1, 5, 9223372036854775807].getD ((k * 7) % 6) 0)).ev.arg, (setsE (((k % 5) / 4 : Nat) : Int) ([-9223372036854775808, -1, 0, 1, 5, 9223372036854775807].getD ((k * 7) % 6) 0)).ev.key⟩), (setsE (((k % 5) / 4 : Nat) : Int) ([-9223372036854775808, -1, 0, 1, 5, 9223372036854775807].getD ((k * 7) % 6) 0)).void, (setsE (((k % 5) / 4 : Nat) : Int) ([-9223372036854775808, -1, 0, 1, 5, 9223372036854775807].getD ((k * 7) % 6) 0)).byO, (setsE (((k % 5) / 4 : Nat) : Int) ([-9223372036854775808, -1, 0, 1, 5, 9223372036854775807].getD ((k * 7) % 6) 0)).byS⟩ : Ent).cells (.slice none 0 0)).toArray 38) :: (RowE (α := Ent) own 38 vo le) :: (RowE (α := Int) own 3 (.slice (some ⟨b2, 0, none⟩) 6 6) [-9223372036854775808, -1, 0, 1, 5, 9223372036854775807]) :: Rs) w631 := hS629.put (i := 0) rfl hp632
    refine st_nil ?_
    refine WP_seq ?_
    refine WP_region0 (by kernel_rfl) (fun _ => ?_)
    refine st (ov_move (v := .int .i64 ((k : Nat) : Int)) rfl ?_)
    have h0635 : (0 : Int) < 7 := by omega
    have h0635m : k % 7 < 7 := Nat.mod_lt _ (by omega)
    refine st (ov_rem (r := ((k % 7 : Nat) : Int)) rfl rfl h0635 (Int.ofNat_tmod _ _).symm ?_)
    refine st (ov_quo (r := (((k % 7) / 6 : Nat) : Int)) rfl rfl (by omega) (by rw [show Int.tdiv (((k % 7 : Nat) : Int)) (6) = (((k % 7) / 6 : Nat) : Int) from (Int.ofNat_tdiv _ _).symm]; exact wrap_in (by omega)) ?_)
    refine st (fd38_0 rfl ?_)
    refine st (fd36_3 rfl ?_)
    refine stn (ov_store1 (v := .int .i64 (((k % 7) / 6 : Nat) : Int)) (c := [.int .i64 ((setsE (((k % 5) / 4 : Nat) : Int) ([-9223372036854775808, -1, 0, 1, 5, 9223372036854775807].getD ((k * 7) % 6) 0)).ev.origin), .int .i64 ((setsE (((k % 5) / 4 : Nat) : Int) ([-9223372036854775808, -1, 0, 1, 5, 9223372036854775807].getD ((k * 7) % 6) 0)).ev.seq), .int .i64 ((setsE (((k % 5) / 4 : Nat) : Int) ([-9223372036854775808, -1, 0, 1, 5, 9223372036854775807].getD ((k * 7) % 6) 0)).ev.lam), (.slice none 0 0), .int .i64 ((setsE (((k % 5) / 4 : Nat) : Int) ([-9223372036854775808, -1, 0, 1, 5, 9223372036854775807].getD ((k * 7) % 6) 0)).ev.typ), .int .i64 ((k % 3 : Nat) : Int), .int .i64 ((setsE (((k % 5) / 4 : Nat) : Int) ([-9223372036854775808, -1, 0, 1, 5, 9223372036854775807].getD ((k * 7) % 6) 0)).ev.field), .int .i64 ((setsE (((k % 5) / 4 : Nat) : Int) ([-9223372036854775808, -1, 0, 1, 5, 9223372036854775807].getD ((k * 7) % 6) 0)).ev.op), .int .i64 ((setsE (((k % 5) / 4 : Nat) : Int) ([-9223372036854775808, -1, 0, 1, 5, 9223372036854775807].getD ((k * 7) % 6) 0)).ev.arg), .int .i64 ((setsE (((k % 5) / 4 : Nat) : Int) ([-9223372036854775808, -1, 0, 1, 5, 9223372036854775807].getD ((k * 7) % 6) 0)).ev.key), .bool ((setsE (((k % 5) / 4 : Nat) : Int) ([-9223372036854775808, -1, 0, 1, 5, 9223372036854775807].getD ((k * 7) % 6) 0)).void), .int .i64 ((setsE (((k % 5) / 4 : Nat) : Int) ([-9223372036854775808, -1, 0, 1, 5, 9223372036854775807].getD ((k * 7) % 6) 0)).byO), .int .i64 ((setsE (((k % 5) / 4 : Nat) : Int) ([-9223372036854775808, -1, 0, 1, 5, 9223372036854775807].getD ((k * 7) % 6) 0)).byS)]) (c' := [.int .i64 ((setsE (((k % 5) / 4 : Nat) : Int) ([-9223372036854775808, -1, 0, 1, 5, 9223372036854775807].getD ((k * 7) % 6) 0)).ev.origin), .int .i64 ((setsE (((k % 5) / 4 : Nat) : Int) ([-9223372036854775808, -1, 0, 1, 5, 9223372036854775807].getD ((k * 7) % 6) 0)).ev.seq), .int .i64 ((setsE (((k % 5) / 4 : Nat) : Int) ([-9223372036854775808, -1, 0, 1, 5, 9223372036854775807].getD ((k * 7) % 6) 0)).ev.lam), (.slice none 0 0), .int .i64 (((k % 7) / 6 : Nat) : Int), .int .i64 ((k % 3 : Nat) : Int), .int .i64 ((setsE (((k % 5) / 4 : Nat) : Int) ([-9223372036854775808, -1, 0, 1, 5, 9223372036854775807].getD ((k * 7) % 6) 0)).ev.field), .int .i64 ((setsE (((k % 5) / 4 : Nat) : Int) ([-9223372036854775808, -1, 0, 1, 5, 9223372036854775807].getD ((k * 7) % 6) 0)).ev.op), .int .i64 ((setsE (((k % 5) / 4 : Nat) : Int) ([-9223372036854775808, -1, 0, 1, 5, 9223372036854775807].getD ((k * 7) % 6) 0)).ev.arg), .int .i64 ((setsE (((k % 5) / 4 : Nat) : Int) ([-9223372036854775808, -1, 0, 1, 5, 9223372036854775807].getD ((k * 7) % 6) 0)).ev.key), .bool ((setsE (((k % 5) / 4 : Nat) : Int) ([-9223372036854775808, -1, 0, 1, 5, 9223372036854775807].getD ((k * 7) % 6) 0)).void), .int .i64 ((setsE (((k % 5) / 4 : Nat) : Int) ([-9223372036854775808, -1, 0, 1, 5, 9223372036854775807].getD ((k * 7) % 6) 0)).byO), .int .i64 ((setsE (((k % 5) / 4 : Nat) : Int) ([-9223372036854775808, -1, 0, 1, 5, 9223372036854775807].getD ((k * 7) % 6) 0)).byS)]) Try.sizeOf3 rfl rfl (hS634.blk (i := 0) rfl) rfl rfl rfl ?_)
    intro w636 hp637
    have ok638 : Ent.Ok (⟨(⟨(setsE (((k % 5) / 4 : Nat) : Int) ([-9223372036854775808, -1, 0, 1, 5, 9223372036854775807].getD ((k * 7) % 6) 0)).ev.origin, (setsE (((k % 5) / 4 : Nat) : Int) ([-9223372036854775808, -1, 0, 1, 5, 9223372036854775807].getD ((k * 7) % 6) 0)).ev.seq, (setsE (((k % 5) / 4 : Nat) : Int) ([-9223372036854775808, -1, 0, 1, 5, 9223372036854775807].getD ((k * 7) % 6) 0)).ev.lam, [], (((k % 7) / 6 : Nat) : Int), ((k % 3 : Nat) : Int), (setsE (((k % 5) / 4 : Nat) : Int) ([-9223372036854775808, -1, 0, 1, 5, 9223372036854775807].getD ((k * 7) % 6) 0)).ev.field, (setsE (((k % 5) / 4 : Nat) : Int) ([-9223372036854775808, -1, 0, 1, 5, 9223372036854775807].getD ((k * 7) % 6) 0)).ev.op, (setsE (((k % 5) / 4 : Nat) : Int) ([-9223372036854775808, -1, 0, 1, 5, 9223372036854775807].getD ((k * 7) % 6) 0)).ev.arg, (setsE (((k % 5) / 4 : Nat) : Int) ([-9223372036854775808, -1, 0, 1, 5, 9223372036854775807].getD ((k * 7) % 6) 0)).ev.key⟩), (setsE (((k % 5) / 4 : Nat) : Int) ([-9223372036854775808, -1, 0, 1, 5, 9223372036854775807].getD ((k * 7) % 6) 0)).void, (setsE (((k % 5) / 4 : Nat) : Int) ([-9223372036854775808, -1, 0, 1, 5, 9223372036854775807].getD ((k * 7) % 6) 0)).byO, (setsE (((k % 5) / 4 : Nat) : Int) ([-9223372036854775808, -1, 0, 1, 5, 9223372036854775807].getD ((k * 7) % 6) 0)).byS⟩ : Ent) := ⟨⟨(show InR ((setsE (((k % 5) / 4 : Nat) : Int) ([-9223372036854775808, -1, 0, 1, 5, 9223372036854775807].getD ((k * 7) % 6) 0)).ev.origin) from hok620.ev.origin), (show InR ((setsE (((k % 5) / 4 : Nat) : Int) ([-9223372036854775808, -1, 0, 1, 5, 9223372036854775807].getD ((k * 7) % 6) 0)).ev.seq) from hok620.ev.seq), (show InR ((setsE (((k % 5) / 4 : Nat) : Int) ([-9223372036854775808, -1, 0, 1, 5, 9223372036854775807].getD ((k * 7) % 6) 0)).ev.lam) from hok620.ev.lam), (show InR ((((k % 7) / 6 : Nat) : Int)) from (by omega)), (show InR (((k % 3 : Nat) : Int)) from (by omega)), (show InR ((setsE (((k % 5) / 4 : Nat) : Int) ([-9223372036854775808, -1, 0, 1, 5, 9223372036854775807].getD ((k * 7) % 6) 0)).ev.field) from hok620.ev.field), (show InR ((setsE (((k % 5) / 4 : Nat) : Int) ([-9223372036854775808, -1, 0, 1, 5, 9223372036854775807].getD ((k * 7) % 6) 0)).ev.op) from hok620.ev.op), (show InR ((setsE (((k % 5) / 4 : Nat) : Int) ([-9223372036854775808, -1, 0, 1, 5, 9223372036854775807].getD ((k * 7) % 6) 0)).ev.arg) from hok620.ev.arg), (show InR ((setsE (((k % 5) / 4 : Nat) : Int) ([-9223372036854775808, -1, 0, 1, 5, 9223372036854775807].getD ((k * 7) % 6) 0)).ev.key) from hok620.ev.key)⟩, (show InR ((setsE (((k % 5) / 4 : Nat) : Int) ([-9223372036854775808, -1, 0, 1, 5, 9223372036854775807].getD ((k * 7) % 6) 0)).byO) from hok620.byO), (show InR ((setsE (((k % 5) / 4 : Nat) : Int) ([-9223372036854775808, -1, 0, 1, 5, 9223372036854775807].getD ((k * 7) % 6) 0)).byS) from hok620.byS)⟩
    have hS639 : Sep G W ((Blk b624 ((⟨(⟨(setsE (((k % 5) / 4 : Nat) : Int) ([-9223372036854775808, -1, 0, 1, 5, 9223372036854775807].getD ((k * 7) % 6) 0)).ev.origin, (setsE (((k % 5) / 4 : Nat) : Int) ([-9223372036854775808, -1, 0, 1, 5, 9223372036854775807].getD ((k * 7) % 6) 0)).ev.seq, (setsE (((k % 5) / 4 : Nat) : Int) ([-9223372036854775808, -1, 0, 1, 5, 9223372036854775807].getD ((k * 7) % 6) 0)).ev.lam, [], (((k % 7) / 6 : Nat) : Int), ((k % 3 : Nat) : Int), (setsE (((k % 5) / 4 : Nat) : Int) ([-9223372036854775808, -1, 0, 1, 5, 9223372036854775807].getD ((k * 7) % 6) 0)).ev.field, (setsE (((k % 5) / 4 : Nat) : Int) ([-9223372036854775808, -1, 0, 1, 5, 9223372036854775807].getD ((k * 7) % 6) 0)).ev.op, (setsE (((k % 5) / 4 : Nat) : Int) ([-9223372036854775808, -1, 0, 1, 5, 9223372036854775807].getD ((k * 7) % 6) 0)).ev.arg, (setsE (((k % 5) / 4 : Nat) : Int) ([-9223372036854775808, -1, 0, 1, 5, 9223372036854775807].getD ((k * 7) % 6) 0)).ev.key⟩), (setsE (((k % 5) / 4 : Nat) : Int) ([-9223372036854775808, -1, 0, 1, 5, 9223372036854775807].getD ((k * 7) % 6) 0)).void, (setsE (((k % 5) / 4 : Nat) : Int) ([-9223372036854775808, -1, 0, 1, 5, 9223372036854775807].getD ((k * 7) % 6) 0)).byO, (setsE (((k % 5) / 4 : Nat) : Int) ([-9223372036854775808, -1, 0, 1, 5, 9223372036854775807].getD ((k * 7) % 6) 0)).byS⟩ : Ent).cells (.slice none 0 0)).toArray 38) :: (RowE (α := Ent) own 38 vo le) :: (RowE (α := Int) own 3 (.slice (some ⟨b2, 0, none⟩) 6 6) [-9223372036854775808, -1, 0, 1, 5, 9223372036854775807]) :: Rs) w636 := hS634.put (i := 0) rfl hp637
    refine st_nil ?_
    refine WP_seq ?_
    refine WP_region0 (by kernel_rfl) (fun _ => ?_)
    refine st (ov_move (v := .int .i64 ((k : Nat) : Int)) rfl ?_)
    have h0640 : (0 : Int) < 6 := by omega
    have h0640m : k % 6 < 6 := Nat.mod_lt _ (by omega)
    refine st (ov_rem (r := ((k % 6 : Nat) : Int)) rfl rfl h0640 (Int.ofNat_tmod _ _).symm ?_)
    refine st (ov_eql (k := .i64) (a := ((k % 6 : Nat) : Int)) (b := 5) rfl rfl ?_)
    refine st (fd38_1 rfl ?_)
    refine stn (ov_store1 (v := .bool (decide (((k % 6 : Nat) : Int) = 5))) (c := [.int .i64 ((setsE (((k % 5) / 4 : Nat) : Int) ([-9223372036854775808, -1, 0, 1, 5, 9223372036854775807].getD ((k * 7) % 6) 0)).ev.origin), .int .i64 ((setsE (((k % 5) / 4 : Nat) : Int) ([-9223372036854775808, -1, 0, 1, 5, 9223372036854775807].getD ((k * 7) % 6) 0)).ev.seq), .int .i64 ((setsE (((k % 5) / 4 : Nat) : Int) ([-9223372036854775808, -1, 0, 1, 5, 9223372036854775807].getD ((k * 7) % 6) 0)).ev.lam), (.slice none 0 0), .int .i64 (((k % 7) / 6 : Nat) : Int), .int .i64 ((k % 3 : Nat) : Int), .int .i64 ((setsE (((k % 5) / 4 : Nat) : Int) ([-9223372036854775808, -1, 0, 1, 5, 9223372036854775807].getD ((k * 7) % 6) 0)).ev.field), .int .i64 ((setsE (((k % 5) / 4 : Nat) : Int) ([-9223372036854775808, -1, 0, 1, 5, 9223372036854775807].getD ((k * 7) % 6) 0)).ev.op), .int .i64 ((setsE (((k % 5) / 4 : Nat) : Int) ([-9223372036854775808, -1, 0, 1, 5, 9223372036854775807].getD ((k * 7) % 6) 0)).ev.arg), .int .i64 ((setsE (((k % 5) / 4 : Nat) : Int) ([-9223372036854775808, -1, 0, 1, 5, 9223372036854775807].getD ((k * 7) % 6) 0)).ev.key), .bool ((setsE (((k % 5) / 4 : Nat) : Int) ([-9223372036854775808, -1, 0, 1, 5, 9223372036854775807].getD ((k * 7) % 6) 0)).void), .int .i64 ((setsE (((k % 5) / 4 : Nat) : Int) ([-9223372036854775808, -1, 0, 1, 5, 9223372036854775807].getD ((k * 7) % 6) 0)).byO), .int .i64 ((setsE (((k % 5) / 4 : Nat) : Int) ([-9223372036854775808, -1, 0, 1, 5, 9223372036854775807].getD ((k * 7) % 6) 0)).byS)]) (c' := [.int .i64 ((setsE (((k % 5) / 4 : Nat) : Int) ([-9223372036854775808, -1, 0, 1, 5, 9223372036854775807].getD ((k * 7) % 6) 0)).ev.origin), .int .i64 ((setsE (((k % 5) / 4 : Nat) : Int) ([-9223372036854775808, -1, 0, 1, 5, 9223372036854775807].getD ((k * 7) % 6) 0)).ev.seq), .int .i64 ((setsE (((k % 5) / 4 : Nat) : Int) ([-9223372036854775808, -1, 0, 1, 5, 9223372036854775807].getD ((k * 7) % 6) 0)).ev.lam), (.slice none 0 0), .int .i64 (((k % 7) / 6 : Nat) : Int), .int .i64 ((k % 3 : Nat) : Int), .int .i64 ((setsE (((k % 5) / 4 : Nat) : Int) ([-9223372036854775808, -1, 0, 1, 5, 9223372036854775807].getD ((k * 7) % 6) 0)).ev.field), .int .i64 ((setsE (((k % 5) / 4 : Nat) : Int) ([-9223372036854775808, -1, 0, 1, 5, 9223372036854775807].getD ((k * 7) % 6) 0)).ev.op), .int .i64 ((setsE (((k % 5) / 4 : Nat) : Int) ([-9223372036854775808, -1, 0, 1, 5, 9223372036854775807].getD ((k * 7) % 6) 0)).ev.arg), .int .i64 ((setsE (((k % 5) / 4 : Nat) : Int) ([-9223372036854775808, -1, 0, 1, 5, 9223372036854775807].getD ((k * 7) % 6) 0)).ev.key), .bool (decide (((k % 6 : Nat) : Int) = 5)), .int .i64 ((setsE (((k % 5) / 4 : Nat) : Int) ([-9223372036854775808, -1, 0, 1, 5, 9223372036854775807].getD ((k * 7) % 6) 0)).byO), .int .i64 ((setsE (((k % 5) / 4 : Nat) : Int) ([-9223372036854775808, -1, 0, 1, 5, 9223372036854775807].getD ((k * 7) % 6) 0)).byS)]) Try.sizeOf4 rfl rfl (hS639.blk (i := 0) rfl) rfl rfl rfl ?_)
    intro w641 hp642
    have ok643 : Ent.Ok (⟨(⟨(setsE (((k % 5) / 4 : Nat) : Int) ([-9223372036854775808, -1, 0, 1, 5, 9223372036854775807].getD ((k * 7) % 6) 0)).ev.origin, (setsE (((k % 5) / 4 : Nat) : Int) ([-9223372036854775808, -1, 0, 1, 5, 9223372036854775807].getD ((k * 7) % 6) 0)).ev.seq, (setsE (((k % 5) / 4 : Nat) : Int) ([-9223372036854775808, -1, 0, 1, 5, 9223372036854775807].getD ((k * 7) % 6) 0)).ev.lam, [], (((k % 7) / 6 : Nat) : Int), ((k % 3 : Nat) : Int), (setsE (((k % 5) / 4 : Nat) : Int) ([-9223372036854775808, -1, 0, 1, 5, 9223372036854775807].getD ((k * 7) % 6) 0)).ev.field, (setsE (((k % 5) / 4 : Nat) : Int) ([-9223372036854775808, -1, 0, 1, 5, 9223372036854775807].getD ((k * 7) % 6) 0)).ev.op, (setsE (((k % 5) / 4 : Nat) : Int) ([-9223372036854775808, -1, 0, 1, 5, 9223372036854775807].getD ((k * 7) % 6) 0)).ev.arg, (setsE (((k % 5) / 4 : Nat) : Int) ([-9223372036854775808, -1, 0, 1, 5, 9223372036854775807].getD ((k * 7) % 6) 0)).ev.key⟩), decide (((k % 6 : Nat) : Int) = 5), (setsE (((k % 5) / 4 : Nat) : Int) ([-9223372036854775808, -1, 0, 1, 5, 9223372036854775807].getD ((k * 7) % 6) 0)).byO, (setsE (((k % 5) / 4 : Nat) : Int) ([-9223372036854775808, -1, 0, 1, 5, 9223372036854775807].getD ((k * 7) % 6) 0)).byS⟩ : Ent) := ⟨⟨(show InR ((setsE (((k % 5) / 4 : Nat) : Int) ([-9223372036854775808, -1, 0, 1, 5, 9223372036854775807].getD ((k * 7) % 6) 0)).ev.origin) from hok620.ev.origin), (show InR ((setsE (((k % 5) / 4 : Nat) : Int) ([-9223372036854775808, -1, 0, 1, 5, 9223372036854775807].getD ((k * 7) % 6) 0)).ev.seq) from hok620.ev.seq), (show InR ((setsE (((k % 5) / 4 : Nat) : Int) ([-9223372036854775808, -1, 0, 1, 5, 9223372036854775807].getD ((k * 7) % 6) 0)).ev.lam) from hok620.ev.lam), (show InR ((((k % 7) / 6 : Nat) : Int)) from (by omega)), (show InR (((k % 3 : Nat) : Int)) from (by omega)), (show InR ((setsE (((k % 5) / 4 : Nat) : Int) ([-9223372036854775808, -1, 0, 1, 5, 9223372036854775807].getD ((k * 7) % 6) 0)).ev.field) from hok620.ev.field), (show InR ((setsE (((k % 5) / 4 : Nat) : Int) ([-9223372036854775808, -1, 0, 1, 5, 9223372036854775807].getD ((k * 7) % 6) 0)).ev.op) from hok620.ev.op), (show InR ((setsE (((k % 5) / 4 : Nat) : Int) ([-9223372036854775808, -1, 0, 1, 5, 9223372036854775807].getD ((k * 7) % 6) 0)).ev.arg) from hok620.ev.arg), (show InR ((setsE (((k % 5) / 4 : Nat) : Int) ([-9223372036854775808, -1, 0, 1, 5, 9223372036854775807].getD ((k * 7) % 6) 0)).ev.key) from hok620.ev.key)⟩, (show InR ((setsE (((k % 5) / 4 : Nat) : Int) ([-9223372036854775808, -1, 0, 1, 5, 9223372036854775807].getD ((k * 7) % 6) 0)).byO) from hok620.byO), (show InR ((setsE (((k % 5) / 4 : Nat) : Int) ([-9223372036854775808, -1, 0, 1, 5, 9223372036854775807].getD ((k * 7) % 6) 0)).byS) from hok620.byS)⟩
    have hS644 : Sep G W ((Blk b624 ((⟨(⟨(setsE (((k % 5) / 4 : Nat) : Int) ([-9223372036854775808, -1, 0, 1, 5, 9223372036854775807].getD ((k * 7) % 6) 0)).ev.origin, (setsE (((k % 5) / 4 : Nat) : Int) ([-9223372036854775808, -1, 0, 1, 5, 9223372036854775807].getD ((k * 7) % 6) 0)).ev.seq, (setsE (((k % 5) / 4 : Nat) : Int) ([-9223372036854775808, -1, 0, 1, 5, 9223372036854775807].getD ((k * 7) % 6) 0)).ev.lam, [], (((k % 7) / 6 : Nat) : Int), ((k % 3 : Nat) : Int), (setsE (((k % 5) / 4 : Nat) : Int) ([-9223372036854775808, -1, 0, 1, 5, 9223372036854775807].getD ((k * 7) % 6) 0)).ev.field, (setsE (((k % 5) / 4 : Nat) : Int) ([-9223372036854775808, -1, 0, 1, 5, 9223372036854775807].getD ((k * 7) % 6) 0)).ev.op, (setsE (((k % 5) / 4 : Nat) : Int) ([-9223372036854775808, -1, 0, 1, 5, 9223372036854775807].getD ((k * 7) % 6) 0)).ev.arg, (setsE (((k % 5) / 4 : Nat) : Int) ([-9223372036854775808, -1, 0, 1, 5, 9223372036854775807].getD ((k * 7) % 6) 0)).ev.key⟩), decide (((k % 6 : Nat) : Int) = 5), (setsE (((k % 5) / 4 : Nat) : Int) ([-9223372036854775808, -1, 0, 1, 5, 9223372036854775807].getD ((k * 7) % 6) 0)).byO, (setsE (((k % 5) / 4 : Nat) : Int) ([-9223372036854775808, -1, 0, 1, 5, 9223372036854775807].getD ((k * 7) % 6) 0)).byS⟩ : Ent).cells (.slice none 0 0)).toArray 38) :: (RowE (α := Ent) own 38 vo le) :: (RowE (α := Int) own 3 (.slice (some ⟨b2, 0, none⟩) 6 6) [-9223372036854775808, -1, 0, 1, 5, 9223372036854775807]) :: Rs) w641 := hS639.put (i := 0) rfl hp642
    refine st_nil ?_
    refine WP_region0 (by kernel_rfl) (fun _ => ?_)
    refine st (ov_move (v := vo) rfl ?_)
    refine st (ov_loadk (k := 13) Try.isAgg38 Try.sizeOf38 rfl rfl (CellsAt.all (hS644.blk (i := 0) rfl)) ?_)
    refine st (ov_buildSlice (k := 13) (parts' := [(0, .agg ((⟨(⟨(setsE (((k % 5) / 4 : Nat) : Int) ([-9223372036854775808, -1, 0, 1, 5, 9223372036854775807].getD ((k * 7) % 6) 0)).ev.origin, (setsE (((k % 5) / 4 : Nat) : Int) ([-9223372036854775808, -1, 0, 1, 5, 9223372036854775807].getD ((k * 7) % 6) 0)).ev.seq, (setsE (((k % 5) / 4 : Nat) : Int) ([-9223372036854775808, -1, 0, 1, 5, 9223372036854775807].getD ((k * 7) % 6) 0)).ev.lam, [], (((k % 7) / 6 : Nat) : Int), ((k % 3 : Nat) : Int), (setsE (((k % 5) / 4 : Nat) : Int) ([-9223372036854775808, -1, 0, 1, 5, 9223372036854775807].getD ((k * 7) % 6) 0)).ev.field, (setsE (((k % 5) / 4 : Nat) : Int) ([-9223372036854775808, -1, 0, 1, 5, 9223372036854775807].getD ((k * 7) % 6) 0)).ev.op, (setsE (((k % 5) / 4 : Nat) : Int) ([-9223372036854775808, -1, 0, 1, 5, 9223372036854775807].getD ((k * 7) % 6) 0)).ev.arg, (setsE (((k % 5) / 4 : Nat) : Int) ([-9223372036854775808, -1, 0, 1, 5, 9223372036854775807].getD ((k * 7) % 6) 0)).ev.key⟩), decide (((k % 6 : Nat) : Int) = 5), (setsE (((k % 5) / 4 : Nat) : Int) ([-9223372036854775808, -1, 0, 1, 5, 9223372036854775807].getD ((k * 7) % 6) 0)).byO, (setsE (((k % 5) / 4 : Nat) : Int) ([-9223372036854775808, -1, 0, 1, 5, 9223372036854775807].getD ((k * 7) % 6) 0)).byS⟩ : Ent).cells (.slice none 0 0)).toArray)]) (c := ((⟨(⟨(setsE (((k % 5) / 4 : Nat) : Int) ([-9223372036854775808, -1, 0, 1, 5, 9223372036854775807].getD ((k * 7) % 6) 0)).ev.origin, (setsE (((k % 5) / 4 : Nat) : Int) ([-9223372036854775808, -1, 0, 1, 5, 9223372036854775807].getD ((k * 7) % 6) 0)).ev.seq, (setsE (((k % 5) / 4 : Nat) : Int) ([-9223372036854775808, -1, 0, 1, 5, 9223372036854775807].getD ((k * 7) % 6) 0)).ev.lam, [], (((k % 7) / 6 : Nat) : Int), ((k % 3 : Nat) : Int), (setsE (((k % 5) / 4 : Nat) : Int) ([-9223372036854775808, -1, 0, 1, 5, 9223372036854775807].getD ((k * 7) % 6) 0)).ev.field, (setsE (((k % 5) / 4 : Nat) : Int) ([-9223372036854775808, -1, 0, 1, 5, 9223372036854775807].getD ((k * 7) % 6) 0)).ev.op, (setsE (((k % 5) / 4 : Nat) : Int) ([-9223372036854775808, -1, 0, 1, 5, 9223372036854775807].getD ((k * 7) % 6) 0)).ev.arg, (setsE (((k % 5) / 4 : Nat) : Int) ([-9223372036854775808, -1, 0, 1, 5, 9223372036854775807].getD ((k * 7) % 6) 0)).ev.key⟩), decide (((k % 6 : Nat) : Int) = 5), (setsE (((k % 5) / 4 : Nat) : Int) ([-9223372036854775808, -1, 0, 1, 5, 9223372036854775807].getD ((k * 7) % 6) 0)).byO, (setsE (((k % 5) / 4 : Nat) : Int) ([-9223372036854775808, -1, 0, 1, 5, 9223372036854775807].getD ((k * 7) % 6) 0)).byS⟩ : Ent).cells (.slice none 0 0)).toArray) Try.underlying24 Try.sizeOf38 Try.zeroValue38 (by decide) rfl (by kernel_rfl) ?_)
    intro w647 b646 hn645
    have hS648 : Sep G W ((Blk b646 ((⟨(⟨(setsE (((k % 5) / 4 : Nat) : Int) ([-9223372036854775808, -1, 0, 1, 5, 9223372036854775807].getD ((k * 7) % 6) 0)).ev.origin, (setsE (((k % 5) / 4 : Nat) : Int) ([-9223372036854775808, -1, 0, 1, 5, 9223372036854775807].getD ((k * 7) % 6) 0)).ev.seq, (setsE (((k % 5) / 4 : Nat) : Int) ([-9223372036854775808, -1, 0, 1, 5, 9223372036854775807].getD ((k * 7) % 6) 0)).ev.lam, [], (((k % 7) / 6 : Nat) : Int), ((k % 3 : Nat) : Int), (setsE (((k % 5) / 4 : Nat) : Int) ([-9223372036854775808, -1, 0, 1, 5, 9223372036854775807].getD ((k * 7) % 6) 0)).ev.field, (setsE (((k % 5) / 4 : Nat) : Int) ([-9223372036854775808, -1, 0, 1, 5, 9223372036854775807].getD ((k * 7) % 6) 0)).ev.op, (setsE (((k % 5) / 4 : Nat) : Int) ([-9223372036854775808, -1, 0, 1, 5, 9223372036854775807].getD ((k * 7) % 6) 0)).ev.arg, (setsE (((k % 5) / 4 : Nat) : Int) ([-9223372036854775808, -1, 0, 1, 5, 9223372036854775807].getD ((k * 7) % 6) 0)).ev.key⟩), decide (((k % 6 : Nat) : Int) = 5), (setsE (((k % 5) / 4 : Nat) : Int) ([-9223372036854775808, -1, 0, 1, 5, 9223372036854775807].getD ((k * 7) % 6) 0)).byO, (setsE (((k % 5) / 4 : Nat) : Int) ([-9223372036854775808, -1, 0, 1, 5, 9223372036854775807].getD ((k * 7) % 6) 0)).byS⟩ : Ent).cells (.slice none 0 0)).toArray 38) :: (Blk b624 ((⟨(⟨(setsE (((k % 5) / 4 : Nat) : Int) ([-9223372036854775808, -1, 0, 1, 5, 9223372036854775807].getD ((k * 7) % 6) 0)).ev.origin, (setsE (((k % 5) / 4 : Nat) : Int) ([-9223372036854775808, -1, 0, 1, 5, 9223372036854775807].getD ((k * 7) % 6) 0)).ev.seq, (setsE (((k % 5) / 4 : Nat) : Int) ([-9223372036854775808, -1, 0, 1, 5, 9223372036854775807].getD ((k * 7) % 6) 0)).ev.lam, [], (((k % 7) / 6 : Nat) : Int), ((k % 3 : Nat) : Int), (setsE (((k % 5) / 4 : Nat) : Int) ([-9223372036854775808, -1, 0, 1, 5, 9223372036854775807].getD ((k * 7) % 6) 0)).ev.field, (setsE (((k % 5) / 4 : Nat) : Int) ([-9223372036854775808, -1, 0, 1, 5, 9223372036854775807].getD ((k * 7) % 6) 0)).ev.op, (setsE (((k % 5) / 4 : Nat) : Int) ([-9223372036854775808, -1, 0, 1, 5, 9223372036854775807].getD ((k * 7) % 6) 0)).ev.arg, (setsE (((k % 5) / 4 : Nat) : Int) ([-9223372036854775808, -1, 0, 1, 5, 9223372036854775807].getD ((k * 7) % 6) 0)).ev.key⟩), decide (((k % 6 : Nat) : Int) = 5), (setsE (((k % 5) / 4 : Nat) : Int) ([-9223372036854775808, -1, 0, 1, 5, 9223372036854775807].getD ((k * 7) % 6) 0)).byO, (setsE (((k % 5) / 4 : Nat) : Int) ([-9223372036854775808, -1, 0, 1, 5, 9223372036854775807].getD ((k * 7) % 6) 0)).byS⟩ : Ent).cells (.slice none 0 0)).toArray 38) :: (RowE (α := Ent) own 38 vo le) :: (RowE (α := Int) own 3 (.slice (some ⟨b2, 0, none⟩) 6 6) [-9223372036854775808, -1, 0, 1, 5, 9223372036854775807]) :: Rs) w647 := hS644.new hn645
    have hbk652 := hS648.blk (i := 0) rfl
    have hS653 : Sep G W ((RowE (α := Ent) own 38 vo le) :: (Blk b624 ((⟨(⟨(setsE (((k % 5) / 4 : Nat) : Int) ([-9223372036854775808, -1, 0, 1, 5, 9223372036854775807].getD ((k * 7) % 6) 0)).ev.origin, (setsE (((k % 5) / 4 : Nat) : Int) ([-9223372036854775808, -1, 0, 1, 5, 9223372036854775807].getD ((k * 7) % 6) 0)).ev.seq, (setsE (((k % 5) / 4 : Nat) : Int) ([-9223372036854775808, -1, 0, 1, 5, 9223372036854775807].getD ((k * 7) % 6) 0)).ev.lam, [], (((k % 7) / 6 : Nat) : Int), ((k % 3 : Nat) : Int), (setsE (((k % 5) / 4 : Nat) : Int) ([-9223372036854775808, -1, 0, 1, 5, 9223372036854775807].getD ((k * 7) % 6) 0)).ev.field, (setsE (((k % 5) / 4 : Nat) : Int) ([-9223372036854775808, -1, 0, 1, 5, 9223372036854775807].getD ((k * 7) % 6) 0)).ev.op, (setsE (((k % 5) / 4 : Nat) : Int) ([-9223372036854775808, -1, 0, 1, 5, 9223372036854775807].getD ((k * 7) % 6) 0)).ev.arg, (setsE (((k % 5) / 4 : Nat) : Int) ([-9223372036854775808, -1, 0, 1, 5, 9223372036854775807].getD ((k * 7) % 6) 0)).ev.key⟩), decide (((k % 6 : Nat) : Int) = 5), (setsE (((k % 5) / 4 : Nat) : Int) ([-9223372036854775808, -1, 0, 1, 5, 9223372036854775807].getD ((k * 7) % 6) 0)).byO, (setsE (((k % 5) / 4 : Nat) : Int) ([-9223372036854775808, -1, 0, 1, 5, 9223372036854775807].getD ((k * 7) % 6) 0)).byS⟩ : Ent).cells (.slice none 0 0)).toArray 38) :: (RowE (α := Int) own 3 (.slice (some ⟨b2, 0, none⟩) 6 6) [-9223372036854775808, -1, 0, 1, 5, 9223372036854775807]) :: Rs) w647 := hS648.sel 4 [2, 1, 3] (Nat.le_add_left _ _) rfl rfl
    have hS654 : Sep G W ((RowE (α := Ent) own 38 vo le) :: Emp :: (Blk b624 ((⟨(⟨(setsE (((k % 5) / 4 : Nat) : Int) ([-9223372036854775808, -1, 0, 1, 5, 9223372036854775807].getD ((k * 7) % 6) 0)).ev.origin, (setsE (((k % 5) / 4 : Nat) : Int) ([-9223372036854775808, -1, 0, 1, 5, 9223372036854775807].getD ((k * 7) % 6) 0)).ev.seq, (setsE (((k % 5) / 4 : Nat) : Int) ([-9223372036854775808, -1, 0, 1, 5, 9223372036854775807].getD ((k * 7) % 6) 0)).ev.lam, [], (((k % 7) / 6 : Nat) : Int), ((k % 3 : Nat) : Int), (setsE (((k % 5) / 4 : Nat) : Int) ([-9223372036854775808, -1, 0, 1, 5, 9223372036854775807].getD ((k * 7) % 6) 0)).ev.field, (setsE (((k % 5) / 4 : Nat) : Int) ([-9223372036854775808, -1, 0, 1, 5, 9223372036854775807].getD ((k * 7) % 6) 0)).ev.op, (setsE (((k % 5) / 4 : Nat) : Int) ([-9223372036854775808, -1, 0, 1, 5, 9223372036854775807].getD ((k * 7) % 6) 0)).ev.arg, (setsE (((k % 5) / 4 : Nat) : Int) ([-9223372036854775808, -1, 0, 1, 5, 9223372036854775807].getD ((k * 7) % 6) 0)).ev.key⟩), decide (((k % 6 : Nat) : Int) = 5), (setsE (((k % 5) / 4 : Nat) : Int) ([-9223372036854775808, -1, 0, 1, 5, 9223372036854775807].getD ((k * 7) % 6) 0)).byO, (setsE (((k % 5) / 4 : Nat) : Int) ([-9223372036854775808, -1, 0, 1, 5, 9223372036854775807].getD ((k * 7) % 6) 0)).byS⟩ : Ent).cells (.slice none 0 0)).toArray 38) :: (RowE (α := Int) own 3 (.slice (some ⟨b2, 0, none⟩) 6 6) [-9223372036854775808, -1, 0, 1, 5, 9223372036854775807]) :: Rs) w647 := hS653.emp1
    refine st (ov_append1S (src := own) (bytes := 120) (x1 := (⟨(⟨(setsE (((k % 5) / 4 : Nat) : Int) ([-9223372036854775808, -1, 0, 1, 5, 9223372036854775807].getD ((k * 7) % 6) 0)).ev.origin, (setsE (((k % 5) / 4 : Nat) : Int) ([-9223372036854775808, -1, 0, 1, 5, 9223372036854775807].getD ((k * 7) % 6) 0)).ev.seq, (setsE (((k % 5) / 4 : Nat) : Int) ([-9223372036854775808, -1, 0, 1, 5, 9223372036854775807].getD ((k * 7) % 6) 0)).ev.lam, [], (((k % 7) / 6 : Nat) : Int), ((k % 3 : Nat) : Int), (setsE (((k % 5) / 4 : Nat) : Int) ([-9223372036854775808, -1, 0, 1, 5, 9223372036854775807].getD ((k * 7) % 6) 0)).ev.field, (setsE (((k % 5) / 4 : Nat) : Int) ([-9223372036854775808, -1, 0, 1, 5, 9223372036854775807].getD ((k * 7) % 6) 0)).ev.op, (setsE (((k % 5) / 4 : Nat) : Int) ([-9223372036854775808, -1, 0, 1, 5, 9223372036854775807].getD ((k * 7) % 6) 0)).ev.arg, (setsE (((k % 5) / 4 : Nat) : Int) ([-9223372036854775808, -1, 0, 1, 5, 9223372036854775807].getD ((k * 7) % 6) 0)).ev.key⟩), decide (((k % 6 : Nat) : Int) = 5), (setsE (((k % 5) / 4 : Nat) : Int) ([-9223372036854775808, -1, 0, 1, 5, 9223372036854775807].getD ((k * 7) % 6) 0)).byO, (setsE (((k % 5) / 4 : Nat) : Int) ([-9223372036854775808, -1, 0, 1, 5, 9223372036854775807].getD ((k * 7) % 6) 0)).byS⟩ : Ent)) hS654 el24 rfl rfl hbk652 (fun _ _ _ => (show _ from ⟨_, rfl, (RdS.nil _ _), ok643⟩)) (by first | omega | (simp only [List.length_append, List.length_cons, List.length_nil, List.length_take, List.length_drop]; omega)) rfl ?_)
    intro v650 w649 hS651
    have hr655 := hS651.row (i := 0) rfl
    have hr655s : (le ++ [(⟨(⟨(setsE (((k % 5) / 4 : Nat) : Int) ([-9223372036854775808, -1, 0, 1, 5, 9223372036854775807].getD ((k * 7) % 6) 0)).ev.origin, (setsE (((k % 5) / 4 : Nat) : Int) ([-9223372036854775808, -1, 0, 1, 5, 9223372036854775807].getD ((k * 7) % 6) 0)).ev.seq, (setsE (((k % 5) / 4 : Nat) : Int) ([-9223372036854775808, -1, 0, 1, 5, 9223372036854775807].getD ((k * 7) % 6) 0)).ev.lam, [], (((k % 7) / 6 : Nat) : Int), ((k % 3 : Nat) : Int), (setsE (((k % 5) / 4 : Nat) : Int) ([-9223372036854775808, -1, 0, 1, 5, 9223372036854775807].getD ((k * 7) % 6) 0)).ev.field, (setsE (((k % 5) / 4 : Nat) : Int) ([-9223372036854775808, -1, 0, 1, 5, 9223372036854775807].getD ((k * 7) % 6) 0)).ev.op, (setsE (((k % 5) / 4 : Nat) : Int) ([-9223372036854775808, -1, 0, 1, 5, 9223372036854775807].getD ((k * 7) % 6) 0)).ev.arg, (setsE (((k % 5) / 4 : Nat) : Int) ([-9223372036854775808, -1, 0, 1, 5, 9223372036854775807].getD ((k * 7) % 6) 0)).ev.key⟩), decide (((k % 6 : Nat) : Int) = 5), (setsE (((k % 5) / 4 : Nat) : Int) ([-9223372036854775808, -1, 0, 1, 5, 9223372036854775807].getD ((k * 7) % 6) 0)).byO, (setsE (((k % 5) / 4 : Nat) : Int) ([-9223372036854775808, -1, 0, 1, 5, 9223372036854775807].getD ((k * 7) % 6) 0)).byS⟩ : Ent)]).length * 120 ≤ 140737488355328 := hr655.2
    refine st (ov_assign (v := v650) rfl ?_)
    refine st_nil ?_
    refine WP_region0 (by kernel_rfl) (fun _ => ?_)
    refine st (ov_move (v := .int .i64 ((k : Nat) : Int)) rfl ?_)
    have hr656 : InR ((k + 1 : Nat) : Int) := by first | omega | (simp only [List.length_append, List.length_cons, List.length_nil, List.length_take, List.length_drop, List.length_set, List.length_replicate]; omega)
    refine st (ov_add (r := ((k + 1 : Nat) : Int)) (k := .i64) (a := ((k : Nat) : Int)) (b := 1) rfl rfl (by rw [show (((k : Nat) : Int) + 1 : Int) = ((k + 1 : Nat) : Int) by first | omega | (simp only [List.length_append, List.length_cons, List.length_nil, List.length_take, List.length_drop, List.length_set, List.length_replicate]; omega)]; exact wrap_in hr656) ?_)
    refine st (ov_assign (v := .int .i64 ((k + 1 : Nat) : Int)) rfl ?_)
    refine st_nil ?_
    have hS657 : Sep G W ((RowE (α := Ent) own 38 v650 (le ++ [(⟨(⟨(setsE (((k % 5) / 4 : Nat) : Int) ([-9223372036854775808, -1, 0, 1, 5, 9223372036854775807].getD ((k * 7) % 6) 0)).ev.origin, (setsE (((k % 5) / 4 : Nat) : Int) ([-9223372036854775808, -1, 0, 1, 5, 9223372036854775807].getD ((k * 7) % 6) 0)).ev.seq, (setsE (((k % 5) / 4 : Nat) : Int) ([-9223372036854775808, -1, 0, 1, 5, 9223372036854775807].getD ((k * 7) % 6) 0)).ev.lam, [], (((k % 7) / 6 : Nat) : Int), ((k % 3 : Nat) : Int), (setsE (((k % 5) / 4 : Nat) : Int) ([-9223372036854775808, -1, 0, 1, 5, 9223372036854775807].getD ((k * 7) % 6) 0)).ev.field, (setsE (((k % 5) / 4 : Nat) : Int) ([-9223372036854775808, -1, 0, 1, 5, 9223372036854775807].getD ((k * 7) % 6) 0)).ev.op, (setsE (((k % 5) / 4 : Nat) : Int) ([-9223372036854775808, -1, 0, 1, 5, 9223372036854775807].getD ((k * 7) % 6) 0)).ev.arg, (setsE (((k % 5) / 4 : Nat) : Int) ([-9223372036854775808, -1, 0, 1, 5, 9223372036854775807].getD ((k * 7) % 6) 0)).ev.key⟩), decide (((k % 6 : Nat) : Int) = 5), (setsE (((k % 5) / 4 : Nat) : Int) ([-9223372036854775808, -1, 0, 1, 5, 9223372036854775807].getD ((k * 7) % 6) 0)).byO, (setsE (((k % 5) / 4 : Nat) : Int) ([-9223372036854775808, -1, 0, 1, 5, 9223372036854775807].getD ((k * 7) % 6) 0)).byS⟩ : Ent)])) :: (RowE (α := Int) own 3 (.slice (some ⟨b2, 0, none⟩) 6 6) [-9223372036854775808, -1, 0, 1, 5, 9223372036854775807]) :: Rs) w649 := hS651.sel 3 [0, 2] (Nat.le_add_left _ _) rfl rfl
    exact ⟨_, by omega, k + 1, v650, le ++ [(⟨(⟨(setsE (((k % 5) / 4 : Nat) : Int) ([-9223372036854775808, -1, 0, 1, 5, 9223372036854775807].getD ((k * 7) % 6) 0)).ev.origin, (setsE (((k % 5) / 4 : Nat) : Int) ([-9223372036854775808, -1, 0, 1, 5, 9223372036854775807].getD ((k * 7) % 6) 0)).ev.seq, (setsE (((k % 5) / 4 : Nat) : Int) ([-9223372036854775808, -1, 0, 1, 5, 9223372036854775807].getD ((k * 7) % 6) 0)).ev.lam, [], (((k % 7) / 6 : Nat) : Int), ((k % 3 : Nat) : Int), (setsE (((k % 5) / 4 : Nat) : Int) ([-9223372036854775808, -1, 0, 1, 5, 9223372036854775807].getD ((k * 7) % 6) 0)).ev.field, (setsE (((k % 5) / 4 : Nat) : Int) ([-9223372036854775808, -1, 0, 1, 5, 9223372036854775807].getD ((k * 7) % 6) 0)).ev.op, (setsE (((k % 5) / 4 : Nat) : Int) ([-9223372036854775808, -1, 0, 1, 5, 9223372036854775807].getD ((k * 7) % 6) 0)).ev.arg, (setsE (((k % 5) / 4 : Nat) : Int) ([-9223372036854775808, -1, 0, 1, 5, 9223372036854775807].getD ((k * 7) % 6) 0)).ev.key⟩), decide (((k % 6 : Nat) : Int) = 5), (setsE (((k % 5) / 4 : Nat) : Int) ([-9223372036854775808, -1, 0, 1, 5, 9223372036854775807].getD ((k * 7) % 6) 0)).byO, (setsE (((k % 5) / 4 : Nat) : Int) ([-9223372036854775808, -1, 0, 1, 5, 9223372036854775807].getD ((k * 7) % 6) 0)).byS⟩ : Ent)], _, rfl, setAll_self ⟨rfl, rfl, rfl, trivial⟩, by omega, (by simp only [List.length_append, List.length_cons, List.length_nil]; omega), hS657⟩

theorem C_ProjKnown {w : World} : Ret Try.prog 8 [] w (fun r w' => r = .bool true ∧ Ext w w') := Ret.mono (D_ProjKnown (Sep.start w)) (fun r w' h => ⟨h.1, h.2.fin⟩)
end Go.Proofs.Ytbbpmhfcgoljdaa
