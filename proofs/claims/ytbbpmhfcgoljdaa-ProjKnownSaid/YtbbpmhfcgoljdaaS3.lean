/- Steps of the proofs of this seat: part S3. -/
import Derived.Test.YtbbpmhfcgoljdaaS2
set_option linter.unusedSimpArgs false
set_option linter.unusedVariables false
namespace Go.Proofs.Ytbbpmhfcgoljdaa
open Go.Proofs Go.RowKit

theorem D_ProjRows {G : Nat → Prop} {W w : World} {Rs : List HP} {p : Prj} (op : p.Ok) {vl : Value} {l : List Ent} (hl : RdS W G vl l) {vg : Value} {g : List Int} (hg : RdS W G vg g) {c : Int} (hc : InR c) (hS0 : Sep G W Rs w) : Ret Try.prog 7 [.agg (p.cells).toArray, vl, vg, .int .i64 (c)] w (fun r w' => r = (.bool true : Value) ∧ Sep G W Rs w') := by
  have hls : l.length * 120 ≤ 140737488355328 := hl.small
  have hgs : g.length * 8 ≤ 140737488355328 := hg.small
  refine Calls_of_WP (args := [.agg (p.cells).toArray, vl, vg, .int .i64 (c)]) Try.func7 rfl rfl ?_
  refine WP_seq ?_
  refine WP_region0 (by kernel_rfl) (fun _ => ?_)
  refine st (ov_box (v := .agg (p.cells).toArray) rfl ?_)
  intro w3 b2 hn1
  have hS4 : Sep G W ((Blk b2 (p.cells).toArray 23) :: Rs) w3 := hS0.new hn1
  refine st (ov_assign (v := .bool false) rfl ?_)
  refine st_nil ?_
  refine WP_seq ?_
  refine WP_seq ?_
  refine WP_region (by kernel_rfl) ?_
  refine st (ov_move (v := vl) rfl ?_)
  refine st (ov_call (f := 9) (vals := [vl]) (cap := []) (show _ = (.func (.func 9) #[] #[] : Value) from rfl) rfl Try.call9 (D_Long (l := l) (vl := vl) hl hS4) ?_)
  rintro _ w7 ⟨bb5, rfl, hlong6, hS8⟩
  refine st (ov_move (v := .bool bb5) rfl ?_)
  refine stc (V := vg) rfl rfl (fun hb9 => ?_) ?_
  · have hl10 : bb5 = false := hb9
    exact ov_move (v := vg) rfl ⟨rfl, rfl⟩
  refine stc (V := .int .i64 ((g.length : Nat) : Int)) rfl rfl (fun hb11 => ?_) ?_
  · have hl12 : bb5 = false := hb11
    exact ov_len (n := g.length) Try.underlying25 (show _ = (vg : Value) from (if_pos hb11)) hg.sl ⟨rfl, rfl⟩
  refine stc (V := .bool (decide (100 < ((g.length : Nat) : Int)))) rfl rfl (fun hb13 => ?_) ?_
  · have hl14 : bb5 = false := hb13
    exact ov_gtr (k := .i64) (a := ((g.length : Nat) : Int)) (b := 100) (show _ = (.int .i64 ((g.length : Nat) : Int) : Value) from (if_pos hb13)) rfl ⟨rfl, rfl⟩
  refine st (ov_pick_or (b := bb5) (b' := decide (100 < ((g.length : Nat) : Int))) rfl (fun hbp => (show _ = (.bool (decide (100 < ((g.length : Nat) : Int))) : Value) from (if_pos hbp))) ?_)
  refine st_nil ?_
  cases hc15 : bb5 || (decide (100 < ((g.length : Nat) : Int)))
  · skip
    simp only [Bool.and_eq_true, Bool.or_eq_true, Bool.and_eq_false_iff, Bool.or_eq_false_iff, decide_eq_true_eq, decide_eq_false_iff_not, Bool.not_eq_true', Bool.not_eq_false', Int.not_lt, Int.not_le] at hc15
    have hl300 := hlong6 hc15.1
    refine WP_cond_f rfl ?_
    refine WP_skip ?_
    refine WP_seq ?_
    refine WP_region0 (by kernel_rfl) (fun _ => ?_)
    refine st (ov_loadk (k := 5) Try.isAgg23 Try.sizeOf23 rfl rfl (CellsAt.all (hS8.blk (i := 0) rfl)) ?_)
    refine st (ov_call (f := 17) (vals := [.agg (p.cells).toArray]) (cap := []) (show _ = (.func (.func 17) #[] #[] : Value) from rfl) rfl Try.call17 (D_New (p := p) op hS8) ?_)
    rintro _ w17 ⟨a16, rfl, hS18⟩
    refine st (ov_assign (v := .pointer (some ⟨a16, 0, none⟩)) rfl ?_)
    refine st_nil ?_
    refine WP_seq ?_
    refine WP_region0 (by kernel_rfl) (fun _ => ?_)
    refine st (ov_loadk (k := 5) Try.isAgg23 Try.sizeOf23 rfl rfl (CellsAt.all (hS18.blk (i := 1) rfl)) ?_)
    refine st (ov_call (f := 18) (vals := [.agg (p.cells).toArray]) (cap := []) (show _ = (.func (.func 18) #[] #[] : Value) from rfl) rfl Try.call18 (D_refNew (p := p) op hS18) ?_)
    rintro _ w20 ⟨a19, rfl, hS21⟩
    refine st (ov_assign (v := .pointer (some ⟨a19, 0, none⟩)) rfl ?_)
    refine st_nil ?_
    refine WP_seq ?_
    refine WP_seq ?_
    refine WP_region0 (by kernel_rfl) (fun _ => ?_)
    refine st (ov_move (v := .pointer (some ⟨a16, 0, none⟩)) rfl ?_)
    refine st (ov_eqlPtr (b := a16) (o := 0) Try.underlying46 rfl ?_)
    refine st_nil ?_
    refine WP_cond_f rfl ?_
    refine WP_skip ?_
    refine WP_seq ?_
    refine WP_region0 (by kernel_rfl) (fun _ => ?_)
    refine st (ov_move (v := .int .i64 (c)) rfl ?_)
    refine st (ov_move (v := vl) rfl ?_)
    refine st (ov_len (n := l.length) Try.underlying24 rfl hl.sl ?_)
    have hr22 : InR ((l.length + 1 : Nat) : Int) := by first | omega | (simp only [List.length_append, List.length_cons, List.length_nil, List.length_take, List.length_drop, List.length_set, List.length_replicate]; omega)
    refine st (ov_add (r := ((l.length + 1 : Nat) : Int)) (k := .i64) (a := ((l.length : Nat) : Int)) (b := 1) rfl rfl (by rw [show (((l.length : Nat) : Int) + 1 : Int) = ((l.length + 1 : Nat) : Int) by first | omega | (simp only [List.length_append, List.length_cons, List.length_nil, List.length_take, List.length_drop, List.length_set, List.length_replicate]; omega)]; exact wrap_in hr22) ?_)
    refine st (ov_call (f := 14) (vals := [.int .i64 (c), .int .i64 ((l.length + 1 : Nat) : Int)]) (cap := []) (show _ = (.func (.func 14) #[] #[] : Value) from rfl) rfl Try.call14 (D_Pick (x := c) (n := l.length + 1) hc (by first | omega | (refine ⟨?_, ?_⟩ <;> omega)) hS21) ?_)
    rintro _ w25 ⟨q23, rfl, hq24, hS26⟩
    refine st (ov_assign (v := .int .i64 ((q23 : Nat) : Int)) rfl ?_)
    refine st_nil ?_
    refine WP_seq ?_
    refine WP_seq ?_
    refine WP_region0 (by kernel_rfl) (fun _ => ?_)
    refine st (ov_assign (v := .int .i64 (0)) rfl ?_)
    refine st_nil ?_
    refine WP_block ?_
    refine WP_loop (fun mq σ wq => ∃ (k : Nat) (ρ : Env), mq = q23 - k ∧ σ = setAll ρ [(1, vl), (2, vg), (3, .int .i64 ((q23 : Nat) : Int)), (9, .pointer (some ⟨a16, 0, none⟩)), (10, .pointer (some ⟨a19, 0, none⟩)), (11, .int .i64 ((k : Nat) : Int))] ∧ (k ≤ q23) ∧ Sep G W ((RefO a19 p (rowsK p l g k)) :: (ProjO a16 p (addsM p l g k)) :: (Blk b2 (p.cells).toArray 23) :: Rs) wq) ⟨0, _, rfl, setAll_self ⟨rfl, rfl, rfl, rfl, rfl, rfl, trivial⟩, Nat.zero_le _, hS26⟩ ?_
    rintro m28 σ29 w27 ⟨k, ρl1, rfl, rfl, hkk, hS30⟩
    refine WP_seq ?_
    refine WP_seq ?_
    refine WP_region0 (by kernel_rfl) (fun _ => ?_)
    refine st (ov_move (v := .int .i64 ((k : Nat) : Int)) rfl ?_)
    refine st (ov_move (v := .int .i64 ((q23 : Nat) : Int)) rfl ?_)
    refine st (ov_lss (k := .i64) (a := ((k : Nat) : Int)) (b := ((q23 : Nat) : Int)) rfl rfl ?_)
    refine st_nil ?_
    cases hc31 : decide (((k : Nat) : Int) < ((q23 : Nat) : Int))
    · skip
      have hc31 := of_decide_eq_false hc31
      refine WP_cond_f rfl ?_
      refine WP_exit ?_
      refine blk_exit ?_
      refine WP_seq ?_
      refine WP_region0 (by kernel_rfl) (fun _ => ?_)
      refine st (ov_move (v := .pointer (some ⟨a16, 0, none⟩)) rfl ?_)
      have hS32 : Sep G W ((ProjO a16 p (addsM p l g k)) :: (RefO a19 p (rowsK p l g k)) :: (Blk b2 (p.cells).toArray 23) :: Rs) w27 := hS30.sel 3 [1, 0, 2] (Nat.le_add_left _ _) rfl rfl
      refine st (ov_call (f := 21) (vals := [.pointer (some ⟨a16, 0, none⟩)]) (cap := []) (show _ = (.func (.func 21) #[] #[] : Value) from rfl) rfl Try.call21 (D_Copy  hS32) ?_)
      rintro _ w34 ⟨a233, rfl, hS35⟩
      refine st (ov_assign (v := .pointer (some ⟨a233, 0, none⟩)) rfl ?_)
      refine st_nil ?_
      refine WP_seq ?_
      refine WP_region0 (by kernel_rfl) (fun _ => ?_)
      refine st (ov_move (v := .pointer (some ⟨a19, 0, none⟩)) rfl ?_)
      have hS36 : Sep G W ((RefO a19 p (rowsK p l g k)) :: (ProjO a16 p (addsM p l g k)) :: (ProjO a233 p (addsM p l g k)) :: (Blk b2 (p.cells).toArray 23) :: Rs) w34 := hS35.sel 4 [2, 0, 1, 3] (Nat.le_add_left _ _) rfl rfl
      refine st (ov_call (f := 22) (vals := [.pointer (some ⟨a19, 0, none⟩)]) (cap := []) (show _ = (.func (.func 22) #[] #[] : Value) from rfl) rfl Try.call22 (D_refCopy  hS36) ?_)
      rintro _ w38 ⟨a237, rfl, hS39⟩
      refine st (ov_assign (v := .pointer (some ⟨a237, 0, none⟩)) rfl ?_)
      refine st_nil ?_
      refine WP_seq ?_
      refine WP_seq ?_
      refine WP_region0 (by kernel_rfl) (fun _ => ?_)
      refine st (ov_move (v := .pointer (some ⟨a233, 0, none⟩)) rfl ?_)
      refine st (ov_eqlPtr (b := a233) (o := 0) Try.underlying46 rfl ?_)
      refine st_nil ?_
      refine WP_cond_f rfl ?_
      refine WP_skip ?_
      refine WP_seq ?_
      refine WP_seq ?_
      refine WP_region0 (by kernel_rfl) (fun _ => ?_)
      refine st (ov_move (v := .int .i64 ((q23 : Nat) : Int)) rfl ?_)
      refine st (ov_assign (v := .int .i64 ((q23 : Nat) : Int)) rfl ?_)
      refine st_nil ?_
      refine WP_block ?_
      refine WP_loop (fun mq σ wq => ∃ (k2 : Nat) (ρ : Env), mq = l.length - k2 ∧ σ = setAll ρ [(1, vl), (2, vg), (9, .pointer (some ⟨a16, 0, none⟩)), (10, .pointer (some ⟨a19, 0, none⟩)), (12, .pointer (some ⟨a233, 0, none⟩)), (13, .pointer (some ⟨a237, 0, none⟩)), (14, .int .i64 ((k2 : Nat) : Int))] ∧ (k2 ≤ l.length) ∧ Sep G W ((RefO a19 p (rowsK p l g k2)) :: (RefO a237 p (rowsK p l g k)) :: (ProjO a16 p (addsM p l g k2)) :: (ProjO a233 p (addsM p l g k)) :: (Blk b2 (p.cells).toArray 23) :: Rs) wq) ⟨q23, _, rfl, setAll_self ⟨rfl, rfl, rfl, rfl, rfl, rfl, rfl, trivial⟩, (by omega), (by rw [show q23 = k by omega]; exact hS39)⟩ ?_
      rintro m41 σ42 w40 ⟨k2, ρl2, rfl, rfl, hkk2, hS43⟩
      refine WP_seq ?_
      refine WP_seq ?_
      refine WP_region0 (by kernel_rfl) (fun _ => ?_)
      refine st (ov_move (v := .int .i64 ((k2 : Nat) : Int)) rfl ?_)
      refine st (ov_move (v := vl) rfl ?_)
      refine st (ov_len (n := l.length) Try.underlying24 rfl hl.sl ?_)
      refine st (ov_lss (k := .i64) (a := ((k2 : Nat) : Int)) (b := ((l.length : Nat) : Int)) rfl rfl ?_)
      refine st_nil ?_
      cases hc44 : decide (((k2 : Nat) : Int) < ((l.length : Nat) : Int))
      · skip
        have hc44 := of_decide_eq_false hc44
        refine WP_cond_f rfl ?_
        refine WP_exit ?_
        refine blk_exit ?_
        refine WP_seq ?_
        refine WP_region0 (by kernel_rfl) (fun _ => ?_)
        refine st (ov_move (v := .pointer (some ⟨a16, 0, none⟩)) rfl ?_)
        have hS45 : Sep G W ((ProjO a16 p (addsM p l g k2)) :: (RefO a19 p (rowsK p l g k2)) :: (RefO a237 p (rowsK p l g k)) :: (ProjO a233 p (addsM p l g k)) :: (Blk b2 (p.cells).toArray 23) :: Rs) w40 := hS43.sel 5 [2, 0, 1, 3, 4] (Nat.le_add_left _ _) rfl rfl
        refine st (ov_call (f := 23) (vals := [.pointer (some ⟨a16, 0, none⟩)]) (cap := []) (show _ = (.func (.func 23) #[] #[] : Value) from rfl) rfl Try.call23 (D_List  hS45 ((adds_good p l g k2).grp) (by have := (adds_good p l g k2).len; omega)) ?_)
        rintro v46 w47 ⟨_, rfl, hS48⟩
        have hr49 := hS48.row (i := 1) rfl
        have hr49s : (srtR ((addsM p l g k2).map (·.2))).length * 24 ≤ 140737488355328 := hr49.2
        refine st (ov_assign (v := v46) rfl ?_)
        refine st_nil ?_
        refine WP_seq ?_
        refine WP_seq ?_
        refine WP_region (by kernel_rfl) ?_
        refine st (ov_move (v := v46) rfl ?_)
        refine st (ov_move (v := .pointer (some ⟨a19, 0, none⟩)) rfl ?_)
        have hS50 : Sep G W ((RefO a19 p (rowsK p l g k2)) :: (ProjO a16 p (addsM p l g k2)) :: (RowE (α := Row) own 31 v46 (srtR ((addsM p l g k2).map (·.2)))) :: (RefO a237 p (rowsK p l g k)) :: (ProjO a233 p (addsM p l g k)) :: (Blk b2 (p.cells).toArray 23) :: Rs) w47 := hS48.sel 6 [2, 0, 1, 3, 4, 5] (Nat.le_add_left _ _) rfl rfl
        refine st (ov_call (f := 24) (vals := [.pointer (some ⟨a19, 0, none⟩)]) (cap := []) (show _ = (.func (.func 24) #[] #[] : Value) from rfl) rfl Try.call24 (D_refList  hS50) ?_)
        rintro v51 w52 ⟨_, rfl, hS53⟩
        have hr54 := hS53.row (i := 1) rfl
        have hr54s : (rowsK p l g k2).length * 24 ≤ 140737488355328 := hr54.2
        have hS55 : Sep G W ((RowE (α := Row) own 31 v46 (srtR ((addsM p l g k2).map (·.2)))) :: (RefO a19 p (rowsK p l g k2)) :: (RowE (α := Row) own 31 v51 (rowsK p l g k2)) :: (ProjO a16 p (addsM p l g k2)) :: (RefO a237 p (rowsK p l g k)) :: (ProjO a233 p (addsM p l g k)) :: (Blk b2 (p.cells).toArray 23) :: Rs) w52 := hS53.sel 7 [3, 0, 1, 2, 4, 5, 6] (Nat.le_add_left _ _) rfl rfl
        obtain ⟨G56, hA58, hB59, hS60, hk61⟩ := hS55.lend
        have hrd62 := RowE.rd hA58
        have hrd62s : (srtR ((addsM p l g k2).map (·.2))).length * 24 ≤ 140737488355328 := hrd62.small
        have hS63 : Sep G56 w52 ((RowE (α := Row) own 31 v51 (rowsK p l g k2)) :: (RefO a19 p (rowsK p l g k2)) :: (ProjO a16 p (addsM p l g k2)) :: (RefO a237 p (rowsK p l g k)) :: (ProjO a233 p (addsM p l g k)) :: (Blk b2 (p.cells).toArray 23) :: Rs) w52 := hS60.sel 6 [1, 0, 2, 3, 4, 5] (Nat.le_add_left _ _) rfl rfl
        obtain ⟨G64, hA66, hB67, hS68, hk69⟩ := hS63.lend
        have hrd70 := RowE.rd hA66
        have hrd70s : (rowsK p l g k2).length * 24 ≤ 140737488355328 := hrd70.small
        refine st (ov_call (f := 15) (vals := [v46, v51]) (cap := []) (show _ = (.func (.func 15) #[] #[] : Value) from rfl) rfl Try.call15 (D_SameRows (x := (srtR ((addsM p l g k2).map (·.2)))) (vx := v46) (y := (rowsK p l g k2)) (vy := v51) (RdS.base hrd62 hB67) hrd70 hS68) ?_)
        rintro _ w71 ⟨rfl, hS72⟩
        have hS73 : Sep G56 w52 ((RowE (α := Row) own 31 v51 (rowsK p l g k2)) :: (RefO a19 p (rowsK p l g k2)) :: (ProjO a16 p (addsM p l g k2)) :: (RefO a237 p (rowsK p l g k)) :: (ProjO a233 p (addsM p l g k)) :: (Blk b2 (p.cells).toArray 23) :: Rs) w71 := hk69 _ _ hS72
        have hS74 : Sep G W ((RowE (α := Row) own 31 v46 (srtR ((addsM p l g k2).map (·.2)))) :: (RowE (α := Row) own 31 v51 (rowsK p l g k2)) :: (RefO a19 p (rowsK p l g k2)) :: (ProjO a16 p (addsM p l g k2)) :: (RefO a237 p (rowsK p l g k)) :: (ProjO a233 p (addsM p l g k)) :: (Blk b2 (p.cells).toArray 23) :: Rs) w71 := hk61 _ _ hS73
        have hkn75 : (decide ((srtR ((addsM p l g k2).map (·.2))) = (rowsK p l g k2))) = true := decide_eq_true rfl
        rw [hkn75]
        refine st (ov_not (a := true) rfl ?_)
        refine st (ov_move (v := .bool false) rfl ?_)
        refine sty rfl rfl (ov_move (v := .pointer (some ⟨a233, 0, none⟩)) rfl ?_)
        have hS76 : Sep G W ((ProjO a233 p (addsM p l g k)) :: (RowE (α := Row) own 31 v46 (srtR ((addsM p l g k2).map (·.2)))) :: (RowE (α := Row) own 31 v51 (rowsK p l g k2)) :: (RefO a19 p (rowsK p l g k2)) :: (ProjO a16 p (addsM p l g k2)) :: (RefO a237 p (rowsK p l g k)) :: (Blk b2 (p.cells).toArray 23) :: Rs) w71 := hS74.sel 7 [5, 0, 1, 2, 3, 4, 6] (Nat.le_add_left _ _) rfl rfl
        refine sty rfl rfl (ov_call (f := 23) (vals := [.pointer (some ⟨a233, 0, none⟩)]) (cap := []) (show _ = (.func (.func 23) #[] #[] : Value) from rfl) rfl Try.call23 (D_List  hS76 ((adds_good p l g k).grp) (by have := (adds_good p l g k).len; omega)) ?_)
        rintro v77 w78 ⟨_, rfl, hS79⟩
        have hr80 := hS79.row (i := 1) rfl
        have hr80s : (srtR ((addsM p l g k).map (·.2))).length * 24 ≤ 140737488355328 := hr80.2
        refine sty rfl rfl (ov_move (v := .pointer (some ⟨a237, 0, none⟩)) rfl ?_)
        have hS81 : Sep G W ((RefO a237 p (rowsK p l g k)) :: (ProjO a233 p (addsM p l g k)) :: (RowE (α := Row) own 31 v77 (srtR ((addsM p l g k).map (·.2)))) :: (RowE (α := Row) own 31 v46 (srtR ((addsM p l g k2).map (·.2)))) :: (RowE (α := Row) own 31 v51 (rowsK p l g k2)) :: (RefO a19 p (rowsK p l g k2)) :: (ProjO a16 p (addsM p l g k2)) :: (Blk b2 (p.cells).toArray 23) :: Rs) w78 := hS79.sel 8 [6, 0, 1, 2, 3, 4, 5, 7] (Nat.le_add_left _ _) rfl rfl
        refine sty rfl rfl (ov_call (f := 24) (vals := [.pointer (some ⟨a237, 0, none⟩)]) (cap := []) (show _ = (.func (.func 24) #[] #[] : Value) from rfl) rfl Try.call24 (D_refList  hS81) ?_)
        rintro v82 w83 ⟨_, rfl, hS84⟩
        have hr85 := hS84.row (i := 1) rfl
        have hr85s : (rowsK p l g k).length * 24 ≤ 140737488355328 := hr85.2
        have hS86 : Sep G W ((RowE (α := Row) own 31 v77 (srtR ((addsM p l g k).map (·.2)))) :: (RefO a237 p (rowsK p l g k)) :: (RowE (α := Row) own 31 v82 (rowsK p l g k)) :: (ProjO a233 p (addsM p l g k)) :: (RowE (α := Row) own 31 v46 (srtR ((addsM p l g k2).map (·.2)))) :: (RowE (α := Row) own 31 v51 (rowsK p l g k2)) :: (RefO a19 p (rowsK p l g k2)) :: (ProjO a16 p (addsM p l g k2)) :: (Blk b2 (p.cells).toArray 23) :: Rs) w83 := hS84.sel 9 [3, 0, 1, 2, 4, 5, 6, 7, 8] (Nat.le_add_left _ _) rfl rfl
        obtain ⟨G87, hA89, hB90, hS91, hk92⟩ := hS86.lend
        have hrd93 := RowE.rd hA89
        have hrd93s : (srtR ((addsM p l g k).map (·.2))).length * 24 ≤ 140737488355328 := hrd93.small
        have hS94 : Sep G87 w83 ((RowE (α := Row) own 31 v82 (rowsK p l g k)) :: (RefO a237 p (rowsK p l g k)) :: (ProjO a233 p (addsM p l g k)) :: (RowE (α := Row) own 31 v46 (srtR ((addsM p l g k2).map (·.2)))) :: (RowE (α := Row) own 31 v51 (rowsK p l g k2)) :: (RefO a19 p (rowsK p l g k2)) :: (ProjO a16 p (addsM p l g k2)) :: (Blk b2 (p.cells).toArray 23) :: Rs) w83 := hS91.sel 8 [1, 0, 2, 3, 4, 5, 6, 7] (Nat.le_add_left _ _) rfl rfl
        obtain ⟨G95, hA97, hB98, hS99, hk100⟩ := hS94.lend
        have hrd101 := RowE.rd hA97
        have hrd101s : (rowsK p l g k).length * 24 ≤ 140737488355328 := hrd101.small
        refine sty rfl rfl (ov_call (f := 15) (vals := [v77, v82]) (cap := []) (show _ = (.func (.func 15) #[] #[] : Value) from rfl) rfl Try.call15 (D_SameRows (x := (srtR ((addsM p l g k).map (·.2)))) (vx := v77) (y := (rowsK p l g k)) (vy := v82) (RdS.base hrd93 hB98) hrd101 hS99) ?_)
        rintro _ w102 ⟨rfl, hS103⟩
        have hS104 : Sep G87 w83 ((RowE (α := Row) own 31 v82 (rowsK p l g k)) :: (RefO a237 p (rowsK p l g k)) :: (ProjO a233 p (addsM p l g k)) :: (RowE (α := Row) own 31 v46 (srtR ((addsM p l g k2).map (·.2)))) :: (RowE (α := Row) own 31 v51 (rowsK p l g k2)) :: (RefO a19 p (rowsK p l g k2)) :: (ProjO a16 p (addsM p l g k2)) :: (Blk b2 (p.cells).toArray 23) :: Rs) w102 := hk100 _ _ hS103
        have hS105 : Sep G W ((RowE (α := Row) own 31 v77 (srtR ((addsM p l g k).map (·.2)))) :: (RowE (α := Row) own 31 v82 (rowsK p l g k)) :: (RefO a237 p (rowsK p l g k)) :: (ProjO a233 p (addsM p l g k)) :: (RowE (α := Row) own 31 v46 (srtR ((addsM p l g k2).map (·.2)))) :: (RowE (α := Row) own 31 v51 (rowsK p l g k2)) :: (RefO a19 p (rowsK p l g k2)) :: (ProjO a16 p (addsM p l g k2)) :: (Blk b2 (p.cells).toArray 23) :: Rs) w102 := hk92 _ _ hS104
        have hkn106 : (decide ((srtR ((addsM p l g k).map (·.2))) = (rowsK p l g k))) = true := decide_eq_true rfl
        rw [hkn106]
        refine sty rfl rfl (ov_not (a := true) rfl ?_)
        refine st (ov_pick_f (v := .bool false) rfl rfl ?_)
        refine st_nil ?_
        refine WP_cond_f rfl ?_
        refine WP_skip ?_
        refine WP_seq ?_
        refine WP_region0 (by kernel_rfl) (fun _ => ?_)
        refine st (ov_move (v := v46) rfl ?_)
        have hS107 : Sep G W ((RowE (α := Row) own 31 v46 (srtR ((addsM p l g k2).map (·.2)))) :: (RowE (α := Row) own 31 v77 (srtR ((addsM p l g k).map (·.2)))) :: (RowE (α := Row) own 31 v82 (rowsK p l g k)) :: (RefO a237 p (rowsK p l g k)) :: (ProjO a233 p (addsM p l g k)) :: (RowE (α := Row) own 31 v51 (rowsK p l g k2)) :: (RefO a19 p (rowsK p l g k2)) :: (ProjO a16 p (addsM p l g k2)) :: (Blk b2 (p.cells).toArray 23) :: Rs) w102 := hS105.sel 9 [4, 0, 1, 2, 3, 5, 6, 7, 8] (Nat.le_add_left _ _) rfl rfl
        refine st (ov_call (f := 25) (vals := [v46]) (cap := []) (show _ = (.func (.func 25) #[] #[] : Value) from rfl) rfl Try.call25 (D_spoil  hS107 (Nat.le_trans (rowsK_len p l g k2) (by omega))) ?_)
        rintro _ w108 ⟨rfl, hS109⟩
        refine st_nil ?_
        refine WP_seq ?_
        refine WP_region (by kernel_rfl) ?_
        refine st (ov_move (v := .pointer (some ⟨a16, 0, none⟩)) rfl ?_)
        have hS110 : Sep G W ((ProjO a16 p (addsM p l g k2)) :: (RowE (α := Row) own 31 v77 (srtR ((addsM p l g k).map (·.2)))) :: (RowE (α := Row) own 31 v82 (rowsK p l g k)) :: (RefO a237 p (rowsK p l g k)) :: (ProjO a233 p (addsM p l g k)) :: (RowE (α := Row) own 31 v51 (rowsK p l g k2)) :: (RefO a19 p (rowsK p l g k2)) :: (Blk b2 (p.cells).toArray 23) :: Rs) w108 := hS109.sel 8 [6, 0, 1, 2, 3, 4, 5, 7] (Nat.le_add_left _ _) rfl rfl
        refine st (ov_call (f := 23) (vals := [.pointer (some ⟨a16, 0, none⟩)]) (cap := []) (show _ = (.func (.func 23) #[] #[] : Value) from rfl) rfl Try.call23 (D_List  hS110 ((adds_good p l g k2).grp) (by have := (adds_good p l g k2).len; omega)) ?_)
        rintro v111 w112 ⟨_, rfl, hS113⟩
        have hr114 := hS113.row (i := 1) rfl
        have hr114s : (srtR ((addsM p l g k2).map (·.2))).length * 24 ≤ 140737488355328 := hr114.2
        refine st (ov_move (v := .pointer (some ⟨a19, 0, none⟩)) rfl ?_)
        have hS115 : Sep G W ((RefO a19 p (rowsK p l g k2)) :: (ProjO a16 p (addsM p l g k2)) :: (RowE (α := Row) own 31 v111 (srtR ((addsM p l g k2).map (·.2)))) :: (RowE (α := Row) own 31 v77 (srtR ((addsM p l g k).map (·.2)))) :: (RowE (α := Row) own 31 v82 (rowsK p l g k)) :: (RefO a237 p (rowsK p l g k)) :: (ProjO a233 p (addsM p l g k)) :: (RowE (α := Row) own 31 v51 (rowsK p l g k2)) :: (Blk b2 (p.cells).toArray 23) :: Rs) w112 := hS113.sel 9 [7, 0, 1, 2, 3, 4, 5, 6, 8] (Nat.le_add_left _ _) rfl rfl
        refine st (ov_call (f := 24) (vals := [.pointer (some ⟨a19, 0, none⟩)]) (cap := []) (show _ = (.func (.func 24) #[] #[] : Value) from rfl) rfl Try.call24 (D_refList  hS115) ?_)
        rintro v116 w117 ⟨_, rfl, hS118⟩
        have hr119 := hS118.row (i := 1) rfl
        have hr119s : (rowsK p l g k2).length * 24 ≤ 140737488355328 := hr119.2
        have hS120 : Sep G W ((RowE (α := Row) own 31 v111 (srtR ((addsM p l g k2).map (·.2)))) :: (RefO a19 p (rowsK p l g k2)) :: (RowE (α := Row) own 31 v116 (rowsK p l g k2)) :: (ProjO a16 p (addsM p l g k2)) :: (RowE (α := Row) own 31 v77 (srtR ((addsM p l g k).map (·.2)))) :: (RowE (α := Row) own 31 v82 (rowsK p l g k)) :: (RefO a237 p (rowsK p l g k)) :: (ProjO a233 p (addsM p l g k)) :: (RowE (α := Row) own 31 v51 (rowsK p l g k2)) :: (Blk b2 (p.cells).toArray 23) :: Rs) w117 := hS118.sel 10 [3, 0, 1, 2, 4, 5, 6, 7, 8, 9] (Nat.le_add_left _ _) rfl rfl
        obtain ⟨G121, hA123, hB124, hS125, hk126⟩ := hS120.lend
        have hrd127 := RowE.rd hA123
        have hrd127s : (srtR ((addsM p l g k2).map (·.2))).length * 24 ≤ 140737488355328 := hrd127.small
        have hS128 : Sep G121 w117 ((RowE (α := Row) own 31 v116 (rowsK p l g k2)) :: (RefO a19 p (rowsK p l g k2)) :: (ProjO a16 p (addsM p l g k2)) :: (RowE (α := Row) own 31 v77 (srtR ((addsM p l g k).map (·.2)))) :: (RowE (α := Row) own 31 v82 (rowsK p l g k)) :: (RefO a237 p (rowsK p l g k)) :: (ProjO a233 p (addsM p l g k)) :: (RowE (α := Row) own 31 v51 (rowsK p l g k2)) :: (Blk b2 (p.cells).toArray 23) :: Rs) w117 := hS125.sel 9 [1, 0, 2, 3, 4, 5, 6, 7, 8] (Nat.le_add_left _ _) rfl rfl
        obtain ⟨G129, hA131, hB132, hS133, hk134⟩ := hS128.lend
        have hrd135 := RowE.rd hA131
        have hrd135s : (rowsK p l g k2).length * 24 ≤ 140737488355328 := hrd135.small
        refine st (ov_call (f := 15) (vals := [v111, v116]) (cap := []) (show _ = (.func (.func 15) #[] #[] : Value) from rfl) rfl Try.call15 (D_SameRows (x := (srtR ((addsM p l g k2).map (·.2)))) (vx := v111) (y := (rowsK p l g k2)) (vy := v116) (RdS.base hrd127 hB132) hrd135 hS133) ?_)
        rintro _ w136 ⟨rfl, hS137⟩
        have hS138 : Sep G121 w117 ((RowE (α := Row) own 31 v116 (rowsK p l g k2)) :: (RefO a19 p (rowsK p l g k2)) :: (ProjO a16 p (addsM p l g k2)) :: (RowE (α := Row) own 31 v77 (srtR ((addsM p l g k).map (·.2)))) :: (RowE (α := Row) own 31 v82 (rowsK p l g k)) :: (RefO a237 p (rowsK p l g k)) :: (ProjO a233 p (addsM p l g k)) :: (RowE (α := Row) own 31 v51 (rowsK p l g k2)) :: (Blk b2 (p.cells).toArray 23) :: Rs) w136 := hk134 _ _ hS137
        have hS139 : Sep G W ((RowE (α := Row) own 31 v111 (srtR ((addsM p l g k2).map (·.2)))) :: (RowE (α := Row) own 31 v116 (rowsK p l g k2)) :: (RefO a19 p (rowsK p l g k2)) :: (ProjO a16 p (addsM p l g k2)) :: (RowE (α := Row) own 31 v77 (srtR ((addsM p l g k).map (·.2)))) :: (RowE (α := Row) own 31 v82 (rowsK p l g k)) :: (RefO a237 p (rowsK p l g k)) :: (ProjO a233 p (addsM p l g k)) :: (RowE (α := Row) own 31 v51 (rowsK p l g k2)) :: (Blk b2 (p.cells).toArray 23) :: Rs) w136 := hk126 _ _ hS138
        have hkn140 : (decide ((srtR ((addsM p l g k2).map (·.2))) = (rowsK p l g k2))) = true := decide_eq_true rfl
        rw [hkn140]
        refine st (ov_move (v := .bool true) rfl ?_)
        refine sty rfl rfl (ov_call (f := 10) (vals := []) (cap := []) (show _ = (.func (.func 10) #[] #[] : Value) from rfl) rfl Try.call10 (D_works  hS139) ?_)
        rintro _ w141 ⟨rfl, hS142⟩
        refine st (ov_pick_t (v := .bool true) rfl rfl ?_)
        refine st (ov_assign (v := .bool true) rfl ?_)
        refine st_nil ?_
        refine WP_ret ?_
        refine fin1 Try.results7 (show _ = (.bool true : Value) from rfl) ?_
        have hS143 : Sep G W Rs w141 := hS142.sel 10 [] (Nat.le_add_left _ _) rfl rfl
        refine ⟨rfl, hS143⟩
      · skip
        have hc44 := of_decide_eq_true hc44
        refine WP_cond_t rfl ?_
        refine WP_skip ?_
        refine WP_seq ?_
        refine WP_block ?_
        refine WP_seq ?_
        refine WP_draw4 (WF [fun vals wq => Sep G W ((RefO a19 p (rowsK p l g k2)) :: (RefO a237 p (rowsK p l g k)) :: (ProjO a16 p (addsM p l g k2)) :: (ProjO a233 p (addsM p l g k)) :: (Blk b2 (p.cells).toArray 23) :: Rs) wq, fun vals wq => (vals 7 = (.int .i64 (regI g k2) : Value)) ∧ Sep G W ((RefO a19 p (rowsK p l g k2)) :: (RefO a237 p (rowsK p l g k)) :: (ProjO a16 p (addsM p l g k2)) :: (ProjO a233 p (addsM p l g k)) :: (Blk b2 (p.cells).toArray 23) :: Rs) wq, fun vals wq => (vals 7 = (.int .i64 (regI g k2) : Value)) ∧ (vals 8 = (.tuple #[] : Value)) ∧ Sep G W ((ProjO a16 p (addM p (addsM p l g k2) (l.getD k2 default) (regI g k2))) :: (RefO a19 p (rowsK p l g k2)) :: (RefO a237 p (rowsK p l g k)) :: (ProjO a233 p (addsM p l g k)) :: (Blk b2 (p.cells).toArray 23) :: Rs) wq]) (AF [fun vals => vals 0 = (.pointer (some ⟨a16, 0, none⟩) : Value), fun vals => vals 1 = (vl : Value), fun vals => vals 2 = (.int .i64 ((k2 : Nat) : Int) : Value), fun vals => vals 3 = (.pointer (some ⟨sb vl, so vl + k2 * 13, none⟩) : Value), fun vals => vals 4 = (.agg ((l.getD k2 default).cells (cellV W (sb vl) (so vl + k2 * 13 + 3))).toArray : Value), fun vals => vals 5 = (vg : Value), fun vals => vals 6 = (.int .i64 ((k2 : Nat) : Int) : Value), fun _ => True, fun _ => True]) [[], [], [], [1, 2], [1, 2, 3], [], [], [5, 6], [0, 1, 2, 3, 4, 5, 6, 7]] [7, 8] [(0, 1), (0, 1), (0, 1), (0, 1), (0, 1), (0, 0), (0, 0), (0, 0), (1, 1)] (by kernel_rfl) (by kernel_rfl) (by kernel_rfl) rfl (by kernel_rfl) (by kernel_rfl) (fun _ h1 h2 h3 h4 _ => hS43.same h1 h2 h3 h4) ?_ ?_ ⟨?_, ?_, ?_, ?_, ?_, ?_, ?_, ?_, ?_, trivial⟩ ?_
        · intro k vals vals' w hv h
          have e : ∀ j ∈ ([7, 8] : List Nat), vals' j = vals j := hv
          match k, h with
          | 0, h => exact h
          | 1, h => exact (by simpa only [WF, List.getElem?_cons_zero, List.getElem?_cons_succ, e 7 (by decide)] using h)
          | 2, h => exact (by simpa only [WF, List.getElem?_cons_zero, List.getElem?_cons_succ, e 7 (by decide), e 8 (by decide)] using h)
          | _ + 3, _ => trivial
        · intro i vals vals' hv h
          match i, hv, h with
          | 0, hv, h => exact (hv 0 (.inl rfl)).trans h
          | 1, hv, h => exact (hv 1 (.inl rfl)).trans h
          | 2, hv, h => exact (hv 2 (.inl rfl)).trans h
          | 3, hv, h => exact (hv 3 (.inl rfl)).trans h
          | 4, hv, h => exact (hv 4 (.inl rfl)).trans h
          | 5, hv, h => exact (hv 5 (.inl rfl)).trans h
          | 6, hv, h => exact (hv 6 (.inl rfl)).trans h
          | 7, _, _ => trivial
          | 8, _, _ => trivial
          | _ + 9, _, _ => trivial
        · intro k225 vals w226 h229 h230 hW228 hA227
          refine obl rfl ?_
          exact ov_move (v := .pointer (some ⟨a16, 0, none⟩)) rfl (fun vals' hv _ => ⟨rfl, hv⟩)
        · intro k231 vals w232 h235 h236 hW234 hA233
          refine obl rfl ?_
          exact ov_move (v := vl) rfl (fun vals' hv _ => ⟨rfl, hv⟩)
        · intro k237 vals w238 h241 h242 hW240 hA239
          refine obl rfl ?_
          exact ov_move (v := .int .i64 ((k2 : Nat) : Int)) rfl (fun vals' hv _ => ⟨rfl, hv⟩)
        · intro k243 vals w244 h247 h248 hW246 hA245
          have hkk : k243 = 0 ∨ k243 = 1 := by have h1 : 0 ≤ k243 := h247; have h2 : k243 ≤ 1 := h248; omega
          rcases hkk with rfl | rfl
          · skip
            have hS249 : Sep G W ((RefO a19 p (rowsK p l g k2)) :: (RefO a237 p (rowsK p l g k)) :: (ProjO a16 p (addsM p l g k2)) :: (ProjO a233 p (addsM p l g k)) :: (Blk b2 (p.cells).toArray 23) :: Rs) w244 := hW246
            have e250 : vals 1 = (vl : Value) := hA245 1 (by decide)
            have e251 : vals 2 = (.int .i64 ((k2 : Nat) : Int) : Value) := hA245 2 (by decide)
            refine obl rfl ?_
            have hi252 : k2 < l.length := (by first | omega | (simp only [List.length_append, List.length_cons, List.length_nil, List.length_take, List.length_drop, List.length_set, List.length_replicate]; omega))
            exact ov_indexAddrN (k := 13) (i := k2) Try.underlying24 Try.sizeOf38 (show _ = (vl : Value) from e250) hl.sl (show _ = (.int .i64 ((k2 : Nat) : Int) : Value) from e251) hi252 (fun vals' hv _ => ⟨rfl, hv⟩)
          · skip
            obtain ⟨he207, hS253⟩ : (vals 7 = (.int .i64 (regI g k2) : Value)) ∧ Sep G W ((RefO a19 p (rowsK p l g k2)) :: (RefO a237 p (rowsK p l g k)) :: (ProjO a16 p (addsM p l g k2)) :: (ProjO a233 p (addsM p l g k)) :: (Blk b2 (p.cells).toArray 23) :: Rs) w244 := hW246
            have e254 : vals 1 = (vl : Value) := hA245 1 (by decide)
            have e255 : vals 2 = (.int .i64 ((k2 : Nat) : Int) : Value) := hA245 2 (by decide)
            refine obl rfl ?_
            have hi256 : k2 < l.length := (by first | omega | (simp only [List.length_append, List.length_cons, List.length_nil, List.length_take, List.length_drop, List.length_set, List.length_replicate]; omega))
            exact ov_indexAddrN (k := 13) (i := k2) Try.underlying24 Try.sizeOf38 (show _ = (vl : Value) from e254) hl.sl (show _ = (.int .i64 ((k2 : Nat) : Int) : Value) from e255) hi256 (fun vals' hv _ => ⟨rfl, hv⟩)
        · intro k257 vals w258 h261 h262 hW260 hA259
          have hkk : k257 = 0 ∨ k257 = 1 := by have h1 : 0 ≤ k257 := h261; have h2 : k257 ≤ 1 := h262; omega
          rcases hkk with rfl | rfl
          · skip
            have hS263 : Sep G W ((RefO a19 p (rowsK p l g k2)) :: (RefO a237 p (rowsK p l g k)) :: (ProjO a16 p (addsM p l g k2)) :: (ProjO a233 p (addsM p l g k)) :: (Blk b2 (p.cells).toArray 23) :: Rs) w258 := hW260
            have e264 : vals 3 = (.pointer (some ⟨sb vl, so vl + k2 * 13, none⟩) : Value) := hA259 3 (by decide)
            refine obl rfl ?_
            have hi266 : k2 < l.length := (by first | omega | (simp only [List.length_append, List.length_cons, List.length_nil, List.length_take, List.length_drop, List.length_set, List.length_replicate]; omega))
            obtain ⟨hce265, hde265_0, hoke265⟩ := hl.ent hi266
            rw [← getD_at default hi266] at hce265 hde265_0 hoke265
            have hsm267 : ((l.getD k2 default).ev.deps).length * 8 ≤ 140737488355328 := hde265_0.small
            have hcw268 := hS263.cells hce265 (hl.foot (ne_of_lt hi266))
            exact ov_loadk (k := 13) Try.isAgg38 Try.sizeOf38 rfl (show _ = (.pointer (some ⟨sb vl, so vl + k2 * 13, none⟩) : Value) from e264) hcw268 (fun vals' hv _ => ⟨rfl, hv⟩)
          · skip
            obtain ⟨he207, hS269⟩ : (vals 7 = (.int .i64 (regI g k2) : Value)) ∧ Sep G W ((RefO a19 p (rowsK p l g k2)) :: (RefO a237 p (rowsK p l g k)) :: (ProjO a16 p (addsM p l g k2)) :: (ProjO a233 p (addsM p l g k)) :: (Blk b2 (p.cells).toArray 23) :: Rs) w258 := hW260
            have e270 : vals 3 = (.pointer (some ⟨sb vl, so vl + k2 * 13, none⟩) : Value) := hA259 3 (by decide)
            refine obl rfl ?_
            have hi272 : k2 < l.length := (by first | omega | (simp only [List.length_append, List.length_cons, List.length_nil, List.length_take, List.length_drop, List.length_set, List.length_replicate]; omega))
            obtain ⟨hce271, hde271_0, hoke271⟩ := hl.ent hi272
            rw [← getD_at default hi272] at hce271 hde271_0 hoke271
            have hsm273 : ((l.getD k2 default).ev.deps).length * 8 ≤ 140737488355328 := hde271_0.small
            have hcw274 := hS269.cells hce271 (hl.foot (ne_of_lt hi272))
            exact ov_loadk (k := 13) Try.isAgg38 Try.sizeOf38 rfl (show _ = (.pointer (some ⟨sb vl, so vl + k2 * 13, none⟩) : Value) from e270) hcw274 (fun vals' hv _ => ⟨rfl, hv⟩)
        · intro k275 vals w276 h279 h280 hW278 hA277
          refine obl rfl ?_
          exact ov_move (v := vg) rfl (fun vals' hv _ => ⟨rfl, hv⟩)
        · intro k281 vals w282 h285 h286 hW284 hA283
          refine obl rfl ?_
          exact ov_move (v := .int .i64 ((k2 : Nat) : Int)) rfl (fun vals' hv _ => ⟨rfl, hv⟩)
        · intro k196 vals w197 h200 h201 hW199 hA198
          obtain rfl : k196 = 0 := Nat.le_antisymm h201 h200
          have hS202 : Sep G W ((RefO a19 p (rowsK p l g k2)) :: (RefO a237 p (rowsK p l g k)) :: (ProjO a16 p (addsM p l g k2)) :: (ProjO a233 p (addsM p l g k)) :: (Blk b2 (p.cells).toArray 23) :: Rs) w197 := hW199
          have e203 : vals 5 = (vg : Value) := hA198 5 (by decide)
          have e204 : vals 6 = (.int .i64 ((k2 : Nat) : Int) : Value) := hA198 6 (by decide)
          refine obl rfl ?_
          refine (ov_call (f := 13) (vals := [vg, .int .i64 ((k2 : Nat) : Int)]) (cap := []) (show _ = (.func (.func 13) #[] #[] : Value) from rfl) (mapL ⟨(show _ = (vg : Value) from e203), (show _ = (.int .i64 ((k2 : Nat) : Int) : Value) from e204), trivial⟩) Try.call13 (D_reg (g := g) (vg := vg) (i := k2) hg (by first | omega | (refine ⟨?_, ?_⟩ <;> omega)) hS202) ?_)
          rintro _ w205 ⟨rfl, hS206⟩
          intro vals' hv hv'
          refine ⟨?_, trivial⟩
          show (vals' 7 = (.int .i64 (regI g k2) : Value)) ∧ Sep G W ((RefO a19 p (rowsK p l g k2)) :: (RefO a237 p (rowsK p l g k)) :: (ProjO a16 p (addsM p l g k2)) :: (ProjO a233 p (addsM p l g k)) :: (Blk b2 (p.cells).toArray 23) :: Rs) w205
          exact ⟨hv, hS206⟩
        · intro k208 vals w209 h212 h213 hW211 hA210
          obtain rfl : k208 = 1 := Nat.le_antisymm h213 h212
          obtain ⟨he207, hS214⟩ : (vals 7 = (.int .i64 (regI g k2) : Value)) ∧ Sep G W ((RefO a19 p (rowsK p l g k2)) :: (RefO a237 p (rowsK p l g k)) :: (ProjO a16 p (addsM p l g k2)) :: (ProjO a233 p (addsM p l g k)) :: (Blk b2 (p.cells).toArray 23) :: Rs) w209 := hW211
          have e215 : vals 0 = (.pointer (some ⟨a16, 0, none⟩) : Value) := hA210 0 (by decide)
          have e216 : vals 4 = (.agg ((l.getD k2 default).cells (cellV W (sb vl) (so vl + k2 * 13 + 3))).toArray : Value) := hA210 4 (by decide)
          refine obl rfl ?_
          have hi218 : k2 < l.length := (by first | omega | (simp only [List.length_append, List.length_cons, List.length_nil, List.length_take, List.length_drop, List.length_set, List.length_replicate]; omega))
          obtain ⟨hce217, hde217_0, hoke217⟩ := hl.ent hi218
          rw [← getD_at default hi218] at hce217 hde217_0 hoke217
          have hsm219 : ((l.getD k2 default).ev.deps).length * 8 ≤ 140737488355328 := hde217_0.small
          have hcw220 := hS214.cells hce217 (hl.foot (ne_of_lt hi218))
          have hS221 : Sep G W ((ProjO a16 p (addsM p l g k2)) :: (RefO a19 p (rowsK p l g k2)) :: (RefO a237 p (rowsK p l g k)) :: (ProjO a233 p (addsM p l g k)) :: (Blk b2 (p.cells).toArray 23) :: Rs) w209 := hS214.sel 5 [2, 0, 1, 3, 4] (Nat.le_add_left _ _) rfl rfl
          refine (ov_call (f := 19) (vals := [.pointer (some ⟨a16, 0, none⟩), .agg ((l.getD k2 default).cells (cellV W (sb vl) (so vl + k2 * 13 + 3))).toArray, .int .i64 (regI g k2)]) (cap := []) (show _ = (.func (.func 19) #[] #[] : Value) from rfl) (mapL ⟨(show _ = (.pointer (some ⟨a16, 0, none⟩) : Value) from e215), (show _ = (.agg ((l.getD k2 default).cells (cellV W (sb vl) (so vl + k2 * 13 + 3))).toArray : Value) from e216), (show _ = (.int .i64 (regI g k2) : Value) from he207), trivial⟩) Try.call19 (D_Add (e := (l.getD k2 default)) (reg := regI g k2) hde217_0 hoke217 (regI_in hg.allR k2) hS221 (fun gq => by have := cnt_of (adds_good p l g k2) gq; omega)) ?_)
          rintro _ w222 ⟨rfl, hS223⟩
          intro vals' hv hv'
          refine ⟨?_, trivial⟩
          show (vals' 7 = (.int .i64 (regI g k2) : Value)) ∧ (vals' 8 = (.tuple #[] : Value)) ∧ Sep G W ((ProjO a16 p (addM p (addsM p l g k2) (l.getD k2 default) (regI g k2))) :: (RefO a19 p (rowsK p l g k2)) :: (RefO a237 p (rowsK p l g k)) :: (ProjO a233 p (addsM p l g k)) :: (Blk b2 (p.cells).toArray 23) :: Rs) w222
          exact ⟨(by rw [hv' 7 (by decide)]; exact he207), hv, hS223⟩
        intro vals w287 hW288 hA289
        obtain ⟨he207, he224, hS290⟩ : (vals 7 = (.int .i64 (regI g k2) : Value)) ∧ (vals 8 = (.tuple #[] : Value)) ∧ Sep G W ((ProjO a16 p (addM p (addsM p l g k2) (l.getD k2 default) (regI g k2))) :: (RefO a19 p (rowsK p l g k2)) :: (RefO a237 p (rowsK p l g k)) :: (ProjO a233 p (addsM p l g k)) :: (Blk b2 (p.cells).toArray 23) :: Rs) w287 := hW288
        refine st_env (kv := [(1, vl), (2, vg), (9, .pointer (some ⟨a16, 0, none⟩)), (10, .pointer (some ⟨a19, 0, none⟩)), (12, .pointer (some ⟨a233, 0, none⟩)), (13, .pointer (some ⟨a237, 0, none⟩)), (14, .int .i64 ((k2 : Nat) : Int)), (65, .int .i64 ((k2 : Nat) : Int)), (66, vl), (67, .int .i64 ((l.length : Nat) : Int)), (68, .bool true)]) ⟨rfl, rfl, rfl, rfl, rfl, rfl, rfl, rfl, rfl, rfl, rfl, trivial⟩ (fun ρw287 => ?_)
        refine st_nil ?_
        refine WP_draw4 (WF [fun vals wq => Sep G W ((ProjO a16 p (addM p (addsM p l g k2) (l.getD k2 default) (regI g k2))) :: (RefO a19 p (rowsK p l g k2)) :: (RefO a237 p (rowsK p l g k)) :: (ProjO a233 p (addsM p l g k)) :: (Blk b2 (p.cells).toArray 23) :: Rs) wq, fun vals wq => (vals 7 = (.int .i64 (regI g k2) : Value)) ∧ Sep G W ((ProjO a16 p (addM p (addsM p l g k2) (l.getD k2 default) (regI g k2))) :: (RefO a19 p (rowsK p l g k2)) :: (RefO a237 p (rowsK p l g k)) :: (ProjO a233 p (addsM p l g k)) :: (Blk b2 (p.cells).toArray 23) :: Rs) wq, fun vals wq => ∃ (l2369 : List Row), (vals 7 = (.int .i64 (regI g k2) : Value)) ∧ (vals 8 = (.tuple #[] : Value)) ∧ (AddRel p (rowsK p l g k2) (l.getD k2 default) (regI g k2) l2369) ∧ Sep G W ((RefO a19 p l2369) :: (ProjO a16 p (addM p (addsM p l g k2) (l.getD k2 default) (regI g k2))) :: (RefO a237 p (rowsK p l g k)) :: (ProjO a233 p (addsM p l g k)) :: (Blk b2 (p.cells).toArray 23) :: Rs) wq]) (AF [fun vals => vals 0 = (.pointer (some ⟨a19, 0, none⟩) : Value), fun vals => vals 1 = (vl : Value), fun vals => vals 2 = (.int .i64 ((k2 : Nat) : Int) : Value), fun vals => vals 3 = (.pointer (some ⟨sb vl, so vl + k2 * 13, none⟩) : Value), fun vals => vals 4 = (.agg ((l.getD k2 default).cells (cellV W (sb vl) (so vl + k2 * 13 + 3))).toArray : Value), fun vals => vals 5 = (vg : Value), fun vals => vals 6 = (.int .i64 ((k2 : Nat) : Int) : Value), fun _ => True, fun _ => True]) [[], [], [], [1, 2], [1, 2, 3], [], [], [5, 6], [0, 1, 2, 3, 4, 5, 6, 7]] [7, 8] [(0, 1), (0, 1), (0, 1), (0, 1), (0, 1), (0, 0), (0, 0), (0, 0), (1, 1)] (by kernel_rfl) (by kernel_rfl) (by kernel_rfl) rfl (by kernel_rfl) (by kernel_rfl) (fun _ h1 h2 h3 h4 _ => hS290.same h1 h2 h3 h4) ?_ ?_ ⟨?_, ?_, ?_, ?_, ?_, ?_, ?_, ?_, ?_, trivial⟩ ?_
        · intro k vals vals' w hv h
          have e : ∀ j ∈ ([7, 8] : List Nat), vals' j = vals j := hv
          match k, h with
          | 0, h => exact h
          | 1, h => exact (by simpa only [WF, List.getElem?_cons_zero, List.getElem?_cons_succ, e 7 (by decide)] using h)
          | 2, h => exact (by simpa only [WF, List.getElem?_cons_zero, List.getElem?_cons_succ, e 7 (by decide), e 8 (by decide)] using h)
          | _ + 3, _ => trivial
        · intro i vals vals' hv h
          match i, hv, h with
          | 0, hv, h => exact (hv 0 (.inl rfl)).trans h
          | 1, hv, h => exact (hv 1 (.inl rfl)).trans h
          | 2, hv, h => exact (hv 2 (.inl rfl)).trans h
          | 3, hv, h => exact (hv 3 (.inl rfl)).trans h
          | 4, hv, h => exact (hv 4 (.inl rfl)).trans h
          | 5, hv, h => exact (hv 5 (.inl rfl)).trans h
          | 6, hv, h => exact (hv 6 (.inl rfl)).trans h
          | 7, _, _ => trivial
          | 8, _, _ => trivial
          | _ + 9, _, _ => trivial
        · intro k374 vals w375 h378 h379 hW377 hA376
          refine obl rfl ?_
          exact ov_move (v := .pointer (some ⟨a19, 0, none⟩)) rfl (fun vals' hv _ => ⟨rfl, hv⟩)
        · intro k380 vals w381 h384 h385 hW383 hA382
          refine obl rfl ?_
          exact ov_move (v := vl) rfl (fun vals' hv _ => ⟨rfl, hv⟩)
        · intro k386 vals w387 h390 h391 hW389 hA388
          refine obl rfl ?_
          exact ov_move (v := .int .i64 ((k2 : Nat) : Int)) rfl (fun vals' hv _ => ⟨rfl, hv⟩)
        · intro k392 vals w393 h396 h397 hW395 hA394
          have hkk : k392 = 0 ∨ k392 = 1 := by have h1 : 0 ≤ k392 := h396; have h2 : k392 ≤ 1 := h397; omega
          rcases hkk with rfl | rfl
          · skip
            have hS398 : Sep G W ((ProjO a16 p (addM p (addsM p l g k2) (l.getD k2 default) (regI g k2))) :: (RefO a19 p (rowsK p l g k2)) :: (RefO a237 p (rowsK p l g k)) :: (ProjO a233 p (addsM p l g k)) :: (Blk b2 (p.cells).toArray 23) :: Rs) w393 := hW395
            have e399 : vals 1 = (vl : Value) := hA394 1 (by decide)
            have e400 : vals 2 = (.int .i64 ((k2 : Nat) : Int) : Value) := hA394 2 (by decide)
            refine obl rfl ?_
            have hi401 : k2 < l.length := (by first | omega | (simp only [List.length_append, List.length_cons, List.length_nil, List.length_take, List.length_drop, List.length_set, List.length_replicate]; omega))
            exact ov_indexAddrN (k := 13) (i := k2) Try.underlying24 Try.sizeOf38 (show _ = (vl : Value) from e399) hl.sl (show _ = (.int .i64 ((k2 : Nat) : Int) : Value) from e400) hi401 (fun vals' hv _ => ⟨rfl, hv⟩)
          · skip
            obtain ⟨he354, hS402⟩ : (vals 7 = (.int .i64 (regI g k2) : Value)) ∧ Sep G W ((ProjO a16 p (addM p (addsM p l g k2) (l.getD k2 default) (regI g k2))) :: (RefO a19 p (rowsK p l g k2)) :: (RefO a237 p (rowsK p l g k)) :: (ProjO a233 p (addsM p l g k)) :: (Blk b2 (p.cells).toArray 23) :: Rs) w393 := hW395
            have e403 : vals 1 = (vl : Value) := hA394 1 (by decide)
            have e404 : vals 2 = (.int .i64 ((k2 : Nat) : Int) : Value) := hA394 2 (by decide)
            refine obl rfl ?_
            have hi405 : k2 < l.length := (by first | omega | (simp only [List.length_append, List.length_cons, List.length_nil, List.length_take, List.length_drop, List.length_set, List.length_replicate]; omega))
            exact ov_indexAddrN (k := 13) (i := k2) Try.underlying24 Try.sizeOf38 (show _ = (vl : Value) from e403) hl.sl (show _ = (.int .i64 ((k2 : Nat) : Int) : Value) from e404) hi405 (fun vals' hv _ => ⟨rfl, hv⟩)
        · intro k406 vals w407 h410 h411 hW409 hA408
          have hkk : k406 = 0 ∨ k406 = 1 := by have h1 : 0 ≤ k406 := h410; have h2 : k406 ≤ 1 := h411; omega
          rcases hkk with rfl | rfl
          · skip
            have hS412 : Sep G W ((ProjO a16 p (addM p (addsM p l g k2) (l.getD k2 default) (regI g k2))) :: (RefO a19 p (rowsK p l g k2)) :: (RefO a237 p (rowsK p l g k)) :: (ProjO a233 p (addsM p l g k)) :: (Blk b2 (p.cells).toArray 23) :: Rs) w407 := hW409
            have e413 : vals 3 = (.pointer (some ⟨sb vl, so vl + k2 * 13, none⟩) : Value) := hA408 3 (by decide)
            refine obl rfl ?_
            have hi415 : k2 < l.length := (by first | omega | (simp only [List.length_append, List.length_cons, List.length_nil, List.length_take, List.length_drop, List.length_set, List.length_replicate]; omega))
            obtain ⟨hce414, hde414_0, hoke414⟩ := hl.ent hi415
            rw [← getD_at default hi415] at hce414 hde414_0 hoke414
            have hsm416 : ((l.getD k2 default).ev.deps).length * 8 ≤ 140737488355328 := hde414_0.small
            have hcw417 := hS412.cells hce414 (hl.foot (ne_of_lt hi415))
            exact ov_loadk (k := 13) Try.isAgg38 Try.sizeOf38 rfl (show _ = (.pointer (some ⟨sb vl, so vl + k2 * 13, none⟩) : Value) from e413) hcw417 (fun vals' hv _ => ⟨rfl, hv⟩)
          · skip
            obtain ⟨he354, hS418⟩ : (vals 7 = (.int .i64 (regI g k2) : Value)) ∧ Sep G W ((ProjO a16 p (addM p (addsM p l g k2) (l.getD k2 default) (regI g k2))) :: (RefO a19 p (rowsK p l g k2)) :: (RefO a237 p (rowsK p l g k)) :: (ProjO a233 p (addsM p l g k)) :: (Blk b2 (p.cells).toArray 23) :: Rs) w407 := hW409
            have e419 : vals 3 = (.pointer (some ⟨sb vl, so vl + k2 * 13, none⟩) : Value) := hA408 3 (by decide)
            refine obl rfl ?_
            have hi421 : k2 < l.length := (by first | omega | (simp only [List.length_append, List.length_cons, List.length_nil, List.length_take, List.length_drop, List.length_set, List.length_replicate]; omega))
            obtain ⟨hce420, hde420_0, hoke420⟩ := hl.ent hi421
            rw [← getD_at default hi421] at hce420 hde420_0 hoke420
            have hsm422 : ((l.getD k2 default).ev.deps).length * 8 ≤ 140737488355328 := hde420_0.small
            have hcw423 := hS418.cells hce420 (hl.foot (ne_of_lt hi421))
            exact ov_loadk (k := 13) Try.isAgg38 Try.sizeOf38 rfl (show _ = (.pointer (some ⟨sb vl, so vl + k2 * 13, none⟩) : Value) from e419) hcw423 (fun vals' hv _ => ⟨rfl, hv⟩)
        · intro k424 vals w425 h428 h429 hW427 hA426
          refine obl rfl ?_
          exact ov_move (v := vg) rfl (fun vals' hv _ => ⟨rfl, hv⟩)
        · intro k430 vals w431 h434 h435 hW433 hA432
          refine obl rfl ?_
          exact ov_move (v := .int .i64 ((k2 : Nat) : Int)) rfl (fun vals' hv _ => ⟨rfl, hv⟩)
        · intro k343 vals w344 h347 h348 hW346 hA345
          obtain rfl : k343 = 0 := Nat.le_antisymm h348 h347
          have hS349 : Sep G W ((ProjO a16 p (addM p (addsM p l g k2) (l.getD k2 default) (regI g k2))) :: (RefO a19 p (rowsK p l g k2)) :: (RefO a237 p (rowsK p l g k)) :: (ProjO a233 p (addsM p l g k)) :: (Blk b2 (p.cells).toArray 23) :: Rs) w344 := hW346
          have e350 : vals 5 = (vg : Value) := hA345 5 (by decide)
          have e351 : vals 6 = (.int .i64 ((k2 : Nat) : Int) : Value) := hA345 6 (by decide)
          refine obl rfl ?_
          refine (ov_call (f := 13) (vals := [vg, .int .i64 ((k2 : Nat) : Int)]) (cap := []) (show _ = (.func (.func 13) #[] #[] : Value) from rfl) (mapL ⟨(show _ = (vg : Value) from e350), (show _ = (.int .i64 ((k2 : Nat) : Int) : Value) from e351), trivial⟩) Try.call13 (D_reg (g := g) (vg := vg) (i := k2) hg (by first | omega | (refine ⟨?_, ?_⟩ <;> omega)) hS349) ?_)
          rintro _ w352 ⟨rfl, hS353⟩
          intro vals' hv hv'
          refine ⟨?_, trivial⟩
          show (vals' 7 = (.int .i64 (regI g k2) : Value)) ∧ Sep G W ((ProjO a16 p (addM p (addsM p l g k2) (l.getD k2 default) (regI g k2))) :: (RefO a19 p (rowsK p l g k2)) :: (RefO a237 p (rowsK p l g k)) :: (ProjO a233 p (addsM p l g k)) :: (Blk b2 (p.cells).toArray 23) :: Rs) w352
          exact ⟨hv, hS353⟩
        · intro k355 vals w356 h359 h360 hW358 hA357
          obtain rfl : k355 = 1 := Nat.le_antisymm h360 h359
          obtain ⟨he354, hS361⟩ : (vals 7 = (.int .i64 (regI g k2) : Value)) ∧ Sep G W ((ProjO a16 p (addM p (addsM p l g k2) (l.getD k2 default) (regI g k2))) :: (RefO a19 p (rowsK p l g k2)) :: (RefO a237 p (rowsK p l g k)) :: (ProjO a233 p (addsM p l g k)) :: (Blk b2 (p.cells).toArray 23) :: Rs) w356 := hW358
          have e362 : vals 0 = (.pointer (some ⟨a19, 0, none⟩) : Value) := hA357 0 (by decide)
          have e363 : vals 4 = (.agg ((l.getD k2 default).cells (cellV W (sb vl) (so vl + k2 * 13 + 3))).toArray : Value) := hA357 4 (by decide)
          refine obl rfl ?_
          have hi365 : k2 < l.length := (by first | omega | (simp only [List.length_append, List.length_cons, List.length_nil, List.length_take, List.length_drop, List.length_set, List.length_replicate]; omega))
          obtain ⟨hce364, hde364_0, hoke364⟩ := hl.ent hi365
          rw [← getD_at default hi365] at hce364 hde364_0 hoke364
          have hsm366 : ((l.getD k2 default).ev.deps).length * 8 ≤ 140737488355328 := hde364_0.small
          have hcw367 := hS361.cells hce364 (hl.foot (ne_of_lt hi365))
          have hS368 : Sep G W ((RefO a19 p (rowsK p l g k2)) :: (ProjO a16 p (addM p (addsM p l g k2) (l.getD k2 default) (regI g k2))) :: (RefO a237 p (rowsK p l g k)) :: (ProjO a233 p (addsM p l g k)) :: (Blk b2 (p.cells).toArray 23) :: Rs) w356 := hS361.sel 5 [1, 0, 2, 3, 4] (Nat.le_add_left _ _) rfl rfl
          refine (ov_call (f := 20) (vals := [.pointer (some ⟨a19, 0, none⟩), .agg ((l.getD k2 default).cells (cellV W (sb vl) (so vl + k2 * 13 + 3))).toArray, .int .i64 (regI g k2)]) (cap := []) (show _ = (.func (.func 20) #[] #[] : Value) from rfl) (mapL ⟨(show _ = (.pointer (some ⟨a19, 0, none⟩) : Value) from e362), (show _ = (.agg ((l.getD k2 default).cells (cellV W (sb vl) (so vl + k2 * 13 + 3))).toArray : Value) from e363), (show _ = (.int .i64 (regI g k2) : Value) from he354), trivial⟩) Try.call20 (D_refAdd (e := (l.getD k2 default)) (reg := regI g k2) hde364_0 hoke364 (regI_in hg.allR k2) hS368 (rowsK_cnt (by omega)) (Nat.le_trans (rowsK_len _ _ _ _) (by omega))) ?_)
          rintro _ w371 ⟨l2369, rfl, hrel370, hS372⟩
          intro vals' hv hv'
          refine ⟨?_, trivial⟩
          show ∃ (l2369 : List Row), (vals' 7 = (.int .i64 (regI g k2) : Value)) ∧ (vals' 8 = (.tuple #[] : Value)) ∧ (AddRel p (rowsK p l g k2) (l.getD k2 default) (regI g k2) l2369) ∧ Sep G W ((RefO a19 p l2369) :: (ProjO a16 p (addM p (addsM p l g k2) (l.getD k2 default) (regI g k2))) :: (RefO a237 p (rowsK p l g k)) :: (ProjO a233 p (addsM p l g k)) :: (Blk b2 (p.cells).toArray 23) :: Rs) w371
          exact ⟨l2369, (by rw [hv' 7 (by decide)]; exact he354), hv, hrel370, hS372⟩
        intro vals w436 hW437 hA438
        obtain ⟨l2369, he354, he373, hrel370, hS439⟩ : ∃ (l2369 : List Row), (vals 7 = (.int .i64 (regI g k2) : Value)) ∧ (vals 8 = (.tuple #[] : Value)) ∧ (AddRel p (rowsK p l g k2) (l.getD k2 default) (regI g k2) l2369) ∧ Sep G W ((RefO a19 p l2369) :: (ProjO a16 p (addM p (addsM p l g k2) (l.getD k2 default) (regI g k2))) :: (RefO a237 p (rowsK p l g k)) :: (ProjO a233 p (addsM p l g k)) :: (Blk b2 (p.cells).toArray 23) :: Rs) w436 := hW437
        refine st_env (kv := [(1, vl), (2, vg), (9, .pointer (some ⟨a16, 0, none⟩)), (10, .pointer (some ⟨a19, 0, none⟩)), (12, .pointer (some ⟨a233, 0, none⟩)), (13, .pointer (some ⟨a237, 0, none⟩)), (14, .int .i64 ((k2 : Nat) : Int)), (65, .int .i64 ((k2 : Nat) : Int)), (66, vl), (67, .int .i64 ((l.length : Nat) : Int)), (68, .bool true)]) ⟨rfl, rfl, rfl, rfl, rfl, rfl, rfl, rfl, rfl, rfl, rfl, trivial⟩ (fun ρw436 => ?_)
        refine st_nil ?_
        refine WP_region0 (by kernel_rfl) (fun _ => ?_)
        refine st (ov_move (v := .int .i64 ((k2 : Nat) : Int)) rfl ?_)
        have hr440 : InR ((k2 + 1 : Nat) : Int) := by first | omega | (simp only [List.length_append, List.length_cons, List.length_nil, List.length_take, List.length_drop, List.length_set, List.length_replicate]; omega)
        refine st (ov_add (r := ((k2 + 1 : Nat) : Int)) (k := .i64) (a := ((k2 : Nat) : Int)) (b := 1) rfl rfl (by rw [show (((k2 : Nat) : Int) + 1 : Int) = ((k2 + 1 : Nat) : Int) by first | omega | (simp only [List.length_append, List.length_cons, List.length_nil, List.length_take, List.length_drop, List.length_set, List.length_replicate]; omega)]; exact wrap_in hr440) ?_)
        refine st (ov_assign (v := .int .i64 ((k2 + 1 : Nat) : Int)) rfl ?_)
        refine st_nil ?_
        have hS441 : Sep G W ((RefO a19 p l2369) :: (RefO a237 p (rowsK p l g k)) :: (ProjO a16 p (addM p (addsM p l g k2) (l.getD k2 default) (regI g k2))) :: (ProjO a233 p (addsM p l g k)) :: (Blk b2 (p.cells).toArray 23) :: Rs) w436 := hS439.sel 5 [0, 2, 1, 3, 4] (Nat.le_add_left _ _) rfl rfl
        have hL443 : (rowsK p l g (k2 + 1)) = l2369 := (rowsK_step hrel370).symm
        rw [← hL443] at hS441
        exact ⟨_, by omega, k2 + 1, _, rfl, setAll_self ⟨rfl, rfl, rfl, rfl, rfl, rfl, rfl, trivial⟩, by omega, hS441⟩
    · skip
      have hc31 := of_decide_eq_true hc31
      refine WP_cond_t rfl ?_
      refine WP_skip ?_
      refine WP_seq ?_
      refine WP_block ?_
      refine WP_seq ?_
      refine WP_draw4 (WF [fun vals wq => Sep G W ((RefO a19 p (rowsK p l g k)) :: (ProjO a16 p (addsM p l g k)) :: (Blk b2 (p.cells).toArray 23) :: Rs) wq, fun vals wq => (vals 7 = (.int .i64 (regI g k) : Value)) ∧ Sep G W ((RefO a19 p (rowsK p l g k)) :: (ProjO a16 p (addsM p l g k)) :: (Blk b2 (p.cells).toArray 23) :: Rs) wq, fun vals wq => (vals 7 = (.int .i64 (regI g k) : Value)) ∧ (vals 8 = (.tuple #[] : Value)) ∧ Sep G W ((ProjO a16 p (addM p (addsM p l g k) (l.getD k default) (regI g k))) :: (RefO a19 p (rowsK p l g k)) :: (Blk b2 (p.cells).toArray 23) :: Rs) wq]) (AF [fun vals => vals 0 = (.pointer (some ⟨a16, 0, none⟩) : Value), fun vals => vals 1 = (vl : Value), fun vals => vals 2 = (.int .i64 ((k : Nat) : Int) : Value), fun vals => vals 3 = (.pointer (some ⟨sb vl, so vl + k * 13, none⟩) : Value), fun vals => vals 4 = (.agg ((l.getD k default).cells (cellV W (sb vl) (so vl + k * 13 + 3))).toArray : Value), fun vals => vals 5 = (vg : Value), fun vals => vals 6 = (.int .i64 ((k : Nat) : Int) : Value), fun _ => True, fun _ => True]) [[], [], [], [1, 2], [1, 2, 3], [], [], [5, 6], [0, 1, 2, 3, 4, 5, 6, 7]] [7, 8] [(0, 1), (0, 1), (0, 1), (0, 1), (0, 1), (0, 0), (0, 0), (0, 0), (1, 1)] (by kernel_rfl) (by kernel_rfl) (by kernel_rfl) rfl (by kernel_rfl) (by kernel_rfl) (fun _ h1 h2 h3 h4 _ => hS30.same h1 h2 h3 h4) ?_ ?_ ⟨?_, ?_, ?_, ?_, ?_, ?_, ?_, ?_, ?_, trivial⟩ ?_
      · intro k vals vals' w hv h
        have e : ∀ j ∈ ([7, 8] : List Nat), vals' j = vals j := hv
        match k, h with
        | 0, h => exact h
        | 1, h => exact (by simpa only [WF, List.getElem?_cons_zero, List.getElem?_cons_succ, e 7 (by decide)] using h)
        | 2, h => exact (by simpa only [WF, List.getElem?_cons_zero, List.getElem?_cons_succ, e 7 (by decide), e 8 (by decide)] using h)
        | _ + 3, _ => trivial
      · intro i vals vals' hv h
        match i, hv, h with
        | 0, hv, h => exact (hv 0 (.inl rfl)).trans h
        | 1, hv, h => exact (hv 1 (.inl rfl)).trans h
        | 2, hv, h => exact (hv 2 (.inl rfl)).trans h
        | 3, hv, h => exact (hv 3 (.inl rfl)).trans h
        | 4, hv, h => exact (hv 4 (.inl rfl)).trans h
        | 5, hv, h => exact (hv 5 (.inl rfl)).trans h
        | 6, hv, h => exact (hv 6 (.inl rfl)).trans h
        | 7, _, _ => trivial
        | 8, _, _ => trivial
        | _ + 9, _, _ => trivial
      · intro k525 vals w526 h529 h530 hW528 hA527
        refine obl rfl ?_
        exact ov_move (v := .pointer (some ⟨a16, 0, none⟩)) rfl (fun vals' hv _ => ⟨rfl, hv⟩)
      · intro k531 vals w532 h535 h536 hW534 hA533
        refine obl rfl ?_
        exact ov_move (v := vl) rfl (fun vals' hv _ => ⟨rfl, hv⟩)
      · intro k537 vals w538 h541 h542 hW540 hA539
        refine obl rfl ?_
        exact ov_move (v := .int .i64 ((k : Nat) : Int)) rfl (fun vals' hv _ => ⟨rfl, hv⟩)
      · intro k543 vals w544 h547 h548 hW546 hA545
        have hkk : k543 = 0 ∨ k543 = 1 := by have h1 : 0 ≤ k543 := h547; have h2 : k543 ≤ 1 := h548; omega
        rcases hkk with rfl | rfl
        · skip
          have hS549 : Sep G W ((RefO a19 p (rowsK p l g k)) :: (ProjO a16 p (addsM p l g k)) :: (Blk b2 (p.cells).toArray 23) :: Rs) w544 := hW546
          have e550 : vals 1 = (vl : Value) := hA545 1 (by decide)
          have e551 : vals 2 = (.int .i64 ((k : Nat) : Int) : Value) := hA545 2 (by decide)
          refine obl rfl ?_
          have hi552 : k < l.length := (by first | omega | (simp only [List.length_append, List.length_cons, List.length_nil, List.length_take, List.length_drop, List.length_set, List.length_replicate]; omega))
          exact ov_indexAddrN (k := 13) (i := k) Try.underlying24 Try.sizeOf38 (show _ = (vl : Value) from e550) hl.sl (show _ = (.int .i64 ((k : Nat) : Int) : Value) from e551) hi552 (fun vals' hv _ => ⟨rfl, hv⟩)
        · skip
          obtain ⟨he507, hS553⟩ : (vals 7 = (.int .i64 (regI g k) : Value)) ∧ Sep G W ((RefO a19 p (rowsK p l g k)) :: (ProjO a16 p (addsM p l g k)) :: (Blk b2 (p.cells).toArray 23) :: Rs) w544 := hW546
          have e554 : vals 1 = (vl : Value) := hA545 1 (by decide)
          have e555 : vals 2 = (.int .i64 ((k : Nat) : Int) : Value) := hA545 2 (by decide)
          refine obl rfl ?_
          have hi556 : k < l.length := (by first | omega | (simp only [List.length_append, List.length_cons, List.length_nil, List.length_take, List.length_drop, List.length_set, List.length_replicate]; omega))
          exact ov_indexAddrN (k := 13) (i := k) Try.underlying24 Try.sizeOf38 (show _ = (vl : Value) from e554) hl.sl (show _ = (.int .i64 ((k : Nat) : Int) : Value) from e555) hi556 (fun vals' hv _ => ⟨rfl, hv⟩)
      · intro k557 vals w558 h561 h562 hW560 hA559
        have hkk : k557 = 0 ∨ k557 = 1 := by have h1 : 0 ≤ k557 := h561; have h2 : k557 ≤ 1 := h562; omega
        rcases hkk with rfl | rfl
        · skip
          have hS563 : Sep G W ((RefO a19 p (rowsK p l g k)) :: (ProjO a16 p (addsM p l g k)) :: (Blk b2 (p.cells).toArray 23) :: Rs) w558 := hW560
          have e564 : vals 3 = (.pointer (some ⟨sb vl, so vl + k * 13, none⟩) : Value) := hA559 3 (by decide)
          refine obl rfl ?_
          have hi566 : k < l.length := (by first | omega | (simp only [List.length_append, List.length_cons, List.length_nil, List.length_take, List.length_drop, List.length_set, List.length_replicate]; omega))
          obtain ⟨hce565, hde565_0, hoke565⟩ := hl.ent hi566
          rw [← getD_at default hi566] at hce565 hde565_0 hoke565
          have hsm567 : ((l.getD k default).ev.deps).length * 8 ≤ 140737488355328 := hde565_0.small
          have hcw568 := hS563.cells hce565 (hl.foot (ne_of_lt hi566))
          exact ov_loadk (k := 13) Try.isAgg38 Try.sizeOf38 rfl (show _ = (.pointer (some ⟨sb vl, so vl + k * 13, none⟩) : Value) from e564) hcw568 (fun vals' hv _ => ⟨rfl, hv⟩)
        · skip
          obtain ⟨he507, hS569⟩ : (vals 7 = (.int .i64 (regI g k) : Value)) ∧ Sep G W ((RefO a19 p (rowsK p l g k)) :: (ProjO a16 p (addsM p l g k)) :: (Blk b2 (p.cells).toArray 23) :: Rs) w558 := hW560
          have e570 : vals 3 = (.pointer (some ⟨sb vl, so vl + k * 13, none⟩) : Value) := hA559 3 (by decide)
          refine obl rfl ?_
          have hi572 : k < l.length := (by first | omega | (simp only [List.length_append, List.length_cons, List.length_nil, List.length_take, List.length_drop, List.length_set, List.length_replicate]; omega))
          obtain ⟨hce571, hde571_0, hoke571⟩ := hl.ent hi572
          rw [← getD_at default hi572] at hce571 hde571_0 hoke571
          have hsm573 : ((l.getD k default).ev.deps).length * 8 ≤ 140737488355328 := hde571_0.small
          have hcw574 := hS569.cells hce571 (hl.foot (ne_of_lt hi572))
          exact ov_loadk (k := 13) Try.isAgg38 Try.sizeOf38 rfl (show _ = (.pointer (some ⟨sb vl, so vl + k * 13, none⟩) : Value) from e570) hcw574 (fun vals' hv _ => ⟨rfl, hv⟩)
      · intro k575 vals w576 h579 h580 hW578 hA577
        refine obl rfl ?_
        exact ov_move (v := vg) rfl (fun vals' hv _ => ⟨rfl, hv⟩)
      · intro k581 vals w582 h585 h586 hW584 hA583
        refine obl rfl ?_
        exact ov_move (v := .int .i64 ((k : Nat) : Int)) rfl (fun vals' hv _ => ⟨rfl, hv⟩)
      · intro k496 vals w497 h500 h501 hW499 hA498
        obtain rfl : k496 = 0 := Nat.le_antisymm h501 h500
        have hS502 : Sep G W ((RefO a19 p (rowsK p l g k)) :: (ProjO a16 p (addsM p l g k)) :: (Blk b2 (p.cells).toArray 23) :: Rs) w497 := hW499
        have e503 : vals 5 = (vg : Value) := hA498 5 (by decide)
        have e504 : vals 6 = (.int .i64 ((k : Nat) : Int) : Value) := hA498 6 (by decide)
        refine obl rfl ?_
        refine (ov_call (f := 13) (vals := [vg, .int .i64 ((k : Nat) : Int)]) (cap := []) (show _ = (.func (.func 13) #[] #[] : Value) from rfl) (mapL ⟨(show _ = (vg : Value) from e503), (show _ = (.int .i64 ((k : Nat) : Int) : Value) from e504), trivial⟩) Try.call13 (D_reg (g := g) (vg := vg) (i := k) hg (by first | omega | (refine ⟨?_, ?_⟩ <;> omega)) hS502) ?_)
        rintro _ w505 ⟨rfl, hS506⟩
        intro vals' hv hv'
        refine ⟨?_, trivial⟩
        show (vals' 7 = (.int .i64 (regI g k) : Value)) ∧ Sep G W ((RefO a19 p (rowsK p l g k)) :: (ProjO a16 p (addsM p l g k)) :: (Blk b2 (p.cells).toArray 23) :: Rs) w505
        exact ⟨hv, hS506⟩
      · intro k508 vals w509 h512 h513 hW511 hA510
        obtain rfl : k508 = 1 := Nat.le_antisymm h513 h512
        obtain ⟨he507, hS514⟩ : (vals 7 = (.int .i64 (regI g k) : Value)) ∧ Sep G W ((RefO a19 p (rowsK p l g k)) :: (ProjO a16 p (addsM p l g k)) :: (Blk b2 (p.cells).toArray 23) :: Rs) w509 := hW511
        have e515 : vals 0 = (.pointer (some ⟨a16, 0, none⟩) : Value) := hA510 0 (by decide)
        have e516 : vals 4 = (.agg ((l.getD k default).cells (cellV W (sb vl) (so vl + k * 13 + 3))).toArray : Value) := hA510 4 (by decide)
        refine obl rfl ?_
        have hi518 : k < l.length := (by first | omega | (simp only [List.length_append, List.length_cons, List.length_nil, List.length_take, List.length_drop, List.length_set, List.length_replicate]; omega))
        obtain ⟨hce517, hde517_0, hoke517⟩ := hl.ent hi518
        rw [← getD_at default hi518] at hce517 hde517_0 hoke517
        have hsm519 : ((l.getD k default).ev.deps).length * 8 ≤ 140737488355328 := hde517_0.small
        have hcw520 := hS514.cells hce517 (hl.foot (ne_of_lt hi518))
        have hS521 : Sep G W ((ProjO a16 p (addsM p l g k)) :: (RefO a19 p (rowsK p l g k)) :: (Blk b2 (p.cells).toArray 23) :: Rs) w509 := hS514.sel 3 [1, 0, 2] (Nat.le_add_left _ _) rfl rfl
        refine (ov_call (f := 19) (vals := [.pointer (some ⟨a16, 0, none⟩), .agg ((l.getD k default).cells (cellV W (sb vl) (so vl + k * 13 + 3))).toArray, .int .i64 (regI g k)]) (cap := []) (show _ = (.func (.func 19) #[] #[] : Value) from rfl) (mapL ⟨(show _ = (.pointer (some ⟨a16, 0, none⟩) : Value) from e515), (show _ = (.agg ((l.getD k default).cells (cellV W (sb vl) (so vl + k * 13 + 3))).toArray : Value) from e516), (show _ = (.int .i64 (regI g k) : Value) from he507), trivial⟩) Try.call19 (D_Add (e := (l.getD k default)) (reg := regI g k) hde517_0 hoke517 (regI_in hg.allR k) hS521 (fun gq => by have := cnt_of (adds_good p l g k) gq; omega)) ?_)
        rintro _ w522 ⟨rfl, hS523⟩
        intro vals' hv hv'
        refine ⟨?_, trivial⟩
        show (vals' 7 = (.int .i64 (regI g k) : Value)) ∧ (vals' 8 = (.tuple #[] : Value)) ∧ Sep G W ((ProjO a16 p (addM p (addsM p l g k) (l.getD k default) (regI g k))) :: (RefO a19 p (rowsK p l g k)) :: (Blk b2 (p.cells).toArray 23) :: Rs) w522
        exact ⟨(by rw [hv' 7 (by decide)]; exact he507), hv, hS523⟩
      intro vals w587 hW588 hA589
      obtain ⟨he507, he524, hS590⟩ : (vals 7 = (.int .i64 (regI g k) : Value)) ∧ (vals 8 = (.tuple #[] : Value)) ∧ Sep G W ((ProjO a16 p (addM p (addsM p l g k) (l.getD k default) (regI g k))) :: (RefO a19 p (rowsK p l g k)) :: (Blk b2 (p.cells).toArray 23) :: Rs) w587 := hW588
      refine st_env (kv := [(1, vl), (2, vg), (3, .int .i64 ((q23 : Nat) : Int)), (9, .pointer (some ⟨a16, 0, none⟩)), (10, .pointer (some ⟨a19, 0, none⟩)), (11, .int .i64 ((k : Nat) : Int)), (35, .int .i64 ((k : Nat) : Int)), (36, .int .i64 ((q23 : Nat) : Int)), (37, .bool true)]) ⟨rfl, rfl, rfl, rfl, rfl, rfl, rfl, rfl, rfl, trivial⟩ (fun ρw587 => ?_)
      refine st_nil ?_
      refine WP_draw4 (WF [fun vals wq => Sep G W ((ProjO a16 p (addM p (addsM p l g k) (l.getD k default) (regI g k))) :: (RefO a19 p (rowsK p l g k)) :: (Blk b2 (p.cells).toArray 23) :: Rs) wq, fun vals wq => (vals 7 = (.int .i64 (regI g k) : Value)) ∧ Sep G W ((ProjO a16 p (addM p (addsM p l g k) (l.getD k default) (regI g k))) :: (RefO a19 p (rowsK p l g k)) :: (Blk b2 (p.cells).toArray 23) :: Rs) wq, fun vals wq => ∃ (l2669 : List Row), (vals 7 = (.int .i64 (regI g k) : Value)) ∧ (vals 8 = (.tuple #[] : Value)) ∧ (AddRel p (rowsK p l g k) (l.getD k default) (regI g k) l2669) ∧ Sep G W ((RefO a19 p l2669) :: (ProjO a16 p (addM p (addsM p l g k) (l.getD k default) (regI g k))) :: (Blk b2 (p.cells).toArray 23) :: Rs) wq]) (AF [fun vals => vals 0 = (.pointer (some ⟨a19, 0, none⟩) : Value), fun vals => vals 1 = (vl : Value), fun vals => vals 2 = (.int .i64 ((k : Nat) : Int) : Value), fun vals => vals 3 = (.pointer (some ⟨sb vl, so vl + k * 13, none⟩) : Value), fun vals => vals 4 = (.agg ((l.getD k default).cells (cellV W (sb vl) (so vl + k * 13 + 3))).toArray : Value), fun vals => vals 5 = (vg : Value), fun vals => vals 6 = (.int .i64 ((k : Nat) : Int) : Value), fun _ => True, fun _ => True]) [[], [], [], [1, 2], [1, 2, 3], [], [], [5, 6], [0, 1, 2, 3, 4, 5, 6, 7]] [7, 8] [(0, 1), (0, 1), (0, 1), (0, 1), (0, 1), (0, 0), (0, 0), (0, 0), (1, 1)] (by kernel_rfl) (by kernel_rfl) (by kernel_rfl) rfl (by kernel_rfl) (by kernel_rfl) (fun _ h1 h2 h3 h4 _ => hS590.same h1 h2 h3 h4) ?_ ?_ ⟨?_, ?_, ?_, ?_, ?_, ?_, ?_, ?_, ?_, trivial⟩ ?_
      · intro k vals vals' w hv h
        have e : ∀ j ∈ ([7, 8] : List Nat), vals' j = vals j := hv
        match k, h with
        | 0, h => exact h
        | 1, h => exact (by simpa only [WF, List.getElem?_cons_zero, List.getElem?_cons_succ, e 7 (by decide)] using h)
        | 2, h => exact (by simpa only [WF, List.getElem?_cons_zero, List.getElem?_cons_succ, e 7 (by decide), e 8 (by decide)] using h)
        | _ + 3, _ => trivial
      · intro i vals vals' hv h
        match i, hv, h with
        | 0, hv, h => exact (hv 0 (.inl rfl)).trans h
        | 1, hv, h => exact (hv 1 (.inl rfl)).trans h
        | 2, hv, h => exact (hv 2 (.inl rfl)).trans h
        | 3, hv, h => exact (hv 3 (.inl rfl)).trans h
        | 4, hv, h => exact (hv 4 (.inl rfl)).trans h
        | 5, hv, h => exact (hv 5 (.inl rfl)).trans h
        | 6, hv, h => exact (hv 6 (.inl rfl)).trans h
        | 7, _, _ => trivial
        | 8, _, _ => trivial
        | _ + 9, _, _ => trivial
      · intro k674 vals w675 h678 h679 hW677 hA676
        refine obl rfl ?_
        exact ov_move (v := .pointer (some ⟨a19, 0, none⟩)) rfl (fun vals' hv _ => ⟨rfl, hv⟩)
      · intro k680 vals w681 h684 h685 hW683 hA682
        refine obl rfl ?_
        exact ov_move (v := vl) rfl (fun vals' hv _ => ⟨rfl, hv⟩)
      · intro k686 vals w687 h690 h691 hW689 hA688
        refine obl rfl ?_
        exact ov_move (v := .int .i64 ((k : Nat) : Int)) rfl (fun vals' hv _ => ⟨rfl, hv⟩)
      · intro k692 vals w693 h696 h697 hW695 hA694
        have hkk : k692 = 0 ∨ k692 = 1 := by have h1 : 0 ≤ k692 := h696; have h2 : k692 ≤ 1 := h697; omega
        rcases hkk with rfl | rfl
        · skip
          have hS698 : Sep G W ((ProjO a16 p (addM p (addsM p l g k) (l.getD k default) (regI g k))) :: (RefO a19 p (rowsK p l g k)) :: (Blk b2 (p.cells).toArray 23) :: Rs) w693 := hW695
          have e699 : vals 1 = (vl : Value) := hA694 1 (by decide)
          have e700 : vals 2 = (.int .i64 ((k : Nat) : Int) : Value) := hA694 2 (by decide)
          refine obl rfl ?_
          have hi701 : k < l.length := (by first | omega | (simp only [List.length_append, List.length_cons, List.length_nil, List.length_take, List.length_drop, List.length_set, List.length_replicate]; omega))
          exact ov_indexAddrN (k := 13) (i := k) Try.underlying24 Try.sizeOf38 (show _ = (vl : Value) from e699) hl.sl (show _ = (.int .i64 ((k : Nat) : Int) : Value) from e700) hi701 (fun vals' hv _ => ⟨rfl, hv⟩)
        · skip
          obtain ⟨he654, hS702⟩ : (vals 7 = (.int .i64 (regI g k) : Value)) ∧ Sep G W ((ProjO a16 p (addM p (addsM p l g k) (l.getD k default) (regI g k))) :: (RefO a19 p (rowsK p l g k)) :: (Blk b2 (p.cells).toArray 23) :: Rs) w693 := hW695
          have e703 : vals 1 = (vl : Value) := hA694 1 (by decide)
          have e704 : vals 2 = (.int .i64 ((k : Nat) : Int) : Value) := hA694 2 (by decide)
          refine obl rfl ?_
          have hi705 : k < l.length := (by first | omega | (simp only [List.length_append, List.length_cons, List.length_nil, List.length_take, List.length_drop, List.length_set, List.length_replicate]; omega))
          exact ov_indexAddrN (k := 13) (i := k) Try.underlying24 Try.sizeOf38 (show _ = (vl : Value) from e703) hl.sl (show _ = (.int .i64 ((k : Nat) : Int) : Value) from e704) hi705 (fun vals' hv _ => ⟨rfl, hv⟩)
      · intro k706 vals w707 h710 h711 hW709 hA708
        have hkk : k706 = 0 ∨ k706 = 1 := by have h1 : 0 ≤ k706 := h710; have h2 : k706 ≤ 1 := h711; omega
        rcases hkk with rfl | rfl
        · skip
          have hS712 : Sep G W ((ProjO a16 p (addM p (addsM p l g k) (l.getD k default) (regI g k))) :: (RefO a19 p (rowsK p l g k)) :: (Blk b2 (p.cells).toArray 23) :: Rs) w707 := hW709
          have e713 : vals 3 = (.pointer (some ⟨sb vl, so vl + k * 13, none⟩) : Value) := hA708 3 (by decide)
          refine obl rfl ?_
          have hi715 : k < l.length := (by first | omega | (simp only [List.length_append, List.length_cons, List.length_nil, List.length_take, List.length_drop, List.length_set, List.length_replicate]; omega))
          obtain ⟨hce714, hde714_0, hoke714⟩ := hl.ent hi715
          rw [← getD_at default hi715] at hce714 hde714_0 hoke714
          have hsm716 : ((l.getD k default).ev.deps).length * 8 ≤ 140737488355328 := hde714_0.small
          have hcw717 := hS712.cells hce714 (hl.foot (ne_of_lt hi715))
          exact ov_loadk (k := 13) Try.isAgg38 Try.sizeOf38 rfl (show _ = (.pointer (some ⟨sb vl, so vl + k * 13, none⟩) : Value) from e713) hcw717 (fun vals' hv _ => ⟨rfl, hv⟩)
        · skip
          obtain ⟨he654, hS718⟩ : (vals 7 = (.int .i64 (regI g k) : Value)) ∧ Sep G W ((ProjO a16 p (addM p (addsM p l g k) (l.getD k default) (regI g k))) :: (RefO a19 p (rowsK p l g k)) :: (Blk b2 (p.cells).toArray 23) :: Rs) w707 := hW709
          have e719 : vals 3 = (.pointer (some ⟨sb vl, so vl + k * 13, none⟩) : Value) := hA708 3 (by decide)
          refine obl rfl ?_
          have hi721 : k < l.length := (by first | omega | (simp only [List.length_append, List.length_cons, List.length_nil, List.length_take, List.length_drop, List.length_set, List.length_replicate]; omega))
          obtain ⟨hce720, hde720_0, hoke720⟩ := hl.ent hi721
          rw [← getD_at default hi721] at hce720 hde720_0 hoke720
          have hsm722 : ((l.getD k default).ev.deps).length * 8 ≤ 140737488355328 := hde720_0.small
          have hcw723 := hS718.cells hce720 (hl.foot (ne_of_lt hi721))
          exact ov_loadk (k := 13) Try.isAgg38 Try.sizeOf38 rfl (show _ = (.pointer (some ⟨sb vl, so vl + k * 13, none⟩) : Value) from e719) hcw723 (fun vals' hv _ => ⟨rfl, hv⟩)
      · intro k724 vals w725 h728 h729 hW727 hA726
        refine obl rfl ?_
        exact ov_move (v := vg) rfl (fun vals' hv _ => ⟨rfl, hv⟩)
      · intro k730 vals w731 h734 h735 hW733 hA732
        refine obl rfl ?_
        exact ov_move (v := .int .i64 ((k : Nat) : Int)) rfl (fun vals' hv _ => ⟨rfl, hv⟩)
      · intro k643 vals w644 h647 h648 hW646 hA645
        obtain rfl : k643 = 0 := Nat.le_antisymm h648 h647
        have hS649 : Sep G W ((ProjO a16 p (addM p (addsM p l g k) (l.getD k default) (regI g k))) :: (RefO a19 p (rowsK p l g k)) :: (Blk b2 (p.cells).toArray 23) :: Rs) w644 := hW646
        have e650 : vals 5 = (vg : Value) := hA645 5 (by decide)
        have e651 : vals 6 = (.int .i64 ((k : Nat) : Int) : Value) := hA645 6 (by decide)
        refine obl rfl ?_
        refine (ov_call (f := 13) (vals := [vg, .int .i64 ((k : Nat) : Int)]) (cap := []) (show _ = (.func (.func 13) #[] #[] : Value) from rfl) (mapL ⟨(show _ = (vg : Value) from e650), (show _ = (.int .i64 ((k : Nat) : Int) : Value) from e651), trivial⟩) Try.call13 (D_reg (g := g) (vg := vg) (i := k) hg (by first | omega | (refine ⟨?_, ?_⟩ <;> omega)) hS649) ?_)
        rintro _ w652 ⟨rfl, hS653⟩
        intro vals' hv hv'
        refine ⟨?_, trivial⟩
        show (vals' 7 = (.int .i64 (regI g k) : Value)) ∧ Sep G W ((ProjO a16 p (addM p (addsM p l g k) (l.getD k default) (regI g k))) :: (RefO a19 p (rowsK p l g k)) :: (Blk b2 (p.cells).toArray 23) :: Rs) w652
        exact ⟨hv, hS653⟩
      · intro k655 vals w656 h659 h660 hW658 hA657
        obtain rfl : k655 = 1 := Nat.le_antisymm h660 h659
        obtain ⟨he654, hS661⟩ : (vals 7 = (.int .i64 (regI g k) : Value)) ∧ Sep G W ((ProjO a16 p (addM p (addsM p l g k) (l.getD k default) (regI g k))) :: (RefO a19 p (rowsK p l g k)) :: (Blk b2 (p.cells).toArray 23) :: Rs) w656 := hW658
        have e662 : vals 0 = (.pointer (some ⟨a19, 0, none⟩) : Value) := hA657 0 (by decide)
        have e663 : vals 4 = (.agg ((l.getD k default).cells (cellV W (sb vl) (so vl + k * 13 + 3))).toArray : Value) := hA657 4 (by decide)
        refine obl rfl ?_
        have hi665 : k < l.length := (by first | omega | (simp only [List.length_append, List.length_cons, List.length_nil, List.length_take, List.length_drop, List.length_set, List.length_replicate]; omega))
        obtain ⟨hce664, hde664_0, hoke664⟩ := hl.ent hi665
        rw [← getD_at default hi665] at hce664 hde664_0 hoke664
        have hsm666 : ((l.getD k default).ev.deps).length * 8 ≤ 140737488355328 := hde664_0.small
        have hcw667 := hS661.cells hce664 (hl.foot (ne_of_lt hi665))
        have hS668 : Sep G W ((RefO a19 p (rowsK p l g k)) :: (ProjO a16 p (addM p (addsM p l g k) (l.getD k default) (regI g k))) :: (Blk b2 (p.cells).toArray 23) :: Rs) w656 := hS661.sel 3 [1, 0, 2] (Nat.le_add_left _ _) rfl rfl
        refine (ov_call (f := 20) (vals := [.pointer (some ⟨a19, 0, none⟩), .agg ((l.getD k default).cells (cellV W (sb vl) (so vl + k * 13 + 3))).toArray, .int .i64 (regI g k)]) (cap := []) (show _ = (.func (.func 20) #[] #[] : Value) from rfl) (mapL ⟨(show _ = (.pointer (some ⟨a19, 0, none⟩) : Value) from e662), (show _ = (.agg ((l.getD k default).cells (cellV W (sb vl) (so vl + k * 13 + 3))).toArray : Value) from e663), (show _ = (.int .i64 (regI g k) : Value) from he654), trivial⟩) Try.call20 (D_refAdd (e := (l.getD k default)) (reg := regI g k) hde664_0 hoke664 (regI_in hg.allR k) hS668 (rowsK_cnt (by omega)) (Nat.le_trans (rowsK_len _ _ _ _) (by omega))) ?_)
        rintro _ w671 ⟨l2669, rfl, hrel670, hS672⟩
        intro vals' hv hv'
        refine ⟨?_, trivial⟩
        show ∃ (l2669 : List Row), (vals' 7 = (.int .i64 (regI g k) : Value)) ∧ (vals' 8 = (.tuple #[] : Value)) ∧ (AddRel p (rowsK p l g k) (l.getD k default) (regI g k) l2669) ∧ Sep G W ((RefO a19 p l2669) :: (ProjO a16 p (addM p (addsM p l g k) (l.getD k default) (regI g k))) :: (Blk b2 (p.cells).toArray 23) :: Rs) w671
        exact ⟨l2669, (by rw [hv' 7 (by decide)]; exact he654), hv, hrel670, hS672⟩
      intro vals w736 hW737 hA738
      obtain ⟨l2669, he654, he673, hrel670, hS739⟩ : ∃ (l2669 : List Row), (vals 7 = (.int .i64 (regI g k) : Value)) ∧ (vals 8 = (.tuple #[] : Value)) ∧ (AddRel p (rowsK p l g k) (l.getD k default) (regI g k) l2669) ∧ Sep G W ((RefO a19 p l2669) :: (ProjO a16 p (addM p (addsM p l g k) (l.getD k default) (regI g k))) :: (Blk b2 (p.cells).toArray 23) :: Rs) w736 := hW737
      refine st_env (kv := [(1, vl), (2, vg), (3, .int .i64 ((q23 : Nat) : Int)), (9, .pointer (some ⟨a16, 0, none⟩)), (10, .pointer (some ⟨a19, 0, none⟩)), (11, .int .i64 ((k : Nat) : Int)), (35, .int .i64 ((k : Nat) : Int)), (36, .int .i64 ((q23 : Nat) : Int)), (37, .bool true)]) ⟨rfl, rfl, rfl, rfl, rfl, rfl, rfl, rfl, rfl, trivial⟩ (fun ρw736 => ?_)
      refine st_nil ?_
      refine WP_region0 (by kernel_rfl) (fun _ => ?_)
      refine st (ov_move (v := .int .i64 ((k : Nat) : Int)) rfl ?_)
      have hr740 : InR ((k + 1 : Nat) : Int) := by first | omega | (simp only [List.length_append, List.length_cons, List.length_nil, List.length_take, List.length_drop, List.length_set, List.length_replicate]; omega)
      refine st (ov_add (r := ((k + 1 : Nat) : Int)) (k := .i64) (a := ((k : Nat) : Int)) (b := 1) rfl rfl (by rw [show (((k : Nat) : Int) + 1 : Int) = ((k + 1 : Nat) : Int) by first | omega | (simp only [List.length_append, List.length_cons, List.length_nil, List.length_take, List.length_drop, List.length_set, List.length_replicate]; omega)]; exact wrap_in hr740) ?_)
      refine st (ov_assign (v := .int .i64 ((k + 1 : Nat) : Int)) rfl ?_)
      refine st_nil ?_
      have hL742 : (rowsK p l g (k + 1)) = l2669 := (rowsK_step hrel670).symm
      rw [← hL742] at hS739
      exact ⟨_, by omega, k + 1, _, rfl, setAll_self ⟨rfl, rfl, rfl, rfl, rfl, rfl, trivial⟩, by omega, hS739⟩
  · skip
    simp only [Bool.and_eq_true, Bool.or_eq_true, Bool.and_eq_false_iff, Bool.or_eq_false_iff, decide_eq_true_eq, decide_eq_false_iff_not, Bool.not_eq_true', Bool.not_eq_false', Int.not_lt, Int.not_le] at hc15
    refine WP_cond_t rfl ?_
    refine WP_seq ?_
    refine WP_region0 (by kernel_rfl) (fun _ => ?_)
    refine st (ov_call (f := 10) (vals := []) (cap := []) (show _ = (.func (.func 10) #[] #[] : Value) from rfl) rfl Try.call10 (D_works  hS8) ?_)
    rintro _ w743 ⟨rfl, hS744⟩
    refine st (ov_assign (v := .bool true) rfl ?_)
    refine st_nil ?_
    refine WP_ret ?_
    refine fin1 Try.results7 (show _ = (.bool true : Value) from rfl) ?_
    have hS745 : Sep G W Rs w743 := hS744.sel 1 [] (Nat.le_add_left _ _) rfl rfl
    refine ⟨rfl, hS745⟩

end Go.Proofs.Ytbbpmhfcgoljdaa
