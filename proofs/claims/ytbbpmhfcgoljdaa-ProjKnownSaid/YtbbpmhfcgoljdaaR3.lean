/- Steps of the proofs of this seat: part R3. -/
import Derived.Test.YtbbpmhfcgoljdaaPlain16d
set_option linter.unusedSimpArgs false
set_option linter.unusedVariables false
namespace Go.Proofs.Ytbbpmhfcgoljdaa
open Go.Proofs Go.RowKit

theorem C_refNew {w : World} {p : Prj} (op : p.Ok) : Ret Try.prog 18 [.agg (p.cells).toArray] w (fun r w' => ∃ a, r = .pointer (some ⟨a, 0, none⟩) ∧ Ext w w' ∧ w.heap.size ≤ a ∧ w'.heap[a]? = some (.cells #[.int .i64 (p.ptyp), .int .i64 (p.pfield), .int .i64 (p.pgroup), .int .i64 (p.pby), .int .i64 (p.pmake), .slice none 0 0] 60)) := by
  refine Calls_of_WP (args := [.agg (p.cells).toArray]) Try.func18 rfl rfl ?_
  refine WP_seq ?_
  refine WP_region0 (by kernel_rfl) (fun _ => ?_)
  refine st (ov_box (v := .agg (p.cells).toArray) rfl (fun w1 b2 hn1 => ?_))
  have hb3 : w1.heap[b2]? = some (.cells (p.cells).toArray 23) := hn1.at_
  have hs4 := hn1.size; have hs4e := hn1.eq
  refine st (ov_assign (v := .pointer none) rfl ?_)
  refine st_nil ?_
  refine WP_seq ?_
  refine WP_region0 (by kernel_rfl) (fun _ => ?_)
  refine st (ov_loadk (k := 5) Try.isAgg23 Try.sizeOf23 rfl rfl (CellsAt.all hb3) ?_)
  refine st (ov_build (parts' := [(0, .agg (p.cells).toArray)]) (v := .agg #[.int .i64 (p.ptyp), .int .i64 (p.pfield), .int .i64 (p.pgroup), .int .i64 (p.pby), .int .i64 (p.pmake), (.slice none 0 0)]) rfl (by simp [Instr.build, Instr.fill, Prj.cells, go_sem]) ?_)
  refine st (ov_box (v := .agg #[.int .i64 (p.ptyp), .int .i64 (p.pfield), .int .i64 (p.pgroup), .int .i64 (p.pby), .int .i64 (p.pmake), (.slice none 0 0)]) rfl (fun w2 b6 hn5 => ?_))
  have hb7 : w2.heap[b6]? = some (.cells #[.int .i64 (p.ptyp), .int .i64 (p.pfield), .int .i64 (p.pgroup), .int .i64 (p.pby), .int .i64 (p.pmake), (.slice none 0 0)] 60) := hn5.at_
  have hs8 := hn5.size; have hs8e := hn5.eq
  refine st (ov_assign (v := .pointer (some ⟨b6, 0, none⟩)) rfl ?_)
  refine st_nil ?_
  refine WP_ret ?_
  refine fin1 Try.results18 (show _ = (.pointer (some ⟨b6, 0, none⟩) : Value) from rfl) ?_
  refine ⟨_, rfl, (Chg.trans hn1.ext hn5.ext), by omega, hb7⟩

theorem C_refList {w : World} {a : Nat} {p : Prj} {vx : Value} {l : List Row} {Fl : Nat → Prop} (ha : w.heap[a]? = some (.cells #[.int .i64 (p.ptyp), .int .i64 (p.pfield), .int .i64 (p.pgroup), .int .i64 (p.pby), .int .i64 (p.pmake), vx] 60)) (op : p.Ok) (hl : RdS w Fl vx l) (hll : l.length ≤ 100000) : Ret Try.prog 24 [.pointer (some ⟨a, 0, none⟩)] w (fun r w' => Ext w w' ∧ Fresh 31 w.heap.size w' r l) := by
  have hal := blk_lt ha
  have hls : l.length * 24 ≤ 140737488355328 := hl.small
  refine Calls_of_WP (args := [.pointer (some ⟨a, 0, none⟩)]) Try.func24 rfl rfl ?_
  refine WP_seq ?_
  refine WP_region0 (by kernel_rfl) (fun _ => ?_)
  refine st (ov_assign (v := (.slice none 0 0)) rfl ?_)
  refine st_nil ?_
  refine WP_seq ?_
  refine WP_region0 (by kernel_rfl) (fun _ => ?_)
  refine st (ov_assign (v := (.slice none 0 0)) rfl ?_)
  refine st_nil ?_
  refine WP_seq ?_
  refine WP_seq ?_
  refine WP_region0 (by kernel_rfl) (fun _ => ?_)
  refine st (ov_assign (v := .int .i64 (0)) rfl ?_)
  refine st_nil ?_
  refine WP_block ?_
  refine WP_loop (fun mq σ wq => ∃ (k : Nat) (vo : Value) (ρ : Env), mq = l.length - k ∧ σ = setAll ρ [(0, .pointer (some ⟨a, 0, none⟩)), (3, vo), (4, .int .i64 ((k : Nat) : Int))] ∧ (Ext w wq) ∧ (k ≤ l.length) ∧ (OwnS (α := Row) 31 w.heap.size wq (fun _ => False) vo (l.take k))) ⟨0, .slice none 0 0, _, rfl, setAll_self ⟨rfl, rfl, rfl, trivial⟩, (Chg.refl _ _), Nat.zero_le _, OwnS.nil _ _ _ _ (fun _ h => h.elim)⟩ ?_
  rintro m1 σ2 w1 ⟨k, vo, ρ1, rfl, rfl, hxL, hkL, hoL⟩
  have hxLs := hxL.size; have htk : (l.take k).length = k := by rw [List.length_take]; omega
  refine WP_seq ?_
  refine WP_seq ?_
  refine WP_region0 (by kernel_rfl) (fun _ => ?_)
  refine st (ov_move (v := .int .i64 ((k : Nat) : Int)) rfl ?_)
  refine st (ov_move (v := .pointer (some ⟨a, 0, none⟩)) rfl ?_)
  refine st (ov_nilCheck (b := a) (o := 0) rfl ?_)
  refine st (fa60_1 rfl ?_)
  have h3 := hxL.keep ha (fun h => h)
  refine st (ov_load1 (v := vx) Try.isAgg28 rfl (blk_cellL h3 rfl) ?_)
  refine st (ov_len (n := l.length) Try.underlying28 rfl hl.sl ?_)
  refine st (ov_lss (k := .i64) (a := ((k : Nat) : Int)) (b := ((l.length : Nat) : Int)) rfl rfl ?_)
  refine st_nil ?_
  cases hc4 : decide (((k : Nat) : Int) < ((l.length : Nat) : Int))
  · skip
    have hc4 := of_decide_eq_false hc4
    refine WP_cond_f rfl ?_
    refine WP_exit ?_
    refine blk_exit ?_
    refine WP_seq ?_
    refine WP_region0 (by kernel_rfl) (fun _ => ?_)
    refine st (ov_move (v := vo) rfl ?_)
    refine st (ov_assign (v := vo) rfl ?_)
    refine st_nil ?_
    refine WP_ret ?_
    refine fin1 Try.results24 (show _ = (vo : Value) from rfl) ?_
    have hk : l.take k = l := List.take_of_length_le (by omega)
    have hfin := hoL
    rw [hk] at hfin
    exact ⟨hxL, (show Fresh 31 w.heap.size _ _ _ from ⟨_, hfin, fun _ h => h.elim⟩)⟩
  · skip
    have hc4 := of_decide_eq_true hc4
    refine WP_cond_t rfl ?_
    refine WP_skip ?_
    refine WP_seq ?_
    refine WP_block ?_
    refine WP_region0 (by kernel_rfl) (fun _ => ?_)
    refine st (ov_move (v := vo) rfl ?_)
    refine st (ov_move (v := .pointer (some ⟨a, 0, none⟩)) rfl ?_)
    refine st (ov_nilCheck (b := a) (o := 0) rfl ?_)
    refine st (fa60_1 rfl ?_)
    refine st (ov_load1 (v := vx) Try.isAgg28 rfl (blk_cellL h3 rfl) ?_)
    refine st (ov_move (v := .int .i64 ((k : Nat) : Int)) rfl ?_)
    have hi5 : k < l.length := by omega
    have h7 := hl.ext hxL
    have hi6 : k < l.length := by omega
    obtain ⟨hc6, hok6⟩ := h7.row hi6
    rw [← getD_at default hi6] at hc6 hok6
    refine st (ov_indexAddrN (k := 3) (i := k) Try.underlying28 Try.sizeOf31 rfl hl.sl rfl hi5 ?_)
    refine st (ov_loadk (k := 3) Try.isAgg31 Try.sizeOf31 rfl rfl hc6 ?_)
    refine st (ov_buildSlice (k := 3) (parts' := [(0, .agg ((l.getD k default).cells).toArray)]) (c := ((l.getD k default).cells).toArray) Try.underlying28 Try.sizeOf31 Try.zeroValue31 (by decide) rfl (by kernel_rfl) (fun w2 b9 hn8 => ?_))
    have hb10 : w2.heap[b9]? = some (.cells ((l.getD k default).cells).toArray 31) := hn8.at_
    have hs11 := hn8.size; have hs11e := hn8.eq
    have h15 := hoL.ext hn8.ext
    refine st (ov_append1 (bytes := 24) (x1 := (l.getD k default)) (F' := (fun _ => False)) elem28 rfl h15 rfl hb10 (G := fun _ => False) (show Rep.rd _ _ _ _ from ⟨rfl, hok6⟩) (fun _ h => h) (fun _ _ h => h) h15.apart h15.bound (by omega) (by first | omega | (simp only [List.length_take, List.length_drop, List.length_nil, List.length_append, List.length_cons]; omega)) rfl (fun v12 w3 ho13 hch14 => ?_))
    have hla16 : (l.take k ++ [(l.getD k default)]).length = (l.take k).length + 1 := by simp only [List.length_append, List.length_cons, List.length_nil]
    have hs17 := hch14.size
    refine st (ov_assign (v := v12) rfl ?_)
    refine st_nil ?_
    refine WP_region0 (by kernel_rfl) (fun _ => ?_)
    refine st (ov_move (v := .int .i64 ((k : Nat) : Int)) rfl ?_)
    have hr18 : InR ((k + 1 : Nat) : Int) := by omega
    refine st (ov_add (r := ((k + 1 : Nat) : Int)) (k := .i64) (a := ((k : Nat) : Int)) (b := 1) rfl rfl (by rw [show (((k : Nat) : Int) + 1 : Int) = ((k + 1 : Nat) : Int) by omega]; exact wrap_in hr18) ?_)
    refine st (ov_assign (v := .int .i64 ((k + 1 : Nat) : Int)) rfl ?_)
    refine st_nil ?_
    exact ⟨_, by omega, k + 1, v12, _, rfl, setAll_self ⟨rfl, rfl, rfl, trivial⟩, (Chg.new (Chg.trans hxL hn8.ext) hch14 (fun i hi hO => by have := (h15.lt i hO).1; omega)), by omega, (by rw [List.take_succ_eq_append_getElem (by omega), ← getD_atR l (by omega)]; exact ho13)⟩

end Go.Proofs.Ytbbpmhfcgoljdaa
