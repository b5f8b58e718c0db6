/- Steps of the proofs of this seat: part LVoid. -/
import Derived.Test.YtbbpmhfcgoljdaaL0
set_option linter.unusedSimpArgs false
set_option linter.unusedVariables false
namespace Go.Proofs.Ytbbpmhfcgoljdaa
open Go.Proofs Go.RowKit

set_option maxHeartbeats 4000000 in
theorem C_ProjVoid {w : World} {p : Prj} (op : p.Ok) {Fl : Nat → Prop} {vl : Value} {l : List Ent} (hl0 : RdS w Fl vl l) {Fg : Nat → Prop} {vg : Value} {g : List Int} (hg : RdS w Fg vg g) : Ret Try.prog 5 [.agg (p.cells).toArray, vl, vg] w (fun r w' => r = .bool true ∧ Ext w w') := by
  have hgs : g.length * 8 ≤ 140737488355328 := hg.small
  have hl := hl0.bnd
  have hls : l.length * 120 ≤ 140737488355328 := hl.small
  refine Calls_of_WP (args := [.agg (p.cells).toArray, vl, vg]) Try.func5 rfl rfl ?_
  refine WP_seq ?_
  refine WP_region0 (by kernel_rfl) (fun _ => ?_)
  refine st (ov_box (v := .agg (p.cells).toArray) rfl (fun w1 b2 hn1 => ?_))
  have hb3 : w1.heap[b2]? = some (.cells (p.cells).toArray 23) := hn1.at_
  have hs4 := hn1.size; have hs4e := hn1.eq
  refine st (ov_assign (v := .bool false) rfl ?_)
  refine st_nil ?_
  refine WP_seq ?_
  refine WP_seq ?_
  refine WP_region (by kernel_rfl) ?_
  refine st (ov_move (v := vl) rfl ?_)
  have h8 := hl.ext hn1.ext
  refine st (ov_call (f := 9) (vals := [vl]) (cap := []) (show _ = (.func (.func 9) #[] #[] : Value) from rfl) rfl Try.call9 (C_Long h8) ?_)
  rintro _ w2 ⟨bb5, rfl, hlong7, hx6⟩
  have hx6s := hx6.size
  refine st (ov_move (v := .bool bb5) rfl ?_)
  refine stc (V := vg) rfl rfl (fun hb9 => ?_) ?_
  · have hl10 : bb5 = false := hb9
    exact ov_move (v := vg) rfl ⟨rfl, rfl⟩
  refine stc (V := .int .i64 ((g.length : Nat) : Int)) rfl rfl (fun hb11 => ?_) ?_
  · have hl12 : bb5 = false := hb11
    exact ov_len (n := g.length) Try.underlying25 (show _ = (vg : Value) from (if_pos hb11)) hg.sl ⟨rfl, rfl⟩
  refine stc (V := .bool (decide (100 < ((g.length : Nat) : Int)))) rfl rfl (fun hb13 => ?_) ?_
  · have hl14 : bb5 = false := hb13
    exact ov_gtr (k := .i64) (a := ((g.length : Nat) : Int)) (b := 100) (show _ = (.int .i64 ((g.length : Nat) : Int) : Value) from (if_pos hb13)) rfl ⟨rfl, rfl⟩
  refine st (ov_pick_or (b := bb5) (b' := decide (100 < ((g.length : Nat) : Int))) rfl (fun hbp => (show _ = (.bool (decide (100 < ((g.length : Nat) : Int))) : Value) from (if_pos hbp))) ?_)
  refine st_nil ?_
  cases hc15 : bb5 || (decide (100 < ((g.length : Nat) : Int)))
  · skip
    simp only [Bool.and_eq_true, Bool.or_eq_true, Bool.and_eq_false_iff, Bool.or_eq_false_iff, decide_eq_true_eq, decide_eq_false_iff_not, Bool.not_eq_true', Bool.not_eq_false', Int.not_lt, Int.not_le] at hc15
    have hl300 := hlong7 hc15.1
    refine WP_cond_f rfl ?_
    refine WP_skip ?_
    refine WP_seq ?_
    refine WP_region0 (by kernel_rfl) (fun _ => ?_)
    refine st (ov_assign (v := (.slice none 0 0)) rfl ?_)
    refine st_nil ?_
    refine WP_seq ?_
    refine WP_region0 (by kernel_rfl) (fun _ => ?_)
    refine st (ov_assign (v := (.slice none 0 0)) rfl ?_)
    refine st_nil ?_
    refine WP_seq ?_
    refine WP_seq ?_
    refine WP_region0 (by kernel_rfl) (fun _ => ?_)
    refine st (ov_assign (v := .int .i64 (0)) rfl ?_)
    refine st_nil ?_
    refine WP_block ?_
    refine WP_loop (fun mq σ wq => ∃ (k : Nat) (vx : Value) (vr : Value) (ρ : Env), mq = l.length - k ∧ σ = setAll ρ [(1, vl), (2, vg), (3, .pointer (some ⟨b2, 0, none⟩)), (9, .int .i64 ((k : Nat) : Int)), (7, vx), (8, vr)] ∧ (Ext w2 wq) ∧ (k ≤ l.length) ∧ (OwnS (α := Ent) 38 w2.heap.size wq (fun b => b < w.heap.size) vx (entsOf (voidQ p l g k))) ∧ (OwnS (α := Int) 3 w2.heap.size wq (fun _ => False) vr (regsOf (voidQ p l g k))) ∧ (∀ b, vx.ownBlock = some b → vr.ownBlock ≠ some b)) ⟨0, .slice none 0 0, .slice none 0 0, _, rfl, setAll_self ⟨rfl, rfl, rfl, rfl, rfl, rfl, trivial⟩, (Chg.refl _ _), Nat.zero_le _, OwnS.nil _ _ _ _ (fun b hb => by have hb : b < w.heap.size := hb; exact ⟨by omega, fun h => by omega⟩), OwnS.nil _ _ _ _ (fun _ h => h.elim), (fun b h => by cases h)⟩ ?_
    rintro m16 σ17 w3 ⟨k, vx, vr, ρ3, rfl, rfl, hxM, hkM, ho_vx, ho_vr, hap_vx_vr⟩
    have hxMs := hxM.size
    have hap_vr_vx : ∀ b, vr.ownBlock = some b → vx.ownBlock ≠ some b := fun b h1 h2 => hap_vx_vr b h2 h1
    have hX1 : (entsOf (voidQ p l g k)).length ≤ 300 := by rw [entsOf_len]; exact Nat.le_trans (voidQ_len p l g k) hl300
    have hX2 : (regsOf (voidQ p l g k)).length ≤ 300 := by rw [regsOf_len]; exact Nat.le_trans (voidQ_len p l g k) hl300
    refine WP_seq ?_
    refine WP_seq ?_
    refine WP_region0 (by kernel_rfl) (fun _ => ?_)
    refine st (ov_move (v := .int .i64 ((k : Nat) : Int)) rfl ?_)
    refine st (ov_move (v := vl) rfl ?_)
    refine st (ov_len (n := l.length) Try.underlying24 rfl h8.sl ?_)
    refine st (ov_lss (k := .i64) (a := ((k : Nat) : Int)) (b := ((l.length : Nat) : Int)) rfl rfl ?_)
    refine st_nil ?_
    cases hc18 : decide (((k : Nat) : Int) < ((l.length : Nat) : Int))
    · skip
      have hc18 := of_decide_eq_false hc18
      refine WP_cond_f rfl ?_
      refine WP_exit ?_
      refine blk_exit ?_
      refine WP_seq ?_
      refine WP_draw Ext (AL [fun v w => v = (.agg (p.cells).toArray : Value), fun v w => v = (vx : Value), fun v w => v = (vr : Value), fun v w => Fresh (α := Row) 31 w3.heap.size w v (rowsL p (entsOf (voidQ p l g k)) (regsOf (voidQ p l g k))), fun v w => v = (.agg (p.cells).toArray : Value), fun v w => v = (vl : Value), fun v w => v = (vg : Value), fun v w => Fresh (α := Row) 31 w3.heap.size w v (rowsL p l g), fun v w => v = (.bool (decide ((rowsL p (entsOf (voidQ p l g k)) (regsOf (voidQ p l g k))) = (rowsL p l g))) : Value), fun v w => v = (.bool (decide ((rowsL p (entsOf (voidQ p l g k)) (regsOf (voidQ p l g k))) = (rowsL p l g))) : Value), fun v w => v = (if (decide ((rowsL p (entsOf (voidQ p l g k)) (regsOf (voidQ p l g k))) = (rowsL p l g))) = true then (.bool true : Value) else undef), fun v w => v = (.bool ((decide ((rowsL p (entsOf (voidQ p l g k)) (regsOf (voidQ p l g k))) = (rowsL p l g))) && true) : Value), fun v w => v = (.bool ((decide ((rowsL p (entsOf (voidQ p l g k)) (regsOf (voidQ p l g k))) = (rowsL p l g))) && true) : Value)]) [[], [], [], [0, 1, 2], [], [], [], [0, 1, 2, 3, 4, 5, 6], [0, 1, 2, 3, 4, 5, 6, 7], [0, 1, 2, 3, 4, 5, 6, 7, 8], [0, 1, 2, 3, 4, 5, 6, 7, 8, 9], [0, 1, 2, 3, 4, 5, 6, 7, 8, 9, 10], [0, 1, 2, 3, 4, 5, 6, 7, 8, 9, 10, 11]] 13 (by kernel_rfl) (by kernel_rfl) (by kernel_rfl) (fun w => Chg.refl _ w) (fun _ _ _ h1 h2 => h1.trans h2) (stabL ⟨fun _ _ _ _ h => h, fun _ _ _ _ h => h, fun _ _ _ _ h => h, fun _ _ _ hx h => h.ext hx, fun _ _ _ _ h => h, fun _ _ _ _ h => h, fun _ _ _ _ h => h, fun _ _ _ hx h => h.ext hx, fun _ _ _ _ h => h, fun _ _ _ _ h => h, fun _ _ _ _ h => h, fun _ _ _ _ h => h, fun _ _ _ _ h => h, trivial⟩) ?_
      intro w4 qh1 qh2 qh3 qh4
      have hx19 := ext_same qh1 qh2 qh3 qh4
      refine ⟨⟨?_, ?_, ?_, ?_, ?_, ?_, ?_, ?_, ?_, ?_, ?_, ?_, ?_, trivial⟩, ?_⟩
      · intro vals w5 hR20 hA
        have hs21 := hR20.size
        refine obl rfl ?_
        have h22 := (Chg.trans (Chg.trans (Chg.trans hx6 hxM) hx19) hR20).keep hb3 (fun h => h)
        exact ov_loadk (k := 5) Try.isAgg23 Try.sizeOf23 rfl rfl (CellsAt.all h22) ⟨Chg.refl _ _, rfl⟩
      · intro vals w6 hR23 hA
        have hs24 := hR23.size
        refine obl rfl ?_
        exact ov_move (v := vx) rfl ⟨Chg.refl _ _, rfl⟩
      · intro vals w7 hR25 hA
        have hs26 := hR25.size
        refine obl rfl ?_
        exact ov_move (v := vr) rfl ⟨Chg.refl _ _, rfl⟩
      · intro vals w8 hR27 hA
        have hs28 := hR27.size
        have e0 : (vals 0) = (.agg (p.cells).toArray : Value) := hA 0 (by decide)
        have e1 : (vals 1) = (vx : Value) := hA 1 (by decide)
        have e2 : (vals 2) = (vr : Value) := hA 2 (by decide)
        refine obl rfl ?_
        have h29 := OwnS.toRd (F' := (fun b => (fun b => b < w.heap.size) b ∨ vx.ownBlock = some b)) ho_vx (fun _ h => .inl h) (fun _ h => .inr h)
        have h30 := OwnS.toRd (F' := (fun b => (fun _ => False) b ∨ vr.ownBlock = some b)) ho_vr (fun _ h => .inl h) (fun _ h => .inr h)
        have h31 := h29.ext (Chg.trans hx19 hR27)
        have h32 := h30.ext (Chg.trans hx19 hR27)
        exact ov_call (f := 11) (vals := [.agg (p.cells).toArray, vx, vr]) (cap := []) (show _ = (.func (.func 11) #[] #[] : Value) from rfl) (mapL ⟨(show _ = (.agg (p.cells).toArray : Value) from e0), (show _ = (vx : Value) from e1), (show _ = (vr : Value) from e2), trivial⟩) Try.call11 (C_all op h31 h32 (by omega)) (fun _ _ h => ⟨h.1, h.2.low (Chg.size (Chg.trans hx19 hR27))⟩)
      · intro vals w9 hR33 hA
        have hs34 := hR33.size
        refine obl rfl ?_
        have h35 := (Chg.trans (Chg.trans (Chg.trans hx6 hxM) hx19) hR33).keep hb3 (fun h => h)
        exact ov_loadk (k := 5) Try.isAgg23 Try.sizeOf23 rfl rfl (CellsAt.all h35) ⟨Chg.refl _ _, rfl⟩
      · intro vals w10 hR36 hA
        have hs37 := hR36.size
        refine obl rfl ?_
        exact ov_move (v := vl) rfl ⟨Chg.refl _ _, rfl⟩
      · intro vals w11 hR38 hA
        have hs39 := hR38.size
        refine obl rfl ?_
        exact ov_move (v := vg) rfl ⟨Chg.refl _ _, rfl⟩
      · intro vals w12 hR40 hA
        have hs41 := hR40.size
        have e4 : (vals 4) = (.agg (p.cells).toArray : Value) := hA 4 (by decide)
        have e5 : (vals 5) = (vl : Value) := hA 5 (by decide)
        have e6 : (vals 6) = (vg : Value) := hA 6 (by decide)
        refine obl rfl ?_
        have h42 := h8.ext (Chg.trans (Chg.trans (Chg.trans hx6 hxM) hx19) hR40)
        have h43 := hg.ext (Chg.trans (Chg.trans (Chg.trans (Chg.trans hn1.ext hx6) hxM) hx19) hR40)
        exact ov_call (f := 11) (vals := [.agg (p.cells).toArray, vl, vg]) (cap := []) (show _ = (.func (.func 11) #[] #[] : Value) from rfl) (mapL ⟨(show _ = (.agg (p.cells).toArray : Value) from e4), (show _ = (vl : Value) from e5), (show _ = (vg : Value) from e6), trivial⟩) Try.call11 (C_all op h42 h43 (by omega)) (fun _ _ h => ⟨h.1, h.2.low (Chg.size (Chg.trans hx19 hR40))⟩)
      · intro vals w13 hR44 hA
        have hs45 := hR44.size
        have e3 : Fresh (α := Row) 31 w3.heap.size w13 (vals 3) (rowsL p (entsOf (voidQ p l g k)) (regsOf (voidQ p l g k))) := hA 3 (by decide)
        have e3r := e3.rd
        have e7 : Fresh (α := Row) 31 w3.heap.size w13 (vals 7) (rowsL p l g) := hA 7 (by decide)
        have e7r := e7.rd
        refine obl rfl ?_
        exact ov_call (f := 15) (vals := [(vals 3), (vals 7)]) (cap := []) (show _ = (.func (.func 15) #[] #[] : Value) from rfl) rfl Try.call15 (C_SameRows e3r e7r) (fun _ _ h => ⟨h.2, h.1⟩)
      · intro vals w14 hR46 hA
        have hs47 := hR46.size
        have e8 : (vals 8) = (.bool (decide ((rowsL p (entsOf (voidQ p l g k)) (regsOf (voidQ p l g k))) = (rowsL p l g))) : Value) := hA 8 (by decide)
        refine obl rfl ?_
        exact ov_move (v := .bool (decide ((rowsL p (entsOf (voidQ p l g k)) (regsOf (voidQ p l g k))) = (rowsL p l g)))) (show _ = (.bool (decide ((rowsL p (entsOf (voidQ p l g k)) (regsOf (voidQ p l g k))) = (rowsL p l g))) : Value) from e8) ⟨Chg.refl _ _, rfl⟩
      · intro vals w15 hR48 hA
        have hs49 := hR48.size
        have e9 : (vals 9) = (.bool (decide ((rowsL p (entsOf (voidQ p l g k)) (regsOf (voidQ p l g k))) = (rowsL p l g))) : Value) := hA 9 (by decide)
        refine oblc rfl rfl (show _ = (.bool (decide ((rowsL p (entsOf (voidQ p l g k)) (regsOf (voidQ p l g k))) = (rowsL p l g))) : Value) from e9) (fun hb50 => ?_) (fun hb50 => (if_neg hb50).symm)
        have hl51 : (decide ((rowsL p (entsOf (voidQ p l g k)) (regsOf (voidQ p l g k))) = (rowsL p l g))) = true := hb50
        have hl51 := of_decide_eq_true hl51
        exact ov_call (f := 10) (vals := []) (cap := []) (show _ = (.func (.func 10) #[] #[] : Value) from rfl) rfl Try.call10 (C_works ) (fun _ _ h => ⟨h.2, h.1.trans (if_pos hb50).symm⟩)
      · intro vals w16 hR52 hA
        have hs53 := hR52.size
        have e9 : (vals 9) = (.bool (decide ((rowsL p (entsOf (voidQ p l g k)) (regsOf (voidQ p l g k))) = (rowsL p l g))) : Value) := hA 9 (by decide)
        have e10 : (vals 10) = (if (decide ((rowsL p (entsOf (voidQ p l g k)) (regsOf (voidQ p l g k))) = (rowsL p l g))) = true then (.bool true : Value) else undef) := hA 10 (by decide)
        refine obl rfl ?_
        exact ov_pick_and (b := decide ((rowsL p (entsOf (voidQ p l g k)) (regsOf (voidQ p l g k))) = (rowsL p l g))) (b' := true) (show _ = (.bool (decide ((rowsL p (entsOf (voidQ p l g k)) (regsOf (voidQ p l g k))) = (rowsL p l g))) : Value) from e9) (fun hbp => (show _ = (.bool true : Value) from (Eq.trans e10 (if_pos hbp)))) ⟨Chg.refl _ _, rfl⟩
      · intro vals w17 hR54 hA
        have hs55 := hR54.size
        have e11 : (vals 11) = (.bool ((decide ((rowsL p (entsOf (voidQ p l g k)) (regsOf (voidQ p l g k))) = (rowsL p l g))) && true) : Value) := hA 11 (by decide)
        refine obl rfl ?_
        exact ov_assign (v := .bool ((decide ((rowsL p (entsOf (voidQ p l g k)) (regsOf (voidQ p l g k))) = (rowsL p l g))) && true)) (show _ = (.bool ((decide ((rowsL p (entsOf (voidQ p l g k)) (regsOf (voidQ p l g k))) = (rowsL p l g))) && true) : Value) from e11) ⟨Chg.refl _ _, rfl⟩
      intro vals w18 hR56 hA
      have hs57 := hR56.size
      have hs58 := hx19.size
      have e12 : (vals 12) = (.bool ((decide ((rowsL p (entsOf (voidQ p l g k)) (regsOf (voidQ p l g k))) = (rowsL p l g))) && true) : Value) := hA 12 (by decide)
      refine st_env (kv := [(1, vl), (2, vg), (3, .pointer (some ⟨b2, 0, none⟩)), (9, .int .i64 ((k : Nat) : Int)), (7, vx), (8, vr), (18, .int .i64 ((k : Nat) : Int)), (19, vl), (20, .int .i64 ((l.length : Nat) : Int)), (21, .bool false), (6, .bool ((decide ((rowsL p (entsOf (voidQ p l g k)) (regsOf (voidQ p l g k))) = (rowsL p l g))) && true))]) ⟨rfl, rfl, rfl, rfl, rfl, rfl, rfl, rfl, rfl, rfl, (by exact e12), trivial⟩ (fun ρ18 => ?_)
      clear e12
      clear hA qh1 qh2 qh3 qh4
      refine st_nil ?_
      refine WP_ret ?_
      refine fin1 Try.results5 (show _ = (.bool ((decide ((rowsL p (entsOf (voidQ p l g k)) (regsOf (voidQ p l g k))) = (rowsL p l g))) && true) : Value) from rfl) ?_
      refine ⟨?_, (Chg.trans (Chg.trans (Chg.trans (Chg.trans hn1.ext hx6) hxM) hx19) hR56)⟩
      rw [void_rows (by omega)]
      simp
    · skip
      have hc18 := of_decide_eq_true hc18
      refine WP_cond_t rfl ?_
      refine WP_skip ?_
      refine WP_seq ?_
      refine WP_block ?_
      refine WP_seq ?_
      refine WP_draw Ext (AL [fun v w => v = (vl : Value), fun v w => v = (.int .i64 ((k : Nat) : Int) : Value), fun v w => v = (.pointer (some ⟨sb vl, so vl + k * 13, none⟩) : Value), fun v w => v = (.pointer (some ⟨sb vl, so vl + k * 13 + 10, none⟩) : Value), fun v w => v = (.bool ((l.getD k default).void) : Value), fun v w => v = (.bool (!((l.getD k default).void)) : Value), fun v w => v = (.bool (!((l.getD k default).void)) : Value), fun v w => v = (if (!((l.getD k default).void)) = true then (vl : Value) else undef), fun v w => v = (if (!((l.getD k default).void)) = true then (.int .i64 ((k : Nat) : Int) : Value) else undef), fun v w => v = (if (!((l.getD k default).void)) = true then (.pointer (some ⟨sb vl, so vl + k * 13, none⟩) : Value) else undef), fun v w => v = (if (!((l.getD k default).void)) = true then (.pointer (some ⟨sb vl, so vl + k * 13, none⟩) : Value) else undef), fun v w => v = (if (!((l.getD k default).void)) = true then (.pointer (some ⟨sb vl, so vl + k * 13 + 4, none⟩) : Value) else undef), fun v w => v = (if (!((l.getD k default).void)) = true then (.int .i64 ((l.getD k default).ev.typ) : Value) else undef), fun v w => v = (if (!((l.getD k default).void)) = true then (.pointer (some ⟨b2, 0, none⟩) : Value) else undef), fun v w => v = (if (!((l.getD k default).void)) = true then (.int .i64 (p.ptyp) : Value) else undef), fun v w => v = (if (!((l.getD k default).void)) = true then (.bool (decide (((l.getD k default).ev.typ) = p.ptyp)) : Value) else undef), fun v w => v = (.bool ((!((l.getD k default).void)) && (decide (((l.getD k default).ev.typ) = p.ptyp))) : Value), fun v w => v = (.bool ((!((l.getD k default).void)) && (decide (((l.getD k default).ev.typ) = p.ptyp))) : Value), fun v w => v = (if ((!((l.getD k default).void)) && (decide (((l.getD k default).ev.typ) = p.ptyp))) = true then (vl : Value) else undef), fun v w => v = (if ((!((l.getD k default).void)) && (decide (((l.getD k default).ev.typ) = p.ptyp))) = true then (.int .i64 ((k : Nat) : Int) : Value) else undef), fun v w => v = (if ((!((l.getD k default).void)) && (decide (((l.getD k default).ev.typ) = p.ptyp))) = true then (.pointer (some ⟨sb vl, so vl + k * 13, none⟩) : Value) else undef), fun v w => v = (if ((!((l.getD k default).void)) && (decide (((l.getD k default).ev.typ) = p.ptyp))) = true then (.pointer (some ⟨sb vl, so vl + k * 13, none⟩) : Value) else undef), fun v w => v = (if ((!((l.getD k default).void)) && (decide (((l.getD k default).ev.typ) = p.ptyp))) = true then (.pointer (some ⟨sb vl, so vl + k * 13 + 6, none⟩) : Value) else undef), fun v w => v = (if ((!((l.getD k default).void)) && (decide (((l.getD k default).ev.typ) = p.ptyp))) = true then (.int .i64 ((l.getD k default).ev.field) : Value) else undef), fun v w => v = (if ((!((l.getD k default).void)) && (decide (((l.getD k default).ev.typ) = p.ptyp))) = true then (.pointer (some ⟨b2, 1, none⟩) : Value) else undef), fun v w => v = (if ((!((l.getD k default).void)) && (decide (((l.getD k default).ev.typ) = p.ptyp))) = true then (.int .i64 (p.pfield) : Value) else undef), fun v w => v = (if ((!((l.getD k default).void)) && (decide (((l.getD k default).ev.typ) = p.ptyp))) = true then (.bool (decide (((l.getD k default).ev.field) = p.pfield)) : Value) else undef), fun v w => v = (.bool (((!((l.getD k default).void)) && (decide (((l.getD k default).ev.typ) = p.ptyp))) && (decide (((l.getD k default).ev.field) = p.pfield))) : Value)]) [[], [], [0, 1], [0, 1, 2], [0, 1, 2, 3], [0, 1, 2, 3, 4], [0, 1, 2, 3, 4, 5], [0, 1, 2, 3, 4, 5, 6], [0, 1, 2, 3, 4, 5, 6], [0, 1, 2, 3, 4, 5, 6, 7, 8], [0, 1, 2, 3, 4, 5, 6, 7, 8, 9], [0, 1, 2, 3, 4, 5, 6, 7, 8, 9, 10], [0, 1, 2, 3, 4, 5, 6, 7, 8, 9, 10, 11], [0, 1, 2, 3, 4, 5, 6], [0, 1, 2, 3, 4, 5, 6, 13], [0, 1, 2, 3, 4, 5, 6, 7, 8, 9, 10, 11, 12, 13, 14], [0, 1, 2, 3, 4, 5, 6, 7, 8, 9, 10, 11, 12, 13, 14, 15], [0, 1, 2, 3, 4, 5, 6, 7, 8, 9, 10, 11, 12, 13, 14, 15, 16], [0, 1, 2, 3, 4, 5, 6, 7, 8, 9, 10, 11, 12, 13, 14, 15, 16, 17], [0, 1, 2, 3, 4, 5, 6, 7, 8, 9, 10, 11, 12, 13, 14, 15, 16, 17], [0, 1, 2, 3, 4, 5, 6, 7, 8, 9, 10, 11, 12, 13, 14, 15, 16, 17, 18, 19], [0, 1, 2, 3, 4, 5, 6, 7, 8, 9, 10, 11, 12, 13, 14, 15, 16, 17, 18, 19, 20], [0, 1, 2, 3, 4, 5, 6, 7, 8, 9, 10, 11, 12, 13, 14, 15, 16, 17, 18, 19, 20, 21], [0, 1, 2, 3, 4, 5, 6, 7, 8, 9, 10, 11, 12, 13, 14, 15, 16, 17, 18, 19, 20, 21, 22], [0, 1, 2, 3, 4, 5, 6, 7, 8, 9, 10, 11, 12, 13, 14, 15, 16, 17], [0, 1, 2, 3, 4, 5, 6, 7, 8, 9, 10, 11, 12, 13, 14, 15, 16, 17, 24], [0, 1, 2, 3, 4, 5, 6, 7, 8, 9, 10, 11, 12, 13, 14, 15, 16, 17, 18, 19, 20, 21, 22, 23, 24, 25], [0, 1, 2, 3, 4, 5, 6, 7, 8, 9, 10, 11, 12, 13, 14, 15, 16, 17, 18, 19, 20, 21, 22, 23, 24, 25, 26]] 28 (by kernel_rfl) (by kernel_rfl) (by kernel_rfl) (fun w => Chg.refl _ w) (fun _ _ _ h1 h2 => h1.trans h2) (stabL ⟨fun _ _ _ _ h => h, fun _ _ _ _ h => h, fun _ _ _ _ h => h, fun _ _ _ _ h => h, fun _ _ _ _ h => h, fun _ _ _ _ h => h, fun _ _ _ _ h => h, fun _ _ _ _ h => h, fun _ _ _ _ h => h, fun _ _ _ _ h => h, fun _ _ _ _ h => h, fun _ _ _ _ h => h, fun _ _ _ _ h => h, fun _ _ _ _ h => h, fun _ _ _ _ h => h, fun _ _ _ _ h => h, fun _ _ _ _ h => h, fun _ _ _ _ h => h, fun _ _ _ _ h => h, fun _ _ _ _ h => h, fun _ _ _ _ h => h, fun _ _ _ _ h => h, fun _ _ _ _ h => h, fun _ _ _ _ h => h, fun _ _ _ _ h => h, fun _ _ _ _ h => h, fun _ _ _ _ h => h, fun _ _ _ _ h => h, trivial⟩) ?_
      intro w19 qh1 qh2 qh3 qh4
      have hx59 := ext_same qh1 qh2 qh3 qh4
      refine ⟨⟨?_, ?_, ?_, ?_, ?_, ?_, ?_, ?_, ?_, ?_, ?_, ?_, ?_, ?_, ?_, ?_, ?_, ?_, ?_, ?_, ?_, ?_, ?_, ?_, ?_, ?_, ?_, ?_, trivial⟩, ?_⟩
      · intro vals w20 hR60 hA
        have hs61 := hR60.size
        refine obl rfl ?_
        exact ov_move (v := vl) rfl ⟨Chg.refl _ _, rfl⟩
      · intro vals w21 hR62 hA
        have hs63 := hR62.size
        refine obl rfl ?_
        exact ov_move (v := .int .i64 ((k : Nat) : Int)) rfl ⟨Chg.refl _ _, rfl⟩
      · intro vals w22 hR64 hA
        have hs65 := hR64.size
        have e0 : (vals 0) = (vl : Value) := hA 0 (by decide)
        have e1 : (vals 1) = (.int .i64 ((k : Nat) : Int) : Value) := hA 1 (by decide)
        refine obl rfl ?_
        have hi66 : k < l.length := by omega
        have h68 := h8.ext (Chg.trans hx6 hxM)
        have hi67 : k < l.length := by omega
        obtain ⟨hc67, hd67_0, hok67⟩ := h68.ent hi67
        rw [← getD_at default hi67] at hc67 hd67_0 hok67
        exact ov_indexAddrN (k := 13) (i := k) Try.underlying24 Try.sizeOf38 (show _ = (vl : Value) from e0) h8.sl (show _ = (.int .i64 ((k : Nat) : Int) : Value) from e1) hi66 ⟨Chg.refl _ _, rfl⟩
      · intro vals w23 hR69 hA
        have hs70 := hR69.size
        have e2 : (vals 2) = (.pointer (some ⟨sb vl, so vl + k * 13, none⟩) : Value) := hA 2 (by decide)
        refine obl rfl ?_
        exact fa38_1 (show _ = (.pointer (some ⟨sb vl, so vl + k * 13, none⟩) : Value) from e2) ⟨Chg.refl _ _, rfl⟩
      · intro vals w24 hR71 hA
        have hs72 := hR71.size
        have e3 : (vals 3) = (.pointer (some ⟨sb vl, so vl + k * 13 + 10, none⟩) : Value) := hA 3 (by decide)
        refine obl rfl ?_
        have h74 := h8.ext (Chg.trans hx6 hxM)
        have hi73 : k < l.length := by omega
        obtain ⟨hc73, hd73_0, hok73⟩ := h74.ent hi73
        rw [← getD_at default hi73] at hc73 hd73_0 hok73
        have h75 := hc73.mono (fun hb => (Chg.trans hx59 hR71).block _ hb (fun h => h))
        exact ov_load1 (v := .bool ((l.getD k default).void)) Try.isAgg4 (show _ = (.pointer (some ⟨sb vl, so vl + k * 13 + 10, none⟩) : Value) from e3) (h75.get (j := 10) rfl) ⟨Chg.refl _ _, rfl⟩
      · intro vals w25 hR76 hA
        have hs77 := hR76.size
        have e4 : (vals 4) = (.bool ((l.getD k default).void) : Value) := hA 4 (by decide)
        refine obl rfl ?_
        exact ov_not (a := (l.getD k default).void) (show _ = (.bool ((l.getD k default).void) : Value) from e4) ⟨Chg.refl _ _, rfl⟩
      · intro vals w26 hR78 hA
        have hs79 := hR78.size
        have e5 : (vals 5) = (.bool (!((l.getD k default).void)) : Value) := hA 5 (by decide)
        refine obl rfl ?_
        exact ov_move (v := .bool (!((l.getD k default).void))) (show _ = (.bool (!((l.getD k default).void)) : Value) from e5) ⟨Chg.refl _ _, rfl⟩
      · intro vals w27 hR80 hA
        have hs81 := hR80.size
        have e6 : (vals 6) = (.bool (!((l.getD k default).void)) : Value) := hA 6 (by decide)
        refine oblc rfl rfl (show _ = (.bool (!((l.getD k default).void)) : Value) from e6) (fun hb82 => ?_) (fun hb82 => (if_neg hb82).symm)
        have hl83 : (!((l.getD k default).void)) = true := hb82
        simp only [Bool.and_eq_true, Bool.or_eq_true, Bool.and_eq_false_iff, Bool.or_eq_false_iff, decide_eq_true_eq, decide_eq_false_iff_not, Bool.not_eq_true', Bool.not_eq_false', Int.not_lt, Int.not_le] at hl83
        exact ov_move (v := vl) rfl ⟨Chg.refl _ _, (if_pos hb82).symm⟩
      · intro vals w28 hR84 hA
        have hs85 := hR84.size
        have e6 : (vals 6) = (.bool (!((l.getD k default).void)) : Value) := hA 6 (by decide)
        refine oblc rfl rfl (show _ = (.bool (!((l.getD k default).void)) : Value) from e6) (fun hb86 => ?_) (fun hb86 => (if_neg hb86).symm)
        have hl87 : (!((l.getD k default).void)) = true := hb86
        simp only [Bool.and_eq_true, Bool.or_eq_true, Bool.and_eq_false_iff, Bool.or_eq_false_iff, decide_eq_true_eq, decide_eq_false_iff_not, Bool.not_eq_true', Bool.not_eq_false', Int.not_lt, Int.not_le] at hl87
        exact ov_move (v := .int .i64 ((k : Nat) : Int)) rfl ⟨Chg.refl _ _, (if_pos hb86).symm⟩
      · intro vals w29 hR88 hA
        have hs89 := hR88.size
        have e6 : (vals 6) = (.bool (!((l.getD k default).void)) : Value) := hA 6 (by decide)
        have e7 : (vals 7) = (if (!((l.getD k default).void)) = true then (vl : Value) else undef) := hA 7 (by decide)
        have e8 : (vals 8) = (if (!((l.getD k default).void)) = true then (.int .i64 ((k : Nat) : Int) : Value) else undef) := hA 8 (by decide)
        refine oblc rfl rfl (show _ = (.bool (!((l.getD k default).void)) : Value) from e6) (fun hb90 => ?_) (fun hb90 => (if_neg hb90).symm)
        have hl91 : (!((l.getD k default).void)) = true := hb90
        simp only [Bool.and_eq_true, Bool.or_eq_true, Bool.and_eq_false_iff, Bool.or_eq_false_iff, decide_eq_true_eq, decide_eq_false_iff_not, Bool.not_eq_true', Bool.not_eq_false', Int.not_lt, Int.not_le] at hl91
        have hi92 : k < l.length := by omega
        exact ov_indexAddrN (k := 13) (i := k) Try.underlying24 Try.sizeOf38 (show _ = (vl : Value) from (Eq.trans e7 (if_pos hb90))) h8.sl (show _ = (.int .i64 ((k : Nat) : Int) : Value) from (Eq.trans e8 (if_pos hb90))) hi92 ⟨Chg.refl _ _, (if_pos hb90).symm⟩
      · intro vals w30 hR93 hA
        have hs94 := hR93.size
        have e6 : (vals 6) = (.bool (!((l.getD k default).void)) : Value) := hA 6 (by decide)
        have e9 : (vals 9) = (if (!((l.getD k default).void)) = true then (.pointer (some ⟨sb vl, so vl + k * 13, none⟩) : Value) else undef) := hA 9 (by decide)
        refine oblc rfl rfl (show _ = (.bool (!((l.getD k default).void)) : Value) from e6) (fun hb95 => ?_) (fun hb95 => (if_neg hb95).symm)
        have hl96 : (!((l.getD k default).void)) = true := hb95
        simp only [Bool.and_eq_true, Bool.or_eq_true, Bool.and_eq_false_iff, Bool.or_eq_false_iff, decide_eq_true_eq, decide_eq_false_iff_not, Bool.not_eq_true', Bool.not_eq_false', Int.not_lt, Int.not_le] at hl96
        exact fa38_0 (show _ = (.pointer (some ⟨sb vl, so vl + k * 13, none⟩) : Value) from (Eq.trans e9 (if_pos hb95))) ⟨Chg.refl _ _, (if_pos hb95).symm⟩
      · intro vals w31 hR97 hA
        have hs98 := hR97.size
        have e6 : (vals 6) = (.bool (!((l.getD k default).void)) : Value) := hA 6 (by decide)
        have e10 : (vals 10) = (if (!((l.getD k default).void)) = true then (.pointer (some ⟨sb vl, so vl + k * 13, none⟩) : Value) else undef) := hA 10 (by decide)
        refine oblc rfl rfl (show _ = (.bool (!((l.getD k default).void)) : Value) from e6) (fun hb99 => ?_) (fun hb99 => (if_neg hb99).symm)
        have hl100 : (!((l.getD k default).void)) = true := hb99
        simp only [Bool.and_eq_true, Bool.or_eq_true, Bool.and_eq_false_iff, Bool.or_eq_false_iff, decide_eq_true_eq, decide_eq_false_iff_not, Bool.not_eq_true', Bool.not_eq_false', Int.not_lt, Int.not_le] at hl100
        exact fa36_3 (show _ = (.pointer (some ⟨sb vl, so vl + k * 13, none⟩) : Value) from (Eq.trans e10 (if_pos hb99))) ⟨Chg.refl _ _, (if_pos hb99).symm⟩
      · intro vals w32 hR101 hA
        have hs102 := hR101.size
        have e6 : (vals 6) = (.bool (!((l.getD k default).void)) : Value) := hA 6 (by decide)
        have e11 : (vals 11) = (if (!((l.getD k default).void)) = true then (.pointer (some ⟨sb vl, so vl + k * 13 + 4, none⟩) : Value) else undef) := hA 11 (by decide)
        refine oblc rfl rfl (show _ = (.bool (!((l.getD k default).void)) : Value) from e6) (fun hb103 => ?_) (fun hb103 => (if_neg hb103).symm)
        have hl104 : (!((l.getD k default).void)) = true := hb103
        simp only [Bool.and_eq_true, Bool.or_eq_true, Bool.and_eq_false_iff, Bool.or_eq_false_iff, decide_eq_true_eq, decide_eq_false_iff_not, Bool.not_eq_true', Bool.not_eq_false', Int.not_lt, Int.not_le] at hl104
        have h106 := h8.ext (Chg.trans hx6 hxM)
        have hi105 : k < l.length := by omega
        obtain ⟨hc105, hd105_0, hok105⟩ := h106.ent hi105
        rw [← getD_at default hi105] at hc105 hd105_0 hok105
        have h107 := hc105.mono (fun hb => (Chg.trans hx59 hR101).block _ hb (fun h => h))
        exact ov_load1 (v := .int .i64 ((l.getD k default).ev.typ)) Try.isAgg3 (show _ = (.pointer (some ⟨sb vl, so vl + k * 13 + 4, none⟩) : Value) from (Eq.trans e11 (if_pos hb103))) (h107.get (j := 4) rfl) ⟨Chg.refl _ _, (if_pos hb103).symm⟩
      · intro vals w33 hR108 hA
        have hs109 := hR108.size
        have e6 : (vals 6) = (.bool (!((l.getD k default).void)) : Value) := hA 6 (by decide)
        refine oblc rfl rfl (show _ = (.bool (!((l.getD k default).void)) : Value) from e6) (fun hb110 => ?_) (fun hb110 => (if_neg hb110).symm)
        have hl111 : (!((l.getD k default).void)) = true := hb110
        simp only [Bool.and_eq_true, Bool.or_eq_true, Bool.and_eq_false_iff, Bool.or_eq_false_iff, decide_eq_true_eq, decide_eq_false_iff_not, Bool.not_eq_true', Bool.not_eq_false', Int.not_lt, Int.not_le] at hl111
        exact fa23_0 rfl ⟨Chg.refl _ _, (if_pos hb110).symm⟩
      · intro vals w34 hR112 hA
        have hs113 := hR112.size
        have e6 : (vals 6) = (.bool (!((l.getD k default).void)) : Value) := hA 6 (by decide)
        have e13 : (vals 13) = (if (!((l.getD k default).void)) = true then (.pointer (some ⟨b2, 0, none⟩) : Value) else undef) := hA 13 (by decide)
        refine oblc rfl rfl (show _ = (.bool (!((l.getD k default).void)) : Value) from e6) (fun hb114 => ?_) (fun hb114 => (if_neg hb114).symm)
        have hl115 : (!((l.getD k default).void)) = true := hb114
        simp only [Bool.and_eq_true, Bool.or_eq_true, Bool.and_eq_false_iff, Bool.or_eq_false_iff, decide_eq_true_eq, decide_eq_false_iff_not, Bool.not_eq_true', Bool.not_eq_false', Int.not_lt, Int.not_le] at hl115
        have h116 := (Chg.trans (Chg.trans (Chg.trans hx6 hxM) hx59) hR112).keep hb3 (fun h => h)
        exact ov_load1 (v := .int .i64 (p.ptyp)) Try.isAgg3 (show _ = (.pointer (some ⟨b2, 0, none⟩) : Value) from (Eq.trans e13 (if_pos hb114))) (blk_cellL h116 rfl) ⟨Chg.refl _ _, (if_pos hb114).symm⟩
      · intro vals w35 hR117 hA
        have hs118 := hR117.size
        have e6 : (vals 6) = (.bool (!((l.getD k default).void)) : Value) := hA 6 (by decide)
        have e12 : (vals 12) = (if (!((l.getD k default).void)) = true then (.int .i64 ((l.getD k default).ev.typ) : Value) else undef) := hA 12 (by decide)
        have e14 : (vals 14) = (if (!((l.getD k default).void)) = true then (.int .i64 (p.ptyp) : Value) else undef) := hA 14 (by decide)
        refine oblc rfl rfl (show _ = (.bool (!((l.getD k default).void)) : Value) from e6) (fun hb119 => ?_) (fun hb119 => (if_neg hb119).symm)
        have hl120 : (!((l.getD k default).void)) = true := hb119
        simp only [Bool.and_eq_true, Bool.or_eq_true, Bool.and_eq_false_iff, Bool.or_eq_false_iff, decide_eq_true_eq, decide_eq_false_iff_not, Bool.not_eq_true', Bool.not_eq_false', Int.not_lt, Int.not_le] at hl120
        exact ov_eql (k := .i64) (a := (l.getD k default).ev.typ) (b := p.ptyp) (show _ = (.int .i64 ((l.getD k default).ev.typ) : Value) from (Eq.trans e12 (if_pos hb119))) (show _ = (.int .i64 (p.ptyp) : Value) from (Eq.trans e14 (if_pos hb119))) ⟨Chg.refl _ _, (if_pos hb119).symm⟩
      · intro vals w36 hR121 hA
        have hs122 := hR121.size
        have e6 : (vals 6) = (.bool (!((l.getD k default).void)) : Value) := hA 6 (by decide)
        have e15 : (vals 15) = (if (!((l.getD k default).void)) = true then (.bool (decide (((l.getD k default).ev.typ) = p.ptyp)) : Value) else undef) := hA 15 (by decide)
        refine obl rfl ?_
        exact ov_pick_and (b := !((l.getD k default).void)) (b' := decide (((l.getD k default).ev.typ) = p.ptyp)) (show _ = (.bool (!((l.getD k default).void)) : Value) from e6) (fun hbp => (show _ = (.bool (decide (((l.getD k default).ev.typ) = p.ptyp)) : Value) from (Eq.trans e15 (if_pos hbp)))) ⟨Chg.refl _ _, rfl⟩
      · intro vals w37 hR123 hA
        have hs124 := hR123.size
        have e16 : (vals 16) = (.bool ((!((l.getD k default).void)) && (decide (((l.getD k default).ev.typ) = p.ptyp))) : Value) := hA 16 (by decide)
        refine obl rfl ?_
        exact ov_move (v := .bool ((!((l.getD k default).void)) && (decide (((l.getD k default).ev.typ) = p.ptyp)))) (show _ = (.bool ((!((l.getD k default).void)) && (decide (((l.getD k default).ev.typ) = p.ptyp))) : Value) from e16) ⟨Chg.refl _ _, rfl⟩
      · intro vals w38 hR125 hA
        have hs126 := hR125.size
        have e17 : (vals 17) = (.bool ((!((l.getD k default).void)) && (decide (((l.getD k default).ev.typ) = p.ptyp))) : Value) := hA 17 (by decide)
        refine oblc rfl rfl (show _ = (.bool ((!((l.getD k default).void)) && (decide (((l.getD k default).ev.typ) = p.ptyp))) : Value) from e17) (fun hb127 => ?_) (fun hb127 => (if_neg hb127).symm)
        have hl128 : ((!((l.getD k default).void)) && (decide (((l.getD k default).ev.typ) = p.ptyp))) = true := hb127
        simp only [Bool.and_eq_true, Bool.or_eq_true, Bool.and_eq_false_iff, Bool.or_eq_false_iff, decide_eq_true_eq, decide_eq_false_iff_not, Bool.not_eq_true', Bool.not_eq_false', Int.not_lt, Int.not_le] at hl128
        exact ov_move (v := vl) rfl ⟨Chg.refl _ _, (if_pos hb127).symm⟩
      · intro vals w39 hR129 hA
        have hs130 := hR129.size
        have e17 : (vals 17) = (.bool ((!((l.getD k default).void)) && (decide (((l.getD k default).ev.typ) = p.ptyp))) : Value) := hA 17 (by decide)
        refine oblc rfl rfl (show _ = (.bool ((!((l.getD k default).void)) && (decide (((l.getD k default).ev.typ) = p.ptyp))) : Value) from e17) (fun hb131 => ?_) (fun hb131 => (if_neg hb131).symm)
        have hl132 : ((!((l.getD k default).void)) && (decide (((l.getD k default).ev.typ) = p.ptyp))) = true := hb131
        simp only [Bool.and_eq_true, Bool.or_eq_true, Bool.and_eq_false_iff, Bool.or_eq_false_iff, decide_eq_true_eq, decide_eq_false_iff_not, Bool.not_eq_true', Bool.not_eq_false', Int.not_lt, Int.not_le] at hl132
        exact ov_move (v := .int .i64 ((k : Nat) : Int)) rfl ⟨Chg.refl _ _, (if_pos hb131).symm⟩
      · intro vals w40 hR133 hA
        have hs134 := hR133.size
        have e17 : (vals 17) = (.bool ((!((l.getD k default).void)) && (decide (((l.getD k default).ev.typ) = p.ptyp))) : Value) := hA 17 (by decide)
        have e18 : (vals 18) = (if ((!((l.getD k default).void)) && (decide (((l.getD k default).ev.typ) = p.ptyp))) = true then (vl : Value) else undef) := hA 18 (by decide)
        have e19 : (vals 19) = (if ((!((l.getD k default).void)) && (decide (((l.getD k default).ev.typ) = p.ptyp))) = true then (.int .i64 ((k : Nat) : Int) : Value) else undef) := hA 19 (by decide)
        refine oblc rfl rfl (show _ = (.bool ((!((l.getD k default).void)) && (decide (((l.getD k default).ev.typ) = p.ptyp))) : Value) from e17) (fun hb135 => ?_) (fun hb135 => (if_neg hb135).symm)
        have hl136 : ((!((l.getD k default).void)) && (decide (((l.getD k default).ev.typ) = p.ptyp))) = true := hb135
        simp only [Bool.and_eq_true, Bool.or_eq_true, Bool.and_eq_false_iff, Bool.or_eq_false_iff, decide_eq_true_eq, decide_eq_false_iff_not, Bool.not_eq_true', Bool.not_eq_false', Int.not_lt, Int.not_le] at hl136
        have hi137 : k < l.length := by omega
        exact ov_indexAddrN (k := 13) (i := k) Try.underlying24 Try.sizeOf38 (show _ = (vl : Value) from (Eq.trans e18 (if_pos hb135))) h8.sl (show _ = (.int .i64 ((k : Nat) : Int) : Value) from (Eq.trans e19 (if_pos hb135))) hi137 ⟨Chg.refl _ _, (if_pos hb135).symm⟩
      · intro vals w41 hR138 hA
        have hs139 := hR138.size
        have e17 : (vals 17) = (.bool ((!((l.getD k default).void)) && (decide (((l.getD k default).ev.typ) = p.ptyp))) : Value) := hA 17 (by decide)
        have e20 : (vals 20) = (if ((!((l.getD k default).void)) && (decide (((l.getD k default).ev.typ) = p.ptyp))) = true then (.pointer (some ⟨sb vl, so vl + k * 13, none⟩) : Value) else undef) := hA 20 (by decide)
        refine oblc rfl rfl (show _ = (.bool ((!((l.getD k default).void)) && (decide (((l.getD k default).ev.typ) = p.ptyp))) : Value) from e17) (fun hb140 => ?_) (fun hb140 => (if_neg hb140).symm)
        have hl141 : ((!((l.getD k default).void)) && (decide (((l.getD k default).ev.typ) = p.ptyp))) = true := hb140
        simp only [Bool.and_eq_true, Bool.or_eq_true, Bool.and_eq_false_iff, Bool.or_eq_false_iff, decide_eq_true_eq, decide_eq_false_iff_not, Bool.not_eq_true', Bool.not_eq_false', Int.not_lt, Int.not_le] at hl141
        exact fa38_0 (show _ = (.pointer (some ⟨sb vl, so vl + k * 13, none⟩) : Value) from (Eq.trans e20 (if_pos hb140))) ⟨Chg.refl _ _, (if_pos hb140).symm⟩
      · intro vals w42 hR142 hA
        have hs143 := hR142.size
        have e17 : (vals 17) = (.bool ((!((l.getD k default).void)) && (decide (((l.getD k default).ev.typ) = p.ptyp))) : Value) := hA 17 (by decide)
        have e21 : (vals 21) = (if ((!((l.getD k default).void)) && (decide (((l.getD k default).ev.typ) = p.ptyp))) = true then (.pointer (some ⟨sb vl, so vl + k * 13, none⟩) : Value) else undef) := hA 21 (by decide)
        refine oblc rfl rfl (show _ = (.bool ((!((l.getD k default).void)) && (decide (((l.getD k default).ev.typ) = p.ptyp))) : Value) from e17) (fun hb144 => ?_) (fun hb144 => (if_neg hb144).symm)
        have hl145 : ((!((l.getD k default).void)) && (decide (((l.getD k default).ev.typ) = p.ptyp))) = true := hb144
        simp only [Bool.and_eq_true, Bool.or_eq_true, Bool.and_eq_false_iff, Bool.or_eq_false_iff, decide_eq_true_eq, decide_eq_false_iff_not, Bool.not_eq_true', Bool.not_eq_false', Int.not_lt, Int.not_le] at hl145
        exact fa36_5 (show _ = (.pointer (some ⟨sb vl, so vl + k * 13, none⟩) : Value) from (Eq.trans e21 (if_pos hb144))) ⟨Chg.refl _ _, (if_pos hb144).symm⟩
      · intro vals w43 hR146 hA
        have hs147 := hR146.size
        have e17 : (vals 17) = (.bool ((!((l.getD k default).void)) && (decide (((l.getD k default).ev.typ) = p.ptyp))) : Value) := hA 17 (by decide)
        have e22 : (vals 22) = (if ((!((l.getD k default).void)) && (decide (((l.getD k default).ev.typ) = p.ptyp))) = true then (.pointer (some ⟨sb vl, so vl + k * 13 + 6, none⟩) : Value) else undef) := hA 22 (by decide)
        refine oblc rfl rfl (show _ = (.bool ((!((l.getD k default).void)) && (decide (((l.getD k default).ev.typ) = p.ptyp))) : Value) from e17) (fun hb148 => ?_) (fun hb148 => (if_neg hb148).symm)
        have hl149 : ((!((l.getD k default).void)) && (decide (((l.getD k default).ev.typ) = p.ptyp))) = true := hb148
        simp only [Bool.and_eq_true, Bool.or_eq_true, Bool.and_eq_false_iff, Bool.or_eq_false_iff, decide_eq_true_eq, decide_eq_false_iff_not, Bool.not_eq_true', Bool.not_eq_false', Int.not_lt, Int.not_le] at hl149
        have h151 := h8.ext (Chg.trans hx6 hxM)
        have hi150 : k < l.length := by omega
        obtain ⟨hc150, hd150_0, hok150⟩ := h151.ent hi150
        rw [← getD_at default hi150] at hc150 hd150_0 hok150
        have h152 := hc150.mono (fun hb => (Chg.trans hx59 hR146).block _ hb (fun h => h))
        exact ov_load1 (v := .int .i64 ((l.getD k default).ev.field)) Try.isAgg3 (show _ = (.pointer (some ⟨sb vl, so vl + k * 13 + 6, none⟩) : Value) from (Eq.trans e22 (if_pos hb148))) (h152.get (j := 6) rfl) ⟨Chg.refl _ _, (if_pos hb148).symm⟩
      · intro vals w44 hR153 hA
        have hs154 := hR153.size
        have e17 : (vals 17) = (.bool ((!((l.getD k default).void)) && (decide (((l.getD k default).ev.typ) = p.ptyp))) : Value) := hA 17 (by decide)
        refine oblc rfl rfl (show _ = (.bool ((!((l.getD k default).void)) && (decide (((l.getD k default).ev.typ) = p.ptyp))) : Value) from e17) (fun hb155 => ?_) (fun hb155 => (if_neg hb155).symm)
        have hl156 : ((!((l.getD k default).void)) && (decide (((l.getD k default).ev.typ) = p.ptyp))) = true := hb155
        simp only [Bool.and_eq_true, Bool.or_eq_true, Bool.and_eq_false_iff, Bool.or_eq_false_iff, decide_eq_true_eq, decide_eq_false_iff_not, Bool.not_eq_true', Bool.not_eq_false', Int.not_lt, Int.not_le] at hl156
        exact fa23_1 rfl ⟨Chg.refl _ _, (if_pos hb155).symm⟩
      · intro vals w45 hR157 hA
        have hs158 := hR157.size
        have e17 : (vals 17) = (.bool ((!((l.getD k default).void)) && (decide (((l.getD k default).ev.typ) = p.ptyp))) : Value) := hA 17 (by decide)
        have e24 : (vals 24) = (if ((!((l.getD k default).void)) && (decide (((l.getD k default).ev.typ) = p.ptyp))) = true then (.pointer (some ⟨b2, 1, none⟩) : Value) else undef) := hA 24 (by decide)
        refine oblc rfl rfl (show _ = (.bool ((!((l.getD k default).void)) && (decide (((l.getD k default).ev.typ) = p.ptyp))) : Value) from e17) (fun hb159 => ?_) (fun hb159 => (if_neg hb159).symm)
        have hl160 : ((!((l.getD k default).void)) && (decide (((l.getD k default).ev.typ) = p.ptyp))) = true := hb159
        simp only [Bool.and_eq_true, Bool.or_eq_true, Bool.and_eq_false_iff, Bool.or_eq_false_iff, decide_eq_true_eq, decide_eq_false_iff_not, Bool.not_eq_true', Bool.not_eq_false', Int.not_lt, Int.not_le] at hl160
        have h161 := (Chg.trans (Chg.trans (Chg.trans hx6 hxM) hx59) hR157).keep hb3 (fun h => h)
        exact ov_load1 (v := .int .i64 (p.pfield)) Try.isAgg3 (show _ = (.pointer (some ⟨b2, 1, none⟩) : Value) from (Eq.trans e24 (if_pos hb159))) (blk_cellL h161 rfl) ⟨Chg.refl _ _, (if_pos hb159).symm⟩
      · intro vals w46 hR162 hA
        have hs163 := hR162.size
        have e17 : (vals 17) = (.bool ((!((l.getD k default).void)) && (decide (((l.getD k default).ev.typ) = p.ptyp))) : Value) := hA 17 (by decide)
        have e23 : (vals 23) = (if ((!((l.getD k default).void)) && (decide (((l.getD k default).ev.typ) = p.ptyp))) = true then (.int .i64 ((l.getD k default).ev.field) : Value) else undef) := hA 23 (by decide)
        have e25 : (vals 25) = (if ((!((l.getD k default).void)) && (decide (((l.getD k default).ev.typ) = p.ptyp))) = true then (.int .i64 (p.pfield) : Value) else undef) := hA 25 (by decide)
        refine oblc rfl rfl (show _ = (.bool ((!((l.getD k default).void)) && (decide (((l.getD k default).ev.typ) = p.ptyp))) : Value) from e17) (fun hb164 => ?_) (fun hb164 => (if_neg hb164).symm)
        have hl165 : ((!((l.getD k default).void)) && (decide (((l.getD k default).ev.typ) = p.ptyp))) = true := hb164
        simp only [Bool.and_eq_true, Bool.or_eq_true, Bool.and_eq_false_iff, Bool.or_eq_false_iff, decide_eq_true_eq, decide_eq_false_iff_not, Bool.not_eq_true', Bool.not_eq_false', Int.not_lt, Int.not_le] at hl165
        exact ov_eql (k := .i64) (a := (l.getD k default).ev.field) (b := p.pfield) (show _ = (.int .i64 ((l.getD k default).ev.field) : Value) from (Eq.trans e23 (if_pos hb164))) (show _ = (.int .i64 (p.pfield) : Value) from (Eq.trans e25 (if_pos hb164))) ⟨Chg.refl _ _, (if_pos hb164).symm⟩
      · intro vals w47 hR166 hA
        have hs167 := hR166.size
        have e17 : (vals 17) = (.bool ((!((l.getD k default).void)) && (decide (((l.getD k default).ev.typ) = p.ptyp))) : Value) := hA 17 (by decide)
        have e26 : (vals 26) = (if ((!((l.getD k default).void)) && (decide (((l.getD k default).ev.typ) = p.ptyp))) = true then (.bool (decide (((l.getD k default).ev.field) = p.pfield)) : Value) else undef) := hA 26 (by decide)
        refine obl rfl ?_
        exact ov_pick_and (b := (!((l.getD k default).void)) && (decide (((l.getD k default).ev.typ) = p.ptyp))) (b' := decide (((l.getD k default).ev.field) = p.pfield)) (show _ = (.bool ((!((l.getD k default).void)) && (decide (((l.getD k default).ev.typ) = p.ptyp))) : Value) from e17) (fun hbp => (show _ = (.bool (decide (((l.getD k default).ev.field) = p.pfield)) : Value) from (Eq.trans e26 (if_pos hbp)))) ⟨Chg.refl _ _, rfl⟩
      intro vals w48 hR168 hA
      have hs169 := hR168.size
      have hs170 := hx59.size
      have e27 : (vals 27) = (.bool (((!((l.getD k default).void)) && (decide (((l.getD k default).ev.typ) = p.ptyp))) && (decide (((l.getD k default).ev.field) = p.pfield))) : Value) := hA 27 (by decide)
      refine st_env (kv := [(1, vl), (2, vg), (3, .pointer (some ⟨b2, 0, none⟩)), (9, .int .i64 ((k : Nat) : Int)), (7, vx), (8, vr), (18, .int .i64 ((k : Nat) : Int)), (19, vl), (20, .int .i64 ((l.length : Nat) : Int)), (21, .bool true), (51, .bool (((!((l.getD k default).void)) && (decide (((l.getD k default).ev.typ) = p.ptyp))) && (decide (((l.getD k default).ev.field) = p.pfield))))]) ⟨rfl, rfl, rfl, rfl, rfl, rfl, rfl, rfl, rfl, rfl, (by exact e27), trivial⟩ (fun ρ48 => ?_)
      clear e27
      clear hA qh1 qh2 qh3 qh4
      refine st_nil ?_
      cases hc171 : ((!((l.getD k default).void)) && (decide (((l.getD k default).ev.typ) = p.ptyp))) && (decide (((l.getD k default).ev.field) = p.pfield))
      · skip
        simp only [Bool.and_eq_true, Bool.or_eq_true, Bool.and_eq_false_iff, Bool.or_eq_false_iff, decide_eq_true_eq, decide_eq_false_iff_not, Bool.not_eq_true', Bool.not_eq_false', Int.not_lt, Int.not_le] at hc171
        refine WP_cond_f rfl ?_
        refine WP_skip ?_
        refine WP_region0 (by kernel_rfl) (fun _ => ?_)
        refine st (ov_move (v := .int .i64 ((k : Nat) : Int)) rfl ?_)
        have hr172 : InR ((k + 1 : Nat) : Int) := by omega
        refine st (ov_add (r := ((k + 1 : Nat) : Int)) (k := .i64) (a := ((k : Nat) : Int)) (b := 1) rfl rfl (by rw [show (((k : Nat) : Int) + 1 : Int) = ((k + 1 : Nat) : Int) by omega]; exact wrap_in hr172) ?_)
        refine st (ov_assign (v := .int .i64 ((k + 1 : Nat) : Int)) rfl ?_)
        refine st_nil ?_
        have h173 := ho_vx.ext (Chg.trans hx59 hR168)
        have h174 := ho_vr.ext (Chg.trans hx59 hR168)
        exact ⟨_, by omega, k + 1, vx, vr, _, rfl, setAll_self ⟨rfl, rfl, rfl, rfl, rfl, rfl, trivial⟩, (Chg.trans (Chg.trans hxM hx59) hR168), by omega, (by rw [voidQ_no (by omega) (fun hq => by obtain ⟨⟨h1, h2⟩, h3⟩ := keep_iff.1 hq; rcases hc171 with (h | h) | h; rw [h1] at h; cases h; exact h h2; exact h h3)]; exact h173), (by rw [voidQ_no (by omega) (fun hq => by obtain ⟨⟨h1, h2⟩, h3⟩ := keep_iff.1 hq; rcases hc171 with (h | h) | h; rw [h1] at h; cases h; exact h h2; exact h h3)]; exact h174), hap_vx_vr⟩
      · skip
        simp only [Bool.and_eq_true, Bool.or_eq_true, Bool.and_eq_false_iff, Bool.or_eq_false_iff, decide_eq_true_eq, decide_eq_false_iff_not, Bool.not_eq_true', Bool.not_eq_false', Int.not_lt, Int.not_le] at hc171
        refine WP_cond_t rfl ?_
        refine WP_seq ?_
        refine WP_region0 (by kernel_rfl) (fun _ => ?_)
        refine st (ov_move (v := vx) rfl ?_)
        refine st (ov_move (v := vl) rfl ?_)
        refine st (ov_move (v := .int .i64 ((k : Nat) : Int)) rfl ?_)
        have hi175 : k < l.length := by omega
        refine st (ov_indexAddrN (k := 13) (i := k) Try.underlying24 Try.sizeOf38 rfl h8.sl rfl hi175 ?_)
        have h177 := h8.ext (Chg.trans hx6 hxM)
        have hi176 : k < l.length := by omega
        obtain ⟨hc176, hd176_0, hok176⟩ := h177.ent hi176
        rw [← getD_at default hi176] at hc176 hd176_0 hok176
        have h178 := hc176.mono (fun hb => (Chg.trans hx59 hR168).block _ hb (fun h => h))
        refine st (ov_loadk (k := 13) Try.isAgg38 Try.sizeOf38 rfl rfl h178 ?_)
        refine st (ov_buildSlice (k := 13) (parts' := [(0, .agg ((l.getD k default).cells (cellV w3 (sb vl) (so vl + k * 13 + 3))).toArray)]) (c := ((l.getD k default).cells (cellV w3 (sb vl) (so vl + k * 13 + 3))).toArray) Try.underlying24 Try.sizeOf38 Try.zeroValue38 (by decide) rfl (by kernel_rfl) (fun w49 b180 hn179 => ?_))
        have hb181 : w49.heap[b180]? = some (.cells ((l.getD k default).cells (cellV w3 (sb vl) (so vl + k * 13 + 3))).toArray 38) := hn179.at_
        have hs182 := hn179.size; have hs182e := hn179.eq
        have h183 := hd176_0.ext (Chg.trans (Chg.trans hx59 hR168) hn179.ext)
        have h188 := ho_vr.ext (Chg.trans (Chg.trans hx59 hR168) hn179.ext)
        have h189 := ho_vx.ext (Chg.trans (Chg.trans hx59 hR168) hn179.ext)
        refine st (ov_append1B (bytes := 120) (x1 := (l.getD k default)) (F' := (fun b => b < w.heap.size)) elem24 rfl h189 rfl hb181 (G := (fun b => b < w.heap.size)) (show Rep.rd _ _ _ _ from ⟨_, rfl, h183, hok176⟩) (fun _ h => h) (fun _ _ h => h) h189.apart h189.bound (by omega) (by first | omega | (simp only [List.length_take, List.length_drop, List.length_nil, List.length_append, List.length_cons]; omega)) rfl (fun v184 w50 ho185 hch186 hbk187 => ?_))
        have hla190 : (entsOf (voidQ p l g k) ++ [(l.getD k default)]).length = (entsOf (voidQ p l g k)).length + 1 := by simp only [List.length_append, List.length_cons, List.length_nil]
        have hap191 : ∀ b, v184.ownBlock = some b → vr.ownBlock ≠ some b := fun b h1 h2 => by rcases hbk187 with e | e; rw [e] at h1; exact hap_vx_vr b h1 h2; have := e b h1; have := (h188.lt b h2).2; omega
        have hap192 : ∀ b, vr.ownBlock = some b → v184.ownBlock ≠ some b := fun b h1 h2 => hap191 b h2 h1
        have ho193 := OwnS.chg h188 hch186 (fun b h1 hO => hap_vx_vr b hO h1) (fun b hF hO => hF.elim)
        have hs194 := hch186.size
        refine st (ov_assign (v := v184) rfl ?_)
        refine st_nil ?_
        refine WP_region0 (by kernel_rfl) (fun _ => ?_)
        refine st (ov_move (v := vr) rfl ?_)
        refine st (ov_move (v := vg) rfl ?_)
        refine st (ov_move (v := .int .i64 ((k : Nat) : Int)) rfl ?_)
        have h195 := hg.ext (Chg.new (Chg.trans (Chg.trans (Chg.trans (Chg.trans (Chg.trans hn1.ext hx6) hxM) hx59) hR168) hn179.ext) hch186 (fun i hi hO => by have := (h189.lt i hO).1; omega))
        refine st (ov_call (f := 13) (vals := [vg, .int .i64 ((k : Nat) : Int)]) (cap := []) (show _ = (.func (.func 13) #[] #[] : Value) from rfl) rfl Try.call13 (C_reg h195 (i := k) (by omega)) ?_)
        rintro _ w51 ⟨rfl, hx196⟩
        have hx196s := hx196.size
        refine st (ov_buildSlice (k := 1) (parts' := [(0, .int .i64 (regI g k))]) (c := #[.int .i64 (regI g k)]) Try.underlying25 Try.sizeOf3 Try.zeroValue3 (by decide) rfl (by kernel_rfl) (fun w52 b198 hn197 => ?_))
        have hb199 : w52.heap[b198]? = some (.cells #[.int .i64 (regI g k)] 3) := hn197.at_
        have hs200 := hn197.size; have hs200e := hn197.eq
        have hrd201 : RdS (α := Int) w52 (fun _ => True) ((.slice (some ⟨b198, 0, none⟩) 1 1)) [regI g k] := RdS.ints (l := [regI g k]) hb199 ⟨(regI_in h195.allR _), trivial⟩
        have h206 := ho185.ext (Chg.trans hx196 hn197.ext)
        have h207 := ho193.ext (Chg.trans hx196 hn197.ext)
        refine st (ov_append1B (bytes := 8) (x1 := regI g k) (F' := (fun _ => False)) elem25 rfl h207 rfl hb199 (G := fun _ => False) (show Rep.rd _ _ _ _ from ⟨rfl, (regI_in h195.allR _)⟩) (fun _ h => h) (fun _ _ h => h) h207.apart h207.bound (by omega) (by first | omega | (simp only [List.length_take, List.length_drop, List.length_nil, List.length_append, List.length_cons]; omega)) rfl (fun v202 w53 ho203 hch204 hbk205 => ?_))
        have hla208 : (regsOf (voidQ p l g k) ++ [regI g k]).length = (regsOf (voidQ p l g k)).length + 1 := by simp only [List.length_append, List.length_cons, List.length_nil]
        have hap209 : ∀ b, v202.ownBlock = some b → v184.ownBlock ≠ some b := fun b h1 h2 => by rcases hbk205 with e | e; rw [e] at h1; exact hap192 b h1 h2; have := e b h1; have := (h206.lt b h2).2; omega
        have hap210 : ∀ b, v184.ownBlock = some b → v202.ownBlock ≠ some b := fun b h1 h2 => hap209 b h2 h1
        have ho211 := OwnS.chg h206 hch204 (fun b h1 hO => hap192 b hO h1) (fun b hF hO => (by have := (h207.lt b hO).1; have hF : b < w.heap.size := hF; omega))
        have hs212 := hch204.size
        refine st (ov_assign (v := v202) rfl ?_)
        refine st_nil ?_
        refine WP_region0 (by kernel_rfl) (fun _ => ?_)
        refine st (ov_move (v := .int .i64 ((k : Nat) : Int)) rfl ?_)
        have hr213 : InR ((k + 1 : Nat) : Int) := by omega
        refine st (ov_add (r := ((k + 1 : Nat) : Int)) (k := .i64) (a := ((k : Nat) : Int)) (b := 1) rfl rfl (by rw [show (((k : Nat) : Int) + 1 : Int) = ((k + 1 : Nat) : Int) by omega]; exact wrap_in hr213) ?_)
        refine st (ov_assign (v := .int .i64 ((k + 1 : Nat) : Int)) rfl ?_)
        refine st_nil ?_
        exact ⟨_, by omega, k + 1, v184, v202, _, rfl, setAll_self ⟨rfl, rfl, rfl, rfl, rfl, rfl, trivial⟩, (Chg.new (Chg.trans (Chg.trans (Chg.new (Chg.trans (Chg.trans (Chg.trans hxM hx59) hR168) hn179.ext) hch186 (fun i hi hO => by have := (h189.lt i hO).1; omega)) hx196) hn197.ext) hch204 (fun i hi hO => by have := (h207.lt i hO).1; omega)), by omega, (by rw [voidQ_yes (by omega) (keep_iff.2 hc171), entsOf_app]; exact ho211), (by rw [voidQ_yes (by omega) (keep_iff.2 hc171), regsOf_app]; exact ho203), hap210⟩
  · skip
    simp only [Bool.and_eq_true, Bool.or_eq_true, Bool.and_eq_false_iff, Bool.or_eq_false_iff, decide_eq_true_eq, decide_eq_false_iff_not, Bool.not_eq_true', Bool.not_eq_false', Int.not_lt, Int.not_le] at hc15
    refine WP_cond_t rfl ?_
    refine WP_seq ?_
    refine WP_region0 (by kernel_rfl) (fun _ => ?_)
    refine st (ov_call (f := 10) (vals := []) (cap := []) (show _ = (.func (.func 10) #[] #[] : Value) from rfl) rfl Try.call10 (C_works ) ?_)
    rintro _ w54 ⟨rfl, hx214⟩
    have hx214s := hx214.size
    refine st (ov_assign (v := .bool true) rfl ?_)
    refine st_nil ?_
    refine WP_ret ?_
    refine fin1 Try.results5 (show _ = (.bool true : Value) from rfl) ?_
    exact ⟨rfl, (Chg.trans (Chg.trans hn1.ext hx6) hx214)⟩

end Go.Proofs.Ytbbpmhfcgoljdaa
