/- Steps of the proofs of this seat: part P4. -/
import Derived.Test.YtbbpmhfcgoljdaaP3
set_option linter.unusedSimpArgs false
set_option linter.unusedVariables false
namespace Go.Proofs.Ytbbpmhfcgoljdaa
open Go.Proofs Go.RowKit

theorem C_reg {w : World} {Fg : Nat → Prop} {vg : Value} {g : List Int} (hg : RdS w Fg vg g) {i : Nat} (hi : i ≤ 1000000) : Ret Try.prog 13 [vg, .int .i64 ((i : Nat) : Int)] w (fun r w' => r = .int .i64 (regI g i) ∧ Ext w w') := by
  have hgs : g.length * 8 ≤ 140737488355328 := hg.small
  refine Calls_of_WP (args := [vg, .int .i64 ((i : Nat) : Int)]) Try.func13 rfl rfl ?_
  refine WP_seq ?_
  refine WP_region0 (by kernel_rfl) (fun _ => ?_)
  refine st (ov_assign (v := .int .i64 (0)) rfl ?_)
  refine st_nil ?_
  refine WP_seq ?_
  refine WP_seq ?_
  refine WP_region0 (by kernel_rfl) (fun _ => ?_)
  refine st (ov_move (v := vg) rfl ?_)
  refine st (ov_len (n := g.length) Try.underlying25 rfl hg.sl ?_)
  refine st (ov_eql (k := .i64) (a := ((g.length : Nat) : Int)) (b := 0) rfl rfl ?_)
  refine st_nil ?_
  cases hc1 : decide (((g.length : Nat) : Int) = 0)
  · skip
    have hc1 := of_decide_eq_false hc1
    refine WP_cond_f rfl ?_
    refine WP_skip ?_
    refine WP_seq ?_
    refine WP_region0 (by kernel_rfl) (fun _ => ?_)
    refine st (ov_move (v := vg) rfl ?_)
    refine st (ov_move (v := .int .i64 ((i : Nat) : Int)) rfl ?_)
    refine st (ov_move (v := vg) rfl ?_)
    refine st (ov_len (n := g.length) Try.underlying25 rfl hg.sl ?_)
    have h02 : (0 : Int) < ((g.length : Nat) : Int) := by omega
    have h02m : i % g.length < g.length := Nat.mod_lt _ (by omega)
    refine st (ov_rem (r := ((i % g.length : Nat) : Int)) rfl rfl h02 (Int.ofNat_tmod _ _).symm ?_)
    have hi3 : i % g.length < g.length := Nat.mod_lt _ (by omega)
    have hi4 : i % g.length < g.length := Nat.mod_lt _ (by omega)
    obtain ⟨hc4, hx4⟩ := hg.int hi4
    rw [← getD_at 0 hi4] at hc4 hx4
    refine st (ov_indexAddrN (k := 1) (i := i % g.length) Try.underlying25 Try.sizeOf3 rfl hg.sl rfl hi3 ?_)
    refine st (ov_load1 (v := .int .i64 ((g.getD (i % g.length) 0))) Try.isAgg3 rfl (hc4.get (j := 0) rfl) ?_)
    refine st (ov_assign (v := .int .i64 ((g.getD (i % g.length) 0))) rfl ?_)
    refine st_nil ?_
    refine WP_ret ?_
    refine fin1 Try.results13 (show _ = (.int .i64 ((g.getD (i % g.length) 0)) : Value) from rfl) ?_
    refine ⟨?_, (Chg.refl _ _)⟩
    unfold regI
    (repeat (first | rw [if_pos (by omega)] | rw [if_neg (by omega)]))
  · skip
    have hc1 := of_decide_eq_true hc1
    refine WP_cond_t rfl ?_
    refine WP_seq ?_
    refine WP_region0 (by kernel_rfl) (fun _ => ?_)
    refine st (ov_assign (v := .int .i64 (0)) rfl ?_)
    refine st_nil ?_
    refine WP_ret ?_
    refine fin1 Try.results13 (show _ = (.int .i64 (0) : Value) from rfl) ?_
    refine ⟨?_, (Chg.refl _ _)⟩
    unfold regI
    (repeat (first | rw [if_pos (by omega)] | rw [if_neg (by omega)]))

theorem regI_in {g : List Int} (h : ∀ x ∈ g, InR x) (i : Nat) : InR (regI g i) := by
  unfold regI; split
  · decide
  · rename_i h0
    have hl : i % g.length < g.length := Nat.mod_lt _ (by omega)
    rw [getD_at _ hl]
    exact h _ (List.getElem_mem hl)
theorem RdS.allR {w : World} {F : Nat → Prop} {v : Value} {l : List Int} (h : RdS w F v l) : ∀ x ∈ l, InR x := by
  intro x hx
  obtain ⟨i, hi, rfl⟩ := List.getElem_of_mem hx
  exact (h.int hi).2

theorem C_all {w : World} {p : Prj} (op : p.Ok) {Fl : Nat → Prop} {vl : Value} {l : List Ent} (hl : RdS w Fl vl l) {Fg : Nat → Prop} {vg : Value} {g : List Int} (hg : RdS w Fg vg g) (hlb : l.length ≤ 100000) : Ret Try.prog 11 [.agg (p.cells).toArray, vl, vg] w (fun r w' => Ext w w' ∧ Fresh 31 w.heap.size w' r (rowsL p l g)) := by
  have hls : l.length * 120 ≤ 140737488355328 := hl.small
  have hgs : g.length * 8 ≤ 140737488355328 := hg.small
  refine Calls_of_WP (args := [.agg (p.cells).toArray, vl, vg]) Try.func11 rfl rfl ?_
  refine WP_seq ?_
  refine WP_region0 (by kernel_rfl) (fun _ => ?_)
  refine st (ov_box (v := .agg (p.cells).toArray) rfl (fun w1 b2 hn1 => ?_))
  have hb3 : w1.heap[b2]? = some (.cells (p.cells).toArray 23) := hn1.at_
  have hs4 := hn1.size; have hs4e := hn1.eq
  refine st (ov_assign (v := (.slice none 0 0)) rfl ?_)
  refine st_nil ?_
  refine WP_seq ?_
  refine WP_region0 (by kernel_rfl) (fun _ => ?_)
  refine st (ov_loadk (k := 5) Try.isAgg23 Try.sizeOf23 rfl rfl (CellsAt.all hb3) ?_)
  refine st (ov_call (f := 17) (vals := [.agg (p.cells).toArray]) (cap := []) (show _ = (.func (.func 17) #[] #[] : Value) from rfl) rfl Try.call17 (C_New op) ?_)
  rintro _ w2 ⟨a11, m12, rfl, hx5, hla6, hlm7, ham8, hao9, hmo10⟩
  have hx5s := hx5.size; have hmo10l := hmo10.lt; have hao9l := blk_lt hao9
  refine st (ov_assign (v := .pointer (some ⟨a11, 0, none⟩)) rfl ?_)
  refine st_nil ?_
  refine WP_seq ?_
  refine WP_seq ?_
  refine WP_region0 (by kernel_rfl) (fun _ => ?_)
  refine st (ov_move (v := .pointer (some ⟨a11, 0, none⟩)) rfl ?_)
  refine st (ov_eqlPtr (b := a11) (o := 0) Try.underlying46 rfl ?_)
  refine st_nil ?_
  refine WP_cond_f rfl ?_
  refine WP_skip ?_
  refine WP_seq ?_
  refine WP_seq ?_
  refine WP_region0 (by kernel_rfl) (fun _ => ?_)
  refine st (ov_assign (v := .int .i64 (0)) rfl ?_)
  refine st_nil ?_
  refine WP_block ?_
  refine WP_loop (fun mq σ wq => ∃ (k : Nat) (ρ : Env), mq = l.length - k ∧ σ = setAll ρ [(1, vl), (2, vg), (7, .pointer (some ⟨a11, 0, none⟩)), (8, .int .i64 ((k : Nat) : Int))] ∧ (Ext w1 wq) ∧ (k ≤ l.length) ∧ (wq.heap[a11]? = some (.cells #[.int .i64 (p.ptyp), .int .i64 (p.pfield), .int .i64 (p.pgroup), .int .i64 (p.pby), .int .i64 (p.pmake), .map (some m12)] 58)) ∧ (MapR wq (fun _ => False) m12 (addsM p l g k))) ⟨0, _, rfl, setAll_self ⟨rfl, rfl, rfl, rfl, trivial⟩, hx5, Nat.zero_le _, hao9, hmo10⟩ ?_
  rintro m13 σ14 w3 ⟨k, ρ3, rfl, rfl, hxA, hkA, hbA, hmA⟩
  have hxAs := hxA.size; have hmAl := hmA.lt; have hbAl := blk_lt hbA
  refine WP_seq ?_
  refine WP_seq ?_
  refine WP_region0 (by kernel_rfl) (fun _ => ?_)
  refine st (ov_move (v := .int .i64 ((k : Nat) : Int)) rfl ?_)
  refine st (ov_move (v := vl) rfl ?_)
  refine st (ov_len (n := l.length) Try.underlying24 rfl hl.sl ?_)
  refine st (ov_lss (k := .i64) (a := ((k : Nat) : Int)) (b := ((l.length : Nat) : Int)) rfl rfl ?_)
  refine st_nil ?_
  cases hc15 : decide (((k : Nat) : Int) < ((l.length : Nat) : Int))
  · skip
    have hc15 := of_decide_eq_false hc15
    refine WP_cond_f rfl ?_
    refine WP_exit ?_
    refine blk_exit ?_
    refine WP_seq ?_
    refine WP_region0 (by kernel_rfl) (fun _ => ?_)
    refine st (ov_move (v := .pointer (some ⟨a11, 0, none⟩)) rfl ?_)
    refine st (ov_call (f := 23) (vals := [.pointer (some ⟨a11, 0, none⟩)]) (cap := []) (show _ = (.func (.func 23) #[] #[] : Value) from rfl) rfl Try.call23 (C_List hbA op hmA (by omega) (adds_good p l g k).grp (by have := (adds_good p l g k).len; omega)) ?_)
    rintro v18 w4 ⟨hx16, hf17⟩
    have hx16s := hx16.size
    have hf17r := hf17.rd
    refine st (ov_assign (v := v18) rfl ?_)
    refine st_nil ?_
    refine WP_ret ?_
    refine fin1 Try.results11 (show _ = (v18 : Value) from rfl) ?_
    have hk : k = l.length := by omega
    subst hk
    exact ⟨(Chg.trans (Chg.trans hn1.ext hxA) hx16), (hf17).low (by omega)⟩
  · skip
    have hc15 := of_decide_eq_true hc15
    refine WP_cond_t rfl ?_
    refine WP_skip ?_
    refine WP_seq ?_
    refine WP_block ?_
    refine WP_draw Ext (AL [fun v w => v = (.pointer (some ⟨a11, 0, none⟩) : Value), fun v w => v = (vl : Value), fun v w => v = (.int .i64 ((k : Nat) : Int) : Value), fun v w => v = (.pointer (some ⟨sb vl, so vl + k * 13, none⟩) : Value), fun v w => v = (.agg ((l[k]).cells (cellV w3 (sb vl) (so vl + k * 13 + 3))).toArray : Value), fun v w => v = (vg : Value), fun v w => v = (.int .i64 ((k : Nat) : Int) : Value), fun v w => v = (.int .i64 (regI g k) : Value)]) [[], [], [], [1, 2], [1, 2, 3], [], [], [5, 6], [0, 1, 2, 3, 4, 5, 6, 7]] 8 (by kernel_rfl) (by kernel_rfl) (by kernel_rfl) (fun w => Chg.refl _ w) (fun _ _ _ h1 h2 => h1.trans h2) (stabL ⟨fun _ _ _ _ h => h, fun _ _ _ _ h => h, fun _ _ _ _ h => h, fun _ _ _ _ h => h, fun _ _ _ _ h => h, fun _ _ _ _ h => h, fun _ _ _ _ h => h, fun _ _ _ _ h => h, trivial⟩) ?_
    intro w5 qh1 qh2 qh3 qh4
    have hx19 := ext_same qh1 qh2 qh3 qh4
    refine ⟨⟨?_, ?_, ?_, ?_, ?_, ?_, ?_, ?_, trivial⟩, ?_⟩
    · intro vals w6 hR20 hA
      have hs21 := hR20.size
      refine obl rfl ?_
      exact ov_move (v := .pointer (some ⟨a11, 0, none⟩)) rfl ⟨Chg.refl _ _, rfl⟩
    · intro vals w7 hR22 hA
      have hs23 := hR22.size
      refine obl rfl ?_
      exact ov_move (v := vl) rfl ⟨Chg.refl _ _, rfl⟩
    · intro vals w8 hR24 hA
      have hs25 := hR24.size
      refine obl rfl ?_
      exact ov_move (v := .int .i64 ((k : Nat) : Int)) rfl ⟨Chg.refl _ _, rfl⟩
    · intro vals w9 hR26 hA
      have hs27 := hR26.size
      have e1 : (vals 1) = (vl : Value) := hA 1 (by decide)
      have e2 : (vals 2) = (.int .i64 ((k : Nat) : Int) : Value) := hA 2 (by decide)
      refine obl rfl ?_
      have hi28 : k < l.length := by omega
      have h30 := hl.ext (Chg.trans hn1.ext hxA)
      have hi29 : k < l.length := by omega
      obtain ⟨hc29, hd29_0, hok29⟩ := h30.ent hi29
      exact ov_indexAddrN (k := 13) (i := k) Try.underlying24 Try.sizeOf38 (show _ = (vl : Value) from e1) hl.sl (show _ = (.int .i64 ((k : Nat) : Int) : Value) from e2) hi28 ⟨Chg.refl _ _, rfl⟩
    · intro vals w10 hR31 hA
      have hs32 := hR31.size
      have e3 : (vals 3) = (.pointer (some ⟨sb vl, so vl + k * 13, none⟩) : Value) := hA 3 (by decide)
      refine obl rfl ?_
      have h34 := hl.ext (Chg.trans hn1.ext hxA)
      have hi33 : k < l.length := by omega
      obtain ⟨hc33, hd33_0, hok33⟩ := h34.ent hi33
      have h35 := hc33.mono (fun hb => (Chg.trans hx19 hR31).block _ hb (fun h => h))
      exact ov_loadk (k := 13) Try.isAgg38 Try.sizeOf38 rfl (show _ = (.pointer (some ⟨sb vl, so vl + k * 13, none⟩) : Value) from e3) h35 ⟨Chg.refl _ _, rfl⟩
    · intro vals w11 hR36 hA
      have hs37 := hR36.size
      refine obl rfl ?_
      exact ov_move (v := vg) rfl ⟨Chg.refl _ _, rfl⟩
    · intro vals w12 hR38 hA
      have hs39 := hR38.size
      refine obl rfl ?_
      exact ov_move (v := .int .i64 ((k : Nat) : Int)) rfl ⟨Chg.refl _ _, rfl⟩
    · intro vals w13 hR40 hA
      have hs41 := hR40.size
      have e5 : (vals 5) = (vg : Value) := hA 5 (by decide)
      have e6 : (vals 6) = (.int .i64 ((k : Nat) : Int) : Value) := hA 6 (by decide)
      refine obl rfl ?_
      have h42 := hg.ext (Chg.trans (Chg.trans (Chg.trans hn1.ext hxA) hx19) hR40)
      exact ov_call (f := 13) (vals := [vg, .int .i64 ((k : Nat) : Int)]) (cap := []) (show _ = (.func (.func 13) #[] #[] : Value) from rfl) (mapL ⟨(show _ = (vg : Value) from e5), (show _ = (.int .i64 ((k : Nat) : Int) : Value) from e6), trivial⟩) Try.call13 (C_reg h42 (i := k) (by omega)) (fun _ _ h => ⟨h.2, h.1⟩)
    intro vals w14 hR43 hA
    have hs44 := hR43.size
    have hs45 := hx19.size
    have e0 : (vals 0) = (.pointer (some ⟨a11, 0, none⟩) : Value) := hA 0 (by decide)
    have e4 : (vals 4) = (.agg ((l[k]).cells (cellV w3 (sb vl) (so vl + k * 13 + 3))).toArray : Value) := hA 4 (by decide)
    have e7 : (vals 7) = (.int .i64 (regI g k) : Value) := hA 7 (by decide)
    refine st_env (kv := [(1, vl), (2, vg), (7, .pointer (some ⟨a11, 0, none⟩)), (8, .int .i64 ((k : Nat) : Int)), (13, .int .i64 ((k : Nat) : Int)), (14, vl), (15, .int .i64 ((l.length : Nat) : Int)), (16, .bool true), (19, .pointer (some ⟨a11, 0, none⟩)), (23, .agg ((l[k]).cells (cellV w3 (sb vl) (so vl + k * 13 + 3))).toArray), (26, .int .i64 (regI g k))]) ⟨rfl, rfl, rfl, rfl, rfl, rfl, rfl, rfl, (by exact e0), (by exact e4), (by exact e7), trivial⟩ (fun ρ14 => ?_)
    clear e0 e4 e7
    clear hA qh1 qh2 qh3 qh4
    have h46 := (Chg.trans hx19 hR43).keep hbA (fun h => h)
    have h47 := hmA.ext (Chg.trans hx19 hR43)
    have h49 := hl.ext (Chg.trans hn1.ext hxA)
    have hi48 : k < l.length := by omega
    obtain ⟨hc48, hd48_0, hok48⟩ := h49.ent hi48
    have h50 := hd48_0.ext (Chg.trans hx19 hR43)
    refine st (ov_call (f := 19) (vals := [.pointer (some ⟨a11, 0, none⟩), .agg ((l[k]).cells (cellV w3 (sb vl) (so vl + k * 13 + 3))).toArray, .int .i64 (regI g k)]) (cap := []) (show _ = (.func (.func 19) #[] #[] : Value) from rfl) rfl Try.call19 (C_Add h46 op h47 (by omega) h50 hok48 (regI_in hg.allR _) (fun gq => by have := cnt_of (adds_good p l g k) gq; omega)) ?_)
    rintro _ w15 ⟨rfl, hm51, hch52⟩
    have hch52s := hch52.size
    refine st_nil ?_
    refine WP_region0 (by kernel_rfl) (fun _ => ?_)
    refine st (ov_move (v := .int .i64 ((k : Nat) : Int)) rfl ?_)
    have hr53 : InR ((k + 1 : Nat) : Int) := by omega
    refine st (ov_add (r := ((k + 1 : Nat) : Int)) (k := .i64) (a := ((k : Nat) : Int)) (b := 1) rfl rfl (by rw [show (((k : Nat) : Int) + 1 : Int) = ((k + 1 : Nat) : Int) by omega]; exact wrap_in hr53) ?_)
    refine st (ov_assign (v := .int .i64 ((k + 1 : Nat) : Int)) rfl ?_)
    refine st_nil ?_
    have h54 := (hch52.keep h46 (fun e => by have e : a11 = m12 := e; omega))
    exact ⟨_, by omega, k + 1, _, rfl, setAll_self ⟨rfl, rfl, rfl, rfl, trivial⟩, (Chg.new (Chg.trans (Chg.trans hxA hx19) hR43) hch52 (fun i hi hO => by have hO : i = m12 := hO; omega)), by omega, h54, (by show MapR _ _ _ (addM p (addsM p l g k) (l.getD k default) (regI g k)); rw [getD_at _ (by omega)]; exact hm51)⟩

end Go.Proofs.Ytbbpmhfcgoljdaa
