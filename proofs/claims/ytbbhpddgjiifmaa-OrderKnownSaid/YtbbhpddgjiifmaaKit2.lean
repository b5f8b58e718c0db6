/- Steps of the proofs of this seat: part Kit2. -/
import Derived.Test.YtbbhpddgjiifmaaKit1
set_option linter.unusedSimpArgs false
set_option linter.unusedVariables false
namespace Go.Proofs.Ytbbhpddgjiifmaa
open Go.Proofs Go.RowKit

theorem C_CopyInts {w : World} {Fl : Nat → Prop} {vl : Value} {l : List Int} (hl : RdS w Fl vl l) : Ret Try.prog 37 [vl] w (fun r w' => Ext w w' ∧ Fresh 3 w.heap.size w' r l) := by
  have hls : l.length * 8 ≤ 140737488355328 := hl.small
  refine Calls_of_WP (args := [vl]) Try.func37 rfl rfl ?_
  refine WP_seq ?_
  refine WP_region0 (by kernel_rfl) (fun _ => ?_)
  refine st (ov_assign (v := (.slice none 0 0)) rfl ?_)
  refine st_nil ?_
  refine WP_seq ?_
  refine WP_region0 (by kernel_rfl) (fun _ => ?_)
  refine st (ov_assign (v := (.slice none 0 0)) rfl ?_)
  refine st_nil ?_
  refine WP_seq ?_
  refine WP_seq ?_
  refine WP_region0 (by kernel_rfl) (fun _ => ?_)
  refine st (ov_assign (v := .int .i64 (0)) rfl ?_)
  refine st_nil ?_
  refine WP_block ?_
  refine WP_loop (fun m σ wq => ∃ (k2 : Nat) (vd : Value) (ρ : Env), m = l.length - k2 ∧ σ = setAll ρ [(0, vl), (4, .int .i64 ((k2 : Nat) : Int)), (3, vd)] ∧ (Ext w wq) ∧ (k2 ≤ l.length) ∧ (OwnS (α := Int) 3 w.heap.size wq (fun _ => False) vd (l.take k2))) ⟨0, (.slice none 0 0), _, rfl, setAll_self ⟨rfl, rfl, rfl, trivial⟩, (Chg.refl _ _), Nat.zero_le _, OwnS.nil _ _ _ _ (fun _ h => h.elim)⟩ ?_
  rintro m4 σ5 w1 ⟨k2, vd, ρ1, rfl, rfl, hx1, hk2, ho3⟩
  have hx1s := hx1.size
  refine WP_seq ?_
  refine WP_seq ?_
  refine WP_region0 (by kernel_rfl) (fun _ => ?_)
  refine st (ov_move (v := .int .i64 ((k2 : Nat) : Int)) rfl ?_)
  refine st (ov_move (v := vl) rfl ?_)
  refine st (ov_len (n := l.length) Try.underlying27 rfl hl.sl ?_)
  refine st (ov_lss (k := .i64) (a := ((k2 : Nat) : Int)) (b := ((l.length : Nat) : Int)) rfl rfl ?_)
  refine st_nil ?_
  cases hc6 : decide (((k2 : Nat) : Int) < ((l.length : Nat) : Int))
  · skip
    have hc6 := of_decide_eq_false hc6
    refine WP_cond_f rfl ?_
    refine WP_exit ?_
    refine blk_exit ?_
    refine WP_seq ?_
    refine WP_region0 (by kernel_rfl) (fun _ => ?_)
    refine st (ov_move (v := vd) rfl ?_)
    refine st (ov_assign (v := vd) rfl ?_)
    refine st_nil ?_
    refine WP_ret ?_
    refine fin1 Try.results37 (show _ = (vd : Value) from rfl) ?_
    have hz := List.take_of_length_le (l := l) (i := k2) (by omega)
    rw [hz] at ho3
    exact ⟨hx1, fun _ => False, ho3, fun _ h => h.elim⟩
  · skip
    have hc6 := of_decide_eq_true hc6
    refine WP_cond_t rfl ?_
    refine WP_skip ?_
    refine WP_seq ?_
    refine WP_block ?_
    refine WP_region0 (by kernel_rfl) (fun _ => ?_)
    refine st (ov_move (v := vd) rfl ?_)
    refine st (ov_move (v := vl) rfl ?_)
    refine st (ov_move (v := .int .i64 ((k2 : Nat) : Int)) rfl ?_)
    have hi7 : k2 < l.length := by omega
    have h9 := hl.ext hx1
    have hi8 : k2 < l.length := by omega
    obtain ⟨hc8, hx8⟩ := h9.int hi8
    refine st (ov_indexAddrN (k := 1) (i := k2) Try.underlying27 Try.sizeOf3 rfl hl.sl rfl hi7 ?_)
    refine st (ov_load1 (v := .int .i64 (l[k2])) Try.isAgg3 rfl (hc8.get (j := 0) rfl) ?_)
    refine st (ov_buildSlice (k := 1) (parts' := [(0, .int .i64 (l[k2]))]) (c := #[.int .i64 (l[k2])]) Try.underlying27 Try.sizeOf3 Try.zeroValue3 (by decide) rfl (by kernel_rfl) (fun w2 b11 hn10 => ?_))
    have hb12 : w2.heap[b11]? = some (.cells #[.int .i64 (l[k2])] 3) := hn10.at_
    have hs13 := hn10.size; have hs13e := hn10.eq
    have hrd14 : RdS (α := Int) w2 (fun _ => True) ((.slice (some ⟨b11, 0, none⟩) 1 1)) [l[k2]] := RdS.ints (l := [l[k2]]) hb12 ⟨hx8, trivial⟩
    have h18 := ho3.ext hn10.ext
    refine st (ov_append1 (bytes := 8) (x1 := l[k2]) (F' := (fun _ => False)) elem27 rfl h18 rfl hb12 (G := fun _ => False) (show Rep.rd _ _ _ _ from ⟨rfl, hx8⟩) (fun _ h => h) (fun _ _ h => h) h18.apart h18.bound (by omega) (by first | omega | (simp only [List.length_take, List.length_drop, List.length_nil, List.length_append, List.length_cons]; omega)) rfl (fun v15 w3 ho16 hch17 => ?_))
    have hla19 : (l.take k2 ++ [l[k2]]).length = (l.take k2).length + 1 := by simp only [List.length_append, List.length_cons, List.length_nil]
    have hs20 := hch17.size
    refine st (ov_assign (v := v15) rfl ?_)
    refine st_nil ?_
    refine WP_region0 (by kernel_rfl) (fun _ => ?_)
    refine st (ov_move (v := .int .i64 ((k2 : Nat) : Int)) rfl ?_)
    have hr21 : InR ((k2 + 1 : Nat) : Int) := by omega
    refine st (ov_add (r := ((k2 + 1 : Nat) : Int)) (k := .i64) (a := ((k2 : Nat) : Int)) (b := 1) rfl rfl (by rw [show (((k2 : Nat) : Int) + 1 : Int) = ((k2 + 1 : Nat) : Int) by omega]; exact wrap_in hr21) ?_)
    refine st (ov_assign (v := .int .i64 ((k2 + 1 : Nat) : Int)) rfl ?_)
    refine st_nil ?_
    exact ⟨_, by omega, k2 + 1, v15, _, rfl, setAll_self ⟨rfl, rfl, rfl, trivial⟩, (Chg.new (Chg.trans hx1 hn10.ext) hch17 (fun i hi hO => by have := (h18.lt i hO).1; omega)), by omega, (by rw [List.take_succ_eq_append_getElem (by omega)]; exact ho16)⟩

theorem C_CopyEvent {w : World} {Fa : Nat → Prop} {a : Ev} {da : Value} (ha : RdS w Fa da a.deps) (oa : a.Ok) : Ret Try.prog 29 [.agg (a.cells da).toArray] w (fun r w' => ∃ d, r = .agg (a.cells d).toArray ∧ Ext w w' ∧ Fresh 3 w.heap.size w' d a.deps) := by
  have has : a.deps.length * 8 ≤ 140737488355328 := ha.small
  refine Calls_of_WP (args := [.agg (a.cells da).toArray]) Try.func29 rfl rfl ?_
  refine WP_seq ?_
  refine WP_region0 (by kernel_rfl) (fun _ => ?_)
  refine st (ov_box (v := .agg (a.cells da).toArray) rfl (fun w1 b2 hn1 => ?_))
  have hb3 : w1.heap[b2]? = some (.cells (a.cells da).toArray 29) := hn1.at_
  have hs4 := hn1.size; have hs4e := hn1.eq
  refine st (ov_alloc Try.zeroValue29 (fun w2 b6 hn5 => ?_))
  have hb7 : w2.heap[b6]? = some (.cells #[.int .i64 (0), .int .i64 (0), .int .i64 (0), (.slice none 0 0), .int .i64 (0), .int .i64 (0), .int .i64 (0), .int .i64 (0), .int .i64 (0), .int .i64 (0)] 29) := hn5.at_
  have hs8 := hn5.size; have hs8e := hn5.eq
  refine st_nil ?_
  refine WP_seq ?_
  refine WP_region0 (by kernel_rfl) (fun _ => ?_)
  refine st (fa29_2 rfl ?_)
  have h9 := hn5.ext.keep hb3 (fun h => h)
  refine st (ov_load1 (v := da) Try.isAgg27 rfl (blk_cellL h9 rfl) ?_)
  have h10 := ha.ext (Chg.trans hn1.ext hn5.ext)
  refine st (ov_call (f := 37) (vals := [da]) (cap := []) (show _ = (.func (.func 37) #[] #[] : Value) from rfl) rfl Try.call37 (C_CopyInts h10) ?_)
  rintro v13 w3 ⟨hx11, hf12⟩
  have hx11s := hx11.size
  have hf12r := hf12.rd
  refine st (fa29_2 rfl ?_)
  have h14 := hx11.keep h9 (fun h => h)
  refine stn (ov_store1 (v := v13) (c := [.int .i64 (a.origin), .int .i64 (a.seq), .int .i64 (a.lam), da, .int .i64 (a.typ), .int .i64 (a.agg), .int .i64 (a.field), .int .i64 (a.op), .int .i64 (a.arg), .int .i64 (a.key)]) (c' := [.int .i64 (a.origin), .int .i64 (a.seq), .int .i64 (a.lam), v13, .int .i64 (a.typ), .int .i64 (a.agg), .int .i64 (a.field), .int .i64 (a.op), .int .i64 (a.arg), .int .i64 (a.key)]) Try.sizeOf27 rfl rfl h14 hf12r.sl.one rfl rfl (fun w4 hp15 => ?_))
  have hs16 := hp15.size
  refine st_nil ?_
  refine WP_seq ?_
  refine WP_region0 (by kernel_rfl) (fun _ => ?_)
  refine st (ov_loadk (k := 10) Try.isAgg29 Try.sizeOf29 rfl rfl (CellsAt.all hp15.at_) ?_)
  have h17 := (hp15.chg.keep (hx11.keep hb7 (fun h => h)) (fun e => by have e : b6 = b2 := e; omega))
  refine stn (ov_store (v := .agg (a.cells v13).toArray) (c' := (a.cells v13).toArray) Try.sizeOf29 rfl rfl h17 (all1 ⟨rfl, rfl, rfl, hf12r.sl.one, rfl, rfl, rfl, rfl, rfl, rfl, trivial⟩) (Nat.le_of_ble_eq_true rfl) rfl (fun w5 hp18 => ?_))
  have hs19 := hp18.size
  refine st_nil ?_
  refine WP_ret ?_
  refine finc (b := b6) Try.results29 Try.isAgg29 Try.sizeOf29 rfl rfl (CellsAt.all hp18.at_) ?_
  have h20 := ((hf12.put hp15.chg (by omega)).put hp18.chg (by omega))
  exact ⟨_, rfl, (Chg.new (Chg.new (Chg.trans (Chg.trans hn1.ext hn5.ext) hx11) hp15.chg (fun i hi hO => by subst hO; omega)) hp18.chg (fun i hi hO => by subst hO; omega)), (h20).low (by omega)⟩

theorem C_CopyEvents {w : World} {Fl : Nat → Prop} {vl : Value} {l : List Ev} (hl : RdS w Fl vl l) : Ret Try.prog 17 [vl] w (fun r w' => Ext w w' ∧ Fresh 29 w.heap.size w' r l) := by
  have hls : l.length * 96 ≤ 140737488355328 := hl.small
  refine Calls_of_WP (args := [vl]) Try.func17 rfl rfl ?_
  refine WP_seq ?_
  refine WP_region0 (by kernel_rfl) (fun _ => ?_)
  refine st (ov_assign (v := (.slice none 0 0)) rfl ?_)
  refine st_nil ?_
  refine WP_seq ?_
  refine WP_region0 (by kernel_rfl) (fun _ => ?_)
  refine st (ov_assign (v := (.slice none 0 0)) rfl ?_)
  refine st_nil ?_
  refine WP_seq ?_
  refine WP_seq ?_
  refine WP_region0 (by kernel_rfl) (fun _ => ?_)
  refine st (ov_assign (v := .int .i64 (0)) rfl ?_)
  refine st_nil ?_
  refine WP_block ?_
  refine WP_loop (fun m σ wq => ∃ (k : Nat) (vo : Value) (G : Nat → Prop) (ρ : Env), m = l.length - k ∧ σ = setAll ρ [(0, vl), (4, .int .i64 ((k : Nat) : Int)), (3, vo)] ∧ (Ext w wq) ∧ (k ≤ l.length) ∧ (OwnS 29 w.heap.size wq G vo (l.take k)) ∧ (∀ b, G b → w.heap.size ≤ b)) ⟨0, (.slice none 0 0), (fun _ => False), _, rfl, setAll_self ⟨rfl, rfl, rfl, trivial⟩, (Chg.refl _ _), Nat.zero_le _, OwnS.nil _ _ _ _ (fun _ h => h.elim), (fun _ h => h.elim)⟩ ?_
  rintro m5 σ6 w1 ⟨k, vo, G, ρ1, rfl, rfl, hx1, hk2, ho3, hF4⟩
  have hx1s := hx1.size
  refine WP_seq ?_
  refine WP_seq ?_
  refine WP_region0 (by kernel_rfl) (fun _ => ?_)
  refine st (ov_move (v := .int .i64 ((k : Nat) : Int)) rfl ?_)
  refine st (ov_move (v := vl) rfl ?_)
  refine st (ov_len (n := l.length) Try.underlying22 rfl hl.sl ?_)
  refine st (ov_lss (k := .i64) (a := ((k : Nat) : Int)) (b := ((l.length : Nat) : Int)) rfl rfl ?_)
  refine st_nil ?_
  cases hc7 : decide (((k : Nat) : Int) < ((l.length : Nat) : Int))
  · skip
    have hc7 := of_decide_eq_false hc7
    refine WP_cond_f rfl ?_
    refine WP_exit ?_
    refine blk_exit ?_
    refine WP_seq ?_
    refine WP_region0 (by kernel_rfl) (fun _ => ?_)
    refine st (ov_move (v := vo) rfl ?_)
    refine st (ov_assign (v := vo) rfl ?_)
    refine st_nil ?_
    refine WP_ret ?_
    refine fin1 Try.results17 (show _ = (vo : Value) from rfl) ?_
    have hz := List.take_of_length_le (l := l) (i := k) (by omega)
    rw [hz] at ho3
    exact ⟨hx1, G, ho3, hF4⟩
  · skip
    have hc7 := of_decide_eq_true hc7
    refine WP_cond_t rfl ?_
    refine WP_skip ?_
    refine WP_seq ?_
    refine WP_block ?_
    refine WP_region0 (by kernel_rfl) (fun _ => ?_)
    refine st (ov_move (v := vo) rfl ?_)
    refine st (ov_move (v := vl) rfl ?_)
    refine st (ov_move (v := .int .i64 ((k : Nat) : Int)) rfl ?_)
    have hi8 : k < l.length := by omega
    have h10 := hl.ext hx1
    have hi9 : k < l.length := by omega
    obtain ⟨hc9, hd9, hok9⟩ := h10.ev hi9
    refine st (ov_indexAddrN (k := 10) (i := k) Try.underlying22 Try.sizeOf29 rfl hl.sl rfl hi8 ?_)
    refine st (ov_loadk (k := 10) Try.isAgg29 Try.sizeOf29 rfl rfl hc9 ?_)
    refine st (ov_call (f := 29) (vals := [.agg ((l[k]).cells (cellV w1 (sb vl) (so vl + k * 10 + 3))).toArray]) (cap := []) (show _ = (.func (.func 29) #[] #[] : Value) from rfl) rfl Try.call29 (C_CopyEvent hd9 hok9) ?_)
    rintro _ w2 ⟨v13, rfl, hx11, hf12⟩
    have hx11s := hx11.size
    have hf12r := hf12.rd
    refine st (ov_buildSlice (k := 10) (parts' := [(0, .agg ((l[k]).cells v13).toArray)]) (c := ((l[k]).cells v13).toArray) Try.underlying22 Try.sizeOf29 Try.zeroValue29 (by decide) rfl (by kernel_rfl) (fun w3 b15 hn14 => ?_))
    have hb16 : w3.heap[b15]? = some (.cells ((l[k]).cells v13).toArray 29) := hn14.at_
    have hs17 := hn14.size; have hs17e := hn14.eq
    have h18 := hf12.ext hn14.ext
    have h19 := ho3.ext (Chg.trans hx11 hn14.ext)
    refine st (ov_append1 (bytes := 96) (x1 := l[k]) (F' := (fun b => G b ∨ v13.ownBlock = some b)) elem22 rfl h19 rfl hb16 (G := (fun b => G b ∨ v13.ownBlock = some b)) (show Rep.rd _ _ _ _ from ⟨_, rfl, (h18.rdInt).weak (fun _ _ h => .inr h), hok9⟩) (fun _ h => .inl h) (fun _ _ h => h) (fun b hb h => h.elim (ho3.apart b hb) (fun h => by have h1 := (ho3.lt b hb).2; have h2 := (hf12.lt b h).1; omega)) (fun b h => h.elim (h19.bound b) (fun h => (h18.lt b h).2)) (by omega) (by first | omega | (simp only [List.length_take, List.length_drop, List.length_nil, List.length_append, List.length_cons]; omega)) rfl (fun v20 w4 ho21 hch22 => ?_))
    have hla23 : (l.take k ++ [l[k]]).length = (l.take k).length + 1 := by simp only [List.length_append, List.length_cons, List.length_nil]
    have hs24 := hch22.size
    refine st (ov_assign (v := v20) rfl ?_)
    refine st_nil ?_
    refine WP_region0 (by kernel_rfl) (fun _ => ?_)
    refine st (ov_move (v := .int .i64 ((k : Nat) : Int)) rfl ?_)
    have hr25 : InR ((k + 1 : Nat) : Int) := by omega
    refine st (ov_add (r := ((k + 1 : Nat) : Int)) (k := .i64) (a := ((k : Nat) : Int)) (b := 1) rfl rfl (by rw [show (((k : Nat) : Int) + 1 : Int) = ((k + 1 : Nat) : Int) by omega]; exact wrap_in hr25) ?_)
    refine st (ov_assign (v := .int .i64 ((k + 1 : Nat) : Int)) rfl ?_)
    refine st_nil ?_
    exact ⟨_, by omega, k + 1, v20, (fun b => G b ∨ v13.ownBlock = some b), _, rfl, setAll_self ⟨rfl, rfl, rfl, trivial⟩, (Chg.new (Chg.trans (Chg.trans hx1 hx11) hn14.ext) hch22 (fun i hi hO => by have := (h19.lt i hO).1; omega)), by omega, (by rw [List.take_succ_eq_append_getElem (by omega)]; exact ho21), (fun b h => h.elim (hF4 b) (fun h => by have := (hf12.lt b h).1; omega))⟩

theorem C_Pick {w : World} {x : Int} (hx : InR x) {n : Nat} (hn : 1 ≤ n) (hn2 : n ≤ 281474976710656) : Ret Try.prog 23 [.int .i64 (x), .int .i64 ((n : Nat) : Int)] w (fun r w' => ∃ p : Nat, r = .int .i64 ((p : Nat) : Int) ∧ p < n ∧ Ext w w') := by
  refine Calls_of_WP (args := [.int .i64 (x), .int .i64 ((n : Nat) : Int)]) Try.func23 rfl rfl ?_
  refine WP_seq ?_
  refine WP_region0 (by kernel_rfl) (fun _ => ?_)
  refine st (ov_assign (v := .int .i64 (0)) rfl ?_)
  refine st_nil ?_
  refine WP_seq ?_
  refine WP_seq ?_
  refine WP_region0 (by kernel_rfl) (fun _ => ?_)
  refine st (ov_move (v := .int .i64 ((n : Nat) : Int)) rfl ?_)
  refine st (ov_lss (k := .i64) (a := ((n : Nat) : Int)) (b := 1) rfl rfl ?_)
  refine st_nil ?_
  cases hc1 : decide (((n : Nat) : Int) < 1)
  · skip
    have hc1 := of_decide_eq_false hc1
    refine WP_cond_f rfl ?_
    refine WP_skip ?_
    refine WP_seq ?_
    refine WP_region0 (by kernel_rfl) (fun _ => ?_)
    refine st (ov_move (v := .int .i64 (x)) rfl ?_)
    refine st (ov_move (v := .int .i64 ((n : Nat) : Int)) rfl ?_)
    have h03 : (0 : Int) < ((n : Nat) : Int) := by omega
    have hr4 := Int.tmod_lt_of_pos x h03; have hr5 := Int.lt_tmod_of_pos x h03
    obtain ⟨rm2, hr6⟩ : ∃ z, Int.tmod x ((n : Nat) : Int) = z := ⟨_, rfl⟩; rw [hr6] at hr4 hr5
    refine st (ov_rem (r := rm2) rfl rfl h03 hr6 ?_)
    refine st (ov_assign (v := .int .i64 (rm2)) rfl ?_)
    refine st_nil ?_
    refine WP_seq ?_
    refine WP_seq ?_
    refine WP_region0 (by kernel_rfl) (fun _ => ?_)
    refine st (ov_move (v := .int .i64 (rm2)) rfl ?_)
    refine st (ov_lss (k := .i64) (a := rm2) (b := 0) rfl rfl ?_)
    refine st_nil ?_
    cases hc7 : decide (rm2 < 0)
    · skip
      have hc7 := of_decide_eq_false hc7
      refine WP_cond_f rfl ?_
      refine WP_skip ?_
      refine WP_seq ?_
      refine WP_region0 (by kernel_rfl) (fun _ => ?_)
      refine st (ov_move (v := .int .i64 (rm2)) rfl ?_)
      refine st (ov_assign (v := .int .i64 (rm2)) rfl ?_)
      refine st_nil ?_
      refine WP_ret ?_
      refine fin1 Try.results23 (show _ = (.int .i64 (rm2) : Value) from rfl) ?_
      exact ⟨(rm2).toNat, by rw [Int.toNat_of_nonneg (by omega)], by omega, (Chg.refl _ _)⟩
    · skip
      have hc7 := of_decide_eq_true hc7
      refine WP_cond_t rfl ?_
      refine WP_region0 (by kernel_rfl) (fun _ => ?_)
      refine st (ov_move (v := .int .i64 (rm2)) rfl ?_)
      refine st (ov_move (v := .int .i64 ((n : Nat) : Int)) rfl ?_)
      have hr8 : InR (rm2 + ((n : Nat) : Int)) := by omega
      refine st (ov_add (r := rm2 + ((n : Nat) : Int)) (k := .i64) (a := rm2) (b := ((n : Nat) : Int)) rfl rfl (wrap_in hr8) ?_)
      refine st (ov_assign (v := .int .i64 (rm2 + ((n : Nat) : Int))) rfl ?_)
      refine st_nil ?_
      refine WP_seq ?_
      refine WP_region0 (by kernel_rfl) (fun _ => ?_)
      refine st (ov_move (v := .int .i64 (rm2 + ((n : Nat) : Int))) rfl ?_)
      refine st (ov_assign (v := .int .i64 (rm2 + ((n : Nat) : Int))) rfl ?_)
      refine st_nil ?_
      refine WP_ret ?_
      refine fin1 Try.results23 (show _ = (.int .i64 (rm2 + ((n : Nat) : Int)) : Value) from rfl) ?_
      exact ⟨(rm2 + ((n : Nat) : Int)).toNat, by rw [Int.toNat_of_nonneg (by omega)], by omega, (Chg.refl _ _)⟩
  · skip
    have hc1 := of_decide_eq_true hc1
    refine WP_cond_t rfl ?_
    refine WP_seq ?_
    refine WP_region0 (by kernel_rfl) (fun _ => ?_)
    refine st (ov_assign (v := .int .i64 (0)) rfl ?_)
    refine st_nil ?_
    refine WP_ret ?_
    refine fin1 Try.results23 (show _ = (.int .i64 (0) : Value) from rfl) ?_
    exfalso; omega

theorem C_Long {w : World} {Fl : Nat → Prop} {vl : Value} {l : List Ev} (hl : RdS w Fl vl l) : Ret Try.prog 9 [vl] w (fun r w' => ∃ b : Bool, r = .bool b ∧ Ext w w') := by
  have hls : l.length * 96 ≤ 140737488355328 := hl.small
  refine Calls_of_WP (args := [vl]) Try.func9 rfl rfl ?_
  refine WP_seq ?_
  refine WP_region0 (by kernel_rfl) (fun _ => ?_)
  refine st (ov_assign (v := .bool false) rfl ?_)
  refine st_nil ?_
  refine WP_seq ?_
  refine WP_seq ?_
  refine WP_region0 (by kernel_rfl) (fun _ => ?_)
  refine st (ov_assign (v := .int .i64 (0)) rfl ?_)
  refine st_nil ?_
  refine WP_block ?_
  refine WP_loop (fun m σ wq => ∃ (k : Nat) (ρ : Env), m = l.length - k ∧ σ = setAll ρ [(0, vl), (3, .int .i64 ((k : Nat) : Int))] ∧ (Ext w wq) ∧ (k ≤ l.length)) ⟨0, _, rfl, setAll_self ⟨rfl, rfl, trivial⟩, (Chg.refl _ _), Nat.zero_le _⟩ ?_
  rintro m3 σ4 w1 ⟨k, ρ1, rfl, rfl, hx1, hk2⟩
  have hx1s := hx1.size
  refine WP_seq ?_
  refine WP_seq ?_
  refine WP_region0 (by kernel_rfl) (fun _ => ?_)
  refine st (ov_move (v := .int .i64 ((k : Nat) : Int)) rfl ?_)
  refine st (ov_move (v := vl) rfl ?_)
  refine st (ov_len (n := l.length) Try.underlying22 rfl hl.sl ?_)
  refine st (ov_lss (k := .i64) (a := ((k : Nat) : Int)) (b := ((l.length : Nat) : Int)) rfl rfl ?_)
  refine st_nil ?_
  cases hc5 : decide (((k : Nat) : Int) < ((l.length : Nat) : Int))
  · skip
    have hc5 := of_decide_eq_false hc5
    refine WP_cond_f rfl ?_
    refine WP_exit ?_
    refine blk_exit ?_
    refine WP_seq ?_
    refine WP_region0 (by kernel_rfl) (fun _ => ?_)
    refine st (ov_move (v := vl) rfl ?_)
    refine st (ov_len (n := l.length) Try.underlying22 rfl hl.sl ?_)
    refine st (ov_gtr (k := .i64) (a := ((l.length : Nat) : Int)) (b := 200) rfl rfl ?_)
    refine st (ov_assign (v := .bool (decide (200 < ((l.length : Nat) : Int)))) rfl ?_)
    refine st_nil ?_
    refine WP_ret ?_
    refine fin1 Try.results9 (show _ = (.bool (decide (200 < ((l.length : Nat) : Int))) : Value) from rfl) ?_
    exact ⟨_, rfl, hx1⟩
  · skip
    have hc5 := of_decide_eq_true hc5
    refine WP_cond_t rfl ?_
    refine WP_skip ?_
    refine WP_seq ?_
    refine WP_block ?_
    refine WP_seq ?_
    refine WP_region0 (by kernel_rfl) (fun _ => ?_)
    refine st (ov_move (v := vl) rfl ?_)
    refine st (ov_move (v := .int .i64 ((k : Nat) : Int)) rfl ?_)
    have hi6 : k < l.length := by omega
    have h8 := hl.ext hx1
    have hi7 : k < l.length := by omega
    obtain ⟨hc7, hd7, hok7⟩ := h8.ev hi7
    refine st (ov_indexAddrN (k := 10) (i := k) Try.underlying22 Try.sizeOf29 rfl hl.sl rfl hi6 ?_)
    refine st (fa29_2 rfl ?_)
    refine st (ov_load1 (v := (cellV w1 (sb vl) (so vl + k * 10 + 3))) Try.isAgg27 rfl (hc7.get (j := 3) rfl) ?_)
    refine st (ov_len (n := ((l[k]).deps).length) Try.underlying27 rfl hd7.sl ?_)
    refine st (ov_gtr (k := .i64) (a := ((((l[k]).deps).length : Nat) : Int)) (b := 100) rfl rfl ?_)
    refine st_nil ?_
    cases hc9 : decide (100 < ((((l[k]).deps).length : Nat) : Int))
    · skip
      have hc9 := of_decide_eq_false hc9
      refine WP_cond_f rfl ?_
      refine WP_skip ?_
      refine WP_region0 (by kernel_rfl) (fun _ => ?_)
      refine st (ov_move (v := .int .i64 ((k : Nat) : Int)) rfl ?_)
      have hr10 : InR ((k + 1 : Nat) : Int) := by omega
      refine st (ov_add (r := ((k + 1 : Nat) : Int)) (k := .i64) (a := ((k : Nat) : Int)) (b := 1) rfl rfl (by rw [show (((k : Nat) : Int) + 1 : Int) = ((k + 1 : Nat) : Int) by omega]; exact wrap_in hr10) ?_)
      refine st (ov_assign (v := .int .i64 ((k + 1 : Nat) : Int)) rfl ?_)
      refine st_nil ?_
      exact ⟨_, by omega, k + 1, _, rfl, setAll_self ⟨rfl, rfl, trivial⟩, hx1, by omega⟩
    · skip
      have hc9 := of_decide_eq_true hc9
      refine WP_cond_t rfl ?_
      refine WP_seq ?_
      refine WP_region0 (by kernel_rfl) (fun _ => ?_)
      refine st (ov_assign (v := .bool true) rfl ?_)
      refine st_nil ?_
      refine WP_ret ?_
      refine fin1 Try.results9 (show _ = (.bool true : Value) from rfl) ?_
      exact ⟨_, rfl, hx1⟩

end Go.Proofs.Ytbbhpddgjiifmaa
