/- Steps of the proofs of this seat: part Fns6. -/
import Derived.Test.YtbbhpddgjiifmaaFns5
set_option linter.unusedSimpArgs false
set_option linter.unusedVariables false
namespace Go.Proofs.Ytbbhpddgjiifmaa
open Go.Proofs Go.RowKit

theorem C_SameEvents {w : World} {Fa : Nat → Prop} {va : Value} {a : List Ev} (ha : RdS w Fa va a) {Fb : Nat → Prop} {vb : Value} {b : List Ev} (hb : RdS w Fb vb b) : Ret Try.prog 19 [va, vb] w (fun r w' => r = .bool (decide (a = b)) ∧ Ext w w') := by
  have has : a.length * 96 ≤ 140737488355328 := ha.small
  have hbs : b.length * 96 ≤ 140737488355328 := hb.small
  refine Calls_of_WP (args := [va, vb]) Try.func19 rfl rfl ?_
  refine WP_seq ?_
  refine WP_region0 (by kernel_rfl) (fun _ => ?_)
  refine st (ov_assign (v := .bool false) rfl ?_)
  refine st_nil ?_
  refine WP_seq ?_
  refine WP_seq ?_
  refine WP_region0 (by kernel_rfl) (fun _ => ?_)
  refine st (ov_move (v := va) rfl ?_)
  refine st (ov_len (n := a.length) Try.underlying22 rfl ha.sl ?_)
  refine st (ov_move (v := vb) rfl ?_)
  refine st (ov_len (n := b.length) Try.underlying22 rfl hb.sl ?_)
  refine st (ov_neq (k := .i64) (a := ((a.length : Nat) : Int)) (b := ((b.length : Nat) : Int)) rfl rfl ?_)
  refine st_nil ?_
  cases hc1 : !decide (((a.length : Nat) : Int) = ((b.length : Nat) : Int))
  · skip
    have hc1 := ndec_false hc1
    refine WP_cond_f rfl ?_
    refine WP_skip ?_
    refine WP_seq ?_
    refine WP_seq ?_
    refine WP_region0 (by kernel_rfl) (fun _ => ?_)
    refine st (ov_assign (v := .int .i64 (0)) rfl ?_)
    refine st_nil ?_
    refine WP_block ?_
    refine WP_loop (fun m σ wq => ∃ (k : Nat) (ρ : Env), m = a.length - k ∧ σ = setAll ρ [(0, va), (1, vb), (5, .int .i64 ((k : Nat) : Int))] ∧ (Ext w wq) ∧ (k ≤ a.length) ∧ (a.length = b.length) ∧ (a.take k = b.take k)) ⟨0, _, rfl, setAll_self ⟨rfl, rfl, rfl, trivial⟩, (Chg.refl _ _), Nat.zero_le _, by omega, rfl⟩ ?_
    rintro m6 σ7 w1 ⟨k, ρ1, rfl, rfl, hx2, hk3, hv4, hv5⟩
    have hx2s := hx2.size
    refine WP_seq ?_
    refine WP_seq ?_
    refine WP_region0 (by kernel_rfl) (fun _ => ?_)
    refine st (ov_move (v := .int .i64 ((k : Nat) : Int)) rfl ?_)
    refine st (ov_move (v := va) rfl ?_)
    refine st (ov_len (n := a.length) Try.underlying22 rfl ha.sl ?_)
    refine st (ov_lss (k := .i64) (a := ((k : Nat) : Int)) (b := ((a.length : Nat) : Int)) rfl rfl ?_)
    refine st_nil ?_
    cases hc8 : decide (((k : Nat) : Int) < ((a.length : Nat) : Int))
    · skip
      have hc8 := of_decide_eq_false hc8
      refine WP_cond_f rfl ?_
      refine WP_exit ?_
      refine blk_exit ?_
      refine WP_seq ?_
      refine WP_region0 (by kernel_rfl) (fun _ => ?_)
      refine st (ov_assign (v := .bool true) rfl ?_)
      refine st_nil ?_
      refine WP_ret ?_
      refine fin1 Try.results19 (show _ = (.bool true : Value) from rfl) ?_
      refine ⟨?_, hx2⟩
      rw [decide_eq_true (by rw [← List.take_of_length_le (l := a) (i := k) (by omega), ← List.take_of_length_le (l := b) (i := k) (by omega)]; assumption)]
    · skip
      have hc8 := of_decide_eq_true hc8
      refine WP_cond_t rfl ?_
      refine WP_skip ?_
      refine WP_seq ?_
      refine WP_block ?_
      refine WP_seq ?_
      refine WP_draw Ext (AL [fun v w => v = (va : Value), fun v w => v = (.int .i64 ((k : Nat) : Int) : Value), fun v w => v = (.pointer (some ⟨sb va, so va + k * 10, none⟩) : Value), fun v w => v = (.agg ((a[k]).cells (cellV w1 (sb va) (so va + k * 10 + 3))).toArray : Value), fun v w => v = (vb : Value), fun v w => v = (.int .i64 ((k : Nat) : Int) : Value), fun v w => v = (.pointer (some ⟨sb vb, so vb + k * 10, none⟩) : Value), fun v w => v = (.agg ((b[k]).cells (cellV w1 (sb vb) (so vb + k * 10 + 3))).toArray : Value)]) [[], [], [0, 1], [0, 1, 2], [], [], [4, 5], [4, 5, 6], [0, 1, 2, 3, 4, 5, 6, 7], [0, 1, 2, 3, 4, 5, 6, 7, 8]] 8 (by kernel_rfl) (by kernel_rfl) (by kernel_rfl) (fun w => Chg.refl _ w) (fun _ _ _ h1 h2 => h1.trans h2) (stabL ⟨fun _ _ _ _ h => h, fun _ _ _ _ h => h, fun _ _ _ _ h => h, fun _ _ _ _ h => h, fun _ _ _ _ h => h, fun _ _ _ _ h => h, fun _ _ _ _ h => h, fun _ _ _ _ h => h, trivial⟩) ?_
      intro w2 qh1 qh2 qh3 qh4
      have hx9 := ext_same qh1 qh2 qh3 qh4
      refine ⟨⟨?_, ?_, ?_, ?_, ?_, ?_, ?_, ?_, trivial⟩, ?_⟩
      · intro vals w3 hR10 hA
        have hs11 := hR10.size
        refine obl rfl ?_
        exact ov_move (v := va) rfl ⟨Chg.refl _ _, rfl⟩
      · intro vals w4 hR12 hA
        have hs13 := hR12.size
        refine obl rfl ?_
        exact ov_move (v := .int .i64 ((k : Nat) : Int)) rfl ⟨Chg.refl _ _, rfl⟩
      · intro vals w5 hR14 hA
        have hs15 := hR14.size
        have e0 : (vals 0) = (va : Value) := hA 0 (by decide)
        have e1 : (vals 1) = (.int .i64 ((k : Nat) : Int) : Value) := hA 1 (by decide)
        refine obl rfl ?_
        have hi16 : k < a.length := by omega
        have h18 := ha.ext hx2
        have hi17 : k < a.length := by omega
        obtain ⟨hc17, hd17, hok17⟩ := h18.ev hi17
        exact ov_indexAddrN (k := 10) (i := k) Try.underlying22 Try.sizeOf29 (show _ = (va : Value) from e0) ha.sl (show _ = (.int .i64 ((k : Nat) : Int) : Value) from e1) hi16 ⟨Chg.refl _ _, rfl⟩
      · intro vals w6 hR19 hA
        have hs20 := hR19.size
        have e2 : (vals 2) = (.pointer (some ⟨sb va, so va + k * 10, none⟩) : Value) := hA 2 (by decide)
        refine obl rfl ?_
        have h22 := ha.ext hx2
        have hi21 : k < a.length := by omega
        obtain ⟨hc21, hd21, hok21⟩ := h22.ev hi21
        have h23 := hc21.mono (fun hb => (Chg.trans hx9 hR19).block _ hb (fun h => h))
        exact ov_loadk (k := 10) Try.isAgg29 Try.sizeOf29 rfl (show _ = (.pointer (some ⟨sb va, so va + k * 10, none⟩) : Value) from e2) h23 ⟨Chg.refl _ _, rfl⟩
      · intro vals w7 hR24 hA
        have hs25 := hR24.size
        refine obl rfl ?_
        exact ov_move (v := vb) rfl ⟨Chg.refl _ _, rfl⟩
      · intro vals w8 hR26 hA
        have hs27 := hR26.size
        refine obl rfl ?_
        exact ov_move (v := .int .i64 ((k : Nat) : Int)) rfl ⟨Chg.refl _ _, rfl⟩
      · intro vals w9 hR28 hA
        have hs29 := hR28.size
        have e4 : (vals 4) = (vb : Value) := hA 4 (by decide)
        have e5 : (vals 5) = (.int .i64 ((k : Nat) : Int) : Value) := hA 5 (by decide)
        refine obl rfl ?_
        have hi30 : k < b.length := by omega
        have h32 := hb.ext hx2
        have hi31 : k < b.length := by omega
        obtain ⟨hc31, hd31, hok31⟩ := h32.ev hi31
        exact ov_indexAddrN (k := 10) (i := k) Try.underlying22 Try.sizeOf29 (show _ = (vb : Value) from e4) hb.sl (show _ = (.int .i64 ((k : Nat) : Int) : Value) from e5) hi30 ⟨Chg.refl _ _, rfl⟩
      · intro vals w10 hR33 hA
        have hs34 := hR33.size
        have e6 : (vals 6) = (.pointer (some ⟨sb vb, so vb + k * 10, none⟩) : Value) := hA 6 (by decide)
        refine obl rfl ?_
        have h36 := hb.ext hx2
        have hi35 : k < b.length := by omega
        obtain ⟨hc35, hd35, hok35⟩ := h36.ev hi35
        have h37 := hc35.mono (fun hb => (Chg.trans hx9 hR33).block _ hb (fun h => h))
        exact ov_loadk (k := 10) Try.isAgg29 Try.sizeOf29 rfl (show _ = (.pointer (some ⟨sb vb, so vb + k * 10, none⟩) : Value) from e6) h37 ⟨Chg.refl _ _, rfl⟩
      intro vals w11 hR38 hA
      have hs39 := hR38.size
      have hs40 := hx9.size
      have e3 : (vals 3) = (.agg ((a[k]).cells (cellV w1 (sb va) (so va + k * 10 + 3))).toArray : Value) := hA 3 (by decide)
      have e7 : (vals 7) = (.agg ((b[k]).cells (cellV w1 (sb vb) (so vb + k * 10 + 3))).toArray : Value) := hA 7 (by decide)
      refine st_env (kv := [(0, va), (1, vb), (5, .int .i64 ((k : Nat) : Int)), (11, .int .i64 ((k : Nat) : Int)), (12, va), (13, .int .i64 ((a.length : Nat) : Int)), (14, .bool true), (20, .agg ((a[k]).cells (cellV w1 (sb va) (so va + k * 10 + 3))).toArray), (24, .agg ((b[k]).cells (cellV w1 (sb vb) (so vb + k * 10 + 3))).toArray)]) ⟨rfl, rfl, rfl, rfl, rfl, rfl, rfl, e3, e7, trivial⟩ (fun ρ11 => ?_)
      clear e3 e7
      clear hA qh1 qh2 qh3 qh4
      have h42 := ha.ext hx2
      have hi41 : k < a.length := by omega
      obtain ⟨hc41, hd41, hok41⟩ := h42.ev hi41
      have h43 := hd41.ext (Chg.trans hx9 hR38)
      have h45 := hb.ext hx2
      have hi44 : k < b.length := by omega
      obtain ⟨hc44, hd44, hok44⟩ := h45.ev hi44
      have h46 := hd44.ext (Chg.trans hx9 hR38)
      refine st (ov_call (f := 22) (vals := [.agg ((a[k]).cells (cellV w1 (sb va) (so va + k * 10 + 3))).toArray, .agg ((b[k]).cells (cellV w1 (sb vb) (so vb + k * 10 + 3))).toArray]) (cap := []) (show _ = (.func (.func 22) #[] #[] : Value) from rfl) rfl Try.call22 (C_SameEvent h43 hok41 h46 hok44) ?_)
      rintro _ w12 ⟨rfl, hx47⟩
      have hx47s := hx47.size
      refine st (ov_not (a := decide ((a[k]) = (b[k]))) rfl ?_)
      refine st_nil ?_
      cases hc48 : !(decide ((a[k]) = (b[k])))
      · skip
        have hc48 := ndec_false hc48
        refine WP_cond_f rfl ?_
        refine WP_skip ?_
        refine WP_region0 (by kernel_rfl) (fun _ => ?_)
        refine st (ov_move (v := .int .i64 ((k : Nat) : Int)) rfl ?_)
        have hr49 : InR ((k + 1 : Nat) : Int) := by omega
        refine st (ov_add (r := ((k + 1 : Nat) : Int)) (k := .i64) (a := ((k : Nat) : Int)) (b := 1) rfl rfl (by rw [show (((k : Nat) : Int) + 1 : Int) = ((k + 1 : Nat) : Int) by omega]; exact wrap_in hr49) ?_)
        refine st (ov_assign (v := .int .i64 ((k + 1 : Nat) : Int)) rfl ?_)
        refine st_nil ?_
        exact ⟨_, by omega, k + 1, _, rfl, setAll_self ⟨rfl, rfl, rfl, trivial⟩, (Chg.trans (Chg.trans (Chg.trans hx2 hx9) hR38) hx47), by omega, hv4, (by rw [List.take_succ_eq_append_getElem (by omega), List.take_succ_eq_append_getElem (by omega), hv5, ‹a[k] = b[k]›])⟩
      · skip
        have hc48 := ndec_true hc48
        refine WP_cond_t rfl ?_
        refine WP_seq ?_
        refine WP_region0 (by kernel_rfl) (fun _ => ?_)
        refine st (ov_assign (v := .bool false) rfl ?_)
        refine st_nil ?_
        refine WP_ret ?_
        refine fin1 Try.results19 (show _ = (.bool false : Value) from rfl) ?_
        refine ⟨?_, (Chg.trans (Chg.trans (Chg.trans hx2 hx9) hR38) hx47)⟩
        rw [decide_eq_false (by intro h; subst h; first | omega | exact absurd rfl ‹_›)]
  · skip
    have hc1 := ndec_true hc1
    refine WP_cond_t rfl ?_
    refine WP_seq ?_
    refine WP_region0 (by kernel_rfl) (fun _ => ?_)
    refine st (ov_assign (v := .bool false) rfl ?_)
    refine st_nil ?_
    refine WP_ret ?_
    refine fin1 Try.results19 (show _ = (.bool false : Value) from rfl) ?_
    refine ⟨?_, (Chg.refl _ _)⟩
    rw [decide_eq_false (by intro h; subst h; first | omega | exact absurd rfl ‹_›)]

theorem C_CloneInts {w : World} {Fl : Nat → Prop} {vl : Value} {l : List Int} (hl : RdS w Fl vl l) : Ret Try.prog 30 [vl] w (fun r w' => Ext w w' ∧ Fresh 3 w.heap.size w' r l) := by
  have hls : l.length * 8 ≤ 140737488355328 := hl.small
  refine Calls_of_WP (args := [vl]) Try.func30 rfl rfl ?_
  refine WP_seq ?_
  refine WP_region0 (by kernel_rfl) (fun _ => ?_)
  refine st (ov_assign (v := (.slice none 0 0)) rfl ?_)
  refine st_nil ?_
  refine WP_seq ?_
  refine WP_seq ?_
  refine WP_region0 (by kernel_rfl) (fun _ => ?_)
  refine st (ov_move (v := vl) rfl ?_)
  refine st (ov_eqlNil (v := vl) Try.underlying27 rfl hl.sl ?_)
  refine st_nil ?_
  cases hc1 : isNilSl vl
  · skip
    refine WP_cond_f rfl ?_
    refine WP_skip ?_
    refine WP_seq ?_
    refine WP_region0 (by kernel_rfl) (fun _ => ?_)
    refine st (ov_buildSlice (k := 1) (parts' := []) (c := #[]) Try.underlying27 Try.sizeOf3 Try.zeroValue3 (by decide) rfl (by kernel_rfl) (fun w1 b3 hn2 => ?_))
    have hb4 : w1.heap[b3]? = some (.cells #[] 3) := hn2.at_
    have hs5 := hn2.size; have hs5e := hn2.eq
    have ho6 : OwnS (α := Int) 3 w.heap.size w1 (fun _ => False) ((.slice (some ⟨b3, 0, none⟩) 0 0)) [] := OwnS.made hb4 (by omega) (fun h => h) (fun _ h => h.elim)
    refine st (ov_move (v := vl) rfl ?_)
    have h10 := hl.ext hn2.ext
    refine st (ov_append (bytes := 8) (F' := (fun _ => False)) elem27 rfl ho6 rfl h10 (fun _ h => h) (fun _ _ h => h) ho6.apart ho6.bound (by omega) (by first | omega | (simp only [List.length_take, List.length_drop, List.length_nil, List.length_append, List.length_cons]; omega)) rfl (fun v7 w2 ho8 hch9 => ?_))
    have hs11 := hch9.size
    refine st (ov_assign (v := v7) rfl ?_)
    refine st_nil ?_
    refine WP_ret ?_
    refine fin1 Try.results30 (show _ = (v7 : Value) from rfl) ?_
    exact ⟨(Chg.new hn2.ext hch9 (fun i hi hO => by have := (ho6.lt i hO).1; omega)), fun _ => False, ho8, fun _ h => h.elim⟩
  · skip
    refine WP_cond_t rfl ?_
    refine WP_seq ?_
    refine WP_region0 (by kernel_rfl) (fun _ => ?_)
    refine st (ov_assign (v := (.slice none 0 0)) rfl ?_)
    refine st_nil ?_
    refine WP_ret ?_
    refine fin1 Try.results30 (show _ = ((.slice none 0 0) : Value) from rfl) ?_
    refine ⟨(Chg.refl _ _), ?_⟩
    rw [List.length_eq_zero_iff.1 (nil_len hl.sl ‹_›)]
    exact Fresh.nil _ _ _

end Go.Proofs.Ytbbhpddgjiifmaa
