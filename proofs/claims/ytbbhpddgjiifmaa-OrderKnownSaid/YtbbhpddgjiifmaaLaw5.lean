/- Steps of the proofs of this seat: part Law5. -/
import Derived.Test.YtbbhpddgjiifmaaKit3
set_option linter.unusedSimpArgs false
set_option linter.unusedVariables false
namespace Go.Proofs.Ytbbhpddgjiifmaa
open Go.Proofs Go.RowKit

set_option maxHeartbeats 4000000 in
theorem C_OrderSorts {w : World} {Fl : Nat → Prop} {vl : Value} {l : List Ev} (hl0 : RdS w Fl vl l) {t : Int} (ht : InR t) : Ret Try.prog 4 [vl, .int .i64 (t)] w (fun r w' => r = .bool true ∧ Ext w w') := by
  have hl := hl0.bnd
  have hls : l.length * 96 ≤ 140737488355328 := hl.small
  refine Calls_of_WP (args := [vl, .int .i64 (t)]) Try.func4 rfl rfl ?_
  refine WP_seq ?_
  refine WP_region0 (by kernel_rfl) (fun _ => ?_)
  refine st (ov_assign (v := .bool false) rfl ?_)
  refine st_nil ?_
  refine WP_seq ?_
  refine WP_seq ?_
  refine WP_region0 (by kernel_rfl) (fun _ => ?_)
  refine st (ov_move (v := vl) rfl ?_)
  refine st (ov_call (f := 9) (vals := [vl]) (cap := []) (show _ = (.func (.func 9) #[] #[] : Value) from rfl) rfl Try.call9 (C_Long hl) ?_)
  rintro _ w1 ⟨bb1, rfl, hx2⟩
  have hx2s := hx2.size
  refine st_nil ?_
  cases hc3 : bb1
  · skip
    refine WP_cond_f rfl ?_
    refine WP_skip ?_
    refine WP_seq ?_
    refine WP_region0 (by kernel_rfl) (fun _ => ?_)
    refine st (ov_move (v := vl) rfl ?_)
    have h4 := hl.ext hx2
    refine st (ov_call (f := 18) (vals := [vl]) (cap := []) (show _ = (.func (.func 18) #[] #[] : Value) from rfl) rfl Try.call18 (C_SortS h4) ?_)
    rintro v7 w2 ⟨hx5, hf6⟩
    have hx5s := hx5.size
    have hf6r := hf6.rd
    refine st (ov_assign (v := v7) rfl ?_)
    refine st_nil ?_
    refine WP_seq ?_
    refine WP_seq ?_
    refine WP_region0 (by kernel_rfl) (fun _ => ?_)
    refine st (ov_move (v := v7) rfl ?_)
    refine st (ov_len (n := (srt l).length) Try.underlying22 rfl hf6r.sl ?_)
    refine st (ov_move (v := vl) rfl ?_)
    refine st (ov_len (n := l.length) Try.underlying22 rfl h4.sl ?_)
    refine st (ov_neq (k := .i64) (a := (((srt l).length : Nat) : Int)) (b := ((l.length : Nat) : Int)) rfl rfl ?_)
    refine st_nil ?_
    cases hc8 : !decide ((((srt l).length : Nat) : Int) = ((l.length : Nat) : Int))
    · skip
      have hc8 := ndec_false hc8
      refine WP_cond_f rfl ?_
      refine WP_skip ?_
      refine WP_seq ?_
      refine WP_region0 (by kernel_rfl) (fun _ => ?_)
      refine st (ov_assign (v := .bool true) rfl ?_)
      refine st_nil ?_
      refine WP_seq ?_
      refine WP_seq ?_
      refine WP_region0 (by kernel_rfl) (fun _ => ?_)
      refine st (ov_assign (v := .int .i64 (1)) rfl ?_)
      refine st_nil ?_
      refine WP_block ?_
      refine WP_loop (fun m σ wq => ∃ (i : Nat) (u : Bool) (ρ : Env), m = (srt l).length + 1 - i ∧ σ = setAll ρ [(0, vl), (1, .int .i64 (t)), (5, v7), (6, .bool u), (7, .int .i64 ((i : Nat) : Int))] ∧ (Ext w2 wq) ∧ (1 ≤ i) ∧ (i ≤ max (srt l).length 1) ∧ (u = true → ∀ j, 1 ≤ j → j < i → less ((srt l).getD (j - 1) default) ((srt l).getD j default) = true)) ⟨1, true, _, rfl, setAll_self ⟨rfl, rfl, rfl, rfl, rfl, trivial⟩, (Chg.refl _ _), Nat.le_refl _, by omega, (fun _ j h1 h2 => by omega)⟩ ?_
      rintro m11 σ12 w3 ⟨i, u, ρ3, rfl, rfl, hx10, hi1, hi2, hv9⟩
      have hx10s := hx10.size
      refine WP_seq ?_
      refine WP_seq ?_
      refine WP_region0 (by kernel_rfl) (fun _ => ?_)
      refine st (ov_move (v := .int .i64 ((i : Nat) : Int)) rfl ?_)
      refine st (ov_move (v := v7) rfl ?_)
      refine st (ov_len (n := (srt l).length) Try.underlying22 rfl hf6r.sl ?_)
      refine st (ov_lss (k := .i64) (a := ((i : Nat) : Int)) (b := (((srt l).length : Nat) : Int)) rfl rfl ?_)
      refine st_nil ?_
      cases hc13 : decide (((i : Nat) : Int) < (((srt l).length : Nat) : Int))
      · skip
        have hc13 := of_decide_eq_false hc13
        refine WP_cond_f rfl ?_
        refine WP_exit ?_
        refine blk_exit ?_
        refine WP_seq ?_
        refine WP_region0 (by kernel_rfl) (fun _ => ?_)
        refine st (ov_move (v := vl) rfl ?_)
        refine st (ov_len (n := l.length) Try.underlying22 rfl h4.sl ?_)
        refine st (ov_makeSlice (α := Bool) (T := 4) (bytes := 1) (n := l.length) (x1 := false) Try.underlying34 ⟨_, _, rfl, rfl, rfl, rfl, rfl, fun _ _ => rfl⟩ rfl rfl rfl (by show l.length * 1 ≤ 140737488355328; omega) (fun w4 b14 hx15 he16 hl17 ho18 => ?_))
        have hx15s := hx15.size
        refine st (ov_assign (v := (.slice (some ⟨b14, 0, none⟩) l.length l.length)) rfl ?_)
        refine st_nil ?_
        refine WP_seq ?_
        refine WP_seq ?_
        refine WP_region0 (by kernel_rfl) (fun _ => ?_)
        refine st (ov_assign (v := .int .i64 (0)) rfl ?_)
        refine st_nil ?_
        refine WP_block ?_
        refine WP_loop (fun m σ wq => ∃ (i3 : Nat) (U : List Bool) (ρ : Env), m = (srt l).length - i3 ∧ σ = setAll ρ [(0, vl), (1, .int .i64 (t)), (5, v7), (6, .bool u), (8, (.slice (some ⟨b14, 0, none⟩) l.length l.length)), (9, .int .i64 ((i3 : Nat) : Int))] ∧ (Ext w3 wq) ∧ (i3 ≤ (srt l).length) ∧ (OwnS 4 w3.heap.size wq (fun _ => False) (.slice (some ⟨b14, 0, none⟩) l.length l.length) U) ∧ (U.length = l.length) ∧ (∀ x, cntU x l U = ((srt l).take i3).count x)) ⟨0, List.replicate l.length false, _, rfl, setAll_self ⟨rfl, rfl, rfl, rfl, rfl, rfl, trivial⟩, hx15, Nat.zero_le _, ho18, by simp, (fun x => by rw [cntU_none]; simp)⟩ ?_
        rintro m19 σ20 w5 ⟨i3, U, ρ5, rfl, rfl, hxA, hi3, hoA, hU, hcnt⟩
        have hxAs := hxA.size
        refine WP_seq ?_
        refine WP_seq ?_
        refine WP_region0 (by kernel_rfl) (fun _ => ?_)
        refine st (ov_move (v := .int .i64 ((i3 : Nat) : Int)) rfl ?_)
        refine st (ov_move (v := v7) rfl ?_)
        refine st (ov_len (n := (srt l).length) Try.underlying22 rfl hf6r.sl ?_)
        refine st (ov_lss (k := .i64) (a := ((i3 : Nat) : Int)) (b := (((srt l).length : Nat) : Int)) rfl rfl ?_)
        refine st_nil ?_
        cases hc21 : decide (((i3 : Nat) : Int) < (((srt l).length : Nat) : Int))
        · skip
          have hc21 := of_decide_eq_false hc21
          refine WP_cond_f rfl ?_
          refine WP_exit ?_
          refine blk_exit ?_
          refine WP_seq ?_
          refine WP_region0 (by kernel_rfl) (fun _ => ?_)
          refine st (ov_move (v := .int .i64 (t)) rfl ?_)
          refine st (ov_move (v := vl) rfl ?_)
          refine st (ov_len (n := l.length) Try.underlying22 rfl h4.sl ?_)
          have hr22 : InR ((l.length + 1 : Nat) : Int) := by omega
          refine st (ov_add (r := ((l.length + 1 : Nat) : Int)) (k := .i64) (a := ((l.length : Nat) : Int)) (b := 1) rfl rfl (by rw [show (((l.length : Nat) : Int) + 1 : Int) = ((l.length + 1 : Nat) : Int) by omega]; exact wrap_in hr22) ?_)
          refine st (ov_call (f := 23) (vals := [.int .i64 (t), .int .i64 ((l.length + 1 : Nat) : Int)]) (cap := []) (show _ = (.func (.func 23) #[] #[] : Value) from rfl) rfl Try.call23 (C_Pick (n := l.length + 1) ht (by omega) (by omega)) ?_)
          rintro _ w6 ⟨p23, rfl, hp24, hx25⟩
          have hx25s := hx25.size
          refine st (ov_assign (v := .int .i64 ((p23 : Nat) : Int)) rfl ?_)
          refine st_nil ?_
          refine WP_seq ?_
          refine WP_draw Ext (AL [fun v w => v = (vl : Value), fun v w => v = (.int .i64 ((p23 : Nat) : Int) : Value), fun v w => v = ((subV 10 vl p23 l.length) : Value), fun v w => Fresh (α := Ev) 29 w6.heap.size w v ((l.drop p23)), fun v w => v = (vl : Value), fun v w => v = (.int .i64 ((p23 : Nat) : Int) : Value), fun v w => v = ((subV 10 vl 0 p23) : Value)]) [[], [], [0, 1], [0, 1, 2], [], [], [4, 5], [0, 1, 2, 3, 4, 5, 6], [0, 1, 2, 3, 4, 5, 6, 7]] 7 (by kernel_rfl) (by kernel_rfl) (by kernel_rfl) (fun w => Chg.refl _ w) (fun _ _ _ h1 h2 => h1.trans h2) (stabL ⟨fun _ _ _ _ h => h, fun _ _ _ _ h => h, fun _ _ _ _ h => h, fun _ _ _ hx h => h.ext hx, fun _ _ _ _ h => h, fun _ _ _ _ h => h, fun _ _ _ _ h => h, trivial⟩) ?_
          intro w7 qh1 qh2 qh3 qh4
          have hx26 := ext_same qh1 qh2 qh3 qh4
          refine ⟨⟨?_, ?_, ?_, ?_, ?_, ?_, ?_, trivial⟩, ?_⟩
          · intro vals w8 hR27 hA
            have hs28 := hR27.size
            refine obl rfl ?_
            exact ov_move (v := vl) rfl ⟨Chg.refl _ _, rfl⟩
          · intro vals w9 hR29 hA
            have hs30 := hR29.size
            refine obl rfl ?_
            exact ov_move (v := .int .i64 ((p23 : Nat) : Int)) rfl ⟨Chg.refl _ _, rfl⟩
          · intro vals w10 hR31 hA
            have hs32 := hR31.size
            have e0 : (vals 0) = (vl : Value) := hA 0 (by decide)
            have e1 : (vals 1) = (.int .i64 ((p23 : Nat) : Int) : Value) := hA 1 (by decide)
            refine obl rfl ?_
            exact ov_sliceLo (i := p23) (k := 10) (n := l.length) Try.underlying22 Try.sizeOf29 (show _ = (vl : Value) from e0) h4.sl (show _ = (.int .i64 ((p23 : Nat) : Int) : Value) from e1) (by first | omega | (simp only [List.length_drop, List.length_take]; omega)) ⟨Chg.refl _ _, rfl⟩
          · intro vals w11 hR33 hA
            have hs34 := hR33.size
            have e2 : (vals 2) = ((subV 10 vl p23 l.length) : Value) := hA 2 (by decide)
            refine obl rfl ?_
            have h35 := RdS.sub_lo (i := p23) h4 (by first | omega | (simp only [List.length_drop, List.length_take]; omega))
            have h36 := h35.ext (Chg.trans (Chg.trans (Chg.trans (Chg.trans (Chg.trans hx5 hx10) hxA) hx25) hx26) hR33)
            exact ov_call (f := 17) (vals := [(subV 10 vl p23 l.length)]) (cap := []) (show _ = (.func (.func 17) #[] #[] : Value) from rfl) (mapL ⟨(show _ = ((subV 10 vl p23 l.length) : Value) from e2), trivial⟩) Try.call17 (C_CopyEvents h36) (fun _ _ h => ⟨h.1, h.2.low (Chg.size (Chg.trans hx26 hR33))⟩)
          · intro vals w12 hR37 hA
            have hs38 := hR37.size
            refine obl rfl ?_
            exact ov_move (v := vl) rfl ⟨Chg.refl _ _, rfl⟩
          · intro vals w13 hR39 hA
            have hs40 := hR39.size
            refine obl rfl ?_
            exact ov_move (v := .int .i64 ((p23 : Nat) : Int)) rfl ⟨Chg.refl _ _, rfl⟩
          · intro vals w14 hR41 hA
            have hs42 := hR41.size
            have e4 : (vals 4) = (vl : Value) := hA 4 (by decide)
            have e5 : (vals 5) = (.int .i64 ((p23 : Nat) : Int) : Value) := hA 5 (by decide)
            refine obl rfl ?_
            exact ov_sliceHi (j := p23) (k := 10) (n := l.length) Try.underlying22 Try.sizeOf29 (show _ = (vl : Value) from e4) h4.sl (show _ = (.int .i64 ((p23 : Nat) : Int) : Value) from e5) (by first | omega | (simp only [List.length_drop, List.length_take]; omega)) ⟨Chg.refl _ _, rfl⟩
          intro vals w15 hR43 hA
          have hs44 := hR43.size
          have hs45 := hx26.size
          have e3 : Fresh (α := Ev) 29 w6.heap.size w15 (vals 3) ((l.drop p23)) := hA 3 (by decide)
          have e3r := e3.rd
          have e6 : (vals 6) = ((subV 10 vl 0 p23) : Value) := hA 6 (by decide)
          refine st_env (kv := [(0, vl), (1, .int .i64 ((p23 : Nat) : Int)), (5, v7), (6, .bool u), (8, (.slice (some ⟨b14, 0, none⟩) l.length l.length)), (9, .int .i64 ((i3 : Nat) : Int)), (55, .int .i64 ((i3 : Nat) : Int)), (56, v7), (57, .int .i64 (((srt l).length : Nat) : Int)), (58, .bool false), (92, .int .i64 (t)), (93, vl), (94, .int .i64 ((l.length : Nat) : Int)), (95, .int .i64 ((l.length + 1 : Nat) : Int)), (96, .int .i64 ((p23 : Nat) : Int)), (100, (vals 3)), (103, (subV 10 vl 0 p23))]) ⟨rfl, rfl, rfl, rfl, rfl, rfl, rfl, rfl, rfl, rfl, rfl, rfl, rfl, rfl, rfl, rfl, e6, trivial⟩ (fun ρ15 => ?_)
          clear e6
          clear hA qh1 qh2 qh3 qh4
          obtain ⟨F46, ho47, hF48⟩ := e3
          have h52 := RdS.sub_hi (j := p23) h4 (by first | omega | (simp only [List.length_drop, List.length_take]; omega))
          have h53 := h52.ext (Chg.trans (Chg.trans (Chg.trans (Chg.trans (Chg.trans hx5 hx10) hxA) hx25) hx26) hR43)
          refine st (ov_append (bytes := 96) (F' := (fun b => F46 b ∨ b < w.heap.size)) elem22 rfl ho47 rfl h53 (fun _ h => .inl h) (fun _ _ h => Rep.mono h (fun b hb _ => ⟨rfl, .inr hb⟩)) (fun b hb h => h.elim (ho47.apart b hb) (fun h => by have h1 := (ho47.lt b hb).1; have h : b < w.heap.size := h; omega)) (fun b h => h.elim (ho47.bound b) (fun h => by have h : b < w.heap.size := h; omega)) (by omega) (by first | omega | (simp only [List.length_take, List.length_drop, List.length_nil, List.length_append, List.length_cons]; omega)) rfl (fun v49 w16 ho50 hch51 => ?_))
          have hs54 := hch51.size
          refine st (ov_assign (v := v49) rfl ?_)
          refine st_nil ?_
          refine WP_seq ?_
          refine WP_seq ?_
          refine WP_region (by kernel_rfl) ?_
          refine st (ov_move (v := .bool u) rfl ?_)
          refine st (ov_move (v := .bool u) rfl ?_)
          cases hg55 : u
          · skip
            refine stx rfl rfl ?_
            refine stx rfl rfl ?_
            refine stx rfl rfl ?_
            refine stx rfl rfl ?_
            refine stx rfl rfl ?_
            refine st (ov_pick_f (v := .bool false) rfl rfl ?_)
            refine st_nil ?_
            refine WP_cond_f rfl ?_
            refine WP_skip ?_
            refine WP_seq ?_
            refine WP_region (by kernel_rfl) ?_
            refine st (ov_move (v := v7) rfl ?_)
            have h56 := hf6r.ext (Chg.new (Chg.trans (Chg.trans (Chg.trans (Chg.trans hx10 hxA) hx25) hx26) hR43) hch51 (fun i hi hO => by have := (ho47.lt i hO).1; omega))
            refine st (ov_call (f := 18) (vals := [v7]) (cap := []) (show _ = (.func (.func 18) #[] #[] : Value) from rfl) rfl Try.call18 (C_SortS h56) ?_)
            rintro v59 w17 ⟨hx57, hf58⟩
            have hx57s := hx57.size
            have hf58r := hf58.rd
            refine st (ov_move (v := v7) rfl ?_)
            have h60 := h56.ext hx57
            refine st (ov_call (f := 19) (vals := [v59, v7]) (cap := []) (show _ = (.func (.func 19) #[] #[] : Value) from rfl) rfl Try.call19 (C_SameEvents hf58r h60) ?_)
            rintro _ w18 ⟨rfl, hx61⟩
            have hx61s := hx61.size
            refine st (ov_move (v := .bool (decide ((srt ((srt l))) = (srt l)))) rfl ?_)
            refine stcw (V := .bool true) Ext (Chg.refl _ _) rfl rfl (fun hb62 => ?_) (fun w19 hx64 => ?_)
            · have hl63 : (decide ((srt ((srt l))) = (srt l))) = true := hb62
              have hl63 := of_decide_eq_true hl63
              exact ov_call (f := 10) (vals := []) (cap := []) (show _ = (.func (.func 10) #[] #[] : Value) from rfl) rfl Try.call10 (C_works ) (fun _ _ h => h)
            have hs65 := hx64.size
            refine st (ov_pick_and (b := decide ((srt ((srt l))) = (srt l))) (b' := true) rfl (fun hbp => (show _ = (.bool true : Value) from (if_pos hbp))) ?_)
            refine st (ov_assign (v := .bool ((decide ((srt ((srt l))) = (srt l))) && true)) rfl ?_)
            refine st_nil ?_
            refine WP_ret ?_
            refine fin1 Try.results4 (show _ = (.bool ((decide ((srt ((srt l))) = (srt l))) && true) : Value) from rfl) ?_
            refine ⟨?_, (Chg.trans (Chg.trans (Chg.trans (Chg.new (Chg.trans (Chg.trans (Chg.trans (Chg.trans (Chg.trans (Chg.trans hx2 hx5) hx10) hxA) hx25) hx26) hR43) hch51 (fun i hi hO => by have := (ho47.lt i hO).1; omega)) hx57) hx61) hx64)⟩
            rw [srt_idem (srt_srtd l)]
            simp
          · skip
            refine sty rfl rfl (ov_move (v := v49) rfl ?_)
            have h66 := OwnS.toRd (F' := (fun b => (fun b => F46 b ∨ b < w.heap.size) b ∨ v49.ownBlock = some b)) ho50 (fun _ h => .inl h) (fun _ h => .inr h)
            refine sty rfl rfl (ov_call (f := 18) (vals := [v49]) (cap := []) (show _ = (.func (.func 18) #[] #[] : Value) from rfl) rfl Try.call18 (C_SortS h66) ?_)
            rintro v69 w20 ⟨hx67, hf68⟩
            have hx67s := hx67.size
            have hf68r := hf68.rd
            refine sty rfl rfl (ov_move (v := v7) rfl ?_)
            have h70 := hf6r.ext (Chg.trans (Chg.new (Chg.trans (Chg.trans (Chg.trans (Chg.trans hx10 hxA) hx25) hx26) hR43) hch51 (fun i hi hO => by have := (ho47.lt i hO).1; omega)) hx67)
            refine sty rfl rfl (ov_call (f := 19) (vals := [v69, v7]) (cap := []) (show _ = (.func (.func 19) #[] #[] : Value) from rfl) rfl Try.call19 (C_SameEvents hf68r h70) ?_)
            rintro _ w21 ⟨rfl, hx71⟩
            have hx71s := hx71.size
            refine sty rfl rfl (ov_not (a := decide ((srt (((l.drop p23) ++ l.take p23))) = (srt l))) rfl ?_)
            refine st (ov_pick_t (v := .bool (!(decide ((srt (((l.drop p23) ++ l.take p23))) = (srt l))))) rfl rfl ?_)
            refine st_nil ?_
            cases hc72 : !(decide ((srt (((l.drop p23) ++ l.take p23))) = (srt l)))
            · skip
              have hc72 := ndec_false hc72
              refine WP_cond_f rfl ?_
              refine WP_skip ?_
              refine WP_seq ?_
              refine WP_region (by kernel_rfl) ?_
              refine st (ov_move (v := v7) rfl ?_)
              have h73 := h70.ext hx71
              refine st (ov_call (f := 18) (vals := [v7]) (cap := []) (show _ = (.func (.func 18) #[] #[] : Value) from rfl) rfl Try.call18 (C_SortS h73) ?_)
              rintro v76 w22 ⟨hx74, hf75⟩
              have hx74s := hx74.size
              have hf75r := hf75.rd
              refine st (ov_move (v := v7) rfl ?_)
              have h77 := h73.ext hx74
              refine st (ov_call (f := 19) (vals := [v76, v7]) (cap := []) (show _ = (.func (.func 19) #[] #[] : Value) from rfl) rfl Try.call19 (C_SameEvents hf75r h77) ?_)
              rintro _ w23 ⟨rfl, hx78⟩
              have hx78s := hx78.size
              refine st (ov_move (v := .bool (decide ((srt ((srt l))) = (srt l)))) rfl ?_)
              refine stcw (V := .bool true) Ext (Chg.refl _ _) rfl rfl (fun hb79 => ?_) (fun w24 hx81 => ?_)
              · have hl80 : (decide ((srt ((srt l))) = (srt l))) = true := hb79
                have hl80 := of_decide_eq_true hl80
                exact ov_call (f := 10) (vals := []) (cap := []) (show _ = (.func (.func 10) #[] #[] : Value) from rfl) rfl Try.call10 (C_works ) (fun _ _ h => h)
              have hs82 := hx81.size
              refine st (ov_pick_and (b := decide ((srt ((srt l))) = (srt l))) (b' := true) rfl (fun hbp => (show _ = (.bool true : Value) from (if_pos hbp))) ?_)
              refine st (ov_assign (v := .bool ((decide ((srt ((srt l))) = (srt l))) && true)) rfl ?_)
              refine st_nil ?_
              refine WP_ret ?_
              refine fin1 Try.results4 (show _ = (.bool ((decide ((srt ((srt l))) = (srt l))) && true) : Value) from rfl) ?_
              refine ⟨?_, (Chg.trans (Chg.trans (Chg.trans (Chg.trans (Chg.trans (Chg.new (Chg.trans (Chg.trans (Chg.trans (Chg.trans (Chg.trans (Chg.trans hx2 hx5) hx10) hxA) hx25) hx26) hR43) hch51 (fun i hi hO => by have := (ho47.lt i hO).1; omega)) hx67) hx71) hx74) hx78) hx81)⟩
              rw [srt_idem (srt_srtd l)]
              simp
            · skip
              have hc72 := ndec_true hc72
              refine WP_cond_t rfl ?_
              refine WP_seq ?_
              refine WP_region0 (by kernel_rfl) (fun _ => ?_)
              refine st (ov_assign (v := .bool false) rfl ?_)
              refine st_nil ?_
              refine WP_ret ?_
              refine fin1 Try.results4 (show _ = (.bool false : Value) from rfl) ?_
              exfalso
              first | (have := srt_length l; omega) | (have h9 := srtd_at (srt_srtd l) (i := i - 1) (j := i) (by omega) (by omega); rw [h9] at hc72; cases hc72) | (have h9 := hv1 hc72; exact found_some (srt_perm l) hU (i := i3) (by omega) hcnt (fun j hj => h9.2 j (by rcases hc21 with hz | hz; omega; rw [hc72] at hz; cases hz))) | (exact hc72 (srt_turn (turn_perm l _) (fun j h1 h2 => hv9 (by assumption) j h1 (by omega))))
        · skip
          have hc21 := of_decide_eq_true hc21
          refine WP_cond_t rfl ?_
          refine WP_skip ?_
          refine WP_seq ?_
          refine WP_block ?_
          refine WP_seq ?_
          refine WP_region0 (by kernel_rfl) (fun _ => ?_)
          refine st (ov_assign (v := .bool false) rfl ?_)
          refine st_nil ?_
          refine WP_seq ?_
          refine WP_seq ?_
          refine WP_region0 (by kernel_rfl) (fun _ => ?_)
          refine st (ov_assign (v := .int .i64 (0)) rfl ?_)
          refine st_nil ?_
          refine WP_block ?_
          refine WP_loop (fun m σ wq => ∃ (k : Nat) (f : Bool) (V2 : List Bool) (ρ : Env), m = l.length - k ∧ σ = setAll ρ [(0, vl), (1, .int .i64 (t)), (5, v7), (6, .bool u), (8, (.slice (some ⟨b14, 0, none⟩) l.length l.length)), (9, .int .i64 ((i3 : Nat) : Int)), (10, .bool f), (11, .int .i64 ((k : Nat) : Int))] ∧ (Ext w3 wq) ∧ (k ≤ l.length) ∧ (OwnS 4 w3.heap.size wq (fun _ => False) (.slice (some ⟨b14, 0, none⟩) l.length l.length) V2) ∧ (V2.length = l.length) ∧ (f = false → V2 = U ∧ ∀ j, j < k → U.getD j false = true ∨ l.getD j default ≠ ((srt l).getD i3 default)) ∧ (f = true → ∃ j, j < l.length ∧ U.getD j false = false ∧ l.getD j default = ((srt l).getD i3 default) ∧ V2 = U.set j true)) ⟨0, false, U, _, rfl, setAll_self ⟨rfl, rfl, rfl, rfl, rfl, rfl, rfl, rfl, trivial⟩, hxA, Nat.zero_le _, hoA, hU, (fun _ => ⟨rfl, fun j h => absurd h (Nat.not_lt_zero j)⟩), (fun h => by cases h)⟩ ?_
          rintro m83 σ84 w25 ⟨k, f, V2, ρ25, rfl, rfl, hxB, hk, hoB, hV, hv1, hv2⟩
          have hxBs := hxB.size
          refine WP_seq ?_
          refine WP_seq ?_
          refine WP_region (by kernel_rfl) ?_
          refine st (ov_move (v := .int .i64 ((k : Nat) : Int)) rfl ?_)
          refine st (ov_move (v := vl) rfl ?_)
          refine st (ov_len (n := l.length) Try.underlying22 rfl h4.sl ?_)
          refine st (ov_lss (k := .i64) (a := ((k : Nat) : Int)) (b := ((l.length : Nat) : Int)) rfl rfl ?_)
          refine st (ov_move (v := .bool (decide (((k : Nat) : Int) < ((l.length : Nat) : Int)))) rfl ?_)
          refine stc (V := .bool f) rfl rfl (fun hb85 => ?_) ?_
          · have hl86 : (decide (((k : Nat) : Int) < ((l.length : Nat) : Int))) = true := hb85
            have hl86 := of_decide_eq_true hl86
            exact ov_move (v := .bool f) rfl ⟨rfl, rfl⟩
          refine stc (V := .bool (!f)) rfl rfl (fun hb87 => ?_) ?_
          · have hl88 : (decide (((k : Nat) : Int) < ((l.length : Nat) : Int))) = true := hb87
            have hl88 := of_decide_eq_true hl88
            exact ov_not (a := f) (show _ = (.bool f : Value) from (if_pos hb87)) ⟨rfl, rfl⟩
          refine st (ov_pick_and (b := decide (((k : Nat) : Int) < ((l.length : Nat) : Int))) (b' := !f) rfl (fun hbp => (show _ = (.bool (!f) : Value) from (if_pos hbp))) ?_)
          refine st_nil ?_
          cases hc89 : (decide (((k : Nat) : Int) < ((l.length : Nat) : Int))) && (!f)
          · skip
            simp only [Bool.and_eq_true, Bool.or_eq_true, Bool.and_eq_false_iff, Bool.or_eq_false_iff, decide_eq_true_eq, decide_eq_false_iff_not, Bool.not_eq_true', Bool.not_eq_false', Int.not_lt, Int.not_le] at hc89
            refine WP_cond_f rfl ?_
            refine WP_exit ?_
            refine blk_exit ?_
            refine WP_seq ?_
            refine WP_region0 (by kernel_rfl) (fun _ => ?_)
            refine st (ov_move (v := .bool f) rfl ?_)
            refine st (ov_not (a := f) rfl ?_)
            refine st_nil ?_
            cases hc90 : !f
            · skip
              simp only [Bool.and_eq_true, Bool.or_eq_true, Bool.and_eq_false_iff, Bool.or_eq_false_iff, decide_eq_true_eq, decide_eq_false_iff_not, Bool.not_eq_true', Bool.not_eq_false', Int.not_lt, Int.not_le] at hc90
              refine WP_cond_f rfl ?_
              refine WP_skip ?_
              refine WP_region0 (by kernel_rfl) (fun _ => ?_)
              refine st (ov_move (v := .int .i64 ((i3 : Nat) : Int)) rfl ?_)
              have hr91 : InR ((i3 + 1 : Nat) : Int) := by omega
              refine st (ov_add (r := ((i3 + 1 : Nat) : Int)) (k := .i64) (a := ((i3 : Nat) : Int)) (b := 1) rfl rfl (by rw [show (((i3 : Nat) : Int) + 1 : Int) = ((i3 + 1 : Nat) : Int) by omega]; exact wrap_in hr91) ?_)
              refine st (ov_assign (v := .int .i64 ((i3 + 1 : Nat) : Int)) rfl ?_)
              refine st_nil ?_
              exact ⟨_, by omega, i3 + 1, V2, _, rfl, setAll_self ⟨rfl, rfl, rfl, rfl, rfl, rfl, trivial⟩, hxB, by omega, hoB, by omega, (fun x => by obtain ⟨j, h1, h2, h3, h4⟩ := hv2 hc90; rw [h4, cntU_set x l U j h1 hU h2, hcnt x, take_count (by omega) x, h3])⟩
            · skip
              simp only [Bool.and_eq_true, Bool.or_eq_true, Bool.and_eq_false_iff, Bool.or_eq_false_iff, decide_eq_true_eq, decide_eq_false_iff_not, Bool.not_eq_true', Bool.not_eq_false', Int.not_lt, Int.not_le] at hc90
              refine WP_cond_t rfl ?_
              refine WP_seq ?_
              refine WP_region0 (by kernel_rfl) (fun _ => ?_)
              refine st (ov_assign (v := .bool false) rfl ?_)
              refine st_nil ?_
              refine WP_ret ?_
              refine fin1 Try.results4 (show _ = (.bool false : Value) from rfl) ?_
              exfalso
              first | (have := srt_length l; omega) | (have h9 := srtd_at (srt_srtd l) (i := i - 1) (j := i) (by omega) (by omega); rw [h9] at hc90; cases hc90) | (have h9 := hv1 hc90; exact found_some (srt_perm l) hU (i := i3) (by omega) hcnt (fun j hj => h9.2 j (by rcases hc89 with hz | hz; omega; rw [hc90] at hz; cases hz))) | (exact hc90 (srt_turn (turn_perm l _) (fun j h1 h2 => hv9 (by assumption) j h1 (by omega))))
          · skip
            simp only [Bool.and_eq_true, Bool.or_eq_true, Bool.and_eq_false_iff, Bool.or_eq_false_iff, decide_eq_true_eq, decide_eq_false_iff_not, Bool.not_eq_true', Bool.not_eq_false', Int.not_lt, Int.not_le] at hc89
            refine WP_cond_t rfl ?_
            refine WP_skip ?_
            refine WP_seq ?_
            refine WP_block ?_
            refine WP_seq ?_
            refine WP_draw Ext (AL [fun v w => v = ((.slice (some ⟨b14, 0, none⟩) l.length l.length) : Value), fun v w => v = (.int .i64 ((k : Nat) : Int) : Value), fun v w => v = (.pointer (some ⟨sb (.slice (some ⟨b14, 0, none⟩) l.length l.length), so (.slice (some ⟨b14, 0, none⟩) l.length l.length) + k * 1, none⟩) : Value), fun v w => v = (.bool ((V2.getD k false)) : Value), fun v w => v = (.bool (!(V2.getD k false)) : Value), fun v w => v = (.bool (!(V2.getD k false)) : Value), fun v w => v = (if (!(V2.getD k false)) = true then (v7 : Value) else undef), fun v w => v = (if (!(V2.getD k false)) = true then (.int .i64 ((i3 : Nat) : Int) : Value) else undef), fun v w => v = (if (!(V2.getD k false)) = true then (.pointer (some ⟨sb v7, so v7 + i3 * 10, none⟩) : Value) else undef), fun v w => v = (if (!(V2.getD k false)) = true then (.agg (((srt l).getD i3 default).cells (cellV w25 (sb v7) (so v7 + i3 * 10 + 3))).toArray : Value) else undef), fun v w => v = (if (!(V2.getD k false)) = true then (vl : Value) else undef), fun v w => v = (if (!(V2.getD k false)) = true then (.int .i64 ((k : Nat) : Int) : Value) else undef), fun v w => v = (if (!(V2.getD k false)) = true then (.pointer (some ⟨sb vl, so vl + k * 10, none⟩) : Value) else undef), fun v w => v = (if (!(V2.getD k false)) = true then (.agg ((l.getD k default).cells (cellV w25 (sb vl) (so vl + k * 10 + 3))).toArray : Value) else undef), fun v w => v = (if (!(V2.getD k false)) = true then (.bool (decide (((srt l).getD i3 default) = (l.getD k default))) : Value) else undef), fun v w => v = (.bool ((!(V2.getD k false)) && (decide (((srt l).getD i3 default) = (l.getD k default)))) : Value)]) [[], [], [0, 1], [0, 1, 2], [0, 1, 2, 3], [0, 1, 2, 3, 4], [0, 1, 2, 3, 4, 5], [0, 1, 2, 3, 4, 5], [0, 1, 2, 3, 4, 5, 6, 7], [0, 1, 2, 3, 4, 5, 6, 7, 8], [0, 1, 2, 3, 4, 5], [0, 1, 2, 3, 4, 5], [0, 1, 2, 3, 4, 5, 10, 11], [0, 1, 2, 3, 4, 5, 10, 11, 12], [0, 1, 2, 3, 4, 5, 6, 7, 8, 9, 10, 11, 12, 13], [0, 1, 2, 3, 4, 5, 6, 7, 8, 9, 10, 11, 12, 13, 14]] 16 (by kernel_rfl) (by kernel_rfl) (by kernel_rfl) (fun w => Chg.refl _ w) (fun _ _ _ h1 h2 => h1.trans h2) (stabL ⟨fun _ _ _ _ h => h, fun _ _ _ _ h => h, fun _ _ _ _ h => h, fun _ _ _ _ h => h, fun _ _ _ _ h => h, fun _ _ _ _ h => h, fun _ _ _ _ h => h, fun _ _ _ _ h => h, fun _ _ _ _ h => h, fun _ _ _ _ h => h, fun _ _ _ _ h => h, fun _ _ _ _ h => h, fun _ _ _ _ h => h, fun _ _ _ _ h => h, fun _ _ _ _ h => h, fun _ _ _ _ h => h, trivial⟩) ?_
            intro w26 qh1 qh2 qh3 qh4
            have hx92 := ext_same qh1 qh2 qh3 qh4
            refine ⟨⟨?_, ?_, ?_, ?_, ?_, ?_, ?_, ?_, ?_, ?_, ?_, ?_, ?_, ?_, ?_, ?_, trivial⟩, ?_⟩
            · intro vals w27 hR93 hA
              have hs94 := hR93.size
              refine obl rfl ?_
              exact ov_move (v := (.slice (some ⟨b14, 0, none⟩) l.length l.length)) rfl ⟨Chg.refl _ _, rfl⟩
            · intro vals w28 hR95 hA
              have hs96 := hR95.size
              refine obl rfl ?_
              exact ov_move (v := .int .i64 ((k : Nat) : Int)) rfl ⟨Chg.refl _ _, rfl⟩
            · intro vals w29 hR97 hA
              have hs98 := hR97.size
              have e0 : (vals 0) = ((.slice (some ⟨b14, 0, none⟩) l.length l.length) : Value) := hA 0 (by decide)
              have e1 : (vals 1) = (.int .i64 ((k : Nat) : Int) : Value) := hA 1 (by decide)
              refine obl rfl ?_
              have hi99 : k < V2.length := by omega
              have hi100 : k < V2.length := by omega
              have hc100 := hoB.bool hi100
              rw [← getD_at false hi100] at hc100
              exact ov_indexAddrN (k := 1) (i := k) Try.underlying34 Try.sizeOf4 (show _ = ((.slice (some ⟨b14, 0, none⟩) l.length l.length) : Value) from e0) hoB.isSl (show _ = (.int .i64 ((k : Nat) : Int) : Value) from e1) hi99 ⟨Chg.refl _ _, rfl⟩
            · intro vals w30 hR101 hA
              have hs102 := hR101.size
              have e2 : (vals 2) = (.pointer (some ⟨sb (.slice (some ⟨b14, 0, none⟩) l.length l.length), so (.slice (some ⟨b14, 0, none⟩) l.length l.length) + k * 1, none⟩) : Value) := hA 2 (by decide)
              refine obl rfl ?_
              have hi103 : k < V2.length := by omega
              have hc103 := hoB.bool hi103
              rw [← getD_at false hi103] at hc103
              have h104 := hc103.mono (fun hb => (Chg.trans hx92 hR101).block _ hb (fun h => h))
              exact ov_load1 (v := .bool ((V2.getD k false))) Try.isAgg4 (show _ = (.pointer (some ⟨sb (.slice (some ⟨b14, 0, none⟩) l.length l.length), so (.slice (some ⟨b14, 0, none⟩) l.length l.length) + k * 1, none⟩) : Value) from e2) (h104.get (j := 0) rfl) ⟨Chg.refl _ _, rfl⟩
            · intro vals w31 hR105 hA
              have hs106 := hR105.size
              have e3 : (vals 3) = (.bool ((V2.getD k false)) : Value) := hA 3 (by decide)
              refine obl rfl ?_
              exact ov_not (a := (V2.getD k false)) (show _ = (.bool ((V2.getD k false)) : Value) from e3) ⟨Chg.refl _ _, rfl⟩
            · intro vals w32 hR107 hA
              have hs108 := hR107.size
              have e4 : (vals 4) = (.bool (!(V2.getD k false)) : Value) := hA 4 (by decide)
              refine obl rfl ?_
              exact ov_move (v := .bool (!(V2.getD k false))) (show _ = (.bool (!(V2.getD k false)) : Value) from e4) ⟨Chg.refl _ _, rfl⟩
            · intro vals w33 hR109 hA
              have hs110 := hR109.size
              have e5 : (vals 5) = (.bool (!(V2.getD k false)) : Value) := hA 5 (by decide)
              refine oblc rfl rfl (show _ = (.bool (!(V2.getD k false)) : Value) from e5) (fun hb111 => ?_) (fun hb111 => (if_neg hb111).symm)
              have hl112 : (!(V2.getD k false)) = true := hb111
              simp only [Bool.and_eq_true, Bool.or_eq_true, Bool.and_eq_false_iff, Bool.or_eq_false_iff, decide_eq_true_eq, decide_eq_false_iff_not, Bool.not_eq_true', Bool.not_eq_false', Int.not_lt, Int.not_le] at hl112
              exact ov_move (v := v7) rfl ⟨Chg.refl _ _, (if_pos hb111).symm⟩
            · intro vals w34 hR113 hA
              have hs114 := hR113.size
              have e5 : (vals 5) = (.bool (!(V2.getD k false)) : Value) := hA 5 (by decide)
              refine oblc rfl rfl (show _ = (.bool (!(V2.getD k false)) : Value) from e5) (fun hb115 => ?_) (fun hb115 => (if_neg hb115).symm)
              have hl116 : (!(V2.getD k false)) = true := hb115
              simp only [Bool.and_eq_true, Bool.or_eq_true, Bool.and_eq_false_iff, Bool.or_eq_false_iff, decide_eq_true_eq, decide_eq_false_iff_not, Bool.not_eq_true', Bool.not_eq_false', Int.not_lt, Int.not_le] at hl116
              exact ov_move (v := .int .i64 ((i3 : Nat) : Int)) rfl ⟨Chg.refl _ _, (if_pos hb115).symm⟩
            · intro vals w35 hR117 hA
              have hs118 := hR117.size
              have e5 : (vals 5) = (.bool (!(V2.getD k false)) : Value) := hA 5 (by decide)
              have e6 : (vals 6) = (if (!(V2.getD k false)) = true then (v7 : Value) else undef) := hA 6 (by decide)
              have e7 : (vals 7) = (if (!(V2.getD k false)) = true then (.int .i64 ((i3 : Nat) : Int) : Value) else undef) := hA 7 (by decide)
              refine oblc rfl rfl (show _ = (.bool (!(V2.getD k false)) : Value) from e5) (fun hb119 => ?_) (fun hb119 => (if_neg hb119).symm)
              have hl120 : (!(V2.getD k false)) = true := hb119
              simp only [Bool.and_eq_true, Bool.or_eq_true, Bool.and_eq_false_iff, Bool.or_eq_false_iff, decide_eq_true_eq, decide_eq_false_iff_not, Bool.not_eq_true', Bool.not_eq_false', Int.not_lt, Int.not_le] at hl120
              have hi121 : i3 < (srt l).length := by omega
              have h123 := hf6r.ext (Chg.trans hx10 hxB)
              have hi122 : i3 < (srt l).length := by omega
              obtain ⟨hc122, hd122, hok122⟩ := h123.ev hi122
              rw [← getD_at default hi122] at hc122 hd122 hok122
              exact ov_indexAddrN (k := 10) (i := i3) Try.underlying22 Try.sizeOf29 (show _ = (v7 : Value) from (Eq.trans e6 (if_pos hb119))) hf6r.sl (show _ = (.int .i64 ((i3 : Nat) : Int) : Value) from (Eq.trans e7 (if_pos hb119))) hi121 ⟨Chg.refl _ _, (if_pos hb119).symm⟩
            · intro vals w36 hR124 hA
              have hs125 := hR124.size
              have e5 : (vals 5) = (.bool (!(V2.getD k false)) : Value) := hA 5 (by decide)
              have e8 : (vals 8) = (if (!(V2.getD k false)) = true then (.pointer (some ⟨sb v7, so v7 + i3 * 10, none⟩) : Value) else undef) := hA 8 (by decide)
              refine oblc rfl rfl (show _ = (.bool (!(V2.getD k false)) : Value) from e5) (fun hb126 => ?_) (fun hb126 => (if_neg hb126).symm)
              have hl127 : (!(V2.getD k false)) = true := hb126
              simp only [Bool.and_eq_true, Bool.or_eq_true, Bool.and_eq_false_iff, Bool.or_eq_false_iff, decide_eq_true_eq, decide_eq_false_iff_not, Bool.not_eq_true', Bool.not_eq_false', Int.not_lt, Int.not_le] at hl127
              have h129 := hf6r.ext (Chg.trans hx10 hxB)
              have hi128 : i3 < (srt l).length := by omega
              obtain ⟨hc128, hd128, hok128⟩ := h129.ev hi128
              rw [← getD_at default hi128] at hc128 hd128 hok128
              have h130 := hc128.mono (fun hb => (Chg.trans hx92 hR124).block _ hb (fun h => h))
              exact ov_loadk (k := 10) Try.isAgg29 Try.sizeOf29 rfl (show _ = (.pointer (some ⟨sb v7, so v7 + i3 * 10, none⟩) : Value) from (Eq.trans e8 (if_pos hb126))) h130 ⟨Chg.refl _ _, (if_pos hb126).symm⟩
            · intro vals w37 hR131 hA
              have hs132 := hR131.size
              have e5 : (vals 5) = (.bool (!(V2.getD k false)) : Value) := hA 5 (by decide)
              refine oblc rfl rfl (show _ = (.bool (!(V2.getD k false)) : Value) from e5) (fun hb133 => ?_) (fun hb133 => (if_neg hb133).symm)
              have hl134 : (!(V2.getD k false)) = true := hb133
              simp only [Bool.and_eq_true, Bool.or_eq_true, Bool.and_eq_false_iff, Bool.or_eq_false_iff, decide_eq_true_eq, decide_eq_false_iff_not, Bool.not_eq_true', Bool.not_eq_false', Int.not_lt, Int.not_le] at hl134
              exact ov_move (v := vl) rfl ⟨Chg.refl _ _, (if_pos hb133).symm⟩
            · intro vals w38 hR135 hA
              have hs136 := hR135.size
              have e5 : (vals 5) = (.bool (!(V2.getD k false)) : Value) := hA 5 (by decide)
              refine oblc rfl rfl (show _ = (.bool (!(V2.getD k false)) : Value) from e5) (fun hb137 => ?_) (fun hb137 => (if_neg hb137).symm)
              have hl138 : (!(V2.getD k false)) = true := hb137
              simp only [Bool.and_eq_true, Bool.or_eq_true, Bool.and_eq_false_iff, Bool.or_eq_false_iff, decide_eq_true_eq, decide_eq_false_iff_not, Bool.not_eq_true', Bool.not_eq_false', Int.not_lt, Int.not_le] at hl138
              exact ov_move (v := .int .i64 ((k : Nat) : Int)) rfl ⟨Chg.refl _ _, (if_pos hb137).symm⟩
            · intro vals w39 hR139 hA
              have hs140 := hR139.size
              have e5 : (vals 5) = (.bool (!(V2.getD k false)) : Value) := hA 5 (by decide)
              have e10 : (vals 10) = (if (!(V2.getD k false)) = true then (vl : Value) else undef) := hA 10 (by decide)
              have e11 : (vals 11) = (if (!(V2.getD k false)) = true then (.int .i64 ((k : Nat) : Int) : Value) else undef) := hA 11 (by decide)
              refine oblc rfl rfl (show _ = (.bool (!(V2.getD k false)) : Value) from e5) (fun hb141 => ?_) (fun hb141 => (if_neg hb141).symm)
              have hl142 : (!(V2.getD k false)) = true := hb141
              simp only [Bool.and_eq_true, Bool.or_eq_true, Bool.and_eq_false_iff, Bool.or_eq_false_iff, decide_eq_true_eq, decide_eq_false_iff_not, Bool.not_eq_true', Bool.not_eq_false', Int.not_lt, Int.not_le] at hl142
              have hi143 : k < l.length := by omega
              have h145 := h4.ext (Chg.trans (Chg.trans hx5 hx10) hxB)
              have hi144 : k < l.length := by omega
              obtain ⟨hc144, hd144, hok144⟩ := h145.ev hi144
              rw [← getD_at default hi144] at hc144 hd144 hok144
              exact ov_indexAddrN (k := 10) (i := k) Try.underlying22 Try.sizeOf29 (show _ = (vl : Value) from (Eq.trans e10 (if_pos hb141))) h4.sl (show _ = (.int .i64 ((k : Nat) : Int) : Value) from (Eq.trans e11 (if_pos hb141))) hi143 ⟨Chg.refl _ _, (if_pos hb141).symm⟩
            · intro vals w40 hR146 hA
              have hs147 := hR146.size
              have e5 : (vals 5) = (.bool (!(V2.getD k false)) : Value) := hA 5 (by decide)
              have e12 : (vals 12) = (if (!(V2.getD k false)) = true then (.pointer (some ⟨sb vl, so vl + k * 10, none⟩) : Value) else undef) := hA 12 (by decide)
              refine oblc rfl rfl (show _ = (.bool (!(V2.getD k false)) : Value) from e5) (fun hb148 => ?_) (fun hb148 => (if_neg hb148).symm)
              have hl149 : (!(V2.getD k false)) = true := hb148
              simp only [Bool.and_eq_true, Bool.or_eq_true, Bool.and_eq_false_iff, Bool.or_eq_false_iff, decide_eq_true_eq, decide_eq_false_iff_not, Bool.not_eq_true', Bool.not_eq_false', Int.not_lt, Int.not_le] at hl149
              have h151 := h4.ext (Chg.trans (Chg.trans hx5 hx10) hxB)
              have hi150 : k < l.length := by omega
              obtain ⟨hc150, hd150, hok150⟩ := h151.ev hi150
              rw [← getD_at default hi150] at hc150 hd150 hok150
              have h152 := hc150.mono (fun hb => (Chg.trans hx92 hR146).block _ hb (fun h => h))
              exact ov_loadk (k := 10) Try.isAgg29 Try.sizeOf29 rfl (show _ = (.pointer (some ⟨sb vl, so vl + k * 10, none⟩) : Value) from (Eq.trans e12 (if_pos hb148))) h152 ⟨Chg.refl _ _, (if_pos hb148).symm⟩
            · intro vals w41 hR153 hA
              have hs154 := hR153.size
              have e5 : (vals 5) = (.bool (!(V2.getD k false)) : Value) := hA 5 (by decide)
              have e9 : (vals 9) = (if (!(V2.getD k false)) = true then (.agg (((srt l).getD i3 default).cells (cellV w25 (sb v7) (so v7 + i3 * 10 + 3))).toArray : Value) else undef) := hA 9 (by decide)
              have e13 : (vals 13) = (if (!(V2.getD k false)) = true then (.agg ((l.getD k default).cells (cellV w25 (sb vl) (so vl + k * 10 + 3))).toArray : Value) else undef) := hA 13 (by decide)
              refine oblc rfl rfl (show _ = (.bool (!(V2.getD k false)) : Value) from e5) (fun hb155 => ?_) (fun hb155 => (if_neg hb155).symm)
              have hl156 : (!(V2.getD k false)) = true := hb155
              simp only [Bool.and_eq_true, Bool.or_eq_true, Bool.and_eq_false_iff, Bool.or_eq_false_iff, decide_eq_true_eq, decide_eq_false_iff_not, Bool.not_eq_true', Bool.not_eq_false', Int.not_lt, Int.not_le] at hl156
              have h158 := hf6r.ext (Chg.trans hx10 hxB)
              have hi157 : i3 < (srt l).length := by omega
              obtain ⟨hc157, hd157, hok157⟩ := h158.ev hi157
              rw [← getD_at default hi157] at hc157 hd157 hok157
              have h159 := hd157.ext (Chg.trans hx92 hR153)
              have h161 := h4.ext (Chg.trans (Chg.trans hx5 hx10) hxB)
              have hi160 : k < l.length := by omega
              obtain ⟨hc160, hd160, hok160⟩ := h161.ev hi160
              rw [← getD_at default hi160] at hc160 hd160 hok160
              have h162 := hd160.ext (Chg.trans hx92 hR153)
              exact ov_call (f := 22) (vals := [.agg (((srt l).getD i3 default).cells (cellV w25 (sb v7) (so v7 + i3 * 10 + 3))).toArray, .agg ((l.getD k default).cells (cellV w25 (sb vl) (so vl + k * 10 + 3))).toArray]) (cap := []) (show _ = (.func (.func 22) #[] #[] : Value) from rfl) (mapL ⟨(show _ = (.agg (((srt l).getD i3 default).cells (cellV w25 (sb v7) (so v7 + i3 * 10 + 3))).toArray : Value) from (Eq.trans e9 (if_pos hb155))), (show _ = (.agg ((l.getD k default).cells (cellV w25 (sb vl) (so vl + k * 10 + 3))).toArray : Value) from (Eq.trans e13 (if_pos hb155))), trivial⟩) Try.call22 (C_SameEvent h159 hok157 h162 hok160) (fun _ _ h => ⟨h.2, h.1.trans (if_pos hb155).symm⟩)
            · intro vals w42 hR163 hA
              have hs164 := hR163.size
              have e5 : (vals 5) = (.bool (!(V2.getD k false)) : Value) := hA 5 (by decide)
              have e14 : (vals 14) = (if (!(V2.getD k false)) = true then (.bool (decide (((srt l).getD i3 default) = (l.getD k default))) : Value) else undef) := hA 14 (by decide)
              refine obl rfl ?_
              exact ov_pick_and (b := !(V2.getD k false)) (b' := decide (((srt l).getD i3 default) = (l.getD k default))) (show _ = (.bool (!(V2.getD k false)) : Value) from e5) (fun hbp => (show _ = (.bool (decide (((srt l).getD i3 default) = (l.getD k default))) : Value) from (Eq.trans e14 (if_pos hbp)))) ⟨Chg.refl _ _, rfl⟩
            intro vals w43 hR165 hA
            have hs166 := hR165.size
            have hs167 := hx92.size
            have e15 : (vals 15) = (.bool ((!(V2.getD k false)) && (decide (((srt l).getD i3 default) = (l.getD k default)))) : Value) := hA 15 (by decide)
            refine st_env (kv := [(0, vl), (1, .int .i64 (t)), (5, v7), (6, .bool u), (8, (.slice (some ⟨b14, 0, none⟩) l.length l.length)), (9, .int .i64 ((i3 : Nat) : Int)), (10, .bool f), (11, .int .i64 ((k : Nat) : Int)), (61, .int .i64 ((k : Nat) : Int)), (62, vl), (63, .int .i64 ((l.length : Nat) : Int)), (64, .bool (decide (((k : Nat) : Int) < ((l.length : Nat) : Int)))), (65, .bool (decide (((k : Nat) : Int) < ((l.length : Nat) : Int)))), (68, .bool true), (86, .bool ((!(V2.getD k false)) && (decide (((srt l).getD i3 default) = (l.getD k default)))))]) ⟨rfl, rfl, rfl, rfl, rfl, rfl, rfl, rfl, rfl, rfl, rfl, rfl, rfl, rfl, e15, trivial⟩ (fun ρ43 => ?_)
            clear e15
            clear hA qh1 qh2 qh3 qh4
            refine st_nil ?_
            cases hc168 : (!(V2.getD k false)) && (decide (((srt l).getD i3 default) = (l.getD k default)))
            · skip
              simp only [Bool.and_eq_true, Bool.or_eq_true, Bool.and_eq_false_iff, Bool.or_eq_false_iff, decide_eq_true_eq, decide_eq_false_iff_not, Bool.not_eq_true', Bool.not_eq_false', Int.not_lt, Int.not_le] at hc168
              refine WP_cond_f rfl ?_
              refine WP_skip ?_
              refine WP_region0 (by kernel_rfl) (fun _ => ?_)
              refine st (ov_move (v := .int .i64 ((k : Nat) : Int)) rfl ?_)
              have hr169 : InR ((k + 1 : Nat) : Int) := by omega
              refine st (ov_add (r := ((k + 1 : Nat) : Int)) (k := .i64) (a := ((k : Nat) : Int)) (b := 1) rfl rfl (by rw [show (((k : Nat) : Int) + 1 : Int) = ((k + 1 : Nat) : Int) by omega]; exact wrap_in hr169) ?_)
              refine st (ov_assign (v := .int .i64 ((k + 1 : Nat) : Int)) rfl ?_)
              refine st_nil ?_
              have h170 := hoB.ext (Chg.trans hx92 hR165)
              exact ⟨_, by omega, k + 1, f, V2, _, rfl, setAll_self ⟨rfl, rfl, rfl, rfl, rfl, rfl, rfl, rfl, trivial⟩, (Chg.trans (Chg.trans hxB hx92) hR165), by omega, h170, by first | omega | (simp only [List.length_set]; omega), (fun h => ⟨(hv1 h).1, fun j hj => by rcases Nat.lt_or_eq_of_le (Nat.le_of_lt_succ hj) with h8 | h8; exact (hv1 h).2 j h8; subst h8; rw [← (hv1 h).1]; rcases hc168 with hz | hz; exact .inl (by simpa using hz); exact .inr (fun e => hz e.symm)⟩), (fun h => by rw [hc89.2] at h; cases h)⟩
            · skip
              simp only [Bool.and_eq_true, Bool.or_eq_true, Bool.and_eq_false_iff, Bool.or_eq_false_iff, decide_eq_true_eq, decide_eq_false_iff_not, Bool.not_eq_true', Bool.not_eq_false', Int.not_lt, Int.not_le] at hc168
              refine WP_cond_t rfl ?_
              refine WP_seq ?_
              refine WP_region0 (by kernel_rfl) (fun _ => ?_)
              refine st (ov_move (v := (.slice (some ⟨b14, 0, none⟩) l.length l.length)) rfl ?_)
              refine st (ov_move (v := .int .i64 ((k : Nat) : Int)) rfl ?_)
              have hi171 : k < V2.length := by omega
              refine st (ov_indexAddrN (k := 1) (i := k) Try.underlying34 Try.sizeOf4 rfl hoB.isSl rfl hi171 ?_)
              have h172 := hoB.ext (Chg.trans hx92 hR165)
              refine stn (ov_storeOwn (i := k) (u := .bool true) Try.sizeOf4 h172 (by first | omega | (simp only [List.length_set]; omega)) rfl rfl rfl (show Rep.rd _ _ _ true from rfl) (fun w44 ho174 hch173 => ?_))
              have hs175 := hch173.size
              refine st_nil ?_
              refine WP_region0 (by kernel_rfl) (fun _ => ?_)
              refine st (ov_assign (v := .bool true) rfl ?_)
              refine st_nil ?_
              refine WP_region0 (by kernel_rfl) (fun _ => ?_)
              refine st (ov_move (v := .int .i64 ((k : Nat) : Int)) rfl ?_)
              have hr176 : InR ((k + 1 : Nat) : Int) := by omega
              refine st (ov_add (r := ((k + 1 : Nat) : Int)) (k := .i64) (a := ((k : Nat) : Int)) (b := 1) rfl rfl (by rw [show (((k : Nat) : Int) + 1 : Int) = ((k + 1 : Nat) : Int) by omega]; exact wrap_in hr176) ?_)
              refine st (ov_assign (v := .int .i64 ((k + 1 : Nat) : Int)) rfl ?_)
              refine st_nil ?_
              exact ⟨_, by omega, k + 1, true, V2.set k true, _, rfl, setAll_self ⟨rfl, rfl, rfl, rfl, rfl, rfl, rfl, rfl, trivial⟩, (Chg.new (Chg.trans (Chg.trans hxB hx92) hR165) hch173 (fun i hi hO => by have := (h172.lt i hO).1; omega)), by omega, ho174, by first | omega | (simp only [List.length_set]; omega), (fun h => by cases h), (fun _ => ⟨k, by omega, by have h9 := hv1 hc89.2; rw [← h9.1]; simpa using hc168.1, hc168.2.symm, by rw [(hv1 hc89.2).1]⟩)⟩
      · skip
        have hc13 := of_decide_eq_true hc13
        refine WP_cond_t rfl ?_
        refine WP_skip ?_
        refine WP_seq ?_
        refine WP_block ?_
        refine WP_seq ?_
        refine WP_seq ?_
        refine WP_draw Ext (AL [fun v w => v = (v7 : Value), fun v w => v = (.int .i64 ((i : Nat) : Int) : Value), fun v w => v = (.pointer (some ⟨sb v7, so v7 + i * 10, none⟩) : Value), fun v w => v = (.agg (((srt l).getD i default).cells (cellV w3 (sb v7) (so v7 + i * 10 + 3))).toArray : Value), fun v w => v = (v7 : Value), fun v w => v = (.int .i64 ((i : Nat) : Int) : Value), fun v w => v = (.int .i64 ((i - 1 : Nat) : Int) : Value), fun v w => v = (.pointer (some ⟨sb v7, so v7 + (i - 1) * 10, none⟩) : Value), fun v w => v = (.agg (((srt l).getD (i - 1) default).cells (cellV w3 (sb v7) (so v7 + (i - 1) * 10 + 3))).toArray : Value)]) [[], [], [0, 1], [0, 1, 2], [], [], [5], [4, 5, 6], [4, 5, 6, 7], [0, 1, 2, 3, 4, 5, 6, 7, 8]] 9 (by kernel_rfl) (by kernel_rfl) (by kernel_rfl) (fun w => Chg.refl _ w) (fun _ _ _ h1 h2 => h1.trans h2) (stabL ⟨fun _ _ _ _ h => h, fun _ _ _ _ h => h, fun _ _ _ _ h => h, fun _ _ _ _ h => h, fun _ _ _ _ h => h, fun _ _ _ _ h => h, fun _ _ _ _ h => h, fun _ _ _ _ h => h, fun _ _ _ _ h => h, trivial⟩) ?_
        intro w45 qh1 qh2 qh3 qh4
        have hx177 := ext_same qh1 qh2 qh3 qh4
        refine ⟨⟨?_, ?_, ?_, ?_, ?_, ?_, ?_, ?_, ?_, trivial⟩, ?_⟩
        · intro vals w46 hR178 hA
          have hs179 := hR178.size
          refine obl rfl ?_
          exact ov_move (v := v7) rfl ⟨Chg.refl _ _, rfl⟩
        · intro vals w47 hR180 hA
          have hs181 := hR180.size
          refine obl rfl ?_
          exact ov_move (v := .int .i64 ((i : Nat) : Int)) rfl ⟨Chg.refl _ _, rfl⟩
        · intro vals w48 hR182 hA
          have hs183 := hR182.size
          have e0 : (vals 0) = (v7 : Value) := hA 0 (by decide)
          have e1 : (vals 1) = (.int .i64 ((i : Nat) : Int) : Value) := hA 1 (by decide)
          refine obl rfl ?_
          have hi184 : i < (srt l).length := by omega
          have h186 := hf6r.ext hx10
          have hi185 : i < (srt l).length := by omega
          obtain ⟨hc185, hd185, hok185⟩ := h186.ev hi185
          rw [← getD_at default hi185] at hc185 hd185 hok185
          exact ov_indexAddrN (k := 10) (i := i) Try.underlying22 Try.sizeOf29 (show _ = (v7 : Value) from e0) hf6r.sl (show _ = (.int .i64 ((i : Nat) : Int) : Value) from e1) hi184 ⟨Chg.refl _ _, rfl⟩
        · intro vals w49 hR187 hA
          have hs188 := hR187.size
          have e2 : (vals 2) = (.pointer (some ⟨sb v7, so v7 + i * 10, none⟩) : Value) := hA 2 (by decide)
          refine obl rfl ?_
          have h190 := hf6r.ext hx10
          have hi189 : i < (srt l).length := by omega
          obtain ⟨hc189, hd189, hok189⟩ := h190.ev hi189
          rw [← getD_at default hi189] at hc189 hd189 hok189
          have h191 := hc189.mono (fun hb => (Chg.trans hx177 hR187).block _ hb (fun h => h))
          exact ov_loadk (k := 10) Try.isAgg29 Try.sizeOf29 rfl (show _ = (.pointer (some ⟨sb v7, so v7 + i * 10, none⟩) : Value) from e2) h191 ⟨Chg.refl _ _, rfl⟩
        · intro vals w50 hR192 hA
          have hs193 := hR192.size
          refine obl rfl ?_
          exact ov_move (v := v7) rfl ⟨Chg.refl _ _, rfl⟩
        · intro vals w51 hR194 hA
          have hs195 := hR194.size
          refine obl rfl ?_
          exact ov_move (v := .int .i64 ((i : Nat) : Int)) rfl ⟨Chg.refl _ _, rfl⟩
        · intro vals w52 hR196 hA
          have hs197 := hR196.size
          have e5 : (vals 5) = (.int .i64 ((i : Nat) : Int) : Value) := hA 5 (by decide)
          refine obl rfl ?_
          have hr198 : InR ((i - 1 : Nat) : Int) := by omega
          exact ov_sub (r := ((i - 1 : Nat) : Int)) (k := .i64) (a := ((i : Nat) : Int)) (b := 1) (show _ = (.int .i64 ((i : Nat) : Int) : Value) from e5) rfl (by rw [show (((i : Nat) : Int) - 1 : Int) = ((i - 1 : Nat) : Int) by omega]; exact wrap_in hr198) ⟨Chg.refl _ _, rfl⟩
        · intro vals w53 hR199 hA
          have hs200 := hR199.size
          have e4 : (vals 4) = (v7 : Value) := hA 4 (by decide)
          have e6 : (vals 6) = (.int .i64 ((i - 1 : Nat) : Int) : Value) := hA 6 (by decide)
          refine obl rfl ?_
          have hi201 : i - 1 < (srt l).length := by omega
          have h203 := hf6r.ext hx10
          have hi202 : i - 1 < (srt l).length := by omega
          obtain ⟨hc202, hd202, hok202⟩ := h203.ev hi202
          rw [← getD_at default hi202] at hc202 hd202 hok202
          exact ov_indexAddrN (k := 10) (i := i - 1) Try.underlying22 Try.sizeOf29 (show _ = (v7 : Value) from e4) hf6r.sl (show _ = (.int .i64 ((i - 1 : Nat) : Int) : Value) from e6) hi201 ⟨Chg.refl _ _, rfl⟩
        · intro vals w54 hR204 hA
          have hs205 := hR204.size
          have e7 : (vals 7) = (.pointer (some ⟨sb v7, so v7 + (i - 1) * 10, none⟩) : Value) := hA 7 (by decide)
          refine obl rfl ?_
          have h207 := hf6r.ext hx10
          have hi206 : i - 1 < (srt l).length := by omega
          obtain ⟨hc206, hd206, hok206⟩ := h207.ev hi206
          rw [← getD_at default hi206] at hc206 hd206 hok206
          have h208 := hc206.mono (fun hb => (Chg.trans hx177 hR204).block _ hb (fun h => h))
          exact ov_loadk (k := 10) Try.isAgg29 Try.sizeOf29 rfl (show _ = (.pointer (some ⟨sb v7, so v7 + (i - 1) * 10, none⟩) : Value) from e7) h208 ⟨Chg.refl _ _, rfl⟩
        intro vals w55 hR209 hA
        have hs210 := hR209.size
        have hs211 := hx177.size
        have e3 : (vals 3) = (.agg (((srt l).getD i default).cells (cellV w3 (sb v7) (so v7 + i * 10 + 3))).toArray : Value) := hA 3 (by decide)
        have e8 : (vals 8) = (.agg (((srt l).getD (i - 1) default).cells (cellV w3 (sb v7) (so v7 + (i - 1) * 10 + 3))).toArray : Value) := hA 8 (by decide)
        refine st_env (kv := [(0, vl), (1, .int .i64 (t)), (5, v7), (6, .bool u), (7, .int .i64 ((i : Nat) : Int)), (23, .int .i64 ((i : Nat) : Int)), (24, v7), (25, .int .i64 (((srt l).length : Nat) : Int)), (26, .bool true), (32, .agg (((srt l).getD i default).cells (cellV w3 (sb v7) (so v7 + i * 10 + 3))).toArray), (37, .agg (((srt l).getD (i - 1) default).cells (cellV w3 (sb v7) (so v7 + (i - 1) * 10 + 3))).toArray)]) ⟨rfl, rfl, rfl, rfl, rfl, rfl, rfl, rfl, rfl, e3, e8, trivial⟩ (fun ρ55 => ?_)
        clear e3 e8
        clear hA qh1 qh2 qh3 qh4
        have h213 := hf6r.ext hx10
        have hi212 : i < (srt l).length := by omega
        obtain ⟨hc212, hd212, hok212⟩ := h213.ev hi212
        rw [← getD_at default hi212] at hc212 hd212 hok212
        have h214 := hd212.ext (Chg.trans hx177 hR209)
        have h216 := hf6r.ext hx10
        have hi215 : i - 1 < (srt l).length := by omega
        obtain ⟨hc215, hd215, hok215⟩ := h216.ev hi215
        rw [← getD_at default hi215] at hc215 hd215 hok215
        have h217 := hd215.ext (Chg.trans hx177 hR209)
        refine st (ov_call (f := 15) (vals := [.agg (((srt l).getD i default).cells (cellV w3 (sb v7) (so v7 + i * 10 + 3))).toArray, .agg (((srt l).getD (i - 1) default).cells (cellV w3 (sb v7) (so v7 + (i - 1) * 10 + 3))).toArray]) (cap := []) (show _ = (.func (.func 15) #[] #[] : Value) from rfl) rfl Try.call15 (C_Less h214 hok212 h217 hok215) ?_)
        rintro _ w56 ⟨rfl, hx218⟩
        have hx218s := hx218.size
        refine st_nil ?_
        cases hc219 : less ((srt l).getD i default) ((srt l).getD (i - 1) default)
        · skip
          refine WP_cond_f rfl ?_
          refine WP_skip ?_
          refine WP_draw Ext (AL [fun v w => v = (.bool u : Value), fun v w => v = (.bool u : Value), fun v w => v = (if u = true then (v7 : Value) else undef), fun v w => v = (if u = true then (.int .i64 ((i : Nat) : Int) : Value) else undef), fun v w => v = (if u = true then (.int .i64 ((i - 1 : Nat) : Int) : Value) else undef), fun v w => v = (if u = true then (.pointer (some ⟨sb v7, so v7 + (i - 1) * 10, none⟩) : Value) else undef), fun v w => v = (if u = true then (.agg (((srt l).getD (i - 1) default).cells (cellV w3 (sb v7) (so v7 + (i - 1) * 10 + 3))).toArray : Value) else undef), fun v w => v = (if u = true then (v7 : Value) else undef), fun v w => v = (if u = true then (.int .i64 ((i : Nat) : Int) : Value) else undef), fun v w => v = (if u = true then (.pointer (some ⟨sb v7, so v7 + i * 10, none⟩) : Value) else undef), fun v w => v = (if u = true then (.agg (((srt l).getD i default).cells (cellV w3 (sb v7) (so v7 + i * 10 + 3))).toArray : Value) else undef), fun v w => v = (if u = true then (.bool (less ((srt l).getD (i - 1) default) ((srt l).getD i default)) : Value) else undef), fun v w => v = (.bool (u && (less ((srt l).getD (i - 1) default) ((srt l).getD i default))) : Value), fun v w => v = (.bool (u && (less ((srt l).getD (i - 1) default) ((srt l).getD i default))) : Value)]) [[], [0], [0, 1], [0, 1], [0, 1, 3], [0, 1, 2, 3, 4], [0, 1, 2, 3, 4, 5], [0, 1], [0, 1], [0, 1, 7, 8], [0, 1, 7, 8, 9], [0, 1, 2, 3, 4, 5, 6, 7, 8, 9, 10], [0, 1, 2, 3, 4, 5, 6, 7, 8, 9, 10, 11], [0, 1, 2, 3, 4, 5, 6, 7, 8, 9, 10, 11, 12]] 14 (by kernel_rfl) (by kernel_rfl) (by kernel_rfl) (fun w => Chg.refl _ w) (fun _ _ _ h1 h2 => h1.trans h2) (stabL ⟨fun _ _ _ _ h => h, fun _ _ _ _ h => h, fun _ _ _ _ h => h, fun _ _ _ _ h => h, fun _ _ _ _ h => h, fun _ _ _ _ h => h, fun _ _ _ _ h => h, fun _ _ _ _ h => h, fun _ _ _ _ h => h, fun _ _ _ _ h => h, fun _ _ _ _ h => h, fun _ _ _ _ h => h, fun _ _ _ _ h => h, fun _ _ _ _ h => h, trivial⟩) ?_
          intro w57 qh1 qh2 qh3 qh4
          have hx220 := ext_same qh1 qh2 qh3 qh4
          refine ⟨⟨?_, ?_, ?_, ?_, ?_, ?_, ?_, ?_, ?_, ?_, ?_, ?_, ?_, ?_, trivial⟩, ?_⟩
          · intro vals w58 hR221 hA
            have hs222 := hR221.size
            refine obl rfl ?_
            exact ov_move (v := .bool u) rfl ⟨Chg.refl _ _, rfl⟩
          · intro vals w59 hR223 hA
            have hs224 := hR223.size
            have e0 : (vals 0) = (.bool u : Value) := hA 0 (by decide)
            refine obl rfl ?_
            exact ov_move (v := .bool u) (show _ = (.bool u : Value) from e0) ⟨Chg.refl _ _, rfl⟩
          · intro vals w60 hR225 hA
            have hs226 := hR225.size
            have e1 : (vals 1) = (.bool u : Value) := hA 1 (by decide)
            refine oblc rfl rfl (show _ = (.bool u : Value) from e1) (fun hb227 => ?_) (fun hb227 => (if_neg hb227).symm)
            have hl228 : u = true := hb227
            exact ov_move (v := v7) rfl ⟨Chg.refl _ _, (if_pos hb227).symm⟩
          · intro vals w61 hR229 hA
            have hs230 := hR229.size
            have e1 : (vals 1) = (.bool u : Value) := hA 1 (by decide)
            refine oblc rfl rfl (show _ = (.bool u : Value) from e1) (fun hb231 => ?_) (fun hb231 => (if_neg hb231).symm)
            have hl232 : u = true := hb231
            exact ov_move (v := .int .i64 ((i : Nat) : Int)) rfl ⟨Chg.refl _ _, (if_pos hb231).symm⟩
          · intro vals w62 hR233 hA
            have hs234 := hR233.size
            have e1 : (vals 1) = (.bool u : Value) := hA 1 (by decide)
            have e3 : (vals 3) = (if u = true then (.int .i64 ((i : Nat) : Int) : Value) else undef) := hA 3 (by decide)
            refine oblc rfl rfl (show _ = (.bool u : Value) from e1) (fun hb235 => ?_) (fun hb235 => (if_neg hb235).symm)
            have hl236 : u = true := hb235
            have hr237 : InR ((i - 1 : Nat) : Int) := by omega
            exact ov_sub (r := ((i - 1 : Nat) : Int)) (k := .i64) (a := ((i : Nat) : Int)) (b := 1) (show _ = (.int .i64 ((i : Nat) : Int) : Value) from (Eq.trans e3 (if_pos hb235))) rfl (by rw [show (((i : Nat) : Int) - 1 : Int) = ((i - 1 : Nat) : Int) by omega]; exact wrap_in hr237) ⟨Chg.refl _ _, (if_pos hb235).symm⟩
          · intro vals w63 hR238 hA
            have hs239 := hR238.size
            have e1 : (vals 1) = (.bool u : Value) := hA 1 (by decide)
            have e2 : (vals 2) = (if u = true then (v7 : Value) else undef) := hA 2 (by decide)
            have e4 : (vals 4) = (if u = true then (.int .i64 ((i - 1 : Nat) : Int) : Value) else undef) := hA 4 (by decide)
            refine oblc rfl rfl (show _ = (.bool u : Value) from e1) (fun hb240 => ?_) (fun hb240 => (if_neg hb240).symm)
            have hl241 : u = true := hb240
            have hi242 : i - 1 < (srt l).length := by omega
            exact ov_indexAddrN (k := 10) (i := i - 1) Try.underlying22 Try.sizeOf29 (show _ = (v7 : Value) from (Eq.trans e2 (if_pos hb240))) hf6r.sl (show _ = (.int .i64 ((i - 1 : Nat) : Int) : Value) from (Eq.trans e4 (if_pos hb240))) hi242 ⟨Chg.refl _ _, (if_pos hb240).symm⟩
          · intro vals w64 hR243 hA
            have hs244 := hR243.size
            have e1 : (vals 1) = (.bool u : Value) := hA 1 (by decide)
            have e5 : (vals 5) = (if u = true then (.pointer (some ⟨sb v7, so v7 + (i - 1) * 10, none⟩) : Value) else undef) := hA 5 (by decide)
            refine oblc rfl rfl (show _ = (.bool u : Value) from e1) (fun hb245 => ?_) (fun hb245 => (if_neg hb245).symm)
            have hl246 : u = true := hb245
            have h247 := hc215.mono (fun hb => (Chg.trans (Chg.trans (Chg.trans (Chg.trans hx177 hR209) hx218) hx220) hR243).block _ hb (fun h => h))
            exact ov_loadk (k := 10) Try.isAgg29 Try.sizeOf29 rfl (show _ = (.pointer (some ⟨sb v7, so v7 + (i - 1) * 10, none⟩) : Value) from (Eq.trans e5 (if_pos hb245))) h247 ⟨Chg.refl _ _, (if_pos hb245).symm⟩
          · intro vals w65 hR248 hA
            have hs249 := hR248.size
            have e1 : (vals 1) = (.bool u : Value) := hA 1 (by decide)
            refine oblc rfl rfl (show _ = (.bool u : Value) from e1) (fun hb250 => ?_) (fun hb250 => (if_neg hb250).symm)
            have hl251 : u = true := hb250
            exact ov_move (v := v7) rfl ⟨Chg.refl _ _, (if_pos hb250).symm⟩
          · intro vals w66 hR252 hA
            have hs253 := hR252.size
            have e1 : (vals 1) = (.bool u : Value) := hA 1 (by decide)
            refine oblc rfl rfl (show _ = (.bool u : Value) from e1) (fun hb254 => ?_) (fun hb254 => (if_neg hb254).symm)
            have hl255 : u = true := hb254
            exact ov_move (v := .int .i64 ((i : Nat) : Int)) rfl ⟨Chg.refl _ _, (if_pos hb254).symm⟩
          · intro vals w67 hR256 hA
            have hs257 := hR256.size
            have e1 : (vals 1) = (.bool u : Value) := hA 1 (by decide)
            have e7 : (vals 7) = (if u = true then (v7 : Value) else undef) := hA 7 (by decide)
            have e8 : (vals 8) = (if u = true then (.int .i64 ((i : Nat) : Int) : Value) else undef) := hA 8 (by decide)
            refine oblc rfl rfl (show _ = (.bool u : Value) from e1) (fun hb258 => ?_) (fun hb258 => (if_neg hb258).symm)
            have hl259 : u = true := hb258
            have hi260 : i < (srt l).length := by omega
            exact ov_indexAddrN (k := 10) (i := i) Try.underlying22 Try.sizeOf29 (show _ = (v7 : Value) from (Eq.trans e7 (if_pos hb258))) hf6r.sl (show _ = (.int .i64 ((i : Nat) : Int) : Value) from (Eq.trans e8 (if_pos hb258))) hi260 ⟨Chg.refl _ _, (if_pos hb258).symm⟩
          · intro vals w68 hR261 hA
            have hs262 := hR261.size
            have e1 : (vals 1) = (.bool u : Value) := hA 1 (by decide)
            have e9 : (vals 9) = (if u = true then (.pointer (some ⟨sb v7, so v7 + i * 10, none⟩) : Value) else undef) := hA 9 (by decide)
            refine oblc rfl rfl (show _ = (.bool u : Value) from e1) (fun hb263 => ?_) (fun hb263 => (if_neg hb263).symm)
            have hl264 : u = true := hb263
            have h265 := hc212.mono (fun hb => (Chg.trans (Chg.trans (Chg.trans (Chg.trans hx177 hR209) hx218) hx220) hR261).block _ hb (fun h => h))
            exact ov_loadk (k := 10) Try.isAgg29 Try.sizeOf29 rfl (show _ = (.pointer (some ⟨sb v7, so v7 + i * 10, none⟩) : Value) from (Eq.trans e9 (if_pos hb263))) h265 ⟨Chg.refl _ _, (if_pos hb263).symm⟩
          · intro vals w69 hR266 hA
            have hs267 := hR266.size
            have e1 : (vals 1) = (.bool u : Value) := hA 1 (by decide)
            have e6 : (vals 6) = (if u = true then (.agg (((srt l).getD (i - 1) default).cells (cellV w3 (sb v7) (so v7 + (i - 1) * 10 + 3))).toArray : Value) else undef) := hA 6 (by decide)
            have e10 : (vals 10) = (if u = true then (.agg (((srt l).getD i default).cells (cellV w3 (sb v7) (so v7 + i * 10 + 3))).toArray : Value) else undef) := hA 10 (by decide)
            refine oblc rfl rfl (show _ = (.bool u : Value) from e1) (fun hb268 => ?_) (fun hb268 => (if_neg hb268).symm)
            have hl269 : u = true := hb268
            have h270 := h217.ext (Chg.trans (Chg.trans hx218 hx220) hR266)
            have h271 := h214.ext (Chg.trans (Chg.trans hx218 hx220) hR266)
            exact ov_call (f := 15) (vals := [.agg (((srt l).getD (i - 1) default).cells (cellV w3 (sb v7) (so v7 + (i - 1) * 10 + 3))).toArray, .agg (((srt l).getD i default).cells (cellV w3 (sb v7) (so v7 + i * 10 + 3))).toArray]) (cap := []) (show _ = (.func (.func 15) #[] #[] : Value) from rfl) (mapL ⟨(show _ = (.agg (((srt l).getD (i - 1) default).cells (cellV w3 (sb v7) (so v7 + (i - 1) * 10 + 3))).toArray : Value) from (Eq.trans e6 (if_pos hb268))), (show _ = (.agg (((srt l).getD i default).cells (cellV w3 (sb v7) (so v7 + i * 10 + 3))).toArray : Value) from (Eq.trans e10 (if_pos hb268))), trivial⟩) Try.call15 (C_Less h270 hok215 h271 hok212) (fun _ _ h => ⟨h.2, h.1.trans (if_pos hb268).symm⟩)
          · intro vals w70 hR272 hA
            have hs273 := hR272.size
            have e1 : (vals 1) = (.bool u : Value) := hA 1 (by decide)
            have e11 : (vals 11) = (if u = true then (.bool (less ((srt l).getD (i - 1) default) ((srt l).getD i default)) : Value) else undef) := hA 11 (by decide)
            refine obl rfl ?_
            exact ov_pick_and (b := u) (b' := less ((srt l).getD (i - 1) default) ((srt l).getD i default)) (show _ = (.bool u : Value) from e1) (fun hbp => (show _ = (.bool (less ((srt l).getD (i - 1) default) ((srt l).getD i default)) : Value) from (Eq.trans e11 (if_pos hbp)))) ⟨Chg.refl _ _, rfl⟩
          · intro vals w71 hR274 hA
            have hs275 := hR274.size
            have e12 : (vals 12) = (.bool (u && (less ((srt l).getD (i - 1) default) ((srt l).getD i default))) : Value) := hA 12 (by decide)
            refine obl rfl ?_
            exact ov_assign (v := .bool (u && (less ((srt l).getD (i - 1) default) ((srt l).getD i default)))) (show _ = (.bool (u && (less ((srt l).getD (i - 1) default) ((srt l).getD i default))) : Value) from e12) ⟨Chg.refl _ _, rfl⟩
          intro vals w72 hR276 hA
          have hs277 := hR276.size
          have hs278 := hx220.size
          have e13 : (vals 13) = (.bool (u && (less ((srt l).getD (i - 1) default) ((srt l).getD i default))) : Value) := hA 13 (by decide)
          refine st_env (kv := [(0, vl), (1, .int .i64 (t)), (5, v7), (6, .bool (u && (less ((srt l).getD (i - 1) default) ((srt l).getD i default)))), (7, .int .i64 ((i : Nat) : Int)), (23, .int .i64 ((i : Nat) : Int)), (24, v7), (25, .int .i64 (((srt l).length : Nat) : Int)), (26, .bool true), (32, .agg (((srt l).getD i default).cells (cellV w3 (sb v7) (so v7 + i * 10 + 3))).toArray), (37, .agg (((srt l).getD (i - 1) default).cells (cellV w3 (sb v7) (so v7 + (i - 1) * 10 + 3))).toArray), (38, .bool false)]) ⟨rfl, rfl, rfl, e13, rfl, rfl, rfl, rfl, rfl, rfl, rfl, rfl, trivial⟩ (fun ρ72 => ?_)
          clear e13
          clear hA qh1 qh2 qh3 qh4
          refine st_nil ?_
          refine WP_region0 (by kernel_rfl) (fun _ => ?_)
          refine st (ov_move (v := .int .i64 ((i : Nat) : Int)) rfl ?_)
          have hr279 : InR ((i + 1 : Nat) : Int) := by omega
          refine st (ov_add (r := ((i + 1 : Nat) : Int)) (k := .i64) (a := ((i : Nat) : Int)) (b := 1) rfl rfl (by rw [show (((i : Nat) : Int) + 1 : Int) = ((i + 1 : Nat) : Int) by omega]; exact wrap_in hr279) ?_)
          refine st (ov_assign (v := .int .i64 ((i + 1 : Nat) : Int)) rfl ?_)
          refine st_nil ?_
          exact ⟨_, by omega, i + 1, u && (less ((srt l).getD (i - 1) default) ((srt l).getD i default)), _, rfl, setAll_self ⟨rfl, rfl, rfl, rfl, rfl, trivial⟩, (Chg.trans (Chg.trans (Chg.trans (Chg.trans (Chg.trans hx10 hx177) hR209) hx218) hx220) hR276), by omega, by omega, (fun hu j h1 h2 => by have hu := (Bool.and_eq_true _ _).mp hu; rcases Nat.lt_or_eq_of_le (Nat.le_of_lt_succ h2) with h | h; exact hv9 hu.1 j h1 h; subst h; exact hu.2)⟩
        · skip
          refine WP_cond_t rfl ?_
          refine WP_seq ?_
          refine WP_region0 (by kernel_rfl) (fun _ => ?_)
          refine st (ov_assign (v := .bool false) rfl ?_)
          refine st_nil ?_
          refine WP_ret ?_
          refine fin1 Try.results4 (show _ = (.bool false : Value) from rfl) ?_
          exfalso
          first | (have := srt_length l; omega) | (have h9 := srtd_at (srt_srtd l) (i := i - 1) (j := i) (by omega) (by omega); rw [h9] at hc219; cases hc219) | (have h9 := hv1 hc219; exact found_some (srt_perm l) hU (i := i3) (by omega) hcnt (fun j hj => h9.2 j (by rcases hc13 with hz | hz; omega; rw [hc219] at hz; cases hz))) | (exact hc219 (srt_turn (turn_perm l _) (fun j h1 h2 => hv9 (by assumption) j h1 (by omega))))
    · skip
      have hc8 := ndec_true hc8
      refine WP_cond_t rfl ?_
      refine WP_seq ?_
      refine WP_region0 (by kernel_rfl) (fun _ => ?_)
      refine st (ov_assign (v := .bool false) rfl ?_)
      refine st_nil ?_
      refine WP_ret ?_
      refine fin1 Try.results4 (show _ = (.bool false : Value) from rfl) ?_
      exfalso
      first | (have := srt_length l; omega) | (have h9 := srtd_at (srt_srtd l) (i := i - 1) (j := i) (by omega) (by omega); rw [h9] at hc8; cases hc8) | (have h9 := hv1 hc8; exact found_some (srt_perm l) hU (i := i3) (by omega) hcnt (fun j hj => h9.2 j (by rcases hc3 with hz | hz; omega; rw [hc8] at hz; cases hz))) | (exact hc8 (srt_turn (turn_perm l _) (fun j h1 h2 => hv9 (by assumption) j h1 (by omega))))
  · skip
    refine WP_cond_t rfl ?_
    refine WP_seq ?_
    refine WP_region0 (by kernel_rfl) (fun _ => ?_)
    refine st (ov_call (f := 10) (vals := []) (cap := []) (show _ = (.func (.func 10) #[] #[] : Value) from rfl) rfl Try.call10 (C_works ) ?_)
    rintro _ w73 ⟨rfl, hx280⟩
    have hx280s := hx280.size
    refine st (ov_assign (v := .bool true) rfl ?_)
    refine st_nil ?_
    refine WP_ret ?_
    refine fin1 Try.results4 (show _ = (.bool true : Value) from rfl) ?_
    refine ⟨?_, (Chg.trans hx2 hx280)⟩
    rfl

end Go.Proofs.Ytbbhpddgjiifmaa
