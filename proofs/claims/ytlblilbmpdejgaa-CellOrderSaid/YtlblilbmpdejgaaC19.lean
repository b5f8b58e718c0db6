/- Steps of the proofs of this seat: part C19. -/
import Derived.Test.YtlblilbmpdejgaaC18
import Derived.Test.YtlblilbmpdejgaaDraw5
set_option linter.unusedSimpArgs false
set_option linter.unusedVariables false
namespace Go.Proofs.Ytlblilbmpdejgaa
open Go.Proofs Go.RowKit

theorem iwrap_add (x y : Int) : iwrap (iwrap x + y) = iwrap (x + y) := by
  unfold iwrap
  rw [IntKind.wrap_i64, IntKind.wrap_i64, IntKind.wrap_i64]
  omega
theorem inc_exact {n a : Int} (hn : InR n) (ha : InR a) (h0 : ¬ a = 0) (hs : (decide (n < iwrap (n + a)) == decide (0 < a)) = true) : iwrap (n + a) = n + a := by
  have h1 : (n < iwrap (n + a)) ↔ 0 < a := by simpa using hs
  unfold iwrap at *
  rw [IntKind.wrap_i64] at *
  omega
theorem may_inc {t : Typ} {c : List Cel} {f a : Int} (h : mayL t c f 1 a = 0) (hn : InR (celAt c f).n) (ha : InR a) (h0 : ¬ a = 0) : iwrap ((celAt c f).n + a) = (celAt c f).n + a ∧ ((fldAt t f).floor = true → 0 ≤ (celAt c f).n + a) := by
  have hm : mayB (fldAt t f) c (celAt c f) 1 a = true := by
    unfold mayL at h
    split at h
    · assumption
    · cases h
  unfold mayB at hm
  rw [if_pos rfl] at hm
  simp only [Bool.and_eq_true, Bool.or_eq_true, decide_eq_true_eq, Bool.not_eq_true', Bool.and_eq_false_iff, decide_eq_false_iff_not] at hm
  obtain ⟨h1, h2⟩ := hm
  have he := inc_exact hn ha h0 (by rcases h1 with h1 | h1; · exact absurd h1 h0
                                    · exact h1)
  refine ⟨he, fun hf => ?_⟩
  rw [he] at h2
  rcases h2 with h2 | h2
  · rw [hf] at h2; cases h2
  · omega
theorem mayL_of {t : Typ} {c : List Cel} {f op a : Int} (h : mayB (fldAt t f) c (celAt c f) op a = true) : mayL t c f op a = 0 := by unfold mayL; rw [if_pos h]
theorem inc_comm {t : Typ} {c : List Cel} {f a b : Int} (h0 : 0 ≤ f) (h : f < c.length) : doL t (doL t c f 1 a) f 1 b = doL t (doL t c f 1 b) f 1 a := by
  rw [doL_do h0 h, doL_do h0 h]
  show c.set f.toNat ⟨iwrap (iwrap ((celAt c f).n + a) + b), (celAt c f).set⟩ = c.set f.toNat ⟨iwrap (iwrap ((celAt c f).n + b) + a), (celAt c f).set⟩
  rw [iwrap_add, iwrap_add, show (celAt c f).n + a + b = (celAt c f).n + b + a by omega]
theorem inc_back {t : Typ} {c : List Cel} {f a : Int} (h0 : 0 ≤ f) (h : f < c.length) (hn : InR (celAt c f).n) (ha : InR a) (hz : ¬ a = 0) (hm : mayL t c f 1 a = 0) (hfl : (fldAt t f).floor = true → 0 ≤ (celAt c f).n) : mayL t (doL t c f 1 a) f 1 (-a) = 0 ∧ doL t (doL t c f 1 a) f 1 (-a) = c := by
  obtain ⟨h1, h2⟩ := may_inc hm hn ha hz
  have e : doCel (fldAt t f) (celAt c f) 1 a = ⟨(celAt c f).n + a, (celAt c f).set⟩ := by
    show (⟨iwrap ((celAt c f).n + a), (celAt c f).set⟩ : Cel) = _
    rw [h1]
  have e2 : iwrap ((celAt c f).n + a + -a) = (celAt c f).n := by rw [show (celAt c f).n + a + -a = (celAt c f).n by omega]; exact iwrap_in hn
  constructor
  · refine mayL_of ?_
    rw [celAt_do h0 h, e]
    unfold mayB
    rw [if_pos rfl]
    show ((decide (-a = 0) || (decide ((celAt c f).n + a < iwrap ((celAt c f).n + a + -a)) == decide (0 < -a))) && !((fldAt t f).floor && decide (iwrap ((celAt c f).n + a + -a) < 0))) = true
    rw [e2]
    have k1 : (decide ((celAt c f).n + a < (celAt c f).n) == decide (0 < -a)) = true := by
      have k0 : decide ((celAt c f).n + a < (celAt c f).n) = decide (0 < -a) := decide_eq_decide.2 (by omega)
      rw [k0]; exact beq_self_eq_true _
    rw [k1, Bool.or_true, Bool.true_and]
    cases hb : (fldAt t f).floor with
    | false => rfl
    | true => have := hfl hb; rw [decide_eq_false (by omega)]; rfl
  · rw [doL_do h0 h, e]
    show c.set f.toNat ⟨iwrap ((celAt c f).n + a + -a), (celAt c f).set⟩ = c
    rw [e2]
    exact setD_self default (by omega)
set_option maxHeartbeats 8000000 in
theorem D_CellOrder {G : Nat → Prop} {W w : World} {Rs : List HP} {d : Dcl} {dd0 : Value} (hdd0 : RdS W G dd0 d.types) {dd1 : Value} (hdd1 : RdS W G dd1 d.projs) (od : d.Ok) {ty : Int} (hty : InR ty) {vl : Value} {l : List Cel} (hl : RdS W G vl l) {fi : Int} (hfi : InR fi) {a : Int} (ha : InR a) {b : Int} (hb : InR b) (hS0 : Sep G W Rs w) : Ret Try.prog 3 [.agg (d.cells dd0 dd1).toArray, .int .i64 (ty), vl, .int .i64 (fi), .int .i64 (a), .int .i64 (b)] w (fun r w' => r = (.bool true : Value) ∧ Sep G W Rs w') := by
  have hdd0s : d.types.length * 24 ≤ 140737488355328 := hdd0.small
  have hdd1s : d.projs.length * 40 ≤ 140737488355328 := hdd1.small
  have hls : l.length * 32 ≤ 140737488355328 := hl.small
  refine Calls_of_WP (args := [.agg (d.cells dd0 dd1).toArray, .int .i64 (ty), vl, .int .i64 (fi), .int .i64 (a), .int .i64 (b)]) Try.func3 rfl rfl ?_
  refine WP_seq ?_
  refine WP_region0 (by kernel_rfl) (fun _ => ?_)
  refine st (ov_box (v := .agg (d.cells dd0 dd1).toArray) rfl ?_)
  intro w3 b2 hn1
  have hS4 : Sep G W ((Blk b2 (d.cells dd0 dd1).toArray 25) :: Rs) w3 := hS0.new hn1
  refine st (ov_assign (v := .bool false) rfl ?_)
  refine st_nil ?_
  refine WP_seq ?_
  refine WP_seq ?_
  refine WP_region0 (by kernel_rfl) (fun _ => ?_)
  refine st (ov_loadk (k := 2) Try.isAgg25 Try.sizeOf25 rfl rfl (CellsAt.all (hS4.blk (i := 0) rfl)) ?_)
  refine st (ov_move (v := vl) rfl ?_)
  refine st (ov_call (f := 6) (vals := [.agg (d.cells dd0 dd1).toArray, vl]) (cap := []) (show _ = (.func (.func 6) #[] #[] : Value) from rfl) rfl Try.call6 (D_Right (d := d) (l := l) (vl := vl) hdd0 hdd1 od hl hS4) ?_)
  rintro _ w7 ⟨b5, rfl, hb6, hS8⟩
  refine st (ov_not (a := b5) rfl ?_)
  refine st_nil ?_
  cases hc9 : !b5
  · skip
    try simp only [bools] at hc9
    have hrg := hb6 hc9
    have hdo := hrg.1
    have hd1 := hdo.some
    have hd2 := hdo.few
    refine WP_cond_f rfl ?_
    refine WP_skip ?_
    refine WP_seq ?_
    refine WP_draw5 (WF [fun vals wq => Sep G W ((Blk b2 (d.cells dd0 dd1).toArray 25) :: Rs) wq, fun vals wq => ∃ (b95 : Nat), (vals 9 = (.pointer (some ⟨b95, 0, none⟩) : Value)) ∧ Sep G W ((Blk b95 #[(.slice none 0 0)] 31) :: (Blk b2 (d.cells dd0 dd1).toArray 25) :: Rs) wq, fun vals wq => ∃ (b95 : Nat) (q61 : Nat), (vals 9 = (.pointer (some ⟨b95, 0, none⟩) : Value)) ∧ (q61 < d.types.length) ∧ Sep G W ((Blk b95 ((d.types.getD q61 default).cells (cellV W (sb dd0) (so dd0 + q61 * 1 + 0))).toArray 31) :: (Blk b2 (d.cells dd0 dd1).toArray 25) :: Rs) wq]) (AF [fun vals => vals 0 = (.pointer (some ⟨b2, 0, none⟩) : Value), fun vals => vals 1 = (dd0 : Value), fun vals => vals 2 = (.int .i64 (ty) : Value), fun vals => vals 3 = (.pointer (some ⟨b2, 0, none⟩) : Value), fun vals => vals 4 = (dd0 : Value), fun vals => vals 5 = (.int .i64 ((d.types.length : Nat) : Int) : Value), fun vals => ∃ (q61 : Nat), vals 6 = (.int .i64 ((q61 : Nat) : Int) : Value) ∧ (q61 < d.types.length), fun vals => ∀ (q61 : Nat), vals 6 = (.int .i64 ((q61 : Nat) : Int) : Value) → vals 7 = (.pointer (some ⟨sb dd0, so dd0 + q61 * 1, none⟩) : Value), fun vals => ∀ (q61 : Nat), vals 6 = (.int .i64 ((q61 : Nat) : Int) : Value) → vals 8 = (.agg ((d.types.getD q61 default).cells (cellV W (sb dd0) (so dd0 + q61 * 1 + 0))).toArray : Value), fun _ => True, fun _ => True]) [[], [0], [], [], [3], [3, 4], [2, 3, 4, 5], [0, 1, 2, 3, 4, 5, 6], [0, 1, 2, 3, 4, 5, 6, 7], [], [0, 1, 2, 3, 4, 5, 6, 7, 8, 9]] [9, 10] [(0, 1), (0, 1), (0, 1), (0, 1), (0, 1), (0, 1), (0, 1), (0, 1), (0, 1), (0, 0), (1, 1)] (by kernel_rfl) (by kernel_rfl) (by kernel_rfl) rfl (by kernel_rfl) (by kernel_rfl) (fun _ h1 h2 h3 h4 _ => hS8.same h1 h2 h3 h4) ?_ ?_ ⟨?_, ?_, ?_, ?_, ?_, ?_, ?_, ?_, ?_, ?_, ?_, trivial⟩ ?_
    · intro k vals vals' w hv h
      have e : ∀ j ∈ ([9, 10] : List Nat), vals' j = vals j := hv
      match k, h with
      | 0, h => exact h
      | 1, h => exact (by simpa only [WF, List.getElem?_cons_zero, List.getElem?_cons_succ, e 9 (by decide)] using h)
      | 2, h => exact (by simpa only [WF, List.getElem?_cons_zero, List.getElem?_cons_succ, e 9 (by decide)] using h)
      | _ + 3, _ => trivial
    · intro i vals vals' hv h
      match i, hv, h with
      | 0, hv, h => exact (hv 0 (.inl rfl)).trans h
      | 1, hv, h => exact (hv 1 (.inl rfl)).trans h
      | 2, hv, h => exact (hv 2 (.inl rfl)).trans h
      | 3, hv, h => exact (hv 3 (.inl rfl)).trans h
      | 4, hv, h => exact (hv 4 (.inl rfl)).trans h
      | 5, hv, h => exact (hv 5 (.inl rfl)).trans h
      | 6, hv, h => exact (by obtain ⟨q61, h9, h8⟩ := h; exact ⟨q61, (hv 6 (.inl rfl)).trans h9, h8⟩)
      | 7, hv, h => exact fun q61 hq0 => (hv 7 (.inl rfl)).trans (h q61 ((hv 6 (.inr (by decide))).symm.trans hq0))
      | 8, hv, h => exact fun q61 hq0 => (hv 8 (.inl rfl)).trans (h q61 ((hv 6 (.inr (by decide))).symm.trans hq0))
      | 9, _, _ => trivial
      | 10, _, _ => trivial
      | _ + 11, _, _ => trivial
    · intro k114 vals w115 h118 h119 hW117 hA116
      refine obl rfl ?_
      exact fd25_0 rfl (fun vals' hv _ => ⟨.inl rfl, hv⟩)
    · intro k120 vals w121 h124 h125 hW123 hA122
      have hkk : k120 = 0 ∨ k120 = 1 := by have h1 : 0 ≤ k120 := h124; have h2 : k120 ≤ 1 := h125; omega
      rcases hkk with rfl | rfl
      · skip
        have hS126 : Sep G W ((Blk b2 (d.cells dd0 dd1).toArray 25) :: Rs) w121 := hW123
        have e127 : vals 0 = (.pointer (some ⟨b2, 0, none⟩) : Value) := hA122 0 (by decide)
        refine obl rfl ?_
        exact ov_load1 (v := dd0) Try.isAgg22 (show _ = (.pointer (some ⟨b2, 0, none⟩) : Value) from e127) (blk_cellL (hS126.blk (i := 0) rfl) rfl) (fun vals' hv _ => ⟨.inl rfl, hv⟩)
      · skip
        obtain ⟨b95, he98, hS128⟩ : ∃ (b95 : Nat), (vals 9 = (.pointer (some ⟨b95, 0, none⟩) : Value)) ∧ Sep G W ((Blk b95 #[(.slice none 0 0)] 31) :: (Blk b2 (d.cells dd0 dd1).toArray 25) :: Rs) w121 := hW123
        have e129 : vals 0 = (.pointer (some ⟨b2, 0, none⟩) : Value) := hA122 0 (by decide)
        refine obl rfl ?_
        exact ov_load1 (v := dd0) Try.isAgg22 (show _ = (.pointer (some ⟨b2, 0, none⟩) : Value) from e129) (blk_cellL (hS128.blk (i := 1) rfl) rfl) (fun vals' hv _ => ⟨.inl rfl, hv⟩)
    · intro k130 vals w131 h134 h135 hW133 hA132
      refine obl rfl ?_
      exact ov_move (v := .int .i64 (ty)) rfl (fun vals' hv _ => ⟨.inl rfl, hv⟩)
    · intro k136 vals w137 h140 h141 hW139 hA138
      refine obl rfl ?_
      exact fd25_0 rfl (fun vals' hv _ => ⟨.inl rfl, hv⟩)
    · intro k142 vals w143 h146 h147 hW145 hA144
      have hkk : k142 = 0 ∨ k142 = 1 := by have h1 : 0 ≤ k142 := h146; have h2 : k142 ≤ 1 := h147; omega
      rcases hkk with rfl | rfl
      · skip
        have hS148 : Sep G W ((Blk b2 (d.cells dd0 dd1).toArray 25) :: Rs) w143 := hW145
        have e149 : vals 3 = (.pointer (some ⟨b2, 0, none⟩) : Value) := hA144 3 (by decide)
        refine obl rfl ?_
        exact ov_load1 (v := dd0) Try.isAgg22 (show _ = (.pointer (some ⟨b2, 0, none⟩) : Value) from e149) (blk_cellL (hS148.blk (i := 0) rfl) rfl) (fun vals' hv _ => ⟨.inl rfl, hv⟩)
      · skip
        obtain ⟨b95, he98, hS150⟩ : ∃ (b95 : Nat), (vals 9 = (.pointer (some ⟨b95, 0, none⟩) : Value)) ∧ Sep G W ((Blk b95 #[(.slice none 0 0)] 31) :: (Blk b2 (d.cells dd0 dd1).toArray 25) :: Rs) w143 := hW145
        have e151 : vals 3 = (.pointer (some ⟨b2, 0, none⟩) : Value) := hA144 3 (by decide)
        refine obl rfl ?_
        exact ov_load1 (v := dd0) Try.isAgg22 (show _ = (.pointer (some ⟨b2, 0, none⟩) : Value) from e151) (blk_cellL (hS150.blk (i := 1) rfl) rfl) (fun vals' hv _ => ⟨.inl rfl, hv⟩)
    · intro k152 vals w153 h156 h157 hW155 hA154
      have hkk : k152 = 0 ∨ k152 = 1 := by have h1 : 0 ≤ k152 := h156; have h2 : k152 ≤ 1 := h157; omega
      rcases hkk with rfl | rfl
      · skip
        have hS158 : Sep G W ((Blk b2 (d.cells dd0 dd1).toArray 25) :: Rs) w153 := hW155
        have e159 : vals 4 = (dd0 : Value) := hA154 4 (by decide)
        refine obl rfl ?_
        exact ov_len (n := d.types.length) Try.underlying22 (show _ = (dd0 : Value) from e159) hdd0.sl (fun vals' hv _ => ⟨.inl rfl, hv⟩)
      · skip
        obtain ⟨b95, he98, hS160⟩ : ∃ (b95 : Nat), (vals 9 = (.pointer (some ⟨b95, 0, none⟩) : Value)) ∧ Sep G W ((Blk b95 #[(.slice none 0 0)] 31) :: (Blk b2 (d.cells dd0 dd1).toArray 25) :: Rs) w153 := hW155
        have e161 : vals 4 = (dd0 : Value) := hA154 4 (by decide)
        refine obl rfl ?_
        exact ov_len (n := d.types.length) Try.underlying22 (show _ = (dd0 : Value) from e161) hdd0.sl (fun vals' hv _ => ⟨.inl rfl, hv⟩)
    · intro k162 vals w163 h166 h167 hW165 hA164
      have hkk : k162 = 0 ∨ k162 = 1 := by have h1 : 0 ≤ k162 := h166; have h2 : k162 ≤ 1 := h167; omega
      rcases hkk with rfl | rfl
      · skip
        have hS168 : Sep G W ((Blk b2 (d.cells dd0 dd1).toArray 25) :: Rs) w163 := hW165
        have e169 : vals 2 = (.int .i64 (ty) : Value) := hA164 2 (by decide)
        have e170 : vals 5 = (.int .i64 ((d.types.length : Nat) : Int) : Value) := hA164 5 (by decide)
        refine obl rfl ?_
        refine (ov_call (f := 8) (vals := [.int .i64 (ty), .int .i64 ((d.types.length : Nat) : Int)]) (cap := []) (show _ = (.func (.func 8) #[] #[] : Value) from rfl) (mapL ⟨(show _ = (.int .i64 (ty) : Value) from e169), (show _ = (.int .i64 ((d.types.length : Nat) : Int) : Value) from e170), trivial⟩) Try.call8 (D_Pick (x := ty) (n := d.types.length) (by omega) (by first | omega | (refine ⟨?_, ?_⟩ <;> omega)) hS168) ?_)
        rintro _ w173 ⟨q171, rfl, hq172, hS174⟩
        intro vals' hv hv'
        refine ⟨.inr ?_, ?_⟩
        · show Sep G W ((Blk b2 (d.cells dd0 dd1).toArray 25) :: Rs) w173
          exact hS174
        · exact ⟨q171, hv, hq172⟩
      · skip
        obtain ⟨b95, he98, hS175⟩ : ∃ (b95 : Nat), (vals 9 = (.pointer (some ⟨b95, 0, none⟩) : Value)) ∧ Sep G W ((Blk b95 #[(.slice none 0 0)] 31) :: (Blk b2 (d.cells dd0 dd1).toArray 25) :: Rs) w163 := hW165
        have e176 : vals 2 = (.int .i64 (ty) : Value) := hA164 2 (by decide)
        have e177 : vals 5 = (.int .i64 ((d.types.length : Nat) : Int) : Value) := hA164 5 (by decide)
        refine obl rfl ?_
        refine (ov_call (f := 8) (vals := [.int .i64 (ty), .int .i64 ((d.types.length : Nat) : Int)]) (cap := []) (show _ = (.func (.func 8) #[] #[] : Value) from rfl) (mapL ⟨(show _ = (.int .i64 (ty) : Value) from e176), (show _ = (.int .i64 ((d.types.length : Nat) : Int) : Value) from e177), trivial⟩) Try.call8 (D_Pick (x := ty) (n := d.types.length) (by omega) (by first | omega | (refine ⟨?_, ?_⟩ <;> omega)) hS175) ?_)
        rintro _ w180 ⟨q178, rfl, hq179, hS181⟩
        intro vals' hv hv'
        refine ⟨.inr ?_, ?_⟩
        · show ∃ (b95 : Nat), (vals' 9 = (.pointer (some ⟨b95, 0, none⟩) : Value)) ∧ Sep G W ((Blk b95 #[(.slice none 0 0)] 31) :: (Blk b2 (d.cells dd0 dd1).toArray 25) :: Rs) w180
          exact ⟨b95, (by rw [hv' 9 (by decide)]; exact he98), hS181⟩
        · exact ⟨q178, hv, hq179⟩
    · intro k182 vals w183 h186 h187 hW185 hA184
      have hkk : k182 = 0 ∨ k182 = 1 := by have h1 : 0 ≤ k182 := h186; have h2 : k182 ≤ 1 := h187; omega
      rcases hkk with rfl | rfl
      · skip
        have hS188 : Sep G W ((Blk b2 (d.cells dd0 dd1).toArray 25) :: Rs) w183 := hW185
        obtain ⟨q61, heN65, hq62⟩ := hA184 6 (by decide)
        have e189 : vals 1 = (dd0 : Value) := hA184 1 (by decide)
        refine obl rfl ?_
        have hi190 : q61 < d.types.length := (by first | omega | (simp only [lens]; omega))
        refine ov_indexAddrN (k := 1) (i := q61) Try.underlying22 Try.sizeOf31 (show _ = (dd0 : Value) from e189) hdd0.sl (show _ = (.int .i64 ((q61 : Nat) : Int) : Value) from heN65) hi190 (fun vals' hv hv' => ⟨.inl rfl, ?_⟩)
        intro q61q hq0
        rw [hv' 6 (by decide)] at hq0; cases heN65.symm.trans hq0
        exact hv
      · skip
        obtain ⟨b95, he98, hS191⟩ : ∃ (b95 : Nat), (vals 9 = (.pointer (some ⟨b95, 0, none⟩) : Value)) ∧ Sep G W ((Blk b95 #[(.slice none 0 0)] 31) :: (Blk b2 (d.cells dd0 dd1).toArray 25) :: Rs) w183 := hW185
        obtain ⟨q61, heN65, hq62⟩ := hA184 6 (by decide)
        have e192 : vals 1 = (dd0 : Value) := hA184 1 (by decide)
        refine obl rfl ?_
        have hi193 : q61 < d.types.length := (by first | omega | (simp only [lens]; omega))
        refine ov_indexAddrN (k := 1) (i := q61) Try.underlying22 Try.sizeOf31 (show _ = (dd0 : Value) from e192) hdd0.sl (show _ = (.int .i64 ((q61 : Nat) : Int) : Value) from heN65) hi193 (fun vals' hv hv' => ⟨.inl rfl, ?_⟩)
        intro q61q hq0
        rw [hv' 6 (by decide)] at hq0; cases heN65.symm.trans hq0
        exact hv
    · intro k194 vals w195 h198 h199 hW197 hA196
      have hkk : k194 = 0 ∨ k194 = 1 := by have h1 : 0 ≤ k194 := h198; have h2 : k194 ≤ 1 := h199; omega
      rcases hkk with rfl | rfl
      · skip
        have hS200 : Sep G W ((Blk b2 (d.cells dd0 dd1).toArray 25) :: Rs) w195 := hW197
        obtain ⟨q61, heN65, hq62⟩ := hA196 6 (by decide)
        have e201 : vals 7 = (.pointer (some ⟨sb dd0, so dd0 + q61 * 1, none⟩) : Value) := hA196 7 (by decide) q61 heN65
        refine obl rfl ?_
        have hi203 : q61 < d.types.length := (by first | omega | (simp only [lens]; omega))
        obtain ⟨hce202, hde202_0, hoke202⟩ := hdd0.typ hi203
        rw [← getD_at default hi203] at hce202 hde202_0 hoke202
        have hsm204 : ((d.types.getD q61 default).fields).length * 48 ≤ 140737488355328 := hde202_0.small
        have hcw205 := hS200.cells hce202 (hdd0.foot (ne_of_lt hi203))
        refine ov_loadk (k := 1) Try.isAgg31 Try.sizeOf31 rfl (show _ = (.pointer (some ⟨sb dd0, so dd0 + q61 * 1, none⟩) : Value) from e201) hcw205 (fun vals' hv hv' => ⟨.inl rfl, ?_⟩)
        intro q61q hq0
        rw [hv' 6 (by decide)] at hq0; cases heN65.symm.trans hq0
        exact hv
      · skip
        obtain ⟨b95, he98, hS206⟩ : ∃ (b95 : Nat), (vals 9 = (.pointer (some ⟨b95, 0, none⟩) : Value)) ∧ Sep G W ((Blk b95 #[(.slice none 0 0)] 31) :: (Blk b2 (d.cells dd0 dd1).toArray 25) :: Rs) w195 := hW197
        obtain ⟨q61, heN65, hq62⟩ := hA196 6 (by decide)
        have e207 : vals 7 = (.pointer (some ⟨sb dd0, so dd0 + q61 * 1, none⟩) : Value) := hA196 7 (by decide) q61 heN65
        refine obl rfl ?_
        have hi209 : q61 < d.types.length := (by first | omega | (simp only [lens]; omega))
        obtain ⟨hce208, hde208_0, hoke208⟩ := hdd0.typ hi209
        rw [← getD_at default hi209] at hce208 hde208_0 hoke208
        have hsm210 : ((d.types.getD q61 default).fields).length * 48 ≤ 140737488355328 := hde208_0.small
        have hcw211 := hS206.cells hce208 (hdd0.foot (ne_of_lt hi209))
        refine ov_loadk (k := 1) Try.isAgg31 Try.sizeOf31 rfl (show _ = (.pointer (some ⟨sb dd0, so dd0 + q61 * 1, none⟩) : Value) from e207) hcw211 (fun vals' hv hv' => ⟨.inl rfl, ?_⟩)
        intro q61q hq0
        rw [hv' 6 (by decide)] at hq0; cases heN65.symm.trans hq0
        exact hv
    · intro k87 vals w88 h91 h92 hW90 hA89
      obtain rfl : k87 = 0 := Nat.le_antisymm h92 h91
      have hS93 : Sep G W ((Blk b2 (d.cells dd0 dd1).toArray 25) :: Rs) w88 := hW90
      refine obl rfl ?_
      refine (ov_alloc Try.zeroValue31 ?_)
      intro w96 b95 hn94
      have hS97 : Sep G W ((Blk b95 #[(.slice none 0 0)] 31) :: (Blk b2 (d.cells dd0 dd1).toArray 25) :: Rs) w96 := hS93.new hn94
      intro vals' hv hv'
      refine ⟨?_, trivial⟩
      show ∃ (b95 : Nat), (vals' 9 = (.pointer (some ⟨b95, 0, none⟩) : Value)) ∧ Sep G W ((Blk b95 #[(.slice none 0 0)] 31) :: (Blk b2 (d.cells dd0 dd1).toArray 25) :: Rs) w96
      exact ⟨b95, hv, hS97⟩
    · intro k99 vals w100 h103 h104 hW102 hA101
      obtain rfl : k99 = 1 := Nat.le_antisymm h104 h103
      obtain ⟨b95, he98, hS105⟩ : ∃ (b95 : Nat), (vals 9 = (.pointer (some ⟨b95, 0, none⟩) : Value)) ∧ Sep G W ((Blk b95 #[(.slice none 0 0)] 31) :: (Blk b2 (d.cells dd0 dd1).toArray 25) :: Rs) w100 := hW102
      obtain ⟨q61, heN65, hq62⟩ := hA101 6 (by decide)
      have e106 : vals 8 = (.agg ((d.types.getD q61 default).cells (cellV W (sb dd0) (so dd0 + q61 * 1 + 0))).toArray : Value) := hA101 8 (by decide) q61 heN65
      refine obl rfl ?_
      have hi110 : q61 < d.types.length := (by first | omega | (simp only [lens]; omega))
      obtain ⟨hce109, hde109_0, hoke109⟩ := hdd0.typ hi110
      rw [← getD_at default hi110] at hce109 hde109_0 hoke109
      have hsm111 : ((d.types.getD q61 default).fields).length * 48 ≤ 140737488355328 := hde109_0.small
      have hcw112 := hS105.cells hce109 (hdd0.foot (ne_of_lt hi110))
      refine (ov_store (v := .agg ((d.types.getD q61 default).cells (cellV W (sb dd0) (so dd0 + q61 * 1 + 0))).toArray) (c' := ((d.types.getD q61 default).cells (cellV W (sb dd0) (so dd0 + q61 * 1 + 0))).toArray) Try.sizeOf31 (show _ = (.pointer (some ⟨b95, 0, none⟩) : Value) from he98) (show _ = (.agg ((d.types.getD q61 default).cells (cellV W (sb dd0) (so dd0 + q61 * 1 + 0))).toArray : Value) from e106) (hS105.blk (i := 0) rfl) (all1 ⟨hde109_0.sl.one, trivial⟩) (Nat.le_of_ble_eq_true rfl) rfl ?_)
      intro w107 hp108
      have hS113 : Sep G W ((Blk b95 ((d.types.getD q61 default).cells (cellV W (sb dd0) (so dd0 + q61 * 1 + 0))).toArray 31) :: (Blk b2 (d.cells dd0 dd1).toArray 25) :: Rs) w107 := hS105.put (i := 0) rfl hp108
      intro vals' hv hv'
      refine ⟨?_, trivial⟩
      show ∃ (b95 : Nat) (q61 : Nat), (vals' 9 = (.pointer (some ⟨b95, 0, none⟩) : Value)) ∧ (q61 < d.types.length) ∧ Sep G W ((Blk b95 ((d.types.getD q61 default).cells (cellV W (sb dd0) (so dd0 + q61 * 1 + 0))).toArray 31) :: (Blk b2 (d.cells dd0 dd1).toArray 25) :: Rs) w107
      exact ⟨b95, q61, (by rw [hv' 9 (by decide)]; exact he98), hq62, hS113⟩
    intro vals w212 hW213 hA214
    obtain ⟨b95, q61, he98, hq62, hS215⟩ : ∃ (b95 : Nat) (q61 : Nat), (vals 9 = (.pointer (some ⟨b95, 0, none⟩) : Value)) ∧ (q61 < d.types.length) ∧ Sep G W ((Blk b95 ((d.types.getD q61 default).cells (cellV W (sb dd0) (so dd0 + q61 * 1 + 0))).toArray 31) :: (Blk b2 (d.cells dd0 dd1).toArray 25) :: Rs) w212 := hW213
    refine st_env (kv := [(0, .agg (d.cells dd0 dd1).toArray), (1, .int .i64 (ty)), (2, vl), (3, .int .i64 (fi)), (4, .int .i64 (a)), (5, .int .i64 (b)), (6, .pointer (some ⟨b2, 0, none⟩)), (12, .bool false), (17, .agg (d.cells dd0 dd1).toArray), (18, vl), (19, .bool b5), (20, .bool false), (13, .pointer (some ⟨b95, 0, none⟩))]) ⟨rfl, rfl, rfl, rfl, rfl, rfl, rfl, rfl, rfl, rfl, rfl, rfl, (by exact he98), trivial⟩ (fun ρw212 => ?_)
    refine st_nil ?_
    refine WP_seq ?_
    refine WP_region0 (by kernel_rfl) (fun _ => ?_)
    refine st (ov_loadk (k := 1) Try.isAgg31 Try.sizeOf31 rfl rfl (CellsAt.all (hS215.blk (i := 0) rfl)) ?_)
    refine st (ov_move (v := vl) rfl ?_)
    have hi217 : q61 < d.types.length := (by first | omega | (simp only [lens]; omega))
    obtain ⟨hce216, hde216_0, hoke216⟩ := hdd0.typ hi217
    rw [← getD_at default hi217] at hce216 hde216_0 hoke216
    have hsm218 : ((d.types.getD q61 default).fields).length * 48 ≤ 140737488355328 := hde216_0.small
    have hcw219 := hS215.cells hce216 (hdd0.foot (ne_of_lt hi217))
    refine st (ov_call (f := 9) (vals := [.agg ((d.types.getD q61 default).cells (cellV W (sb dd0) (so dd0 + q61 * 1 + 0))).toArray, vl]) (cap := []) (show _ = (.func (.func 9) #[] #[] : Value) from rfl) rfl Try.call9 (D_Cells (t := (d.types.getD q61 default)) (l := l) (vl := vl) hde216_0 hoke216 hl hS215 ((hdo.typ _ (by omega)))) ?_)
    rintro v220 w223 ⟨_, c2221, rfl, hR222, hS224⟩
    have hr225 := hS224.row (i := 0) rfl
    have hr225s : c2221.length * 32 ≤ 140737488355328 := hr225.2
    refine st (ov_assign (v := v220) rfl ?_)
    refine st_nil ?_
    refine WP_seq ?_
    refine WP_region0 (by kernel_rfl) (fun _ => ?_)
    have hcl := hR222.len
    have hty := hdo.typ _ (show q61 < d.types.length by omega)
    have hty1 := hty.some
    have hty2 := hty.few
    refine st (ov_move (v := .int .i64 (fi)) rfl ?_)
    refine st (fd31_0 rfl ?_)
    refine st (ov_load1 (v := (cellV W (sb dd0) (so dd0 + q61 * 1 + 0))) Try.isAgg29 rfl (blk_cellL (hS224.blk (i := 1) rfl) rfl) ?_)
    refine st (ov_len (n := ((d.types.getD q61 default).fields).length) Try.underlying29 rfl hde216_0.sl ?_)
    refine st (ov_call (f := 8) (vals := [.int .i64 (fi), .int .i64 ((((d.types.getD q61 default).fields).length : Nat) : Int)]) (cap := []) (show _ = (.func (.func 8) #[] #[] : Value) from rfl) rfl Try.call8 (D_Pick (x := fi) (n := ((d.types.getD q61 default).fields).length) hfi (by first | omega | (refine ⟨?_, ?_⟩ <;> omega)) hS224) ?_)
    rintro _ w228 ⟨q226, rfl, hq227, hS229⟩
    refine st (ov_assign (v := .int .i64 ((q226 : Nat) : Int)) rfl ?_)
    refine st_nil ?_
    refine WP_seq ?_
    refine WP_seq ?_
    refine WP_region0 (by kernel_rfl) (fun _ => ?_)
    refine st (fd31_0 rfl ?_)
    refine st (ov_load1 (v := (cellV W (sb dd0) (so dd0 + q61 * 1 + 0))) Try.isAgg29 rfl (blk_cellL (hS229.blk (i := 1) rfl) rfl) ?_)
    refine st (ov_move (v := .int .i64 ((q226 : Nat) : Int)) rfl ?_)
    have hi230 : q226 < ((d.types.getD q61 default).fields).length := (by first | omega | (simp only [lens]; omega))
    refine st (ov_indexAddrN (k := 4) (i := q226) Try.underlying29 Try.sizeOf36 rfl hde216_0.sl rfl hi230 ?_)
    refine st (fd36_0 rfl ?_)
    have hi232 : q226 < ((d.types.getD q61 default).fields).length := (by first | omega | (simp only [lens]; omega))
    obtain ⟨hce231, hde231_0, hoke231⟩ := hde216_0.fld hi232
    rw [← getD_at default hi232] at hce231 hde231_0 hoke231
    have hsm233 : ((((d.types.getD q61 default).fields).getD q226 default).moves).length * 32 ≤ 140737488355328 := hde231_0.small
    have hcw234 := hS229.cells hce231 (hde216_0.foot (ne_of_lt hi232))
    refine st (ov_load1 (v := .int .i64 ((((d.types.getD q61 default).fields).getD q226 default).kind)) Try.isAgg3 rfl (hcw234.get (j := 0) rfl) ?_)
    refine st_nil ?_
    refine WP_block ?_
    refine WP_seq ?_
    refine WP_region0 (by kernel_rfl) (fun _ => ?_)
    refine st (ov_eql (k := .i64) (a := (((d.types.getD q61 default).fields).getD q226 default).kind) (b := 1) rfl rfl ?_)
    refine st (ov_assign (v := .bool (decide (((((d.types.getD q61 default).fields).getD q226 default).kind) = 1))) rfl ?_)
    refine st_nil ?_
    cases hc235 : decide (((((d.types.getD q61 default).fields).getD q226 default).kind) = 1)
    · skip
      have hc235 := of_decide_eq_false hc235
      refine WP_cond_f rfl ?_
      refine WP_seq ?_
      refine WP_region0 (by kernel_rfl) (fun _ => ?_)
      refine st (ov_eql (k := .i64) (a := (((d.types.getD q61 default).fields).getD q226 default).kind) (b := 3) rfl rfl ?_)
      refine st (ov_assign (v := .bool (decide (((((d.types.getD q61 default).fields).getD q226 default).kind) = 3))) rfl ?_)
      refine st_nil ?_
      cases hc236 : decide (((((d.types.getD q61 default).fields).getD q226 default).kind) = 3)
      · skip
        have hc236 := of_decide_eq_false hc236
        refine WP_cond_f rfl ?_
        refine WP_skip ?_
        refine WP_seq ?_
        refine WP_region0 (by kernel_rfl) (fun _ => ?_)
        refine st (ov_call (f := 7) (vals := []) (cap := []) (show _ = (.func (.func 7) #[] #[] : Value) from rfl) rfl Try.call7 (D_known  hS229) ?_)
        rintro _ w237 ⟨rfl, hS238⟩
        refine st (ov_assign (v := .bool true) rfl ?_)
        refine st_nil ?_
        refine WP_ret ?_
        refine fin1 Try.results3 (show _ = (.bool true : Value) from rfl) ?_
        have hS239 : Sep G W Rs w237 := hS238.sel 3 [] (Nat.le_add_left _ _) rfl rfl
        refine ⟨rfl, hS239⟩
      · skip
        have hc236 := of_decide_eq_true hc236
        refine WP_cond_t rfl ?_
        refine WP_seq ?_
        refine WP_region (by kernel_rfl) ?_
        refine st (ov_loadk (k := 1) Try.isAgg31 Try.sizeOf31 rfl rfl (CellsAt.all (hS229.blk (i := 1) rfl)) ?_)
        refine st (ov_move (v := v220) rfl ?_)
        refine st (ov_move (v := .int .i64 ((q226 : Nat) : Int)) rfl ?_)
        refine st (ov_move (v := .int .i64 (a)) rfl ?_)
        refine st (ov_move (v := .int .i64 (b)) rfl ?_)
        obtain ⟨G240, hA242, hB243, hS244, hk245⟩ := hS229.lend
        have hrd246 := RowE.rd hA242
        have hrd246s : c2221.length * 32 ≤ 140737488355328 := hrd246.small
        refine st (ov_call (f := 13) (vals := [.agg ((d.types.getD q61 default).cells (cellV W (sb dd0) (so dd0 + q61 * 1 + 0))).toArray, v220, .int .i64 ((q226 : Nat) : Int), .int .i64 (a), .int .i64 (b)]) (cap := []) (show _ = (.func (.func 13) #[] #[] : Value) from rfl) rfl Try.call13 (D_sets (t := (d.types.getD q61 default)) (c := c2221) (vc := v220) (f := ((q226 : Nat) : Int)) (a := a) (b := b) (RdS.base hde216_0 hB243) hoke216 hrd246 (by omega) ha hb hS244 (⟨by omega, by omega, by omega, hR222.asc q226 (by omega), Nat.le_trans (hR222.most q226 (by omega)) (by omega)⟩)) ?_)
        rintro _ w247 ⟨rfl, hS248⟩
        have hS249 : Sep G W ((RowE (α := Cel) own 47 v220 c2221) :: (Blk b95 ((d.types.getD q61 default).cells (cellV W (sb dd0) (so dd0 + q61 * 1 + 0))).toArray 31) :: (Blk b2 (d.cells dd0 dd1).toArray 25) :: Rs) w247 := hk245 _ _ hS248
        refine st (ov_move (v := .bool true) rfl ?_)
        refine sty rfl rfl (ov_call (f := 7) (vals := []) (cap := []) (show _ = (.func (.func 7) #[] #[] : Value) from rfl) rfl Try.call7 (D_known  hS249) ?_)
        rintro _ w250 ⟨rfl, hS251⟩
        refine st (ov_pick_t (v := .bool true) rfl rfl ?_)
        refine st (ov_assign (v := .bool true) rfl ?_)
        refine st_nil ?_
        refine WP_ret ?_
        refine fin1 Try.results3 (show _ = (.bool true : Value) from rfl) ?_
        have hS252 : Sep G W Rs w250 := hS251.sel 3 [] (Nat.le_add_left _ _) rfl rfl
        refine ⟨rfl, hS252⟩
    · skip
      have hc235 := of_decide_eq_true hc235
      refine WP_cond_t rfl ?_
      refine WP_seq ?_
      refine WP_seq ?_
      refine WP_region (by kernel_rfl) ?_
      obtain ⟨G253, hA255, hB256, hS257, hk258⟩ := hS229.lend
      have hrd259 := RowE.rd hA255
      have hrd259s : c2221.length * 32 ≤ 140737488355328 := hrd259.small
      have hi261 : q226 < c2221.length := (by first | omega | (simp only [lens]; omega))
      obtain ⟨hce260, hde260_0, hoke260⟩ := hrd259.cel hi261
      rw [← getD_at default hi261] at hce260 hde260_0 hoke260
      have hsm262 : ((c2221.getD q226 default).set).length * 8 ≤ 140737488355328 := hde260_0.small
      have hcw263 := hS257.cells hce260 (hrd259.foot (ne_of_lt hi261))
      have hS264 : Sep G W ((RowE (α := Cel) own 47 v220 c2221) :: (Blk b95 ((d.types.getD q61 default).cells (cellV W (sb dd0) (so dd0 + q61 * 1 + 0))).toArray 31) :: (Blk b2 (d.cells dd0 dd1).toArray 25) :: Rs) w228 := hk258 _ _ hS257
      have hcn : InR (celAt c2221 ((q226 : Nat) : Int)).n := (show InR (c2221.getD q226 default).n from hoke260.n)
      have hfl9 : (fldAt (d.types.getD q61 default) ((q226 : Nat) : Int)).floor = true → 0 ≤ (celAt c2221 ((q226 : Nat) : Int)).n := fun hf => hR222.floor q226 (by omega) hf
      refine st (ov_move (v := .int .i64 (a)) rfl ?_)
      refine st (ov_eql (k := .i64) (a := a) (b := 0) rfl rfl ?_)
      refine st (ov_move (v := .bool (decide (a = 0))) rfl ?_)
      refine stc (V := .int .i64 (b)) rfl rfl (fun hb265 => ?_) ?_
      · have hl266 : (decide (a = 0)) = false := hb265
        have hl266 := of_decide_eq_false hl266
        exact ov_move (v := .int .i64 (b)) rfl ⟨rfl, rfl⟩
      refine stc (V := .bool (decide (b = 0))) rfl rfl (fun hb267 => ?_) ?_
      · have hl268 : (decide (a = 0)) = false := hb267
        have hl268 := of_decide_eq_false hl268
        exact ov_eql (k := .i64) (a := b) (b := 0) (show _ = (.int .i64 (b) : Value) from (if_pos hb267)) rfl ⟨rfl, rfl⟩
      refine st (ov_pick_or (b := decide (a = 0)) (b' := decide (b = 0)) rfl (fun hbp => (show _ = (.bool (decide (b = 0)) : Value) from (if_pos hbp))) ?_)
      refine st (ov_move (v := .bool ((decide (a = 0)) || (decide (b = 0)))) rfl ?_)
      refine stc (V := .agg ((d.types.getD q61 default).cells (cellV W (sb dd0) (so dd0 + q61 * 1 + 0))).toArray) rfl rfl (fun hb269 => ?_) ?_
      · have hl270 : ((decide (a = 0)) || (decide (b = 0))) = false := hb269
        try simp only [bools] at hl270
        exact ov_loadk (k := 1) Try.isAgg31 Try.sizeOf31 rfl rfl (CellsAt.all (hS264.blk (i := 1) rfl)) ⟨rfl, rfl⟩
      refine stc (V := v220) rfl rfl (fun hb271 => ?_) ?_
      · have hl272 : ((decide (a = 0)) || (decide (b = 0))) = false := hb271
        try simp only [bools] at hl272
        exact ov_move (v := v220) rfl ⟨rfl, rfl⟩
      refine stc (V := .int .i64 ((q226 : Nat) : Int)) rfl rfl (fun hb273 => ?_) ?_
      · have hl274 : ((decide (a = 0)) || (decide (b = 0))) = false := hb273
        try simp only [bools] at hl274
        exact ov_move (v := .int .i64 ((q226 : Nat) : Int)) rfl ⟨rfl, rfl⟩
      refine stc (V := .int .i64 (a)) rfl rfl (fun hb275 => ?_) ?_
      · have hl276 : ((decide (a = 0)) || (decide (b = 0))) = false := hb275
        try simp only [bools] at hl276
        exact ov_move (v := .int .i64 (a)) rfl ⟨rfl, rfl⟩
      cases hg277 : (decide (a = 0)) || (decide (b = 0))
      · skip
        have hg277r := hg277
        try simp only [bools] at hg277
        obtain ⟨G278, hA280, hB281, hS282, hk283⟩ := hS264.lend
        have hrd284 := RowE.rd hA280
        have hrd284s : c2221.length * 32 ≤ 140737488355328 := hrd284.small
        refine sty rfl rfl (ov_call (f := 10) (vals := [.agg ((d.types.getD q61 default).cells (cellV W (sb dd0) (so dd0 + q61 * 1 + 0))).toArray, v220, .int .i64 ((q226 : Nat) : Int), .int .i64 (1), .int .i64 (a)]) (cap := []) (show _ = (.func (.func 10) #[] #[] : Value) from rfl) rfl Try.call10 (D_May (t := (d.types.getD q61 default)) (c := c2221) (vc := v220) (f := ((q226 : Nat) : Int)) (op := 1) (arg := a) (RdS.base hde216_0 hB281) hoke216 hrd284 (by omega) (by decide) ha hS282 ((⟨by omega, by omega, by first | omega | (rw [doL_len]; omega), fun h => by omega, fun h => by omega⟩))) ?_)
        rintro _ w285 ⟨rfl, hS286⟩
        have hS287 : Sep G W ((RowE (α := Cel) own 47 v220 c2221) :: (Blk b95 ((d.types.getD q61 default).cells (cellV W (sb dd0) (so dd0 + q61 * 1 + 0))).toArray 31) :: (Blk b2 (d.cells dd0 dd1).toArray 25) :: Rs) w285 := hk283 _ _ hS286
        refine sty rfl rfl (ov_neq (k := .i64) (a := mayL (d.types.getD q61 default) c2221 ((q226 : Nat) : Int) 1 a) (b := 0) rfl rfl ?_)
        refine st (ov_pick_f (v := .bool (!decide ((mayL (d.types.getD q61 default) c2221 ((q226 : Nat) : Int) 1 a) = 0))) rfl rfl ?_)
        refine st (ov_move (v := .bool (!decide ((mayL (d.types.getD q61 default) c2221 ((q226 : Nat) : Int) 1 a) = 0))) rfl ?_)
        refine stc (V := .agg ((d.types.getD q61 default).cells (cellV W (sb dd0) (so dd0 + q61 * 1 + 0))).toArray) rfl rfl (fun hb288 => ?_) ?_
        · have hl289 : (!decide ((mayL (d.types.getD q61 default) c2221 ((q226 : Nat) : Int) 1 a) = 0)) = false := hb288
          have hl289 := ndec_false hl289
          exact ov_loadk (k := 1) Try.isAgg31 Try.sizeOf31 rfl rfl (CellsAt.all (hS287.blk (i := 1) rfl)) ⟨rfl, rfl⟩
        refine stc (V := v220) rfl rfl (fun hb290 => ?_) ?_
        · have hl291 : (!decide ((mayL (d.types.getD q61 default) c2221 ((q226 : Nat) : Int) 1 a) = 0)) = false := hb290
          have hl291 := ndec_false hl291
          exact ov_move (v := v220) rfl ⟨rfl, rfl⟩
        refine stc (V := .int .i64 ((q226 : Nat) : Int)) rfl rfl (fun hb292 => ?_) ?_
        · have hl293 : (!decide ((mayL (d.types.getD q61 default) c2221 ((q226 : Nat) : Int) 1 a) = 0)) = false := hb292
          have hl293 := ndec_false hl293
          exact ov_move (v := .int .i64 ((q226 : Nat) : Int)) rfl ⟨rfl, rfl⟩
        refine stc (V := .int .i64 (b)) rfl rfl (fun hb294 => ?_) ?_
        · have hl295 : (!decide ((mayL (d.types.getD q61 default) c2221 ((q226 : Nat) : Int) 1 a) = 0)) = false := hb294
          have hl295 := ndec_false hl295
          exact ov_move (v := .int .i64 (b)) rfl ⟨rfl, rfl⟩
        cases hg296 : !decide ((mayL (d.types.getD q61 default) c2221 ((q226 : Nat) : Int) 1 a) = 0)
        · skip
          have hg296r := hg296
          have hg296 := ndec_false hg296
          obtain ⟨G297, hA299, hB300, hS301, hk302⟩ := hS287.lend
          have hrd303 := RowE.rd hA299
          have hrd303s : c2221.length * 32 ≤ 140737488355328 := hrd303.small
          refine sty rfl rfl (ov_call (f := 10) (vals := [.agg ((d.types.getD q61 default).cells (cellV W (sb dd0) (so dd0 + q61 * 1 + 0))).toArray, v220, .int .i64 ((q226 : Nat) : Int), .int .i64 (1), .int .i64 (b)]) (cap := []) (show _ = (.func (.func 10) #[] #[] : Value) from rfl) rfl Try.call10 (D_May (t := (d.types.getD q61 default)) (c := c2221) (vc := v220) (f := ((q226 : Nat) : Int)) (op := 1) (arg := b) (RdS.base hde216_0 hB300) hoke216 hrd303 (by omega) (by decide) hb hS301 ((⟨by omega, by omega, by first | omega | (rw [doL_len]; omega), fun h => by omega, fun h => by omega⟩))) ?_)
          rintro _ w304 ⟨rfl, hS305⟩
          have hS306 : Sep G W ((RowE (α := Cel) own 47 v220 c2221) :: (Blk b95 ((d.types.getD q61 default).cells (cellV W (sb dd0) (so dd0 + q61 * 1 + 0))).toArray 31) :: (Blk b2 (d.cells dd0 dd1).toArray 25) :: Rs) w304 := hk302 _ _ hS305
          refine sty rfl rfl (ov_neq (k := .i64) (a := mayL (d.types.getD q61 default) c2221 ((q226 : Nat) : Int) 1 b) (b := 0) rfl rfl ?_)
          refine st (ov_pick_f (v := .bool (!decide ((mayL (d.types.getD q61 default) c2221 ((q226 : Nat) : Int) 1 b) = 0))) rfl rfl ?_)
          refine st_nil ?_
          cases hc307 : !decide ((mayL (d.types.getD q61 default) c2221 ((q226 : Nat) : Int) 1 b) = 0)
          · skip
            have hc307 := ndec_false hc307
            refine WP_cond_f rfl ?_
            refine WP_skip ?_
            refine WP_seq ?_
            refine WP_region0 (by kernel_rfl) (fun _ => ?_)
            refine st (ov_loadk (k := 1) Try.isAgg31 Try.sizeOf31 rfl rfl (CellsAt.all (hS306.blk (i := 1) rfl)) ?_)
            refine st (ov_move (v := v220) rfl ?_)
            refine st (ov_move (v := .int .i64 ((q226 : Nat) : Int)) rfl ?_)
            refine st (ov_move (v := .int .i64 (a)) rfl ?_)
            obtain ⟨G308, hA310, hB311, hS312, hk313⟩ := hS306.lend
            have hrd314 := RowE.rd hA310
            have hrd314s : c2221.length * 32 ≤ 140737488355328 := hrd314.small
            refine st (ov_call (f := 11) (vals := [.agg ((d.types.getD q61 default).cells (cellV W (sb dd0) (so dd0 + q61 * 1 + 0))).toArray, v220, .int .i64 ((q226 : Nat) : Int), .int .i64 (1), .int .i64 (a)]) (cap := []) (show _ = (.func (.func 11) #[] #[] : Value) from rfl) rfl Try.call11 (D_Do (t := (d.types.getD q61 default)) (c := c2221) (vc := v220) (f := ((q226 : Nat) : Int)) (op := 1) (arg := a) (RdS.base hde216_0 hB311) hoke216 hrd314 (by omega) (by decide) ha hS312 ((⟨by omega, by omega, by first | omega | (rw [doL_len]; omega), fun h => by omega, fun h => by omega⟩)) ((fun h => by omega))) ?_)
            rintro v315 w316 ⟨_, rfl, hS317⟩
            have hr318 := hS317.row (i := 0) rfl
            have hr318s : (doL (d.types.getD q61 default) c2221 ((q226 : Nat) : Int) 1 a).length * 32 ≤ 140737488355328 := hr318.2
            have hS319 : Sep G W ((RowE (α := Cel) own 47 v220 c2221) :: (RowE (α := Cel) own 47 v315 (doL (d.types.getD q61 default) c2221 ((q226 : Nat) : Int) 1 a)) :: (Blk b95 ((d.types.getD q61 default).cells (cellV W (sb dd0) (so dd0 + q61 * 1 + 0))).toArray 31) :: (Blk b2 (d.cells dd0 dd1).toArray 25) :: Rs) w316 := hk313 _ _ hS317
            refine st (ov_assign (v := v315) rfl ?_)
            refine st_nil ?_
            refine WP_seq ?_
            refine WP_region0 (by kernel_rfl) (fun _ => ?_)
            refine st (ov_loadk (k := 1) Try.isAgg31 Try.sizeOf31 rfl rfl (CellsAt.all (hS319.blk (i := 2) rfl)) ?_)
            refine st (ov_move (v := v220) rfl ?_)
            refine st (ov_move (v := .int .i64 ((q226 : Nat) : Int)) rfl ?_)
            refine st (ov_move (v := .int .i64 (b)) rfl ?_)
            obtain ⟨G320, hA322, hB323, hS324, hk325⟩ := hS319.lend
            have hrd326 := RowE.rd hA322
            have hrd326s : c2221.length * 32 ≤ 140737488355328 := hrd326.small
            refine st (ov_call (f := 11) (vals := [.agg ((d.types.getD q61 default).cells (cellV W (sb dd0) (so dd0 + q61 * 1 + 0))).toArray, v220, .int .i64 ((q226 : Nat) : Int), .int .i64 (1), .int .i64 (b)]) (cap := []) (show _ = (.func (.func 11) #[] #[] : Value) from rfl) rfl Try.call11 (D_Do (t := (d.types.getD q61 default)) (c := c2221) (vc := v220) (f := ((q226 : Nat) : Int)) (op := 1) (arg := b) (RdS.base hde216_0 hB323) hoke216 hrd326 (by omega) (by decide) hb hS324 ((⟨by omega, by omega, by first | omega | (rw [doL_len]; omega), fun h => by omega, fun h => by omega⟩)) ((fun h => by omega))) ?_)
            rintro v327 w328 ⟨_, rfl, hS329⟩
            have hr330 := hS329.row (i := 0) rfl
            have hr330s : (doL (d.types.getD q61 default) c2221 ((q226 : Nat) : Int) 1 b).length * 32 ≤ 140737488355328 := hr330.2
            have hS331 : Sep G W ((RowE (α := Cel) own 47 v220 c2221) :: (RowE (α := Cel) own 47 v327 (doL (d.types.getD q61 default) c2221 ((q226 : Nat) : Int) 1 b)) :: (RowE (α := Cel) own 47 v315 (doL (d.types.getD q61 default) c2221 ((q226 : Nat) : Int) 1 a)) :: (Blk b95 ((d.types.getD q61 default).cells (cellV W (sb dd0) (so dd0 + q61 * 1 + 0))).toArray 31) :: (Blk b2 (d.cells dd0 dd1).toArray 25) :: Rs) w328 := hk325 _ _ hS329
            refine st (ov_assign (v := v327) rfl ?_)
            refine st_nil ?_
            refine WP_seq ?_
            refine WP_seq ?_
            refine WP_region (by kernel_rfl) ?_
            refine st (ov_loadk (k := 1) Try.isAgg31 Try.sizeOf31 rfl rfl (CellsAt.all (hS331.blk (i := 3) rfl)) ?_)
            refine st (ov_move (v := v315) rfl ?_)
            refine st (ov_move (v := .int .i64 ((q226 : Nat) : Int)) rfl ?_)
            refine st (ov_move (v := .int .i64 (b)) rfl ?_)
            have hS332 : Sep G W ((RowE (α := Cel) own 47 v315 (doL (d.types.getD q61 default) c2221 ((q226 : Nat) : Int) 1 a)) :: (RowE (α := Cel) own 47 v220 c2221) :: (RowE (α := Cel) own 47 v327 (doL (d.types.getD q61 default) c2221 ((q226 : Nat) : Int) 1 b)) :: (Blk b95 ((d.types.getD q61 default).cells (cellV W (sb dd0) (so dd0 + q61 * 1 + 0))).toArray 31) :: (Blk b2 (d.cells dd0 dd1).toArray 25) :: Rs) w328 := hS331.sel 5 [2, 0, 1, 3, 4] (Nat.le_add_left _ _) rfl rfl
            obtain ⟨G333, hA335, hB336, hS337, hk338⟩ := hS332.lend
            have hrd339 := RowE.rd hA335
            have hrd339s : (doL (d.types.getD q61 default) c2221 ((q226 : Nat) : Int) 1 a).length * 32 ≤ 140737488355328 := hrd339.small
            refine st (ov_call (f := 10) (vals := [.agg ((d.types.getD q61 default).cells (cellV W (sb dd0) (so dd0 + q61 * 1 + 0))).toArray, v315, .int .i64 ((q226 : Nat) : Int), .int .i64 (1), .int .i64 (b)]) (cap := []) (show _ = (.func (.func 10) #[] #[] : Value) from rfl) rfl Try.call10 (D_May (t := (d.types.getD q61 default)) (c := (doL (d.types.getD q61 default) c2221 ((q226 : Nat) : Int) 1 a)) (vc := v315) (f := ((q226 : Nat) : Int)) (op := 1) (arg := b) (RdS.base hde216_0 hB336) hoke216 hrd339 (by omega) (by decide) hb hS337 ((⟨by omega, by omega, by first | omega | (rw [doL_len]; omega), fun h => by omega, fun h => by omega⟩))) ?_)
            rintro _ w340 ⟨rfl, hS341⟩
            have hS342 : Sep G W ((RowE (α := Cel) own 47 v315 (doL (d.types.getD q61 default) c2221 ((q226 : Nat) : Int) 1 a)) :: (RowE (α := Cel) own 47 v220 c2221) :: (RowE (α := Cel) own 47 v327 (doL (d.types.getD q61 default) c2221 ((q226 : Nat) : Int) 1 b)) :: (Blk b95 ((d.types.getD q61 default).cells (cellV W (sb dd0) (so dd0 + q61 * 1 + 0))).toArray 31) :: (Blk b2 (d.cells dd0 dd1).toArray 25) :: Rs) w340 := hk338 _ _ hS341
            refine st (ov_neq (k := .i64) (a := mayL (d.types.getD q61 default) (doL (d.types.getD q61 default) c2221 ((q226 : Nat) : Int) 1 a) ((q226 : Nat) : Int) 1 b) (b := 0) rfl rfl ?_)
            refine st (ov_move (v := .bool (!decide ((mayL (d.types.getD q61 default) (doL (d.types.getD q61 default) c2221 ((q226 : Nat) : Int) 1 a) ((q226 : Nat) : Int) 1 b) = 0))) rfl ?_)
            refine stc (V := .agg ((d.types.getD q61 default).cells (cellV W (sb dd0) (so dd0 + q61 * 1 + 0))).toArray) rfl rfl (fun hb343 => ?_) ?_
            · have hl344 : (!decide ((mayL (d.types.getD q61 default) (doL (d.types.getD q61 default) c2221 ((q226 : Nat) : Int) 1 a) ((q226 : Nat) : Int) 1 b) = 0)) = false := hb343
              have hl344 := ndec_false hl344
              exact ov_loadk (k := 1) Try.isAgg31 Try.sizeOf31 rfl rfl (CellsAt.all (hS342.blk (i := 3) rfl)) ⟨rfl, rfl⟩
            refine stc (V := v327) rfl rfl (fun hb345 => ?_) ?_
            · have hl346 : (!decide ((mayL (d.types.getD q61 default) (doL (d.types.getD q61 default) c2221 ((q226 : Nat) : Int) 1 a) ((q226 : Nat) : Int) 1 b) = 0)) = false := hb345
              have hl346 := ndec_false hl346
              exact ov_move (v := v327) rfl ⟨rfl, rfl⟩
            refine stc (V := .int .i64 ((q226 : Nat) : Int)) rfl rfl (fun hb347 => ?_) ?_
            · have hl348 : (!decide ((mayL (d.types.getD q61 default) (doL (d.types.getD q61 default) c2221 ((q226 : Nat) : Int) 1 a) ((q226 : Nat) : Int) 1 b) = 0)) = false := hb347
              have hl348 := ndec_false hl348
              exact ov_move (v := .int .i64 ((q226 : Nat) : Int)) rfl ⟨rfl, rfl⟩
            refine stc (V := .int .i64 (a)) rfl rfl (fun hb349 => ?_) ?_
            · have hl350 : (!decide ((mayL (d.types.getD q61 default) (doL (d.types.getD q61 default) c2221 ((q226 : Nat) : Int) 1 a) ((q226 : Nat) : Int) 1 b) = 0)) = false := hb349
              have hl350 := ndec_false hl350
              exact ov_move (v := .int .i64 (a)) rfl ⟨rfl, rfl⟩
            cases hg351 : !decide ((mayL (d.types.getD q61 default) (doL (d.types.getD q61 default) c2221 ((q226 : Nat) : Int) 1 a) ((q226 : Nat) : Int) 1 b) = 0)
            · skip
              have hg351r := hg351
              have hg351 := ndec_false hg351
              have hS352 : Sep G W ((RowE (α := Cel) own 47 v327 (doL (d.types.getD q61 default) c2221 ((q226 : Nat) : Int) 1 b)) :: (RowE (α := Cel) own 47 v315 (doL (d.types.getD q61 default) c2221 ((q226 : Nat) : Int) 1 a)) :: (RowE (α := Cel) own 47 v220 c2221) :: (Blk b95 ((d.types.getD q61 default).cells (cellV W (sb dd0) (so dd0 + q61 * 1 + 0))).toArray 31) :: (Blk b2 (d.cells dd0 dd1).toArray 25) :: Rs) w340 := hS342.sel 5 [2, 0, 1, 3, 4] (Nat.le_add_left _ _) rfl rfl
              obtain ⟨G353, hA355, hB356, hS357, hk358⟩ := hS352.lend
              have hrd359 := RowE.rd hA355
              have hrd359s : (doL (d.types.getD q61 default) c2221 ((q226 : Nat) : Int) 1 b).length * 32 ≤ 140737488355328 := hrd359.small
              refine sty rfl rfl (ov_call (f := 10) (vals := [.agg ((d.types.getD q61 default).cells (cellV W (sb dd0) (so dd0 + q61 * 1 + 0))).toArray, v327, .int .i64 ((q226 : Nat) : Int), .int .i64 (1), .int .i64 (a)]) (cap := []) (show _ = (.func (.func 10) #[] #[] : Value) from rfl) rfl Try.call10 (D_May (t := (d.types.getD q61 default)) (c := (doL (d.types.getD q61 default) c2221 ((q226 : Nat) : Int) 1 b)) (vc := v327) (f := ((q226 : Nat) : Int)) (op := 1) (arg := a) (RdS.base hde216_0 hB356) hoke216 hrd359 (by omega) (by decide) ha hS357 ((⟨by omega, by omega, by first | omega | (rw [doL_len]; omega), fun h => by omega, fun h => by omega⟩))) ?_)
              rintro _ w360 ⟨rfl, hS361⟩
              have hS362 : Sep G W ((RowE (α := Cel) own 47 v327 (doL (d.types.getD q61 default) c2221 ((q226 : Nat) : Int) 1 b)) :: (RowE (α := Cel) own 47 v315 (doL (d.types.getD q61 default) c2221 ((q226 : Nat) : Int) 1 a)) :: (RowE (α := Cel) own 47 v220 c2221) :: (Blk b95 ((d.types.getD q61 default).cells (cellV W (sb dd0) (so dd0 + q61 * 1 + 0))).toArray 31) :: (Blk b2 (d.cells dd0 dd1).toArray 25) :: Rs) w360 := hk358 _ _ hS361
              refine sty rfl rfl (ov_neq (k := .i64) (a := mayL (d.types.getD q61 default) (doL (d.types.getD q61 default) c2221 ((q226 : Nat) : Int) 1 b) ((q226 : Nat) : Int) 1 a) (b := 0) rfl rfl ?_)
              refine st (ov_pick_f (v := .bool (!decide ((mayL (d.types.getD q61 default) (doL (d.types.getD q61 default) c2221 ((q226 : Nat) : Int) 1 b) ((q226 : Nat) : Int) 1 a) = 0))) rfl rfl ?_)
              refine st_nil ?_
              cases hc363 : !decide ((mayL (d.types.getD q61 default) (doL (d.types.getD q61 default) c2221 ((q226 : Nat) : Int) 1 b) ((q226 : Nat) : Int) 1 a) = 0)
              · skip
                have hc363 := ndec_false hc363
                refine WP_cond_f rfl ?_
                refine WP_skip ?_
                refine WP_seq ?_
                refine WP_seq ?_
                refine WP_draw4 (WF [fun vals wq => Sep G W ((RowE (α := Cel) own 47 v327 (doL (d.types.getD q61 default) c2221 ((q226 : Nat) : Int) 1 b)) :: (RowE (α := Cel) own 47 v315 (doL (d.types.getD q61 default) c2221 ((q226 : Nat) : Int) 1 a)) :: (RowE (α := Cel) own 47 v220 c2221) :: (Blk b95 ((d.types.getD q61 default).cells (cellV W (sb dd0) (so dd0 + q61 * 1 + 0))).toArray 31) :: (Blk b2 (d.cells dd0 dd1).toArray 25) :: Rs) wq, fun vals wq => ∃ (v408 : Value), (vals 4 = (v408 : Value)) ∧ Sep G W ((RowE (α := Cel) own 47 v315 (doL (d.types.getD q61 default) c2221 ((q226 : Nat) : Int) 1 a)) :: (RowE (α := Cel) own 47 v408 (doL (d.types.getD q61 default) (doL (d.types.getD q61 default) c2221 ((q226 : Nat) : Int) 1 a) ((q226 : Nat) : Int) 1 b)) :: (RowE (α := Cel) own 47 v327 (doL (d.types.getD q61 default) c2221 ((q226 : Nat) : Int) 1 b)) :: (RowE (α := Cel) own 47 v220 c2221) :: (Blk b95 ((d.types.getD q61 default).cells (cellV W (sb dd0) (so dd0 + q61 * 1 + 0))).toArray 31) :: (Blk b2 (d.cells dd0 dd1).toArray 25) :: Rs) wq, fun vals wq => ∃ (v408 : Value) (v458 : Value), (vals 4 = (v408 : Value)) ∧ (vals 9 = (v458 : Value)) ∧ Sep G W ((RowE (α := Cel) own 47 v327 (doL (d.types.getD q61 default) c2221 ((q226 : Nat) : Int) 1 b)) :: (RowE (α := Cel) own 47 v458 (doL (d.types.getD q61 default) (doL (d.types.getD q61 default) c2221 ((q226 : Nat) : Int) 1 b) ((q226 : Nat) : Int) 1 a)) :: (RowE (α := Cel) own 47 v315 (doL (d.types.getD q61 default) c2221 ((q226 : Nat) : Int) 1 a)) :: (RowE (α := Cel) own 47 v408 (doL (d.types.getD q61 default) (doL (d.types.getD q61 default) c2221 ((q226 : Nat) : Int) 1 a) ((q226 : Nat) : Int) 1 b)) :: (RowE (α := Cel) own 47 v220 c2221) :: (Blk b95 ((d.types.getD q61 default).cells (cellV W (sb dd0) (so dd0 + q61 * 1 + 0))).toArray 31) :: (Blk b2 (d.cells dd0 dd1).toArray 25) :: Rs) wq, fun vals wq => ∃ (v408 : Value) (v458 : Value), (vals 4 = (v408 : Value)) ∧ (vals 9 = (v458 : Value)) ∧ (vals 10 = (.bool (decide ((doL (d.types.getD q61 default) (doL (d.types.getD q61 default) c2221 ((q226 : Nat) : Int) 1 a) ((q226 : Nat) : Int) 1 b) = (doL (d.types.getD q61 default) (doL (d.types.getD q61 default) c2221 ((q226 : Nat) : Int) 1 b) ((q226 : Nat) : Int) 1 a))) : Value)) ∧ Sep G W ((RowE (α := Cel) own 47 v408 (doL (d.types.getD q61 default) (doL (d.types.getD q61 default) c2221 ((q226 : Nat) : Int) 1 a) ((q226 : Nat) : Int) 1 b)) :: (RowE (α := Cel) own 47 v458 (doL (d.types.getD q61 default) (doL (d.types.getD q61 default) c2221 ((q226 : Nat) : Int) 1 b) ((q226 : Nat) : Int) 1 a)) :: (RowE (α := Cel) own 47 v327 (doL (d.types.getD q61 default) c2221 ((q226 : Nat) : Int) 1 b)) :: (RowE (α := Cel) own 47 v315 (doL (d.types.getD q61 default) c2221 ((q226 : Nat) : Int) 1 a)) :: (RowE (α := Cel) own 47 v220 c2221) :: (Blk b95 ((d.types.getD q61 default).cells (cellV W (sb dd0) (so dd0 + q61 * 1 + 0))).toArray 31) :: (Blk b2 (d.cells dd0 dd1).toArray 25) :: Rs) wq]) (AF [fun vals => vals 0 = (.agg ((d.types.getD q61 default).cells (cellV W (sb dd0) (so dd0 + q61 * 1 + 0))).toArray : Value), fun vals => vals 1 = (v315 : Value), fun vals => vals 2 = (.int .i64 ((q226 : Nat) : Int) : Value), fun vals => vals 3 = (.int .i64 (b) : Value), fun _ => True, fun vals => vals 5 = (.agg ((d.types.getD q61 default).cells (cellV W (sb dd0) (so dd0 + q61 * 1 + 0))).toArray : Value), fun vals => vals 6 = (v327 : Value), fun vals => vals 7 = (.int .i64 ((q226 : Nat) : Int) : Value), fun vals => vals 8 = (.int .i64 (a) : Value), fun _ => True, fun _ => True, fun vals => vals 11 = (.bool (!(decide ((doL (d.types.getD q61 default) (doL (d.types.getD q61 default) c2221 ((q226 : Nat) : Int) 1 a) ((q226 : Nat) : Int) 1 b) = (doL (d.types.getD q61 default) (doL (d.types.getD q61 default) c2221 ((q226 : Nat) : Int) 1 b) ((q226 : Nat) : Int) 1 a)))) : Value)]) [[], [], [], [], [0, 1, 2, 3], [], [], [], [], [0, 1, 2, 3, 4, 5, 6, 7, 8], [0, 1, 2, 3, 4, 5, 6, 7, 8, 9], [0, 1, 2, 3, 4, 5, 6, 7, 8, 9, 10]] [4, 9, 10] [(0, 0), (0, 0), (0, 0), (0, 0), (0, 0), (0, 1), (0, 1), (0, 1), (0, 1), (1, 1), (2, 2), (3, 3)] (by kernel_rfl) (by kernel_rfl) (by kernel_rfl) rfl (by kernel_rfl) (by kernel_rfl) (fun _ h1 h2 h3 h4 _ => hS362.same h1 h2 h3 h4) ?_ ?_ ⟨?_, ?_, ?_, ?_, ?_, ?_, ?_, ?_, ?_, ?_, ?_, ?_, trivial⟩ ?_
                · intro k vals vals' w hv h
                  have e : ∀ j ∈ ([4, 9, 10] : List Nat), vals' j = vals j := hv
                  match k, h with
                  | 0, h => exact h
                  | 1, h => exact (by simpa only [WF, List.getElem?_cons_zero, List.getElem?_cons_succ, e 4 (by decide)] using h)
                  | 2, h => exact (by simpa only [WF, List.getElem?_cons_zero, List.getElem?_cons_succ, e 4 (by decide), e 9 (by decide)] using h)
                  | 3, h => exact (by simpa only [WF, List.getElem?_cons_zero, List.getElem?_cons_succ, e 4 (by decide), e 9 (by decide), e 10 (by decide)] using h)
                  | _ + 4, _ => trivial
                · intro i vals vals' hv h
                  match i, hv, h with
                  | 0, hv, h => exact (hv 0 (.inl rfl)).trans h
                  | 1, hv, h => exact (hv 1 (.inl rfl)).trans h
                  | 2, hv, h => exact (hv 2 (.inl rfl)).trans h
                  | 3, hv, h => exact (hv 3 (.inl rfl)).trans h
                  | 4, _, _ => trivial
                  | 5, hv, h => exact (hv 5 (.inl rfl)).trans h
                  | 6, hv, h => exact (hv 6 (.inl rfl)).trans h
                  | 7, hv, h => exact (hv 7 (.inl rfl)).trans h
                  | 8, hv, h => exact (hv 8 (.inl rfl)).trans h
                  | 9, _, _ => trivial
                  | 10, _, _ => trivial
                  | 11, hv, h => exact (hv 11 (.inl rfl)).trans h
                  | _ + 12, _, _ => trivial
                · intro k499 vals w500 h503 h504 hW502 hA501
                  obtain rfl : k499 = 0 := Nat.le_antisymm h504 h503
                  have hS505 : Sep G W ((RowE (α := Cel) own 47 v327 (doL (d.types.getD q61 default) c2221 ((q226 : Nat) : Int) 1 b)) :: (RowE (α := Cel) own 47 v315 (doL (d.types.getD q61 default) c2221 ((q226 : Nat) : Int) 1 a)) :: (RowE (α := Cel) own 47 v220 c2221) :: (Blk b95 ((d.types.getD q61 default).cells (cellV W (sb dd0) (so dd0 + q61 * 1 + 0))).toArray 31) :: (Blk b2 (d.cells dd0 dd1).toArray 25) :: Rs) w500 := hW502
                  refine obl rfl ?_
                  exact ov_loadk (k := 1) Try.isAgg31 Try.sizeOf31 rfl rfl (CellsAt.all (hS505.blk (i := 3) rfl)) (fun vals' hv _ => ⟨rfl, hv⟩)
                · intro k506 vals w507 h510 h511 hW509 hA508
                  refine obl rfl ?_
                  exact ov_move (v := v315) rfl (fun vals' hv _ => ⟨rfl, hv⟩)
                · intro k512 vals w513 h516 h517 hW515 hA514
                  refine obl rfl ?_
                  exact ov_move (v := .int .i64 ((q226 : Nat) : Int)) rfl (fun vals' hv _ => ⟨rfl, hv⟩)
                · intro k518 vals w519 h522 h523 hW521 hA520
                  refine obl rfl ?_
                  exact ov_move (v := .int .i64 (b)) rfl (fun vals' hv _ => ⟨rfl, hv⟩)
                · intro k389 vals w390 h393 h394 hW392 hA391
                  obtain rfl : k389 = 0 := Nat.le_antisymm h394 h393
                  have hS395 : Sep G W ((RowE (α := Cel) own 47 v327 (doL (d.types.getD q61 default) c2221 ((q226 : Nat) : Int) 1 b)) :: (RowE (α := Cel) own 47 v315 (doL (d.types.getD q61 default) c2221 ((q226 : Nat) : Int) 1 a)) :: (RowE (α := Cel) own 47 v220 c2221) :: (Blk b95 ((d.types.getD q61 default).cells (cellV W (sb dd0) (so dd0 + q61 * 1 + 0))).toArray 31) :: (Blk b2 (d.cells dd0 dd1).toArray 25) :: Rs) w390 := hW392
                  have e396 : vals 0 = (.agg ((d.types.getD q61 default).cells (cellV W (sb dd0) (so dd0 + q61 * 1 + 0))).toArray : Value) := hA391 0 (by decide)
                  have e397 : vals 1 = (v315 : Value) := hA391 1 (by decide)
                  have e398 : vals 2 = (.int .i64 ((q226 : Nat) : Int) : Value) := hA391 2 (by decide)
                  have e399 : vals 3 = (.int .i64 (b) : Value) := hA391 3 (by decide)
                  refine obl rfl ?_
                  have hS400 : Sep G W ((RowE (α := Cel) own 47 v315 (doL (d.types.getD q61 default) c2221 ((q226 : Nat) : Int) 1 a)) :: (RowE (α := Cel) own 47 v327 (doL (d.types.getD q61 default) c2221 ((q226 : Nat) : Int) 1 b)) :: (RowE (α := Cel) own 47 v220 c2221) :: (Blk b95 ((d.types.getD q61 default).cells (cellV W (sb dd0) (so dd0 + q61 * 1 + 0))).toArray 31) :: (Blk b2 (d.cells dd0 dd1).toArray 25) :: Rs) w390 := hS395.sel 5 [1, 0, 2, 3, 4] (Nat.le_add_left _ _) rfl rfl
                  obtain ⟨G401, hA403, hB404, hS405, hk406⟩ := hS400.lend
                  have hrd407 := RowE.rd hA403
                  have hrd407s : (doL (d.types.getD q61 default) c2221 ((q226 : Nat) : Int) 1 a).length * 32 ≤ 140737488355328 := hrd407.small
                  refine (ov_call (f := 11) (vals := [.agg ((d.types.getD q61 default).cells (cellV W (sb dd0) (so dd0 + q61 * 1 + 0))).toArray, v315, .int .i64 ((q226 : Nat) : Int), .int .i64 (1), .int .i64 (b)]) (cap := []) (show _ = (.func (.func 11) #[] #[] : Value) from rfl) (mapL ⟨(show _ = (.agg ((d.types.getD q61 default).cells (cellV W (sb dd0) (so dd0 + q61 * 1 + 0))).toArray : Value) from e396), (show _ = (v315 : Value) from e397), (show _ = (.int .i64 ((q226 : Nat) : Int) : Value) from e398), rfl, (show _ = (.int .i64 (b) : Value) from e399), trivial⟩) Try.call11 (D_Do (t := (d.types.getD q61 default)) (c := (doL (d.types.getD q61 default) c2221 ((q226 : Nat) : Int) 1 a)) (vc := v315) (f := ((q226 : Nat) : Int)) (op := 1) (arg := b) (RdS.base hde216_0 hB404) hoke216 hrd407 (by omega) (by decide) (by omega) hS405 ((⟨by omega, by omega, by first | omega | (rw [doL_len]; omega), fun h => by omega, fun h => by omega⟩)) ((fun h => by omega))) ?_)
                  rintro v408 w409 ⟨_, rfl, hS410⟩
                  have hr411 := hS410.row (i := 0) rfl
                  have hr411s : (doL (d.types.getD q61 default) (doL (d.types.getD q61 default) c2221 ((q226 : Nat) : Int) 1 a) ((q226 : Nat) : Int) 1 b).length * 32 ≤ 140737488355328 := hr411.2
                  have hS412 : Sep G W ((RowE (α := Cel) own 47 v315 (doL (d.types.getD q61 default) c2221 ((q226 : Nat) : Int) 1 a)) :: (RowE (α := Cel) own 47 v408 (doL (d.types.getD q61 default) (doL (d.types.getD q61 default) c2221 ((q226 : Nat) : Int) 1 a) ((q226 : Nat) : Int) 1 b)) :: (RowE (α := Cel) own 47 v327 (doL (d.types.getD q61 default) c2221 ((q226 : Nat) : Int) 1 b)) :: (RowE (α := Cel) own 47 v220 c2221) :: (Blk b95 ((d.types.getD q61 default).cells (cellV W (sb dd0) (so dd0 + q61 * 1 + 0))).toArray 31) :: (Blk b2 (d.cells dd0 dd1).toArray 25) :: Rs) w409 := hk406 _ _ hS410
                  intro vals' hv hv'
                  refine ⟨?_, trivial⟩
                  show ∃ (v408 : Value), (vals' 4 = (v408 : Value)) ∧ Sep G W ((RowE (α := Cel) own 47 v315 (doL (d.types.getD q61 default) c2221 ((q226 : Nat) : Int) 1 a)) :: (RowE (α := Cel) own 47 v408 (doL (d.types.getD q61 default) (doL (d.types.getD q61 default) c2221 ((q226 : Nat) : Int) 1 a) ((q226 : Nat) : Int) 1 b)) :: (RowE (α := Cel) own 47 v327 (doL (d.types.getD q61 default) c2221 ((q226 : Nat) : Int) 1 b)) :: (RowE (α := Cel) own 47 v220 c2221) :: (Blk b95 ((d.types.getD q61 default).cells (cellV W (sb dd0) (so dd0 + q61 * 1 + 0))).toArray 31) :: (Blk b2 (d.cells dd0 dd1).toArray 25) :: Rs) w409
                  exact ⟨v408, hv, hS412⟩
                · intro k524 vals w525 h528 h529 hW527 hA526
                  have hkk : k524 = 0 ∨ k524 = 1 := by have h1 : 0 ≤ k524 := h528; have h2 : k524 ≤ 1 := h529; omega
                  rcases hkk with rfl | rfl
                  · skip
                    have hS530 : Sep G W ((RowE (α := Cel) own 47 v327 (doL (d.types.getD q61 default) c2221 ((q226 : Nat) : Int) 1 b)) :: (RowE (α := Cel) own 47 v315 (doL (d.types.getD q61 default) c2221 ((q226 : Nat) : Int) 1 a)) :: (RowE (α := Cel) own 47 v220 c2221) :: (Blk b95 ((d.types.getD q61 default).cells (cellV W (sb dd0) (so dd0 + q61 * 1 + 0))).toArray 31) :: (Blk b2 (d.cells dd0 dd1).toArray 25) :: Rs) w525 := hW527
                    refine obl rfl ?_
                    exact ov_loadk (k := 1) Try.isAgg31 Try.sizeOf31 rfl rfl (CellsAt.all (hS530.blk (i := 3) rfl)) (fun vals' hv _ => ⟨rfl, hv⟩)
                  · skip
                    obtain ⟨v408, he413, hS531⟩ : ∃ (v408 : Value), (vals 4 = (v408 : Value)) ∧ Sep G W ((RowE (α := Cel) own 47 v315 (doL (d.types.getD q61 default) c2221 ((q226 : Nat) : Int) 1 a)) :: (RowE (α := Cel) own 47 v408 (doL (d.types.getD q61 default) (doL (d.types.getD q61 default) c2221 ((q226 : Nat) : Int) 1 a) ((q226 : Nat) : Int) 1 b)) :: (RowE (α := Cel) own 47 v327 (doL (d.types.getD q61 default) c2221 ((q226 : Nat) : Int) 1 b)) :: (RowE (α := Cel) own 47 v220 c2221) :: (Blk b95 ((d.types.getD q61 default).cells (cellV W (sb dd0) (so dd0 + q61 * 1 + 0))).toArray 31) :: (Blk b2 (d.cells dd0 dd1).toArray 25) :: Rs) w525 := hW527
                    refine obl rfl ?_
                    exact ov_loadk (k := 1) Try.isAgg31 Try.sizeOf31 rfl rfl (CellsAt.all (hS531.blk (i := 4) rfl)) (fun vals' hv _ => ⟨rfl, hv⟩)
                · intro k532 vals w533 h536 h537 hW535 hA534
                  refine obl rfl ?_
                  exact ov_move (v := v327) rfl (fun vals' hv _ => ⟨rfl, hv⟩)
                · intro k538 vals w539 h542 h543 hW541 hA540
                  refine obl rfl ?_
                  exact ov_move (v := .int .i64 ((q226 : Nat) : Int)) rfl (fun vals' hv _ => ⟨rfl, hv⟩)
                · intro k544 vals w545 h548 h549 hW547 hA546
                  refine obl rfl ?_
                  exact ov_move (v := .int .i64 (a)) rfl (fun vals' hv _ => ⟨rfl, hv⟩)
                · intro k439 vals w440 h443 h444 hW442 hA441
                  obtain rfl : k439 = 1 := Nat.le_antisymm h444 h443
                  obtain ⟨v408, he413, hS445⟩ : ∃ (v408 : Value), (vals 4 = (v408 : Value)) ∧ Sep G W ((RowE (α := Cel) own 47 v315 (doL (d.types.getD q61 default) c2221 ((q226 : Nat) : Int) 1 a)) :: (RowE (α := Cel) own 47 v408 (doL (d.types.getD q61 default) (doL (d.types.getD q61 default) c2221 ((q226 : Nat) : Int) 1 a) ((q226 : Nat) : Int) 1 b)) :: (RowE (α := Cel) own 47 v327 (doL (d.types.getD q61 default) c2221 ((q226 : Nat) : Int) 1 b)) :: (RowE (α := Cel) own 47 v220 c2221) :: (Blk b95 ((d.types.getD q61 default).cells (cellV W (sb dd0) (so dd0 + q61 * 1 + 0))).toArray 31) :: (Blk b2 (d.cells dd0 dd1).toArray 25) :: Rs) w440 := hW442
                  have e446 : vals 5 = (.agg ((d.types.getD q61 default).cells (cellV W (sb dd0) (so dd0 + q61 * 1 + 0))).toArray : Value) := hA441 5 (by decide)
                  have e447 : vals 6 = (v327 : Value) := hA441 6 (by decide)
                  have e448 : vals 7 = (.int .i64 ((q226 : Nat) : Int) : Value) := hA441 7 (by decide)
                  have e449 : vals 8 = (.int .i64 (a) : Value) := hA441 8 (by decide)
                  refine obl rfl ?_
                  have hS450 : Sep G W ((RowE (α := Cel) own 47 v327 (doL (d.types.getD q61 default) c2221 ((q226 : Nat) : Int) 1 b)) :: (RowE (α := Cel) own 47 v315 (doL (d.types.getD q61 default) c2221 ((q226 : Nat) : Int) 1 a)) :: (RowE (α := Cel) own 47 v408 (doL (d.types.getD q61 default) (doL (d.types.getD q61 default) c2221 ((q226 : Nat) : Int) 1 a) ((q226 : Nat) : Int) 1 b)) :: (RowE (α := Cel) own 47 v220 c2221) :: (Blk b95 ((d.types.getD q61 default).cells (cellV W (sb dd0) (so dd0 + q61 * 1 + 0))).toArray 31) :: (Blk b2 (d.cells dd0 dd1).toArray 25) :: Rs) w440 := hS445.sel 6 [2, 0, 1, 3, 4, 5] (Nat.le_add_left _ _) rfl rfl
                  obtain ⟨G451, hA453, hB454, hS455, hk456⟩ := hS450.lend
                  have hrd457 := RowE.rd hA453
                  have hrd457s : (doL (d.types.getD q61 default) c2221 ((q226 : Nat) : Int) 1 b).length * 32 ≤ 140737488355328 := hrd457.small
                  refine (ov_call (f := 11) (vals := [.agg ((d.types.getD q61 default).cells (cellV W (sb dd0) (so dd0 + q61 * 1 + 0))).toArray, v327, .int .i64 ((q226 : Nat) : Int), .int .i64 (1), .int .i64 (a)]) (cap := []) (show _ = (.func (.func 11) #[] #[] : Value) from rfl) (mapL ⟨(show _ = (.agg ((d.types.getD q61 default).cells (cellV W (sb dd0) (so dd0 + q61 * 1 + 0))).toArray : Value) from e446), (show _ = (v327 : Value) from e447), (show _ = (.int .i64 ((q226 : Nat) : Int) : Value) from e448), rfl, (show _ = (.int .i64 (a) : Value) from e449), trivial⟩) Try.call11 (D_Do (t := (d.types.getD q61 default)) (c := (doL (d.types.getD q61 default) c2221 ((q226 : Nat) : Int) 1 b)) (vc := v327) (f := ((q226 : Nat) : Int)) (op := 1) (arg := a) (RdS.base hde216_0 hB454) hoke216 hrd457 (by omega) (by decide) (by omega) hS455 ((⟨by omega, by omega, by first | omega | (rw [doL_len]; omega), fun h => by omega, fun h => by omega⟩)) ((fun h => by omega))) ?_)
                  rintro v458 w459 ⟨_, rfl, hS460⟩
                  have hr461 := hS460.row (i := 0) rfl
                  have hr461s : (doL (d.types.getD q61 default) (doL (d.types.getD q61 default) c2221 ((q226 : Nat) : Int) 1 b) ((q226 : Nat) : Int) 1 a).length * 32 ≤ 140737488355328 := hr461.2
                  have hS462 : Sep G W ((RowE (α := Cel) own 47 v327 (doL (d.types.getD q61 default) c2221 ((q226 : Nat) : Int) 1 b)) :: (RowE (α := Cel) own 47 v458 (doL (d.types.getD q61 default) (doL (d.types.getD q61 default) c2221 ((q226 : Nat) : Int) 1 b) ((q226 : Nat) : Int) 1 a)) :: (RowE (α := Cel) own 47 v315 (doL (d.types.getD q61 default) c2221 ((q226 : Nat) : Int) 1 a)) :: (RowE (α := Cel) own 47 v408 (doL (d.types.getD q61 default) (doL (d.types.getD q61 default) c2221 ((q226 : Nat) : Int) 1 a) ((q226 : Nat) : Int) 1 b)) :: (RowE (α := Cel) own 47 v220 c2221) :: (Blk b95 ((d.types.getD q61 default).cells (cellV W (sb dd0) (so dd0 + q61 * 1 + 0))).toArray 31) :: (Blk b2 (d.cells dd0 dd1).toArray 25) :: Rs) w459 := hk456 _ _ hS460
                  intro vals' hv hv'
                  refine ⟨?_, trivial⟩
                  show ∃ (v408 : Value) (v458 : Value), (vals' 4 = (v408 : Value)) ∧ (vals' 9 = (v458 : Value)) ∧ Sep G W ((RowE (α := Cel) own 47 v327 (doL (d.types.getD q61 default) c2221 ((q226 : Nat) : Int) 1 b)) :: (RowE (α := Cel) own 47 v458 (doL (d.types.getD q61 default) (doL (d.types.getD q61 default) c2221 ((q226 : Nat) : Int) 1 b) ((q226 : Nat) : Int) 1 a)) :: (RowE (α := Cel) own 47 v315 (doL (d.types.getD q61 default) c2221 ((q226 : Nat) : Int) 1 a)) :: (RowE (α := Cel) own 47 v408 (doL (d.types.getD q61 default) (doL (d.types.getD q61 default) c2221 ((q226 : Nat) : Int) 1 a) ((q226 : Nat) : Int) 1 b)) :: (RowE (α := Cel) own 47 v220 c2221) :: (Blk b95 ((d.types.getD q61 default).cells (cellV W (sb dd0) (so dd0 + q61 * 1 + 0))).toArray 31) :: (Blk b2 (d.cells dd0 dd1).toArray 25) :: Rs) w459
                  exact ⟨v408, v458, (by rw [hv' 4 (by decide)]; exact he413), hv, hS462⟩
                · intro k464 vals w465 h468 h469 hW467 hA466
                  obtain rfl : k464 = 2 := Nat.le_antisymm h469 h468
                  obtain ⟨v408, v458, he413, he463, hS470⟩ : ∃ (v408 : Value) (v458 : Value), (vals 4 = (v408 : Value)) ∧ (vals 9 = (v458 : Value)) ∧ Sep G W ((RowE (α := Cel) own 47 v327 (doL (d.types.getD q61 default) c2221 ((q226 : Nat) : Int) 1 b)) :: (RowE (α := Cel) own 47 v458 (doL (d.types.getD q61 default) (doL (d.types.getD q61 default) c2221 ((q226 : Nat) : Int) 1 b) ((q226 : Nat) : Int) 1 a)) :: (RowE (α := Cel) own 47 v315 (doL (d.types.getD q61 default) c2221 ((q226 : Nat) : Int) 1 a)) :: (RowE (α := Cel) own 47 v408 (doL (d.types.getD q61 default) (doL (d.types.getD q61 default) c2221 ((q226 : Nat) : Int) 1 a) ((q226 : Nat) : Int) 1 b)) :: (RowE (α := Cel) own 47 v220 c2221) :: (Blk b95 ((d.types.getD q61 default).cells (cellV W (sb dd0) (so dd0 + q61 * 1 + 0))).toArray 31) :: (Blk b2 (d.cells dd0 dd1).toArray 25) :: Rs) w465 := hW467
                  refine obl rfl ?_
                  have hS471 : Sep G W ((RowE (α := Cel) own 47 v408 (doL (d.types.getD q61 default) (doL (d.types.getD q61 default) c2221 ((q226 : Nat) : Int) 1 a) ((q226 : Nat) : Int) 1 b)) :: (RowE (α := Cel) own 47 v327 (doL (d.types.getD q61 default) c2221 ((q226 : Nat) : Int) 1 b)) :: (RowE (α := Cel) own 47 v458 (doL (d.types.getD q61 default) (doL (d.types.getD q61 default) c2221 ((q226 : Nat) : Int) 1 b) ((q226 : Nat) : Int) 1 a)) :: (RowE (α := Cel) own 47 v315 (doL (d.types.getD q61 default) c2221 ((q226 : Nat) : Int) 1 a)) :: (RowE (α := Cel) own 47 v220 c2221) :: (Blk b95 ((d.types.getD q61 default).cells (cellV W (sb dd0) (so dd0 + q61 * 1 + 0))).toArray 31) :: (Blk b2 (d.cells dd0 dd1).toArray 25) :: Rs) w465 := hS470.sel 7 [3, 0, 1, 2, 4, 5, 6] (Nat.le_add_left _ _) rfl rfl
                  obtain ⟨G472, hA474, hB475, hS476, hk477⟩ := hS471.lend
                  have hrd478 := RowE.rd hA474
                  have hrd478s : (doL (d.types.getD q61 default) (doL (d.types.getD q61 default) c2221 ((q226 : Nat) : Int) 1 a) ((q226 : Nat) : Int) 1 b).length * 32 ≤ 140737488355328 := hrd478.small
                  have hS479 : Sep G472 w465 ((RowE (α := Cel) own 47 v458 (doL (d.types.getD q61 default) (doL (d.types.getD q61 default) c2221 ((q226 : Nat) : Int) 1 b) ((q226 : Nat) : Int) 1 a)) :: (RowE (α := Cel) own 47 v327 (doL (d.types.getD q61 default) c2221 ((q226 : Nat) : Int) 1 b)) :: (RowE (α := Cel) own 47 v315 (doL (d.types.getD q61 default) c2221 ((q226 : Nat) : Int) 1 a)) :: (RowE (α := Cel) own 47 v220 c2221) :: (Blk b95 ((d.types.getD q61 default).cells (cellV W (sb dd0) (so dd0 + q61 * 1 + 0))).toArray 31) :: (Blk b2 (d.cells dd0 dd1).toArray 25) :: Rs) w465 := hS476.sel 6 [1, 0, 2, 3, 4, 5] (Nat.le_add_left _ _) rfl rfl
                  obtain ⟨G480, hA482, hB483, hS484, hk485⟩ := hS479.lend
                  have hrd486 := RowE.rd hA482
                  have hrd486s : (doL (d.types.getD q61 default) (doL (d.types.getD q61 default) c2221 ((q226 : Nat) : Int) 1 b) ((q226 : Nat) : Int) 1 a).length * 32 ≤ 140737488355328 := hrd486.small
                  refine (ov_call (f := 12) (vals := [v408, v458]) (cap := []) (show _ = (.func (.func 12) #[] #[] : Value) from rfl) (mapL ⟨(show _ = (v408 : Value) from he413), (show _ = (v458 : Value) from he463), trivial⟩) Try.call12 (D_Same (a := (doL (d.types.getD q61 default) (doL (d.types.getD q61 default) c2221 ((q226 : Nat) : Int) 1 a) ((q226 : Nat) : Int) 1 b)) (va := v408) (b := (doL (d.types.getD q61 default) (doL (d.types.getD q61 default) c2221 ((q226 : Nat) : Int) 1 b) ((q226 : Nat) : Int) 1 a)) (vb := v458) (RdS.base hrd478 hB483) hrd486 hS484) ?_)
                  rintro _ w487 ⟨rfl, hS488⟩
                  have hS489 : Sep G472 w465 ((RowE (α := Cel) own 47 v458 (doL (d.types.getD q61 default) (doL (d.types.getD q61 default) c2221 ((q226 : Nat) : Int) 1 b) ((q226 : Nat) : Int) 1 a)) :: (RowE (α := Cel) own 47 v327 (doL (d.types.getD q61 default) c2221 ((q226 : Nat) : Int) 1 b)) :: (RowE (α := Cel) own 47 v315 (doL (d.types.getD q61 default) c2221 ((q226 : Nat) : Int) 1 a)) :: (RowE (α := Cel) own 47 v220 c2221) :: (Blk b95 ((d.types.getD q61 default).cells (cellV W (sb dd0) (so dd0 + q61 * 1 + 0))).toArray 31) :: (Blk b2 (d.cells dd0 dd1).toArray 25) :: Rs) w487 := hk485 _ _ hS488
                  have hS490 : Sep G W ((RowE (α := Cel) own 47 v408 (doL (d.types.getD q61 default) (doL (d.types.getD q61 default) c2221 ((q226 : Nat) : Int) 1 a) ((q226 : Nat) : Int) 1 b)) :: (RowE (α := Cel) own 47 v458 (doL (d.types.getD q61 default) (doL (d.types.getD q61 default) c2221 ((q226 : Nat) : Int) 1 b) ((q226 : Nat) : Int) 1 a)) :: (RowE (α := Cel) own 47 v327 (doL (d.types.getD q61 default) c2221 ((q226 : Nat) : Int) 1 b)) :: (RowE (α := Cel) own 47 v315 (doL (d.types.getD q61 default) c2221 ((q226 : Nat) : Int) 1 a)) :: (RowE (α := Cel) own 47 v220 c2221) :: (Blk b95 ((d.types.getD q61 default).cells (cellV W (sb dd0) (so dd0 + q61 * 1 + 0))).toArray 31) :: (Blk b2 (d.cells dd0 dd1).toArray 25) :: Rs) w487 := hk477 _ _ hS489
                  intro vals' hv hv'
                  refine ⟨?_, trivial⟩
                  show ∃ (v408 : Value) (v458 : Value), (vals' 4 = (v408 : Value)) ∧ (vals' 9 = (v458 : Value)) ∧ (vals' 10 = (.bool (decide ((doL (d.types.getD q61 default) (doL (d.types.getD q61 default) c2221 ((q226 : Nat) : Int) 1 a) ((q226 : Nat) : Int) 1 b) = (doL (d.types.getD q61 default) (doL (d.types.getD q61 default) c2221 ((q226 : Nat) : Int) 1 b) ((q226 : Nat) : Int) 1 a))) : Value)) ∧ Sep G W ((RowE (α := Cel) own 47 v408 (doL (d.types.getD q61 default) (doL (d.types.getD q61 default) c2221 ((q226 : Nat) : Int) 1 a) ((q226 : Nat) : Int) 1 b)) :: (RowE (α := Cel) own 47 v458 (doL (d.types.getD q61 default) (doL (d.types.getD q61 default) c2221 ((q226 : Nat) : Int) 1 b) ((q226 : Nat) : Int) 1 a)) :: (RowE (α := Cel) own 47 v327 (doL (d.types.getD q61 default) c2221 ((q226 : Nat) : Int) 1 b)) :: (RowE (α := Cel) own 47 v315 (doL (d.types.getD q61 default) c2221 ((q226 : Nat) : Int) 1 a)) :: (RowE (α := Cel) own 47 v220 c2221) :: (Blk b95 ((d.types.getD q61 default).cells (cellV W (sb dd0) (so dd0 + q61 * 1 + 0))).toArray 31) :: (Blk b2 (d.cells dd0 dd1).toArray 25) :: Rs) w487
                  exact ⟨v408, v458, (by rw [hv' 4 (by decide)]; exact he413), (by rw [hv' 9 (by decide)]; exact he463), hv, hS490⟩
                · intro k550 vals w551 h554 h555 hW553 hA552
                  obtain rfl : k550 = 3 := Nat.le_antisymm h555 h554
                  obtain ⟨v408, v458, he413, he463, he491, hS556⟩ : ∃ (v408 : Value) (v458 : Value), (vals 4 = (v408 : Value)) ∧ (vals 9 = (v458 : Value)) ∧ (vals 10 = (.bool (decide ((doL (d.types.getD q61 default) (doL (d.types.getD q61 default) c2221 ((q226 : Nat) : Int) 1 a) ((q226 : Nat) : Int) 1 b) = (doL (d.types.getD q61 default) (doL (d.types.getD q61 default) c2221 ((q226 : Nat) : Int) 1 b) ((q226 : Nat) : Int) 1 a))) : Value)) ∧ Sep G W ((RowE (α := Cel) own 47 v408 (doL (d.types.getD q61 default) (doL (d.types.getD q61 default) c2221 ((q226 : Nat) : Int) 1 a) ((q226 : Nat) : Int) 1 b)) :: (RowE (α := Cel) own 47 v458 (doL (d.types.getD q61 default) (doL (d.types.getD q61 default) c2221 ((q226 : Nat) : Int) 1 b) ((q226 : Nat) : Int) 1 a)) :: (RowE (α := Cel) own 47 v327 (doL (d.types.getD q61 default) c2221 ((q226 : Nat) : Int) 1 b)) :: (RowE (α := Cel) own 47 v315 (doL (d.types.getD q61 default) c2221 ((q226 : Nat) : Int) 1 a)) :: (RowE (α := Cel) own 47 v220 c2221) :: (Blk b95 ((d.types.getD q61 default).cells (cellV W (sb dd0) (so dd0 + q61 * 1 + 0))).toArray 31) :: (Blk b2 (d.cells dd0 dd1).toArray 25) :: Rs) w551 := hW553
                  refine obl rfl ?_
                  exact ov_not (a := decide ((doL (d.types.getD q61 default) (doL (d.types.getD q61 default) c2221 ((q226 : Nat) : Int) 1 a) ((q226 : Nat) : Int) 1 b) = (doL (d.types.getD q61 default) (doL (d.types.getD q61 default) c2221 ((q226 : Nat) : Int) 1 b) ((q226 : Nat) : Int) 1 a))) (show _ = (.bool (decide ((doL (d.types.getD q61 default) (doL (d.types.getD q61 default) c2221 ((q226 : Nat) : Int) 1 a) ((q226 : Nat) : Int) 1 b) = (doL (d.types.getD q61 default) (doL (d.types.getD q61 default) c2221 ((q226 : Nat) : Int) 1 b) ((q226 : Nat) : Int) 1 a))) : Value) from he491) (fun vals' hv _ => ⟨rfl, hv⟩)
                intro vals w557 hW558 hA559
                obtain ⟨v408, v458, he413, he463, he491, hS560⟩ : ∃ (v408 : Value) (v458 : Value), (vals 4 = (v408 : Value)) ∧ (vals 9 = (v458 : Value)) ∧ (vals 10 = (.bool (decide ((doL (d.types.getD q61 default) (doL (d.types.getD q61 default) c2221 ((q226 : Nat) : Int) 1 a) ((q226 : Nat) : Int) 1 b) = (doL (d.types.getD q61 default) (doL (d.types.getD q61 default) c2221 ((q226 : Nat) : Int) 1 b) ((q226 : Nat) : Int) 1 a))) : Value)) ∧ Sep G W ((RowE (α := Cel) own 47 v408 (doL (d.types.getD q61 default) (doL (d.types.getD q61 default) c2221 ((q226 : Nat) : Int) 1 a) ((q226 : Nat) : Int) 1 b)) :: (RowE (α := Cel) own 47 v458 (doL (d.types.getD q61 default) (doL (d.types.getD q61 default) c2221 ((q226 : Nat) : Int) 1 b) ((q226 : Nat) : Int) 1 a)) :: (RowE (α := Cel) own 47 v327 (doL (d.types.getD q61 default) c2221 ((q226 : Nat) : Int) 1 b)) :: (RowE (α := Cel) own 47 v315 (doL (d.types.getD q61 default) c2221 ((q226 : Nat) : Int) 1 a)) :: (RowE (α := Cel) own 47 v220 c2221) :: (Blk b95 ((d.types.getD q61 default).cells (cellV W (sb dd0) (so dd0 + q61 * 1 + 0))).toArray 31) :: (Blk b2 (d.cells dd0 dd1).toArray 25) :: Rs) w557 := hW558
                have e561 : vals 11 = (.bool (!(decide ((doL (d.types.getD q61 default) (doL (d.types.getD q61 default) c2221 ((q226 : Nat) : Int) 1 a) ((q226 : Nat) : Int) 1 b) = (doL (d.types.getD q61 default) (doL (d.types.getD q61 default) c2221 ((q226 : Nat) : Int) 1 b) ((q226 : Nat) : Int) 1 a)))) : Value) := hA559 11 (by decide)
                refine st_env (kv := [(0, .agg (d.cells dd0 dd1).toArray), (1, .int .i64 (ty)), (2, vl), (3, .int .i64 ((q226 : Nat) : Int)), (4, .int .i64 (a)), (5, .int .i64 (b)), (6, .pointer (some ⟨b2, 0, none⟩)), (12, .bool false), (17, .agg (d.cells dd0 dd1).toArray), (18, vl), (19, .bool b5), (20, .bool false), (13, .pointer (some ⟨b95, 0, none⟩)), (31, .agg ((d.types.getD q61 default).cells (cellV W (sb dd0) (so dd0 + q61 * 1 + 0))).toArray), (32, vl), (33, v220), (14, v220), (34, .int .i64 (fi)), (35, .pointer (some ⟨b95, 0, none⟩)), (36, (cellV W (sb dd0) (so dd0 + q61 * 1 + 0))), (37, .int .i64 ((((d.types.getD q61 default).fields).length : Nat) : Int)), (38, .int .i64 ((q226 : Nat) : Int)), (39, .pointer (some ⟨b95, 0, none⟩)), (40, (cellV W (sb dd0) (so dd0 + q61 * 1 + 0))), (41, .int .i64 ((q226 : Nat) : Int)), (42, .pointer (some ⟨sb (cellV W (sb dd0) (so dd0 + q61 * 1 + 0)), so (cellV W (sb dd0) (so dd0 + q61 * 1 + 0)) + q226 * 4, none⟩)), (43, .pointer (some ⟨sb (cellV W (sb dd0) (so dd0 + q61 * 1 + 0)), so (cellV W (sb dd0) (so dd0 + q61 * 1 + 0)) + q226 * 4, none⟩)), (44, .int .i64 ((((d.types.getD q61 default).fields).getD q226 default).kind)), (46, .bool true), (45, .bool true), (47, .int .i64 (a)), (48, .bool (decide (a = 0))), (49, .bool (decide (a = 0))), (52, .bool false), (53, .bool false), (58, .int .i64 (mayL (d.types.getD q61 default) c2221 ((q226 : Nat) : Int) 1 a)), (59, .bool false), (60, .bool false), (61, .bool false), (66, .int .i64 (mayL (d.types.getD q61 default) c2221 ((q226 : Nat) : Int) 1 b)), (67, .bool false), (68, .bool false), (70, .agg ((d.types.getD q61 default).cells (cellV W (sb dd0) (so dd0 + q61 * 1 + 0))).toArray), (71, v220), (72, .int .i64 ((q226 : Nat) : Int)), (73, .int .i64 (a)), (74, v315), (15, v315), (75, .agg ((d.types.getD q61 default).cells (cellV W (sb dd0) (so dd0 + q61 * 1 + 0))).toArray), (76, v220), (77, .int .i64 ((q226 : Nat) : Int)), (78, .int .i64 (b)), (79, v327), (16, v327), (80, .agg ((d.types.getD q61 default).cells (cellV W (sb dd0) (so dd0 + q61 * 1 + 0))).toArray), (81, v315), (82, .int .i64 ((q226 : Nat) : Int)), (83, .int .i64 (b)), (84, .int .i64 (mayL (d.types.getD q61 default) (doL (d.types.getD q61 default) c2221 ((q226 : Nat) : Int) 1 a) ((q226 : Nat) : Int) 1 b)), (85, .bool false), (86, .bool false), (91, .int .i64 (mayL (d.types.getD q61 default) (doL (d.types.getD q61 default) c2221 ((q226 : Nat) : Int) 1 b) ((q226 : Nat) : Int) 1 a)), (92, .bool false), (93, .bool false), (106, .bool (!(decide ((doL (d.types.getD q61 default) (doL (d.types.getD q61 default) c2221 ((q226 : Nat) : Int) 1 a) ((q226 : Nat) : Int) 1 b) = (doL (d.types.getD q61 default) (doL (d.types.getD q61 default) c2221 ((q226 : Nat) : Int) 1 b) ((q226 : Nat) : Int) 1 a)))))]) ⟨rfl, rfl, rfl, rfl, rfl, rfl, rfl, rfl, rfl, rfl, rfl, rfl, rfl, rfl, rfl, rfl, rfl, rfl, rfl, rfl, rfl, rfl, rfl, rfl, rfl, rfl, rfl, rfl, rfl, rfl, rfl, rfl, rfl, rfl, rfl, rfl, rfl, rfl, rfl, rfl, rfl, rfl, rfl, rfl, rfl, rfl, rfl, rfl, rfl, rfl, rfl, rfl, rfl, rfl, rfl, rfl, rfl, rfl, rfl, rfl, rfl, rfl, rfl, rfl, (by exact e561), trivial⟩ (fun ρw557 => ?_)
                refine st_nil ?_
                cases hc562 : !(decide ((doL (d.types.getD q61 default) (doL (d.types.getD q61 default) c2221 ((q226 : Nat) : Int) 1 a) ((q226 : Nat) : Int) 1 b) = (doL (d.types.getD q61 default) (doL (d.types.getD q61 default) c2221 ((q226 : Nat) : Int) 1 b) ((q226 : Nat) : Int) 1 a)))
                · skip
                  have hc562 := ndec_false hc562
                  refine WP_cond_f rfl ?_
                  refine WP_skip ?_
                  refine WP_seq ?_
                  refine WP_region (by kernel_rfl) ?_
                  refine st (ov_move (v := .int .i64 (a)) rfl ?_)
                  refine st (ov_eql (k := .i64) (a := a) (b := -9223372036854775808) rfl rfl ?_)
                  refine st (ov_move (v := .bool (decide (a = (-9223372036854775808)))) rfl ?_)
                  cases hg563 : decide (a = (-9223372036854775808))
                  · skip
                    have hg563r := hg563
                    have hg563 := of_decide_eq_false hg563
                    refine sty rfl rfl (ov_loadk (k := 1) Try.isAgg31 Try.sizeOf31 rfl rfl (CellsAt.all (hS560.blk (i := 5) rfl)) ?_)
                    refine sty rfl rfl (ov_move (v := v315) rfl ?_)
                    refine sty rfl rfl (ov_move (v := .int .i64 ((q226 : Nat) : Int)) rfl ?_)
                    refine sty rfl rfl (ov_move (v := .int .i64 (a)) rfl ?_)
                    have hr564 : InR (-a) := by omega
                    refine sty rfl rfl (ov_neg (r := -a) (a := a) rfl (by rw [Int.zero_sub]; exact wrap_in hr564) ?_)
                    have hS565 : Sep G W ((RowE (α := Cel) own 47 v315 (doL (d.types.getD q61 default) c2221 ((q226 : Nat) : Int) 1 a)) :: (RowE (α := Cel) own 47 v408 (doL (d.types.getD q61 default) (doL (d.types.getD q61 default) c2221 ((q226 : Nat) : Int) 1 a) ((q226 : Nat) : Int) 1 b)) :: (RowE (α := Cel) own 47 v458 (doL (d.types.getD q61 default) (doL (d.types.getD q61 default) c2221 ((q226 : Nat) : Int) 1 b) ((q226 : Nat) : Int) 1 a)) :: (RowE (α := Cel) own 47 v327 (doL (d.types.getD q61 default) c2221 ((q226 : Nat) : Int) 1 b)) :: (RowE (α := Cel) own 47 v220 c2221) :: (Blk b95 ((d.types.getD q61 default).cells (cellV W (sb dd0) (so dd0 + q61 * 1 + 0))).toArray 31) :: (Blk b2 (d.cells dd0 dd1).toArray 25) :: Rs) w557 := hS560.sel 7 [3, 0, 1, 2, 4, 5, 6] (Nat.le_add_left _ _) rfl rfl
                    obtain ⟨G566, hA568, hB569, hS570, hk571⟩ := hS565.lend
                    have hrd572 := RowE.rd hA568
                    have hrd572s : (doL (d.types.getD q61 default) c2221 ((q226 : Nat) : Int) 1 a).length * 32 ≤ 140737488355328 := hrd572.small
                    refine sty rfl rfl (ov_call (f := 10) (vals := [.agg ((d.types.getD q61 default).cells (cellV W (sb dd0) (so dd0 + q61 * 1 + 0))).toArray, v315, .int .i64 ((q226 : Nat) : Int), .int .i64 (1), .int .i64 (-a)]) (cap := []) (show _ = (.func (.func 10) #[] #[] : Value) from rfl) rfl Try.call10 (D_May (t := (d.types.getD q61 default)) (c := (doL (d.types.getD q61 default) c2221 ((q226 : Nat) : Int) 1 a)) (vc := v315) (f := ((q226 : Nat) : Int)) (op := 1) (arg := -a) (RdS.base hde216_0 hB569) hoke216 hrd572 (by omega) (by decide) hr564 hS570 ((⟨by omega, by omega, by first | omega | (rw [doL_len]; omega), fun h => by omega, fun h => by omega⟩))) ?_)
                    rintro _ w573 ⟨rfl, hS574⟩
                    have hS575 : Sep G W ((RowE (α := Cel) own 47 v315 (doL (d.types.getD q61 default) c2221 ((q226 : Nat) : Int) 1 a)) :: (RowE (α := Cel) own 47 v408 (doL (d.types.getD q61 default) (doL (d.types.getD q61 default) c2221 ((q226 : Nat) : Int) 1 a) ((q226 : Nat) : Int) 1 b)) :: (RowE (α := Cel) own 47 v458 (doL (d.types.getD q61 default) (doL (d.types.getD q61 default) c2221 ((q226 : Nat) : Int) 1 b) ((q226 : Nat) : Int) 1 a)) :: (RowE (α := Cel) own 47 v327 (doL (d.types.getD q61 default) c2221 ((q226 : Nat) : Int) 1 b)) :: (RowE (α := Cel) own 47 v220 c2221) :: (Blk b95 ((d.types.getD q61 default).cells (cellV W (sb dd0) (so dd0 + q61 * 1 + 0))).toArray 31) :: (Blk b2 (d.cells dd0 dd1).toArray 25) :: Rs) w573 := hk571 _ _ hS574
                    refine sty rfl rfl (ov_eql (k := .i64) (a := mayL (d.types.getD q61 default) (doL (d.types.getD q61 default) c2221 ((q226 : Nat) : Int) 1 a) ((q226 : Nat) : Int) 1 (-a)) (b := 0) rfl rfl ?_)
                    have hkn576 : (decide ((mayL (d.types.getD q61 default) (doL (d.types.getD q61 default) c2221 ((q226 : Nat) : Int) 1 a) ((q226 : Nat) : Int) 1 (-a)) = 0)) = true := decide_eq_true (inc_back (by omega) (by omega) hcn ha (by omega) (by omega) hfl9).1
                    rw [hkn576]
                    refine sty rfl rfl (ov_move (v := .bool true) rfl ?_)
                    refine sty rfl rfl (ov_loadk (k := 1) Try.isAgg31 Try.sizeOf31 rfl rfl (CellsAt.all (hS575.blk (i := 5) rfl)) ?_)
                    refine sty rfl rfl (ov_move (v := v315) rfl ?_)
                    refine sty rfl rfl (ov_move (v := .int .i64 ((q226 : Nat) : Int)) rfl ?_)
                    refine sty rfl rfl (ov_move (v := .int .i64 (a)) rfl ?_)
                    have hr577 : InR (-a) := by omega
                    refine sty rfl rfl (ov_neg (r := -a) (a := a) rfl (by rw [Int.zero_sub]; exact wrap_in hr577) ?_)
                    obtain ⟨G578, hA580, hB581, hS582, hk583⟩ := hS575.lend
                    have hrd584 := RowE.rd hA580
                    have hrd584s : (doL (d.types.getD q61 default) c2221 ((q226 : Nat) : Int) 1 a).length * 32 ≤ 140737488355328 := hrd584.small
                    refine sty rfl rfl (ov_call (f := 11) (vals := [.agg ((d.types.getD q61 default).cells (cellV W (sb dd0) (so dd0 + q61 * 1 + 0))).toArray, v315, .int .i64 ((q226 : Nat) : Int), .int .i64 (1), .int .i64 (-a)]) (cap := []) (show _ = (.func (.func 11) #[] #[] : Value) from rfl) rfl Try.call11 (D_Do (t := (d.types.getD q61 default)) (c := (doL (d.types.getD q61 default) c2221 ((q226 : Nat) : Int) 1 a)) (vc := v315) (f := ((q226 : Nat) : Int)) (op := 1) (arg := -a) (RdS.base hde216_0 hB581) hoke216 hrd584 (by omega) (by decide) hr577 hS582 ((⟨by omega, by omega, by first | omega | (rw [doL_len]; omega), fun h => by omega, fun h => by omega⟩)) ((fun h => by omega))) ?_)
                    rintro v585 w586 ⟨_, rfl, hS587⟩
                    have hr588 := hS587.row (i := 0) rfl
                    have hr588s : (doL (d.types.getD q61 default) (doL (d.types.getD q61 default) c2221 ((q226 : Nat) : Int) 1 a) ((q226 : Nat) : Int) 1 (-a)).length * 32 ≤ 140737488355328 := hr588.2
                    have hS589 : Sep G W ((RowE (α := Cel) own 47 v315 (doL (d.types.getD q61 default) c2221 ((q226 : Nat) : Int) 1 a)) :: (RowE (α := Cel) own 47 v585 (doL (d.types.getD q61 default) (doL (d.types.getD q61 default) c2221 ((q226 : Nat) : Int) 1 a) ((q226 : Nat) : Int) 1 (-a))) :: (RowE (α := Cel) own 47 v408 (doL (d.types.getD q61 default) (doL (d.types.getD q61 default) c2221 ((q226 : Nat) : Int) 1 a) ((q226 : Nat) : Int) 1 b)) :: (RowE (α := Cel) own 47 v458 (doL (d.types.getD q61 default) (doL (d.types.getD q61 default) c2221 ((q226 : Nat) : Int) 1 b) ((q226 : Nat) : Int) 1 a)) :: (RowE (α := Cel) own 47 v327 (doL (d.types.getD q61 default) c2221 ((q226 : Nat) : Int) 1 b)) :: (RowE (α := Cel) own 47 v220 c2221) :: (Blk b95 ((d.types.getD q61 default).cells (cellV W (sb dd0) (so dd0 + q61 * 1 + 0))).toArray 31) :: (Blk b2 (d.cells dd0 dd1).toArray 25) :: Rs) w586 := hk583 _ _ hS587
                    refine sty rfl rfl (ov_move (v := v220) rfl ?_)
                    have hS590 : Sep G W ((RowE (α := Cel) own 47 v585 (doL (d.types.getD q61 default) (doL (d.types.getD q61 default) c2221 ((q226 : Nat) : Int) 1 a) ((q226 : Nat) : Int) 1 (-a))) :: (RowE (α := Cel) own 47 v315 (doL (d.types.getD q61 default) c2221 ((q226 : Nat) : Int) 1 a)) :: (RowE (α := Cel) own 47 v408 (doL (d.types.getD q61 default) (doL (d.types.getD q61 default) c2221 ((q226 : Nat) : Int) 1 a) ((q226 : Nat) : Int) 1 b)) :: (RowE (α := Cel) own 47 v458 (doL (d.types.getD q61 default) (doL (d.types.getD q61 default) c2221 ((q226 : Nat) : Int) 1 b) ((q226 : Nat) : Int) 1 a)) :: (RowE (α := Cel) own 47 v327 (doL (d.types.getD q61 default) c2221 ((q226 : Nat) : Int) 1 b)) :: (RowE (α := Cel) own 47 v220 c2221) :: (Blk b95 ((d.types.getD q61 default).cells (cellV W (sb dd0) (so dd0 + q61 * 1 + 0))).toArray 31) :: (Blk b2 (d.cells dd0 dd1).toArray 25) :: Rs) w586 := hS589.sel 8 [1, 0, 2, 3, 4, 5, 6, 7] (Nat.le_add_left _ _) rfl rfl
                    obtain ⟨G591, hA593, hB594, hS595, hk596⟩ := hS590.lend
                    have hrd597 := RowE.rd hA593
                    have hrd597s : (doL (d.types.getD q61 default) (doL (d.types.getD q61 default) c2221 ((q226 : Nat) : Int) 1 a) ((q226 : Nat) : Int) 1 (-a)).length * 32 ≤ 140737488355328 := hrd597.small
                    have hS598 : Sep G591 w586 ((RowE (α := Cel) own 47 v220 c2221) :: (RowE (α := Cel) own 47 v315 (doL (d.types.getD q61 default) c2221 ((q226 : Nat) : Int) 1 a)) :: (RowE (α := Cel) own 47 v408 (doL (d.types.getD q61 default) (doL (d.types.getD q61 default) c2221 ((q226 : Nat) : Int) 1 a) ((q226 : Nat) : Int) 1 b)) :: (RowE (α := Cel) own 47 v458 (doL (d.types.getD q61 default) (doL (d.types.getD q61 default) c2221 ((q226 : Nat) : Int) 1 b) ((q226 : Nat) : Int) 1 a)) :: (RowE (α := Cel) own 47 v327 (doL (d.types.getD q61 default) c2221 ((q226 : Nat) : Int) 1 b)) :: (Blk b95 ((d.types.getD q61 default).cells (cellV W (sb dd0) (so dd0 + q61 * 1 + 0))).toArray 31) :: (Blk b2 (d.cells dd0 dd1).toArray 25) :: Rs) w586 := hS595.sel 7 [4, 0, 1, 2, 3, 5, 6] (Nat.le_add_left _ _) rfl rfl
                    obtain ⟨G599, hA601, hB602, hS603, hk604⟩ := hS598.lend
                    have hrd605 := RowE.rd hA601
                    have hrd605s : c2221.length * 32 ≤ 140737488355328 := hrd605.small
                    refine sty rfl rfl (ov_call (f := 12) (vals := [v585, v220]) (cap := []) (show _ = (.func (.func 12) #[] #[] : Value) from rfl) rfl Try.call12 (D_Same (a := (doL (d.types.getD q61 default) (doL (d.types.getD q61 default) c2221 ((q226 : Nat) : Int) 1 a) ((q226 : Nat) : Int) 1 (-a))) (va := v585) (b := c2221) (vb := v220) (RdS.base hrd597 hB602) hrd605 hS603) ?_)
                    rintro _ w606 ⟨rfl, hS607⟩
                    have hS608 : Sep G591 w586 ((RowE (α := Cel) own 47 v220 c2221) :: (RowE (α := Cel) own 47 v315 (doL (d.types.getD q61 default) c2221 ((q226 : Nat) : Int) 1 a)) :: (RowE (α := Cel) own 47 v408 (doL (d.types.getD q61 default) (doL (d.types.getD q61 default) c2221 ((q226 : Nat) : Int) 1 a) ((q226 : Nat) : Int) 1 b)) :: (RowE (α := Cel) own 47 v458 (doL (d.types.getD q61 default) (doL (d.types.getD q61 default) c2221 ((q226 : Nat) : Int) 1 b) ((q226 : Nat) : Int) 1 a)) :: (RowE (α := Cel) own 47 v327 (doL (d.types.getD q61 default) c2221 ((q226 : Nat) : Int) 1 b)) :: (Blk b95 ((d.types.getD q61 default).cells (cellV W (sb dd0) (so dd0 + q61 * 1 + 0))).toArray 31) :: (Blk b2 (d.cells dd0 dd1).toArray 25) :: Rs) w606 := hk604 _ _ hS607
                    have hS609 : Sep G W ((RowE (α := Cel) own 47 v585 (doL (d.types.getD q61 default) (doL (d.types.getD q61 default) c2221 ((q226 : Nat) : Int) 1 a) ((q226 : Nat) : Int) 1 (-a))) :: (RowE (α := Cel) own 47 v220 c2221) :: (RowE (α := Cel) own 47 v315 (doL (d.types.getD q61 default) c2221 ((q226 : Nat) : Int) 1 a)) :: (RowE (α := Cel) own 47 v408 (doL (d.types.getD q61 default) (doL (d.types.getD q61 default) c2221 ((q226 : Nat) : Int) 1 a) ((q226 : Nat) : Int) 1 b)) :: (RowE (α := Cel) own 47 v458 (doL (d.types.getD q61 default) (doL (d.types.getD q61 default) c2221 ((q226 : Nat) : Int) 1 b) ((q226 : Nat) : Int) 1 a)) :: (RowE (α := Cel) own 47 v327 (doL (d.types.getD q61 default) c2221 ((q226 : Nat) : Int) 1 b)) :: (Blk b95 ((d.types.getD q61 default).cells (cellV W (sb dd0) (so dd0 + q61 * 1 + 0))).toArray 31) :: (Blk b2 (d.cells dd0 dd1).toArray 25) :: Rs) w606 := hk596 _ _ hS608
                    have hkn610 : (decide ((doL (d.types.getD q61 default) (doL (d.types.getD q61 default) c2221 ((q226 : Nat) : Int) 1 a) ((q226 : Nat) : Int) 1 (-a)) = c2221)) = true := decide_eq_true (inc_back (by omega) (by omega) hcn ha (by omega) (by omega) hfl9).2
                    rw [hkn610]
                    refine sty rfl rfl (ov_pick_t (v := .bool true) rfl rfl ?_)
                    refine st (ov_pick_f (v := .bool true) rfl rfl ?_)
                    refine st (ov_move (v := .bool true) rfl ?_)
                    refine sty rfl rfl (ov_call (f := 7) (vals := []) (cap := []) (show _ = (.func (.func 7) #[] #[] : Value) from rfl) rfl Try.call7 (D_known  hS609) ?_)
                    rintro _ w611 ⟨rfl, hS612⟩
                    refine st (ov_pick_t (v := .bool true) rfl rfl ?_)
                    refine st (ov_assign (v := .bool true) rfl ?_)
                    refine st_nil ?_
                    refine WP_ret ?_
                    refine fin1 Try.results3 (show _ = (.bool true : Value) from rfl) ?_
                    have hS613 : Sep G W Rs w611 := hS612.sel 8 [] (Nat.le_add_left _ _) rfl rfl
                    refine ⟨rfl, hS613⟩
                  · skip
                    have hg563r := hg563
                    have hg563 := of_decide_eq_true hg563
                    refine stx rfl rfl ?_
                    refine stx rfl rfl ?_
                    refine stx rfl rfl ?_
                    refine stx rfl rfl ?_
                    refine stx rfl rfl ?_
                    refine stx rfl rfl ?_
                    refine stx rfl rfl ?_
                    refine stx rfl rfl ?_
                    refine stu rfl rfl ?_
                    refine stu rfl rfl ?_
                    refine stu rfl rfl ?_
                    refine stu rfl rfl ?_
                    refine stu rfl rfl ?_
                    refine stu rfl rfl ?_
                    refine stu rfl rfl ?_
                    refine stu rfl rfl ?_
                    refine stx rfl rfl ?_
                    refine st (ov_pick_t (v := .bool true) rfl rfl ?_)
                    refine st (ov_move (v := .bool true) rfl ?_)
                    refine sty rfl rfl (ov_call (f := 7) (vals := []) (cap := []) (show _ = (.func (.func 7) #[] #[] : Value) from rfl) rfl Try.call7 (D_known  hS560) ?_)
                    rintro _ w614 ⟨rfl, hS615⟩
                    refine st (ov_pick_t (v := .bool true) rfl rfl ?_)
                    refine st (ov_assign (v := .bool true) rfl ?_)
                    refine st_nil ?_
                    refine WP_ret ?_
                    refine fin1 Try.results3 (show _ = (.bool true : Value) from rfl) ?_
                    have hS616 : Sep G W Rs w614 := hS615.sel 7 [] (Nat.le_add_left _ _) rfl rfl
                    refine ⟨rfl, hS616⟩
                · skip
                  have hc562 := ndec_true hc562
                  exact absurd (inc_comm (by omega) (by omega)) hc562
              · skip
                have hc363 := ndec_true hc363
                refine WP_cond_t rfl ?_
                refine WP_seq ?_
                refine WP_region0 (by kernel_rfl) (fun _ => ?_)
                refine st (ov_call (f := 7) (vals := []) (cap := []) (show _ = (.func (.func 7) #[] #[] : Value) from rfl) rfl Try.call7 (D_known  hS362) ?_)
                rintro _ w617 ⟨rfl, hS618⟩
                refine st (ov_assign (v := .bool true) rfl ?_)
                refine st_nil ?_
                refine WP_ret ?_
                refine fin1 Try.results3 (show _ = (.bool true : Value) from rfl) ?_
                have hS619 : Sep G W Rs w617 := hS618.sel 5 [] (Nat.le_add_left _ _) rfl rfl
                refine ⟨rfl, hS619⟩
            · skip
              have hg351r := hg351
              have hg351 := ndec_true hg351
              refine stx rfl rfl ?_
              refine stx rfl rfl ?_
              refine st (ov_pick_t (v := .bool true) rfl rfl ?_)
              refine st_nil ?_
              refine WP_cond_t rfl ?_
              refine WP_seq ?_
              refine WP_region0 (by kernel_rfl) (fun _ => ?_)
              refine st (ov_call (f := 7) (vals := []) (cap := []) (show _ = (.func (.func 7) #[] #[] : Value) from rfl) rfl Try.call7 (D_known  hS342) ?_)
              rintro _ w620 ⟨rfl, hS621⟩
              refine st (ov_assign (v := .bool true) rfl ?_)
              refine st_nil ?_
              refine WP_ret ?_
              refine fin1 Try.results3 (show _ = (.bool true : Value) from rfl) ?_
              have hS622 : Sep G W Rs w620 := hS621.sel 5 [] (Nat.le_add_left _ _) rfl rfl
              refine ⟨rfl, hS622⟩
          · skip
            have hc307 := ndec_true hc307
            refine WP_cond_t rfl ?_
            refine WP_seq ?_
            refine WP_region0 (by kernel_rfl) (fun _ => ?_)
            refine st (ov_call (f := 7) (vals := []) (cap := []) (show _ = (.func (.func 7) #[] #[] : Value) from rfl) rfl Try.call7 (D_known  hS306) ?_)
            rintro _ w623 ⟨rfl, hS624⟩
            refine st (ov_assign (v := .bool true) rfl ?_)
            refine st_nil ?_
            refine WP_ret ?_
            refine fin1 Try.results3 (show _ = (.bool true : Value) from rfl) ?_
            have hS625 : Sep G W Rs w623 := hS624.sel 3 [] (Nat.le_add_left _ _) rfl rfl
            refine ⟨rfl, hS625⟩
        · skip
          have hg296r := hg296
          have hg296 := ndec_true hg296
          refine stx rfl rfl ?_
          refine stx rfl rfl ?_
          refine st (ov_pick_t (v := .bool true) rfl rfl ?_)
          refine st_nil ?_
          refine WP_cond_t rfl ?_
          refine WP_seq ?_
          refine WP_region0 (by kernel_rfl) (fun _ => ?_)
          refine st (ov_call (f := 7) (vals := []) (cap := []) (show _ = (.func (.func 7) #[] #[] : Value) from rfl) rfl Try.call7 (D_known  hS287) ?_)
          rintro _ w626 ⟨rfl, hS627⟩
          refine st (ov_assign (v := .bool true) rfl ?_)
          refine st_nil ?_
          refine WP_ret ?_
          refine fin1 Try.results3 (show _ = (.bool true : Value) from rfl) ?_
          have hS628 : Sep G W Rs w626 := hS627.sel 3 [] (Nat.le_add_left _ _) rfl rfl
          refine ⟨rfl, hS628⟩
      · skip
        have hg277r := hg277
        try simp only [bools] at hg277
        refine stx rfl rfl ?_
        refine stx rfl rfl ?_
        refine st (ov_pick_t (v := .bool true) rfl rfl ?_)
        refine st (ov_move (v := .bool true) rfl ?_)
        refine stx rfl rfl ?_
        refine stx rfl rfl ?_
        refine stx rfl rfl ?_
        refine stx rfl rfl ?_
        refine stx rfl rfl ?_
        refine stx rfl rfl ?_
        refine st (ov_pick_t (v := .bool true) rfl rfl ?_)
        refine st_nil ?_
        refine WP_cond_t rfl ?_
        refine WP_seq ?_
        refine WP_region0 (by kernel_rfl) (fun _ => ?_)
        refine st (ov_call (f := 7) (vals := []) (cap := []) (show _ = (.func (.func 7) #[] #[] : Value) from rfl) rfl Try.call7 (D_known  hS264) ?_)
        rintro _ w629 ⟨rfl, hS630⟩
        refine st (ov_assign (v := .bool true) rfl ?_)
        refine st_nil ?_
        refine WP_ret ?_
        refine fin1 Try.results3 (show _ = (.bool true : Value) from rfl) ?_
        have hS631 : Sep G W Rs w629 := hS630.sel 3 [] (Nat.le_add_left _ _) rfl rfl
        refine ⟨rfl, hS631⟩
  · skip
    try simp only [bools] at hc9
    refine WP_cond_t rfl ?_
    refine WP_seq ?_
    refine WP_region0 (by kernel_rfl) (fun _ => ?_)
    refine st (ov_call (f := 7) (vals := []) (cap := []) (show _ = (.func (.func 7) #[] #[] : Value) from rfl) rfl Try.call7 (D_known  hS8) ?_)
    rintro _ w632 ⟨rfl, hS633⟩
    refine st (ov_assign (v := .bool true) rfl ?_)
    refine st_nil ?_
    refine WP_ret ?_
    refine fin1 Try.results3 (show _ = (.bool true : Value) from rfl) ?_
    have hS634 : Sep G W Rs w632 := hS633.sel 1 [] (Nat.le_add_left _ _) rfl rfl
    refine ⟨rfl, hS634⟩

end Go.Proofs.Ytlblilbmpdejgaa
