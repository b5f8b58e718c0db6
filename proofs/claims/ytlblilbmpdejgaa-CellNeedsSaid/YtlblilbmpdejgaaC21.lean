/- Steps of the proofs of this seat: part C21. -/
import Derived.Test.YtlblilbmpdejgaaC19a
set_option linter.unusedSimpArgs false
set_option linter.unusedVariables false
namespace Go.Proofs.Ytlblilbmpdejgaa
open Go.Proofs Go.RowKit

theorem celAt_set_ne {c : List Cel} {k : Nat} {f : Int} {x : Cel} (h : f.toNat ≠ k) : celAt (c.set k x) f = celAt c f := by unfold celAt; exact getD_set_ne (fun e => h e.symm) _ _
theorem celAt_set {c : List Cel} {k : Nat} {x : Cel} (h : k < c.length) : celAt (c.set k x) (k : Int) = x := by unfold celAt; exact getD_set_self (by omega) _ _
theorem may_move {t : Typ} {c : List Cel} {f a : Int} : mayL t c f 5 a = 0 ↔ (celAt c f).n = (mvAt (fldAt t f) a).frm ∧ ((mvAt (fldAt t f) a).need < 0 ∨ (mvAt (fldAt t f) a).least ≤ (celAt c (mvAt (fldAt t f) a).need).n) := by
  have e : mayB (fldAt t f) c (celAt c f) 5 a = (decide ((celAt c f).n = (mvAt (fldAt t f) a).frm) && (decide ((mvAt (fldAt t f) a).need < 0) || decide ((mvAt (fldAt t f) a).least ≤ (celAt c (mvAt (fldAt t f) a).need).n))) := rfl
  unfold mayL
  rw [e]
  constructor
  · intro h
    split at h
    · rename_i h2; simpa using h2
    · cases h
  · intro h
    rw [if_pos (by simpa using h)]
theorem WP_cut {P : Program} {n : Nat} {c : Code} {Q : Post} {σ : Env} {w : World} (J : Env → World → Prop) (h : J σ w) (hk : ∀ σ w, J σ w → WP P n c Q σ w) : WP P n c Q σ w := hk _ _ h
theorem WP_join {P : Program} {n : Nat} {c : Code} {Q : Post} {σ : Env} {w : World} (J : Env → World → Prop) (h : WP P n c (fun e σ w => e = .normal ∧ J σ w) σ w) (hq : ∀ σ w, J σ w → Q .normal σ w) : WP P n c Q σ w := fun a hs =>
  wp_mono (h a hs) (by rintro e a' w' ⟨σ'', hs'', rfl, hj⟩; exact ⟨σ'', hs'', hq _ _ hj⟩)
section
variable {t : Typ} {c : List Cel} {q mv : Nat} {m : Mv} {fl : Fld}
theorem cn_mv (hfl : fl = t.fields.getD q default) (hm : m = fl.moves.getD mv default) : mvAt (fldAt t (q : Int)) (mv : Int) = m := by rw [hm, hfl]; rfl
theorem cn_ask {k : Nat} (hfl : fl = t.fields.getD q default) (hk : k < fl.moves.length) (hq : q < t.fields.length) (hl : q < c.length) (hnd : (fl.moves.getD k default).need < 0 ∨ (fl.moves.getD k default).need < c.length) : AskOk t c (q : Int) 5 (k : Int) := by
  subst hfl
  exact ⟨by omega, by omega, by omega, fun h => by omega, fun _ => ⟨by omega, (by show (k : Int) < ((t.fields.getD q default).moves.length : Int); omega), hnd⟩⟩
theorem cn_first (hfl : fl = t.fields.getD q default) (hm : m = fl.moves.getD mv default) (hcn : (c.getD q default).n = m.frm) (hnd : m.need = -1 ∨ 0 ≤ m.need) : (decide (mayL t c (q : Int) 5 (mv : Int) = 0) == (decide (m.need = -1) || decide (m.least ≤ (c.getD m.need.toNat default).n))) = true := by
  have h : mayL t c (q : Int) 5 (mv : Int) = 0 ↔ (m.need = -1 ∨ m.least ≤ (c.getD m.need.toNat default).n) := by
    rw [may_move, cn_mv hfl hm]
    show (c.getD q default).n = m.frm ∧ (m.need < 0 ∨ m.least ≤ (c.getD m.need.toNat default).n) ↔ _
    constructor
    · rintro ⟨_, h | h⟩
      · left; omega
      · exact .inr h
    · rintro (h | h)
      · exact ⟨hcn, .inl (by omega)⟩
      · exact ⟨hcn, .inr h⟩
  rw [beq_iff_eq, Bool.eq_iff_iff]
  simp only [Bool.or_eq_true, decide_eq_true_eq]
  exact h
theorem cn_more {more : Int} (hfl : fl = t.fields.getD q default) (hm : m = fl.moves.getD mv default) (h1 : mayL t c (q : Int) 5 (mv : Int) = 0) (h2 : mayL t c m.need 1 more = 0) (hn : InR (c.getD m.need.toNat default).n) (hmo : InR more) (h0 : 0 ≤ m.need) (hp : 0 < more) (hne : m.need.toNat ≠ q) (hl : m.need < c.length) : mayL t (doL t c m.need 1 more) (q : Int) 5 (mv : Int) = 0 := by
  rw [may_move, cn_mv hfl hm] at h1 ⊢
  have e1 : celAt (doL t c m.need 1 more) (q : Int) = celAt c (q : Int) := by unfold doL; exact celAt_set_ne (by simpa using fun e => hne e.symm)
  have e2 : (celAt (doL t c m.need 1 more) m.need).n = (celAt c m.need).n + more := by rw [celAt_do h0 hl]; exact (may_inc h2 hn hmo (by omega)).1
  rw [e1, e2]
  refine ⟨h1.1, ?_⟩
  rcases h1.2 with h | h
  · exact .inl h
  · right; omega
theorem cn_to (hfl : fl = t.fields.getD q default) (hm : m = fl.moves.getD mv default) (hq : q < c.length) : ((doL t c (q : Int) 5 (mv : Int)).getD q default).n = m.to := by
  unfold doL
  rw [show ((q : Int)).toNat = q from rfl, getD_set_self hq]
  show (mvAt (fldAt t (q : Int)) (mv : Int)).to = m.to
  rw [cn_mv hfl hm]
theorem cn_k {k : Nat} (hfl : fl = t.fields.getD q default) (hm : m = fl.moves.getD mv default) (hq : q < c.length) (hk : (fl.moves.getD k default).need = -1) : (decide (mayL t (doL t c (q : Int) 5 (mv : Int)) (q : Int) 5 (k : Int) = 0) == decide ((fl.moves.getD k default).frm = m.to)) = true := by
  rw [beq_iff_eq, decide_eq_decide, may_move, cn_mv (mv := k) hfl rfl]
  show ((doL t c (q : Int) 5 (mv : Int)).getD q default).n = _ ∧ _ ↔ _
  rw [cn_to hfl hm hq]
  constructor
  · rintro ⟨h, _⟩; exact h.symm
  · intro h; exact ⟨h.symm, .inl (by omega)⟩
end
theorem may_or {t : Typ} {c : List Cel} {f op a : Int} : mayL t c f op a = 0 ∨ mayL t c f op a = 10 := by unfold mayL; split <;> simp
set_option maxHeartbeats 8000000 in
theorem D_CellNeeds {G : Nat → Prop} {W w : World} {Rs : List HP} {d : Dcl} {dd0 : Value} (hdd0 : RdS W G dd0 d.types) {dd1 : Value} (hdd1 : RdS W G dd1 d.projs) (od : d.Ok) {ty : Int} (hty : InR ty) {vl : Value} {l : List Cel} (hl : RdS W G vl l) {fi : Int} (hfi : InR fi) {mo : Int} (hmo : InR mo) {more : Int} (hmore : InR more) (hS0 : Sep G W Rs w) : Ret Try.prog 5 [.agg (d.cells dd0 dd1).toArray, .int .i64 (ty), vl, .int .i64 (fi), .int .i64 (mo), .int .i64 (more)] w (fun r w' => r = (.bool true : Value) ∧ Sep G W Rs w') := by
  have hdd0s : d.types.length * 24 ≤ 140737488355328 := hdd0.small
  have hdd1s : d.projs.length * 40 ≤ 140737488355328 := hdd1.small
  have hls : l.length * 32 ≤ 140737488355328 := hl.small
  refine Calls_of_WP (args := [.agg (d.cells dd0 dd1).toArray, .int .i64 (ty), vl, .int .i64 (fi), .int .i64 (mo), .int .i64 (more)]) Try.func5 rfl rfl ?_
  refine WP_seq ?_
  refine WP_region0 (by kernel_rfl) (fun _ => ?_)
  refine st (ov_box (v := .agg (d.cells dd0 dd1).toArray) rfl ?_)
  intro w3 b2 hn1
  have hS4 : Sep G W ((Blk b2 (d.cells dd0 dd1).toArray 25) :: Rs) w3 := hS0.new hn1
  refine st (ov_assign (v := .bool false) rfl ?_)
  refine st_nil ?_
  refine WP_seq ?_
  refine WP_seq ?_
  refine WP_region0 (by kernel_rfl) (fun _ => ?_)
  refine st (ov_loadk (k := 2) Try.isAgg25 Try.sizeOf25 rfl rfl (CellsAt.all (hS4.blk (i := 0) rfl)) ?_)
  refine st (ov_move (v := vl) rfl ?_)
  refine st (ov_call (f := 6) (vals := [.agg (d.cells dd0 dd1).toArray, vl]) (cap := []) (show _ = (.func (.func 6) #[] #[] : Value) from rfl) rfl Try.call6 (D_Right (d := d) (l := l) (vl := vl) hdd0 hdd1 od hl hS4) ?_)
  rintro _ w7 ⟨b5, rfl, hb6, hS8⟩
  refine st (ov_not (a := b5) rfl ?_)
  refine st_nil ?_
  cases hc9 : !b5
  · skip
    try simp only [bools] at hc9
    have hrg := hb6 hc9
    have hdo := hrg.1
    have hd1 := hdo.some
    have hd2 := hdo.few
    refine WP_cond_f rfl ?_
    refine WP_skip ?_
    refine WP_seq ?_
    refine WP_draw5 (WF [fun vals wq => Sep G W ((Blk b2 (d.cells dd0 dd1).toArray 25) :: Rs) wq, fun vals wq => ∃ (b95 : Nat), (vals 9 = (.pointer (some ⟨b95, 0, none⟩) : Value)) ∧ Sep G W ((Blk b95 #[(.slice none 0 0)] 31) :: (Blk b2 (d.cells dd0 dd1).toArray 25) :: Rs) wq, fun vals wq => ∃ (b95 : Nat) (q61 : Nat), (vals 9 = (.pointer (some ⟨b95, 0, none⟩) : Value)) ∧ (q61 < d.types.length) ∧ Sep G W ((Blk b95 ((d.types.getD q61 default).cells (cellV W (sb dd0) (so dd0 + q61 * 1 + 0))).toArray 31) :: (Blk b2 (d.cells dd0 dd1).toArray 25) :: Rs) wq]) (AF [fun vals => vals 0 = (.pointer (some ⟨b2, 0, none⟩) : Value), fun vals => vals 1 = (dd0 : Value), fun vals => vals 2 = (.int .i64 (ty) : Value), fun vals => vals 3 = (.pointer (some ⟨b2, 0, none⟩) : Value), fun vals => vals 4 = (dd0 : Value), fun vals => vals 5 = (.int .i64 ((d.types.length : Nat) : Int) : Value), fun vals => ∃ (q61 : Nat), vals 6 = (.int .i64 ((q61 : Nat) : Int) : Value) ∧ (q61 < d.types.length), fun vals => ∀ (q61 : Nat), vals 6 = (.int .i64 ((q61 : Nat) : Int) : Value) → vals 7 = (.pointer (some ⟨sb dd0, so dd0 + q61 * 1, none⟩) : Value), fun vals => ∀ (q61 : Nat), vals 6 = (.int .i64 ((q61 : Nat) : Int) : Value) → vals 8 = (.agg ((d.types.getD q61 default).cells (cellV W (sb dd0) (so dd0 + q61 * 1 + 0))).toArray : Value), fun _ => True, fun _ => True]) [[], [0], [], [], [3], [3, 4], [2, 3, 4, 5], [0, 1, 2, 3, 4, 5, 6], [0, 1, 2, 3, 4, 5, 6, 7], [], [0, 1, 2, 3, 4, 5, 6, 7, 8, 9]] [9, 10] [(0, 1), (0, 1), (0, 1), (0, 1), (0, 1), (0, 1), (0, 1), (0, 1), (0, 1), (0, 0), (1, 1)] (by kernel_rfl) (by kernel_rfl) (by kernel_rfl) rfl (by kernel_rfl) (by kernel_rfl) (fun _ h1 h2 h3 h4 _ => hS8.same h1 h2 h3 h4) ?_ ?_ ⟨?_, ?_, ?_, ?_, ?_, ?_, ?_, ?_, ?_, ?_, ?_, trivial⟩ ?_
    · intro k vals vals' w hv h
      have e : ∀ j ∈ ([9, 10] : List Nat), vals' j = vals j := hv
      match k, h with
      | 0, h => exact h
      | 1, h => exact (by simpa only [WF, List.getElem?_cons_zero, List.getElem?_cons_succ, e 9 (by decide)] using h)
      | 2, h => exact (by simpa only [WF, List.getElem?_cons_zero, List.getElem?_cons_succ, e 9 (by decide)] using h)
      | _ + 3, _ => trivial
    · intro i vals vals' hv h
      match i, hv, h with
      | 0, hv, h => exact (hv 0 (.inl rfl)).trans h
      | 1, hv, h => exact (hv 1 (.inl rfl)).trans h
      | 2, hv, h => exact (hv 2 (.inl rfl)).trans h
      | 3, hv, h => exact (hv 3 (.inl rfl)).trans h
      | 4, hv, h => exact (hv 4 (.inl rfl)).trans h
      | 5, hv, h => exact (hv 5 (.inl rfl)).trans h
      | 6, hv, h => exact (by obtain ⟨q61, h9, h8⟩ := h; exact ⟨q61, (hv 6 (.inl rfl)).trans h9, h8⟩)
      | 7, hv, h => exact fun q61 hq0 => (hv 7 (.inl rfl)).trans (h q61 ((hv 6 (.inr (by decide))).symm.trans hq0))
      | 8, hv, h => exact fun q61 hq0 => (hv 8 (.inl rfl)).trans (h q61 ((hv 6 (.inr (by decide))).symm.trans hq0))
      | 9, _, _ => trivial
      | 10, _, _ => trivial
      | _ + 11, _, _ => trivial
    · intro k114 vals w115 h118 h119 hW117 hA116
      refine obl rfl ?_
      exact fd25_0 rfl (fun vals' hv _ => ⟨.inl rfl, hv⟩)
    · intro k120 vals w121 h124 h125 hW123 hA122
      have hkk : k120 = 0 ∨ k120 = 1 := by have h1 : 0 ≤ k120 := h124; have h2 : k120 ≤ 1 := h125; omega
      rcases hkk with rfl | rfl
      · skip
        have hS126 : Sep G W ((Blk b2 (d.cells dd0 dd1).toArray 25) :: Rs) w121 := hW123
        have e127 : vals 0 = (.pointer (some ⟨b2, 0, none⟩) : Value) := hA122 0 (by decide)
        refine obl rfl ?_
        exact ov_load1 (v := dd0) Try.isAgg22 (show _ = (.pointer (some ⟨b2, 0, none⟩) : Value) from e127) (blk_cellL (hS126.blk (i := 0) rfl) rfl) (fun vals' hv _ => ⟨.inl rfl, hv⟩)
      · skip
        obtain ⟨b95, he98, hS128⟩ : ∃ (b95 : Nat), (vals 9 = (.pointer (some ⟨b95, 0, none⟩) : Value)) ∧ Sep G W ((Blk b95 #[(.slice none 0 0)] 31) :: (Blk b2 (d.cells dd0 dd1).toArray 25) :: Rs) w121 := hW123
        have e129 : vals 0 = (.pointer (some ⟨b2, 0, none⟩) : Value) := hA122 0 (by decide)
        refine obl rfl ?_
        exact ov_load1 (v := dd0) Try.isAgg22 (show _ = (.pointer (some ⟨b2, 0, none⟩) : Value) from e129) (blk_cellL (hS128.blk (i := 1) rfl) rfl) (fun vals' hv _ => ⟨.inl rfl, hv⟩)
    · intro k130 vals w131 h134 h135 hW133 hA132
      refine obl rfl ?_
      exact ov_move (v := .int .i64 (ty)) rfl (fun vals' hv _ => ⟨.inl rfl, hv⟩)
    · intro k136 vals w137 h140 h141 hW139 hA138
      refine obl rfl ?_
      exact fd25_0 rfl (fun vals' hv _ => ⟨.inl rfl, hv⟩)
    · intro k142 vals w143 h146 h147 hW145 hA144
      have hkk : k142 = 0 ∨ k142 = 1 := by have h1 : 0 ≤ k142 := h146; have h2 : k142 ≤ 1 := h147; omega
      rcases hkk with rfl | rfl
      · skip
        have hS148 : Sep G W ((Blk b2 (d.cells dd0 dd1).toArray 25) :: Rs) w143 := hW145
        have e149 : vals 3 = (.pointer (some ⟨b2, 0, none⟩) : Value) := hA144 3 (by decide)
        refine obl rfl ?_
        exact ov_load1 (v := dd0) Try.isAgg22 (show _ = (.pointer (some ⟨b2, 0, none⟩) : Value) from e149) (blk_cellL (hS148.blk (i := 0) rfl) rfl) (fun vals' hv _ => ⟨.inl rfl, hv⟩)
      · skip
        obtain ⟨b95, he98, hS150⟩ : ∃ (b95 : Nat), (vals 9 = (.pointer (some ⟨b95, 0, none⟩) : Value)) ∧ Sep G W ((Blk b95 #[(.slice none 0 0)] 31) :: (Blk b2 (d.cells dd0 dd1).toArray 25) :: Rs) w143 := hW145
        have e151 : vals 3 = (.pointer (some ⟨b2, 0, none⟩) : Value) := hA144 3 (by decide)
        refine obl rfl ?_
        exact ov_load1 (v := dd0) Try.isAgg22 (show _ = (.pointer (some ⟨b2, 0, none⟩) : Value) from e151) (blk_cellL (hS150.blk (i := 1) rfl) rfl) (fun vals' hv _ => ⟨.inl rfl, hv⟩)
    · intro k152 vals w153 h156 h157 hW155 hA154
      have hkk : k152 = 0 ∨ k152 = 1 := by have h1 : 0 ≤ k152 := h156; have h2 : k152 ≤ 1 := h157; omega
      rcases hkk with rfl | rfl
      · skip
        have hS158 : Sep G W ((Blk b2 (d.cells dd0 dd1).toArray 25) :: Rs) w153 := hW155
        have e159 : vals 4 = (dd0 : Value) := hA154 4 (by decide)
        refine obl rfl ?_
        exact ov_len (n := d.types.length) Try.underlying22 (show _ = (dd0 : Value) from e159) hdd0.sl (fun vals' hv _ => ⟨.inl rfl, hv⟩)
      · skip
        obtain ⟨b95, he98, hS160⟩ : ∃ (b95 : Nat), (vals 9 = (.pointer (some ⟨b95, 0, none⟩) : Value)) ∧ Sep G W ((Blk b95 #[(.slice none 0 0)] 31) :: (Blk b2 (d.cells dd0 dd1).toArray 25) :: Rs) w153 := hW155
        have e161 : vals 4 = (dd0 : Value) := hA154 4 (by decide)
        refine obl rfl ?_
        exact ov_len (n := d.types.length) Try.underlying22 (show _ = (dd0 : Value) from e161) hdd0.sl (fun vals' hv _ => ⟨.inl rfl, hv⟩)
    · intro k162 vals w163 h166 h167 hW165 hA164
      have hkk : k162 = 0 ∨ k162 = 1 := by have h1 : 0 ≤ k162 := h166; have h2 : k162 ≤ 1 := h167; omega
      rcases hkk with rfl | rfl
      · skip
        have hS168 : Sep G W ((Blk b2 (d.cells dd0 dd1).toArray 25) :: Rs) w163 := hW165
        have e169 : vals 2 = (.int .i64 (ty) : Value) := hA164 2 (by decide)
        have e170 : vals 5 = (.int .i64 ((d.types.length : Nat) : Int) : Value) := hA164 5 (by decide)
        refine obl rfl ?_
        refine (ov_call (f := 8) (vals := [.int .i64 (ty), .int .i64 ((d.types.length : Nat) : Int)]) (cap := []) (show _ = (.func (.func 8) #[] #[] : Value) from rfl) (mapL ⟨(show _ = (.int .i64 (ty) : Value) from e169), (show _ = (.int .i64 ((d.types.length : Nat) : Int) : Value) from e170), trivial⟩) Try.call8 (D_Pick (x := ty) (n := d.types.length) (by omega) (by first | omega | (refine ⟨?_, ?_⟩ <;> omega)) hS168) ?_)
        rintro _ w173 ⟨q171, rfl, hq172, hS174⟩
        intro vals' hv hv'
        refine ⟨.inr ?_, ?_⟩
        · show Sep G W ((Blk b2 (d.cells dd0 dd1).toArray 25) :: Rs) w173
          exact hS174
        · exact ⟨q171, hv, hq172⟩
      · skip
        obtain ⟨b95, he98, hS175⟩ : ∃ (b95 : Nat), (vals 9 = (.pointer (some ⟨b95, 0, none⟩) : Value)) ∧ Sep G W ((Blk b95 #[(.slice none 0 0)] 31) :: (Blk b2 (d.cells dd0 dd1).toArray 25) :: Rs) w163 := hW165
        have e176 : vals 2 = (.int .i64 (ty) : Value) := hA164 2 (by decide)
        have e177 : vals 5 = (.int .i64 ((d.types.length : Nat) : Int) : Value) := hA164 5 (by decide)
        refine obl rfl ?_
        refine (ov_call (f := 8) (vals := [.int .i64 (ty), .int .i64 ((d.types.length : Nat) : Int)]) (cap := []) (show _ = (.func (.func 8) #[] #[] : Value) from rfl) (mapL ⟨(show _ = (.int .i64 (ty) : Value) from e176), (show _ = (.int .i64 ((d.types.length : Nat) : Int) : Value) from e177), trivial⟩) Try.call8 (D_Pick (x := ty) (n := d.types.length) (by omega) (by first | omega | (refine ⟨?_, ?_⟩ <;> omega)) hS175) ?_)
        rintro _ w180 ⟨q178, rfl, hq179, hS181⟩
        intro vals' hv hv'
        refine ⟨.inr ?_, ?_⟩
        · show ∃ (b95 : Nat), (vals' 9 = (.pointer (some ⟨b95, 0, none⟩) : Value)) ∧ Sep G W ((Blk b95 #[(.slice none 0 0)] 31) :: (Blk b2 (d.cells dd0 dd1).toArray 25) :: Rs) w180
          exact ⟨b95, (by rw [hv' 9 (by decide)]; exact he98), hS181⟩
        · exact ⟨q178, hv, hq179⟩
    · intro k182 vals w183 h186 h187 hW185 hA184
      have hkk : k182 = 0 ∨ k182 = 1 := by have h1 : 0 ≤ k182 := h186; have h2 : k182 ≤ 1 := h187; omega
      rcases hkk with rfl | rfl
      · skip
        have hS188 : Sep G W ((Blk b2 (d.cells dd0 dd1).toArray 25) :: Rs) w183 := hW185
        obtain ⟨q61, heN65, hq62⟩ := hA184 6 (by decide)
        have e189 : vals 1 = (dd0 : Value) := hA184 1 (by decide)
        refine obl rfl ?_
        have hi190 : q61 < d.types.length := (by first | omega | (simp only [lens]; omega))
        refine ov_indexAddrN (k := 1) (i := q61) Try.underlying22 Try.sizeOf31 (show _ = (dd0 : Value) from e189) hdd0.sl (show _ = (.int .i64 ((q61 : Nat) : Int) : Value) from heN65) hi190 (fun vals' hv hv' => ⟨.inl rfl, ?_⟩)
        intro q61q hq0
        rw [hv' 6 (by decide)] at hq0; cases heN65.symm.trans hq0
        exact hv
      · skip
        obtain ⟨b95, he98, hS191⟩ : ∃ (b95 : Nat), (vals 9 = (.pointer (some ⟨b95, 0, none⟩) : Value)) ∧ Sep G W ((Blk b95 #[(.slice none 0 0)] 31) :: (Blk b2 (d.cells dd0 dd1).toArray 25) :: Rs) w183 := hW185
        obtain ⟨q61, heN65, hq62⟩ := hA184 6 (by decide)
        have e192 : vals 1 = (dd0 : Value) := hA184 1 (by decide)
        refine obl rfl ?_
        have hi193 : q61 < d.types.length := (by first | omega | (simp only [lens]; omega))
        refine ov_indexAddrN (k := 1) (i := q61) Try.underlying22 Try.sizeOf31 (show _ = (dd0 : Value) from e192) hdd0.sl (show _ = (.int .i64 ((q61 : Nat) : Int) : Value) from heN65) hi193 (fun vals' hv hv' => ⟨.inl rfl, ?_⟩)
        intro q61q hq0
        rw [hv' 6 (by decide)] at hq0; cases heN65.symm.trans hq0
        exact hv
    · intro k194 vals w195 h198 h199 hW197 hA196
      have hkk : k194 = 0 ∨ k194 = 1 := by have h1 : 0 ≤ k194 := h198; have h2 : k194 ≤ 1 := h199; omega
      rcases hkk with rfl | rfl
      · skip
        have hS200 : Sep G W ((Blk b2 (d.cells dd0 dd1).toArray 25) :: Rs) w195 := hW197
        obtain ⟨q61, heN65, hq62⟩ := hA196 6 (by decide)
        have e201 : vals 7 = (.pointer (some ⟨sb dd0, so dd0 + q61 * 1, none⟩) : Value) := hA196 7 (by decide) q61 heN65
        refine obl rfl ?_
        have hi203 : q61 < d.types.length := (by first | omega | (simp only [lens]; omega))
        obtain ⟨hce202, hde202_0, hoke202⟩ := hdd0.typ hi203
        rw [← getD_at default hi203] at hce202 hde202_0 hoke202
        have hsm204 : ((d.types.getD q61 default).fields).length * 48 ≤ 140737488355328 := hde202_0.small
        have hcw205 := hS200.cells hce202 (hdd0.foot (ne_of_lt hi203))
        refine ov_loadk (k := 1) Try.isAgg31 Try.sizeOf31 rfl (show _ = (.pointer (some ⟨sb dd0, so dd0 + q61 * 1, none⟩) : Value) from e201) hcw205 (fun vals' hv hv' => ⟨.inl rfl, ?_⟩)
        intro q61q hq0
        rw [hv' 6 (by decide)] at hq0; cases heN65.symm.trans hq0
        exact hv
      · skip
        obtain ⟨b95, he98, hS206⟩ : ∃ (b95 : Nat), (vals 9 = (.pointer (some ⟨b95, 0, none⟩) : Value)) ∧ Sep G W ((Blk b95 #[(.slice none 0 0)] 31) :: (Blk b2 (d.cells dd0 dd1).toArray 25) :: Rs) w195 := hW197
        obtain ⟨q61, heN65, hq62⟩ := hA196 6 (by decide)
        have e207 : vals 7 = (.pointer (some ⟨sb dd0, so dd0 + q61 * 1, none⟩) : Value) := hA196 7 (by decide) q61 heN65
        refine obl rfl ?_
        have hi209 : q61 < d.types.length := (by first | omega | (simp only [lens]; omega))
        obtain ⟨hce208, hde208_0, hoke208⟩ := hdd0.typ hi209
        rw [← getD_at default hi209] at hce208 hde208_0 hoke208
        have hsm210 : ((d.types.getD q61 default).fields).length * 48 ≤ 140737488355328 := hde208_0.small
        have hcw211 := hS206.cells hce208 (hdd0.foot (ne_of_lt hi209))
        refine ov_loadk (k := 1) Try.isAgg31 Try.sizeOf31 rfl (show _ = (.pointer (some ⟨sb dd0, so dd0 + q61 * 1, none⟩) : Value) from e207) hcw211 (fun vals' hv hv' => ⟨.inl rfl, ?_⟩)
        intro q61q hq0
        rw [hv' 6 (by decide)] at hq0; cases heN65.symm.trans hq0
        exact hv
    · intro k87 vals w88 h91 h92 hW90 hA89
      obtain rfl : k87 = 0 := Nat.le_antisymm h92 h91
      have hS93 : Sep G W ((Blk b2 (d.cells dd0 dd1).toArray 25) :: Rs) w88 := hW90
      refine obl rfl ?_
      refine (ov_alloc Try.zeroValue31 ?_)
      intro w96 b95 hn94
      have hS97 : Sep G W ((Blk b95 #[(.slice none 0 0)] 31) :: (Blk b2 (d.cells dd0 dd1).toArray 25) :: Rs) w96 := hS93.new hn94
      intro vals' hv hv'
      refine ⟨?_, trivial⟩
      show ∃ (b95 : Nat), (vals' 9 = (.pointer (some ⟨b95, 0, none⟩) : Value)) ∧ Sep G W ((Blk b95 #[(.slice none 0 0)] 31) :: (Blk b2 (d.cells dd0 dd1).toArray 25) :: Rs) w96
      exact ⟨b95, hv, hS97⟩
    · intro k99 vals w100 h103 h104 hW102 hA101
      obtain rfl : k99 = 1 := Nat.le_antisymm h104 h103
      obtain ⟨b95, he98, hS105⟩ : ∃ (b95 : Nat), (vals 9 = (.pointer (some ⟨b95, 0, none⟩) : Value)) ∧ Sep G W ((Blk b95 #[(.slice none 0 0)] 31) :: (Blk b2 (d.cells dd0 dd1).toArray 25) :: Rs) w100 := hW102
      obtain ⟨q61, heN65, hq62⟩ := hA101 6 (by decide)
      have e106 : vals 8 = (.agg ((d.types.getD q61 default).cells (cellV W (sb dd0) (so dd0 + q61 * 1 + 0))).toArray : Value) := hA101 8 (by decide) q61 heN65
      refine obl rfl ?_
      have hi110 : q61 < d.types.length := (by first | omega | (simp only [lens]; omega))
      obtain ⟨hce109, hde109_0, hoke109⟩ := hdd0.typ hi110
      rw [← getD_at default hi110] at hce109 hde109_0 hoke109
      have hsm111 : ((d.types.getD q61 default).fields).length * 48 ≤ 140737488355328 := hde109_0.small
      have hcw112 := hS105.cells hce109 (hdd0.foot (ne_of_lt hi110))
      refine (ov_store (v := .agg ((d.types.getD q61 default).cells (cellV W (sb dd0) (so dd0 + q61 * 1 + 0))).toArray) (c' := ((d.types.getD q61 default).cells (cellV W (sb dd0) (so dd0 + q61 * 1 + 0))).toArray) Try.sizeOf31 (show _ = (.pointer (some ⟨b95, 0, none⟩) : Value) from he98) (show _ = (.agg ((d.types.getD q61 default).cells (cellV W (sb dd0) (so dd0 + q61 * 1 + 0))).toArray : Value) from e106) (hS105.blk (i := 0) rfl) (all1 ⟨hde109_0.sl.one, trivial⟩) (Nat.le_of_ble_eq_true rfl) rfl ?_)
      intro w107 hp108
      have hS113 : Sep G W ((Blk b95 ((d.types.getD q61 default).cells (cellV W (sb dd0) (so dd0 + q61 * 1 + 0))).toArray 31) :: (Blk b2 (d.cells dd0 dd1).toArray 25) :: Rs) w107 := hS105.put (i := 0) rfl hp108
      intro vals' hv hv'
      refine ⟨?_, trivial⟩
      show ∃ (b95 : Nat) (q61 : Nat), (vals' 9 = (.pointer (some ⟨b95, 0, none⟩) : Value)) ∧ (q61 < d.types.length) ∧ Sep G W ((Blk b95 ((d.types.getD q61 default).cells (cellV W (sb dd0) (so dd0 + q61 * 1 + 0))).toArray 31) :: (Blk b2 (d.cells dd0 dd1).toArray 25) :: Rs) w107
      exact ⟨b95, q61, (by rw [hv' 9 (by decide)]; exact he98), hq62, hS113⟩
    intro vals w212 hW213 hA214
    obtain ⟨b95, q61, he98, hq62, hS215⟩ : ∃ (b95 : Nat) (q61 : Nat), (vals 9 = (.pointer (some ⟨b95, 0, none⟩) : Value)) ∧ (q61 < d.types.length) ∧ Sep G W ((Blk b95 ((d.types.getD q61 default).cells (cellV W (sb dd0) (so dd0 + q61 * 1 + 0))).toArray 31) :: (Blk b2 (d.cells dd0 dd1).toArray 25) :: Rs) w212 := hW213
    refine st_env (kv := [(0, .agg (d.cells dd0 dd1).toArray), (1, .int .i64 (ty)), (2, vl), (3, .int .i64 (fi)), (4, .int .i64 (mo)), (5, .int .i64 (more)), (6, .pointer (some ⟨b2, 0, none⟩)), (12, .bool false), (21, .agg (d.cells dd0 dd1).toArray), (22, vl), (23, .bool b5), (24, .bool false), (13, .pointer (some ⟨b95, 0, none⟩))]) ⟨rfl, rfl, rfl, rfl, rfl, rfl, rfl, rfl, rfl, rfl, rfl, rfl, (by exact he98), trivial⟩ (fun ρw212 => ?_)
    refine st_nil ?_
    refine WP_seq ?_
    refine WP_region0 (by kernel_rfl) (fun _ => ?_)
    refine st (ov_loadk (k := 1) Try.isAgg31 Try.sizeOf31 rfl rfl (CellsAt.all (hS215.blk (i := 0) rfl)) ?_)
    refine st (ov_move (v := vl) rfl ?_)
    have hi217 : q61 < d.types.length := (by first | omega | (simp only [lens]; omega))
    obtain ⟨hce216, hde216_0, hoke216⟩ := hdd0.typ hi217
    rw [← getD_at default hi217] at hce216 hde216_0 hoke216
    have hsm218 : ((d.types.getD q61 default).fields).length * 48 ≤ 140737488355328 := hde216_0.small
    have hcw219 := hS215.cells hce216 (hdd0.foot (ne_of_lt hi217))
    refine st (ov_call (f := 9) (vals := [.agg ((d.types.getD q61 default).cells (cellV W (sb dd0) (so dd0 + q61 * 1 + 0))).toArray, vl]) (cap := []) (show _ = (.func (.func 9) #[] #[] : Value) from rfl) rfl Try.call9 (D_Cells (t := (d.types.getD q61 default)) (l := l) (vl := vl) hde216_0 hoke216 hl hS215 ((hdo.typ _ (by omega)))) ?_)
    rintro v220 w223 ⟨_, c2221, rfl, hR222, hS224⟩
    have hr225 := hS224.row (i := 0) rfl
    have hr225s : c2221.length * 32 ≤ 140737488355328 := hr225.2
    refine st (ov_assign (v := v220) rfl ?_)
    refine st_nil ?_
    refine WP_seq ?_
    refine WP_region0 (by kernel_rfl) (fun _ => ?_)
    have hcl := hR222.len
    have hty := hdo.typ _ (show q61 < d.types.length by omega)
    have hty1 := hty.some
    have hty2 := hty.few
    refine st (ov_move (v := .int .i64 (fi)) rfl ?_)
    refine st (fd31_0 rfl ?_)
    refine st (ov_load1 (v := (cellV W (sb dd0) (so dd0 + q61 * 1 + 0))) Try.isAgg29 rfl (blk_cellL (hS224.blk (i := 1) rfl) rfl) ?_)
    refine st (ov_len (n := ((d.types.getD q61 default).fields).length) Try.underlying29 rfl hde216_0.sl ?_)
    refine st (ov_call (f := 8) (vals := [.int .i64 (fi), .int .i64 ((((d.types.getD q61 default).fields).length : Nat) : Int)]) (cap := []) (show _ = (.func (.func 8) #[] #[] : Value) from rfl) rfl Try.call8 (D_Pick (x := fi) (n := ((d.types.getD q61 default).fields).length) hfi (by first | omega | (refine ⟨?_, ?_⟩ <;> omega)) hS224) ?_)
    rintro _ w228 ⟨q226, rfl, hq227, hS229⟩
    refine st (ov_assign (v := .int .i64 ((q226 : Nat) : Int)) rfl ?_)
    refine st_nil ?_
    refine WP_seq ?_
    refine WP_region0 (by kernel_rfl) (fun _ => ?_)
    have hmv9 := hty.moves q226 (by omega)
    have hnd9 := hty.need q226 (by omega)
    refine st (fd31_0 rfl ?_)
    refine st (ov_load1 (v := (cellV W (sb dd0) (so dd0 + q61 * 1 + 0))) Try.isAgg29 rfl (blk_cellL (hS229.blk (i := 1) rfl) rfl) ?_)
    refine st (ov_move (v := .int .i64 ((q226 : Nat) : Int)) rfl ?_)
    have hi230 : q226 < ((d.types.getD q61 default).fields).length := (by first | omega | (simp only [lens]; omega))
    refine st (ov_indexAddrN (k := 4) (i := q226) Try.underlying29 Try.sizeOf36 rfl hde216_0.sl rfl hi230 ?_)
    have hi232 : q226 < ((d.types.getD q61 default).fields).length := (by first | omega | (simp only [lens]; omega))
    obtain ⟨hce231, hde231_0, hoke231⟩ := hde216_0.fld hi232
    rw [← getD_at default hi232] at hce231 hde231_0 hoke231
    have hsm233 : ((((d.types.getD q61 default).fields).getD q226 default).moves).length * 32 ≤ 140737488355328 := hde231_0.small
    have hcw234 := hS229.cells hce231 (hde216_0.foot (ne_of_lt hi232))
    refine st (ov_loadk (k := 4) Try.isAgg36 Try.sizeOf36 rfl rfl hcw234 ?_)
    refine st (ov_alloc Try.zeroValue36 ?_)
    intro w237 b236 hn235
    have hS238 : Sep G W ((Blk b236 #[.int .i64 (0), .int .i64 (0), .bool false, (.slice none 0 0)] 36) :: (RowE (α := Cel) own 47 v220 c2221) :: (Blk b95 ((d.types.getD q61 default).cells (cellV W (sb dd0) (so dd0 + q61 * 1 + 0))).toArray 31) :: (Blk b2 (d.cells dd0 dd1).toArray 25) :: Rs) w237 := hS229.new hn235
    refine stn (ov_store (v := .agg ((((d.types.getD q61 default).fields).getD q226 default).cells (cellV W (sb (cellV W (sb dd0) (so dd0 + q61 * 1 + 0))) (so (cellV W (sb dd0) (so dd0 + q61 * 1 + 0)) + q226 * 4 + 3))).toArray) (c' := ((((d.types.getD q61 default).fields).getD q226 default).cells (cellV W (sb (cellV W (sb dd0) (so dd0 + q61 * 1 + 0))) (so (cellV W (sb dd0) (so dd0 + q61 * 1 + 0)) + q226 * 4 + 3))).toArray) Try.sizeOf36 rfl rfl (hS238.blk (i := 0) rfl) (all1 ⟨rfl, rfl, rfl, hde231_0.sl.one, trivial⟩) (Nat.le_of_ble_eq_true rfl) rfl ?_)
    intro w239 hp240
    have hS241 : Sep G W ((Blk b236 ((((d.types.getD q61 default).fields).getD q226 default).cells (cellV W (sb (cellV W (sb dd0) (so dd0 + q61 * 1 + 0))) (so (cellV W (sb dd0) (so dd0 + q61 * 1 + 0)) + q226 * 4 + 3))).toArray 36) :: (RowE (α := Cel) own 47 v220 c2221) :: (Blk b95 ((d.types.getD q61 default).cells (cellV W (sb dd0) (so dd0 + q61 * 1 + 0))).toArray 31) :: (Blk b2 (d.cells dd0 dd1).toArray 25) :: Rs) w239 := hS238.put (i := 0) rfl hp240
    refine st_nil ?_
    refine WP_seq ?_
    refine WP_seq ?_
    refine WP_region0 (by kernel_rfl) (fun _ => ?_)
    refine st (fd36_0 rfl ?_)
    refine st (ov_load1 (v := .int .i64 ((((d.types.getD q61 default).fields).getD q226 default).kind)) Try.isAgg3 rfl (blk_cellL (hS241.blk (i := 0) rfl) rfl) ?_)
    refine st (ov_neq (k := .i64) (a := (((d.types.getD q61 default).fields).getD q226 default).kind) (b := 4) rfl rfl ?_)
    refine st_nil ?_
    cases hc242 : !decide (((((d.types.getD q61 default).fields).getD q226 default).kind) = 4)
    · skip
      have hc242 := ndec_false hc242
      refine WP_cond_f rfl ?_
      refine WP_skip ?_
      refine WP_seq ?_
      refine WP_region0 (by kernel_rfl) (fun _ => ?_)
      refine st (ov_move (v := .int .i64 (mo)) rfl ?_)
      refine st (fd36_3 rfl ?_)
      refine st (ov_load1 (v := (cellV W (sb (cellV W (sb dd0) (so dd0 + q61 * 1 + 0))) (so (cellV W (sb dd0) (so dd0 + q61 * 1 + 0)) + q226 * 4 + 3))) Try.isAgg34 rfl (blk_cellL (hS241.blk (i := 0) rfl) rfl) ?_)
      refine st (ov_len (n := ((((d.types.getD q61 default).fields).getD q226 default).moves).length) Try.underlying34 rfl hde231_0.sl ?_)
      refine st (ov_call (f := 8) (vals := [.int .i64 (mo), .int .i64 ((((((d.types.getD q61 default).fields).getD q226 default).moves).length : Nat) : Int)]) (cap := []) (show _ = (.func (.func 8) #[] #[] : Value) from rfl) rfl Try.call8 (D_Pick (x := mo) (n := ((((d.types.getD q61 default).fields).getD q226 default).moves).length) hmo (by first | omega | (refine ⟨?_, ?_⟩ <;> omega)) hS241) ?_)
      rintro _ w245 ⟨q243, rfl, hq244, hS246⟩
      refine st (ov_assign (v := .int .i64 ((q243 : Nat) : Int)) rfl ?_)
      refine st_nil ?_
      refine WP_seq ?_
      refine WP_region0 (by kernel_rfl) (fun _ => ?_)
      have hm9 := hnd9 q243 (by omega)
      refine st (fd36_3 rfl ?_)
      refine st (ov_load1 (v := (cellV W (sb (cellV W (sb dd0) (so dd0 + q61 * 1 + 0))) (so (cellV W (sb dd0) (so dd0 + q61 * 1 + 0)) + q226 * 4 + 3))) Try.isAgg34 rfl (blk_cellL (hS246.blk (i := 0) rfl) rfl) ?_)
      refine st (ov_move (v := .int .i64 ((q243 : Nat) : Int)) rfl ?_)
      have hi247 : q243 < ((((d.types.getD q61 default).fields).getD q226 default).moves).length := (by first | omega | (simp only [lens]; omega))
      refine st (ov_indexAddrN (k := 4) (i := q243) Try.underlying34 Try.sizeOf49 rfl hde231_0.sl rfl hi247 ?_)
      have hi249 : q243 < ((((d.types.getD q61 default).fields).getD q226 default).moves).length := (by first | omega | (simp only [lens]; omega))
      obtain ⟨hce248, hoke248⟩ := hde231_0.mv hi249
      rw [← getD_at default hi249] at hce248 hoke248
      have hcw250 := hS246.cells hce248 (hde231_0.foot (ne_of_lt hi249))
      refine st (ov_loadk (k := 4) Try.isAgg49 Try.sizeOf49 rfl rfl hcw250 ?_)
      refine st (ov_alloc Try.zeroValue49 ?_)
      intro w253 b252 hn251
      have hS254 : Sep G W ((Blk b252 #[.int .i64 (0), .int .i64 (0), .int .i64 (0), .int .i64 (0)] 49) :: (Blk b236 ((((d.types.getD q61 default).fields).getD q226 default).cells (cellV W (sb (cellV W (sb dd0) (so dd0 + q61 * 1 + 0))) (so (cellV W (sb dd0) (so dd0 + q61 * 1 + 0)) + q226 * 4 + 3))).toArray 36) :: (RowE (α := Cel) own 47 v220 c2221) :: (Blk b95 ((d.types.getD q61 default).cells (cellV W (sb dd0) (so dd0 + q61 * 1 + 0))).toArray 31) :: (Blk b2 (d.cells dd0 dd1).toArray 25) :: Rs) w253 := hS246.new hn251
      refine stn (ov_store (v := .agg ((((((d.types.getD q61 default).fields).getD q226 default).moves).getD q243 default).cells).toArray) (c' := ((((((d.types.getD q61 default).fields).getD q226 default).moves).getD q243 default).cells).toArray) Try.sizeOf49 rfl rfl (hS254.blk (i := 0) rfl) (all1 ⟨rfl, rfl, rfl, rfl, trivial⟩) (Nat.le_of_ble_eq_true rfl) rfl ?_)
      intro w255 hp256
      have hS257 : Sep G W ((Blk b252 ((((((d.types.getD q61 default).fields).getD q226 default).moves).getD q243 default).cells).toArray 49) :: (Blk b236 ((((d.types.getD q61 default).fields).getD q226 default).cells (cellV W (sb (cellV W (sb dd0) (so dd0 + q61 * 1 + 0))) (so (cellV W (sb dd0) (so dd0 + q61 * 1 + 0)) + q226 * 4 + 3))).toArray 36) :: (RowE (α := Cel) own 47 v220 c2221) :: (Blk b95 ((d.types.getD q61 default).cells (cellV W (sb dd0) (so dd0 + q61 * 1 + 0))).toArray 31) :: (Blk b2 (d.cells dd0 dd1).toArray 25) :: Rs) w255 := hS254.put (i := 0) rfl hp256
      refine st_nil ?_
      refine WP_seq ?_
      refine WP_region0 (by kernel_rfl) (fun _ => ?_)
      refine st (ov_move (v := v220) rfl ?_)
      refine st (ov_move (v := .int .i64 ((q226 : Nat) : Int)) rfl ?_)
      refine st (fd49_0 rfl ?_)
      refine st (ov_load1 (v := .int .i64 ((((((d.types.getD q61 default).fields).getD q226 default).moves).getD q243 default).frm)) Try.isAgg3 rfl (blk_cellL (hS257.blk (i := 0) rfl) rfl) ?_)
      have hi258 : q226 < c2221.length := (by first | omega | (simp only [lens]; omega))
      refine st (ov_indexAddrN (k := 2) (i := q226) Try.underlying26 Try.sizeOf47 rfl hr225.1 rfl hi258 ?_)
      refine st (fd47_0 rfl ?_)
      have hS260 : Sep G W ((RowE (α := Cel) own 47 v220 c2221) :: (Blk b252 ((((((d.types.getD q61 default).fields).getD q226 default).moves).getD q243 default).cells).toArray 49) :: (Blk b236 ((((d.types.getD q61 default).fields).getD q226 default).cells (cellV W (sb (cellV W (sb dd0) (so dd0 + q61 * 1 + 0))) (so (cellV W (sb dd0) (so dd0 + q61 * 1 + 0)) + q226 * 4 + 3))).toArray 36) :: (Blk b95 ((d.types.getD q61 default).cells (cellV W (sb dd0) (so dd0 + q61 * 1 + 0))).toArray 31) :: (Blk b2 (d.cells dd0 dd1).toArray 25) :: Rs) w255 := hS257.sel 5 [2, 0, 1, 3, 4] (Nat.le_add_left _ _) rfl rfl
      have hS261 : Sep G W ((RowE (α := Cel) own 47 v220 c2221) :: Emp :: (Blk b252 ((((((d.types.getD q61 default).fields).getD q226 default).moves).getD q243 default).cells).toArray 49) :: (Blk b236 ((((d.types.getD q61 default).fields).getD q226 default).cells (cellV W (sb (cellV W (sb dd0) (so dd0 + q61 * 1 + 0))) (so (cellV W (sb dd0) (so dd0 + q61 * 1 + 0)) + q226 * 4 + 3))).toArray 36) :: (Blk b95 ((d.types.getD q61 default).cells (cellV W (sb dd0) (so dd0 + q61 * 1 + 0))).toArray 31) :: (Blk b2 (d.cells dd0 dd1).toArray 25) :: Rs) w255 := hS260.emp1
      refine stn (ov_storeS (α := Cel) (j := q226) (o := 0) (u := .int .i64 ((((((d.types.getD q61 default).fields).getD q226 default).moves).getD q243 default).frm)) (us := [.int .i64 ((((((d.types.getD q61 default).fields).getD q226 default).moves).getD q243 default).frm)]) (x1 := ({ (c2221.getD q226 default) with n := (((((d.types.getD q61 default).fields).getD q226 default).moves).getD q243 default).frm } : Cel)) hS261 Try.sizeOf3 (by first | omega | (simp only [lens]; omega)) rfl rfl rfl (Nat.le_of_ble_eq_true rfl) (all1 ⟨rfl, trivial⟩) (fun _ _ _ hel _ => (by rw [← getD_at default (by omega)] at hel; obtain ⟨d0, rfl, h0, hok⟩ := hel; exact ⟨_, rfl, h0, ⟨hoke248.frm⟩⟩)) ?_)
      intro w259 hS262
      have hr263 := hS262.row (i := 0) rfl
      have hr263s : (c2221.set q226 ({ (c2221.getD q226 default) with n := (((((d.types.getD q61 default).fields).getD q226 default).moves).getD q243 default).frm } : Cel)).length * 32 ≤ 140737488355328 := hr263.2
      refine st_nil ?_
      refine WP_seq ?_
      have hS264 : Sep G W ((RowE (α := Cel) own 47 v220 (c2221.set q226 ({ (c2221.getD q226 default) with n := (((((d.types.getD q61 default).fields).getD q226 default).moves).getD q243 default).frm } : Cel))) :: (Blk b95 ((d.types.getD q61 default).cells (cellV W (sb dd0) (so dd0 + q61 * 1 + 0))).toArray 31) :: (Blk b236 ((((d.types.getD q61 default).fields).getD q226 default).cells (cellV W (sb (cellV W (sb dd0) (so dd0 + q61 * 1 + 0))) (so (cellV W (sb dd0) (so dd0 + q61 * 1 + 0)) + q226 * 4 + 3))).toArray 36) :: (Blk b252 ((((((d.types.getD q61 default).fields).getD q226 default).moves).getD q243 default).cells).toArray 49) :: Rs) w259 := hS262.sel 5 [0, 3, 2, 1] (Nat.le_add_left _ _) rfl rfl
      have hvtC : RdS W G (cellV W (sb dd0) (so dd0 + q61 * 1 + 0)) (d.types.getD q61 default).fields := hde216_0
      have hvmC : RdS W G (cellV W (sb (cellV W (sb dd0) (so dd0 + q61 * 1 + 0))) (so (cellV W (sb dd0) (so dd0 + q61 * 1 + 0)) + q226 * 4 + 3)) (((d.types.getD q61 default).fields).getD q226 default).moves := hde231_0
      have hotC : (d.types.getD q61 default).Ok := hoke216
      have hofC : (((d.types.getD q61 default).fields).getD q226 default).Ok := hoke231
      have homC : (((((d.types.getD q61 default).fields).getD q226 default).moves).getD q243 default).Ok := hoke248
      have htyC : TypOk (d.types.getD q61 default) := hty
      have hqC : q226 < (d.types.getD q61 default).fields.length := by omega
      have hflC : (((d.types.getD q61 default).fields).getD q226 default) = (d.types.getD q61 default).fields.getD q226 default := rfl
      have hk4C : (((d.types.getD q61 default).fields).getD q226 default).kind = 4 := by omega
      have hmvC : q243 < (((d.types.getD q61 default).fields).getD q226 default).moves.length := by omega
      have hmC : (((((d.types.getD q61 default).fields).getD q226 default).moves).getD q243 default) = (((d.types.getD q61 default).fields).getD q226 default).moves.getD q243 default := rfl
      have hndC : (((((d.types.getD q61 default).fields).getD q226 default).moves).getD q243 default).need = -1 ∨ (0 ≤ (((((d.types.getD q61 default).fields).getD q226 default).moves).getD q243 default).need ∧ (((((d.types.getD q61 default).fields).getD q226 default).moves).getD q243 default).need < (d.types.getD q61 default).fields.length ∧ ((d.types.getD q61 default).fields.getD (((((d.types.getD q61 default).fields).getD q226 default).moves).getD q243 default).need.toNat default).kind = 1) := hm9
      have hclC : (c2221.set q226 ({ (c2221.getD q226 default) with n := (((((d.types.getD q61 default).fields).getD q226 default).moves).getD q243 default).frm } : Cel)).length = (d.types.getD q61 default).fields.length := by rw [List.length_set]; omega
      have hcnC : ((c2221.set q226 ({ (c2221.getD q226 default) with n := (((((d.types.getD q61 default).fields).getD q226 default).moves).getD q243 default).frm } : Cel)).getD q226 default).n = (((((d.types.getD q61 default).fields).getD q226 default).moves).getD q243 default).frm := by rw [getD_set_self (by omega)]
      refine WP_cut (fun σ wq => ∃ (t : Typ) (vt : Value) (q : Nat) (fl : Fld) (vm : Value) (mv : Nat) (m : Mv) (vc : Value) (c : List Cel) (b13 : Nat) (b15 : Nat) (b16 : Nat) (ρ : Env), σ = setAll ρ [(3, .int .i64 ((q : Nat) : Int)), (4, .int .i64 ((mv : Nat) : Int)), (5, .int .i64 (more)), (13, .pointer (some ⟨b13, 0, none⟩)), (14, vc), (15, .pointer (some ⟨b15, 0, none⟩)), (16, .pointer (some ⟨b16, 0, none⟩))] ∧ (RdS W G vt t.fields) ∧ (RdS W G vm fl.moves) ∧ (t.Ok) ∧ (fl.Ok) ∧ (m.Ok) ∧ (TypOk t) ∧ (q < t.fields.length) ∧ (fl = t.fields.getD q default) ∧ (fl.kind = 4) ∧ (mv < fl.moves.length) ∧ (m = fl.moves.getD mv default) ∧ (m.need = -1 ∨ (0 ≤ m.need ∧ m.need < t.fields.length ∧ (t.fields.getD m.need.toNat default).kind = 1)) ∧ (c.length = t.fields.length) ∧ ((c.getD q default).n = m.frm) ∧ Sep G W ((RowE (α := Cel) own 47 vc c) :: (Blk b13 (t.cells vt).toArray 31) :: (Blk b15 (fl.cells vm).toArray 36) :: (Blk b16 (m.cells).toArray 49) :: Rs) wq) ⟨(d.types.getD q61 default), (cellV W (sb dd0) (so dd0 + q61 * 1 + 0)), q226, (((d.types.getD q61 default).fields).getD q226 default), (cellV W (sb (cellV W (sb dd0) (so dd0 + q61 * 1 + 0))) (so (cellV W (sb dd0) (so dd0 + q61 * 1 + 0)) + q226 * 4 + 3)), q243, (((((d.types.getD q61 default).fields).getD q226 default).moves).getD q243 default), v220, (c2221.set q226 ({ (c2221.getD q226 default) with n := (((((d.types.getD q61 default).fields).getD q226 default).moves).getD q243 default).frm } : Cel)), b95, b236, b252, _, setAll_self ⟨(show _ = (.int .i64 ((q226 : Nat) : Int) : Value) from rfl), (show _ = (.int .i64 ((q243 : Nat) : Int) : Value) from rfl), (show _ = (.int .i64 (more) : Value) from rfl), (show _ = (.pointer (some ⟨b95, 0, none⟩) : Value) from rfl), (show _ = (v220 : Value) from rfl), (show _ = (.pointer (some ⟨b236, 0, none⟩) : Value) from rfl), (show _ = (.pointer (some ⟨b252, 0, none⟩) : Value) from rfl), trivial⟩, hvtC, hvmC, hotC, hofC, homC, htyC, hqC, hflC, hk4C, hmvC, hmC, hndC, hclC, hcnC, hS264⟩ ?_
      clear hvtC hvmC hotC hofC homC htyC hqC hflC hk4C hmvC hmC hndC hclC hcnC
      rintro _ w265 ⟨t, vt, q, fl, vm, mv, m, vc, c, b13, b15, b16, ρc1, rfl, hvt, hvm, hot, hof, hom, hty, hq, hfl, hk4, hmv, hm, hnd, hcl, hcn, hS266⟩
      have hvts : t.fields.length * 48 ≤ 140737488355328 := hvt.small
      have hvms : fl.moves.length * 32 ≤ 140737488355328 := hvm.small
      have hr267 := hS266.row (i := 0) rfl
      have hr267s : c.length * 32 ≤ 140737488355328 := hr267.2
      refine WP_region0 (by kernel_rfl) (fun _ => ?_)
      refine st (ov_loadk (k := 1) Try.isAgg31 Try.sizeOf31 rfl rfl (CellsAt.all (hS266.blk (i := 1) rfl)) ?_)
      refine st (ov_move (v := vc) rfl ?_)
      refine st (ov_move (v := .int .i64 ((q : Nat) : Int)) rfl ?_)
      refine st (ov_move (v := .int .i64 ((mv : Nat) : Int)) rfl ?_)
      obtain ⟨G268, hA270, hB271, hS272, hk273⟩ := hS266.lend
      have hrd274 := RowE.rd hA270
      have hrd274s : c.length * 32 ≤ 140737488355328 := hrd274.small
      refine st (ov_call (f := 10) (vals := [.agg (t.cells vt).toArray, vc, .int .i64 ((q : Nat) : Int), .int .i64 (5), .int .i64 ((mv : Nat) : Int)]) (cap := []) (show _ = (.func (.func 10) #[] #[] : Value) from rfl) rfl Try.call10 (D_May (t := t) (c := c) (vc := vc) (f := ((q : Nat) : Int)) (op := 5) (arg := ((mv : Nat) : Int)) (RdS.base hvt hB271) hot hrd274 (by omega) (by decide) (by omega) hS272 (cn_ask hfl (by omega) (by omega) (by first | omega | (rw [doL_len]; omega)) (by first | omega | (rw [← hm]; first | omega | (rw [doL_len]; omega))))) ?_)
      rintro _ w275 ⟨rfl, hS276⟩
      have hS277 : Sep G W ((RowE (α := Cel) own 47 vc c) :: (Blk b13 (t.cells vt).toArray 31) :: (Blk b15 (fl.cells vm).toArray 36) :: (Blk b16 (m.cells).toArray 49) :: Rs) w275 := hk273 _ _ hS276
      refine st (ov_assign (v := .int .i64 (mayL t c ((q : Nat) : Int) 5 ((mv : Nat) : Int))) rfl ?_)
      refine st_nil ?_
      refine WP_seq ?_
      refine WP_seq ?_
      obtain ⟨G278, hA280, hB281, hS282, hk283⟩ := hS277.lend
      have hrd284 := RowE.rd hA280
      have hrd284s : c.length * 32 ≤ 140737488355328 := hrd284.small
      refine WP_draw4 (WF [fun vals wq => Sep G278 w275 ((Blk b13 (t.cells vt).toArray 31) :: (Blk b15 (fl.cells vm).toArray 36) :: (Blk b16 (m.cells).toArray 49) :: Rs) wq]) (AF [fun vals => vals 0 = (.int .i64 (mayL t c ((q : Nat) : Int) 5 ((mv : Nat) : Int)) : Value), fun vals => vals 1 = (.bool (decide ((mayL t c ((q : Nat) : Int) 5 ((mv : Nat) : Int)) = 0)) : Value), fun vals => vals 2 = (.pointer (some ⟨b16, 2, none⟩) : Value), fun vals => vals 3 = (.int .i64 (m.need) : Value), fun vals => vals 4 = (.bool (decide (m.need = (-1))) : Value), fun vals => vals 5 = (.bool (decide (m.need = (-1))) : Value), fun vals => vals 6 = (if (decide (m.need = (-1))) = false then (vc : Value) else undef), fun vals => vals 7 = (if (decide (m.need = (-1))) = false then (.pointer (some ⟨b16, 2, none⟩) : Value) else undef), fun vals => vals 8 = (if (decide (m.need = (-1))) = false then (.int .i64 (m.need) : Value) else undef), fun vals => vals 9 = (if (decide (m.need = (-1))) = false then (.pointer (some ⟨sb vc, so vc + m.need.toNat * 2, none⟩) : Value) else undef), fun vals => vals 10 = (if (decide (m.need = (-1))) = false then (.pointer (some ⟨sb vc, so vc + m.need.toNat * 2, none⟩) : Value) else undef), fun vals => vals 11 = (if (decide (m.need = (-1))) = false then (.int .i64 ((c.getD m.need.toNat default).n) : Value) else undef), fun vals => vals 12 = (if (decide (m.need = (-1))) = false then (.pointer (some ⟨b16, 3, none⟩) : Value) else undef), fun vals => vals 13 = (if (decide (m.need = (-1))) = false then (.int .i64 (m.least) : Value) else undef), fun vals => vals 14 = (if (decide (m.need = (-1))) = false then (.bool (decide (m.least ≤ ((c.getD m.need.toNat default).n))) : Value) else undef), fun vals => vals 15 = (.bool ((decide (m.need = (-1))) || (decide (m.least ≤ ((c.getD m.need.toNat default).n)))) : Value), fun vals => vals 16 = (.bool (!((decide ((mayL t c ((q : Nat) : Int) 5 ((mv : Nat) : Int)) = 0)) == ((decide (m.need = (-1))) || (decide (m.least ≤ ((c.getD m.need.toNat default).n)))))) : Value), fun vals => vals 17 = (.bool (!((decide ((mayL t c ((q : Nat) : Int) 5 ((mv : Nat) : Int)) = 0)) == ((decide (m.need = (-1))) || (decide (m.least ≤ ((c.getD m.need.toNat default).n)))))) : Value), fun vals => vals 18 = (if (!((decide ((mayL t c ((q : Nat) : Int) 5 ((mv : Nat) : Int)) = 0)) == ((decide (m.need = (-1))) || (decide (m.least ≤ ((c.getD m.need.toNat default).n)))))) = false then (.int .i64 (mayL t c ((q : Nat) : Int) 5 ((mv : Nat) : Int)) : Value) else undef), fun vals => vals 19 = (if (!((decide ((mayL t c ((q : Nat) : Int) 5 ((mv : Nat) : Int)) = 0)) == ((decide (m.need = (-1))) || (decide (m.least ≤ ((c.getD m.need.toNat default).n)))))) = false then (.bool (!decide ((mayL t c ((q : Nat) : Int) 5 ((mv : Nat) : Int)) = 0)) : Value) else undef), fun vals => vals 20 = (if (!((decide ((mayL t c ((q : Nat) : Int) 5 ((mv : Nat) : Int)) = 0)) == ((decide (m.need = (-1))) || (decide (m.least ≤ ((c.getD m.need.toNat default).n)))))) = false then (.bool (!decide ((mayL t c ((q : Nat) : Int) 5 ((mv : Nat) : Int)) = 0)) : Value) else undef), fun vals => vals 21 = (if ((!((decide ((mayL t c ((q : Nat) : Int) 5 ((mv : Nat) : Int)) = 0)) == ((decide (m.need = (-1))) || (decide (m.least ≤ ((c.getD m.need.toNat default).n)))))) = false) ∧ (!decide ((mayL t c ((q : Nat) : Int) 5 ((mv : Nat) : Int)) = 0)) = true then (.int .i64 (mayL t c ((q : Nat) : Int) 5 ((mv : Nat) : Int)) : Value) else undef), fun vals => vals 22 = (if ((!((decide ((mayL t c ((q : Nat) : Int) 5 ((mv : Nat) : Int)) = 0)) == ((decide (m.need = (-1))) || (decide (m.least ≤ ((c.getD m.need.toNat default).n)))))) = false) ∧ (!decide ((mayL t c ((q : Nat) : Int) 5 ((mv : Nat) : Int)) = 0)) = true then (.bool (!decide ((mayL t c ((q : Nat) : Int) 5 ((mv : Nat) : Int)) = 10)) : Value) else undef), fun vals => vals 23 = (if (!((decide ((mayL t c ((q : Nat) : Int) 5 ((mv : Nat) : Int)) = 0)) == ((decide (m.need = (-1))) || (decide (m.least ≤ ((c.getD m.need.toNat default).n)))))) = false then (.bool ((!decide ((mayL t c ((q : Nat) : Int) 5 ((mv : Nat) : Int)) = 0)) && (!decide ((mayL t c ((q : Nat) : Int) 5 ((mv : Nat) : Int)) = 10))) : Value) else undef), fun vals => vals 24 = (.bool ((!((decide ((mayL t c ((q : Nat) : Int) 5 ((mv : Nat) : Int)) = 0)) == ((decide (m.need = (-1))) || (decide (m.least ≤ ((c.getD m.need.toNat default).n)))))) || ((!decide ((mayL t c ((q : Nat) : Int) 5 ((mv : Nat) : Int)) = 0)) && (!decide ((mayL t c ((q : Nat) : Int) 5 ((mv : Nat) : Int)) = 10)))) : Value)]) [[], [0], [], [2], [2, 3], [2, 3, 4], [2, 3, 4, 5], [2, 3, 4, 5], [2, 3, 4, 5, 7], [2, 3, 4, 5, 6, 7, 8], [2, 3, 4, 5, 6, 7, 8, 9], [2, 3, 4, 5, 6, 7, 8, 9, 10], [2, 3, 4, 5], [2, 3, 4, 5, 12], [2, 3, 4, 5, 6, 7, 8, 9, 10, 11, 12, 13], [2, 3, 4, 5, 6, 7, 8, 9, 10, 11, 12, 13, 14], [0, 1, 2, 3, 4, 5, 6, 7, 8, 9, 10, 11, 12, 13, 14, 15], [0, 1, 2, 3, 4, 5, 6, 7, 8, 9, 10, 11, 12, 13, 14, 15, 16], [0, 1, 2, 3, 4, 5, 6, 7, 8, 9, 10, 11, 12, 13, 14, 15, 16, 17], [0, 1, 2, 3, 4, 5, 6, 7, 8, 9, 10, 11, 12, 13, 14, 15, 16, 17, 18], [0, 1, 2, 3, 4, 5, 6, 7, 8, 9, 10, 11, 12, 13, 14, 15, 16, 17, 18, 19], [0, 1, 2, 3, 4, 5, 6, 7, 8, 9, 10, 11, 12, 13, 14, 15, 16, 17, 18, 19, 20], [0, 1, 2, 3, 4, 5, 6, 7, 8, 9, 10, 11, 12, 13, 14, 15, 16, 17, 18, 19, 20, 21], [0, 1, 2, 3, 4, 5, 6, 7, 8, 9, 10, 11, 12, 13, 14, 15, 16, 17, 18, 19, 20, 21, 22], [0, 1, 2, 3, 4, 5, 6, 7, 8, 9, 10, 11, 12, 13, 14, 15, 16, 17, 18, 19, 20, 21, 22, 23]] [] [(0, 0), (0, 0), (0, 0), (0, 0), (0, 0), (0, 0), (0, 0), (0, 0), (0, 0), (0, 0), (0, 0), (0, 0), (0, 0), (0, 0), (0, 0), (0, 0), (0, 0), (0, 0), (0, 0), (0, 0), (0, 0), (0, 0), (0, 0), (0, 0), (0, 0)] (by kernel_rfl) (by kernel_rfl) (by kernel_rfl) rfl (by kernel_rfl) (by kernel_rfl) (fun _ h1 h2 h3 h4 _ => hS282.same h1 h2 h3 h4) ?_ ?_ ⟨?_, ?_, ?_, ?_, ?_, ?_, ?_, ?_, ?_, ?_, ?_, ?_, ?_, ?_, ?_, ?_, ?_, ?_, ?_, ?_, ?_, ?_, ?_, ?_, ?_, trivial⟩ ?_
      · intro k vals vals' w hv h
        match k, h with
        | 0, h => exact h
        | _ + 1, _ => trivial
      · intro i vals vals' hv h
        match i, hv, h with
        | 0, hv, h => exact (hv 0 (.inl rfl)).trans h
        | 1, hv, h => exact (hv 1 (.inl rfl)).trans h
        | 2, hv, h => exact (hv 2 (.inl rfl)).trans h
        | 3, hv, h => exact (hv 3 (.inl rfl)).trans h
        | 4, hv, h => exact (hv 4 (.inl rfl)).trans h
        | 5, hv, h => exact (hv 5 (.inl rfl)).trans h
        | 6, hv, h => exact (hv 6 (.inl rfl)).trans h
        | 7, hv, h => exact (hv 7 (.inl rfl)).trans h
        | 8, hv, h => exact (hv 8 (.inl rfl)).trans h
        | 9, hv, h => exact (hv 9 (.inl rfl)).trans h
        | 10, hv, h => exact (hv 10 (.inl rfl)).trans h
        | 11, hv, h => exact (hv 11 (.inl rfl)).trans h
        | 12, hv, h => exact (hv 12 (.inl rfl)).trans h
        | 13, hv, h => exact (hv 13 (.inl rfl)).trans h
        | 14, hv, h => exact (hv 14 (.inl rfl)).trans h
        | 15, hv, h => exact (hv 15 (.inl rfl)).trans h
        | 16, hv, h => exact (hv 16 (.inl rfl)).trans h
        | 17, hv, h => exact (hv 17 (.inl rfl)).trans h
        | 18, hv, h => exact (hv 18 (.inl rfl)).trans h
        | 19, hv, h => exact (hv 19 (.inl rfl)).trans h
        | 20, hv, h => exact (hv 20 (.inl rfl)).trans h
        | 21, hv, h => exact (hv 21 (.inl rfl)).trans h
        | 22, hv, h => exact (hv 22 (.inl rfl)).trans h
        | 23, hv, h => exact (hv 23 (.inl rfl)).trans h
        | 24, hv, h => exact (hv 24 (.inl rfl)).trans h
        | _ + 25, _, _ => trivial
      · intro k522 vals w523 h526 h527 hW525 hA524
        refine obl rfl ?_
        exact ov_move (v := .int .i64 (mayL t c ((q : Nat) : Int) 5 ((mv : Nat) : Int))) rfl (fun vals' hv _ => ⟨rfl, hv⟩)
      · intro k528 vals w529 h532 h533 hW531 hA530
        obtain rfl : k528 = 0 := Nat.le_antisymm h533 h532
        have hS534 : Sep G278 w275 ((Blk b13 (t.cells vt).toArray 31) :: (Blk b15 (fl.cells vm).toArray 36) :: (Blk b16 (m.cells).toArray 49) :: Rs) w529 := hW531
        have e535 : vals 0 = (.int .i64 (mayL t c ((q : Nat) : Int) 5 ((mv : Nat) : Int)) : Value) := hA530 0 (by decide)
        refine obl rfl ?_
        exact ov_eql (k := .i64) (a := mayL t c ((q : Nat) : Int) 5 ((mv : Nat) : Int)) (b := 0) (show _ = (.int .i64 (mayL t c ((q : Nat) : Int) 5 ((mv : Nat) : Int)) : Value) from e535) rfl (fun vals' hv _ => ⟨rfl, hv⟩)
      · intro k536 vals w537 h540 h541 hW539 hA538
        refine obl rfl ?_
        exact fd49_2 rfl (fun vals' hv _ => ⟨rfl, hv⟩)
      · intro k542 vals w543 h546 h547 hW545 hA544
        obtain rfl : k542 = 0 := Nat.le_antisymm h547 h546
        have hS548 : Sep G278 w275 ((Blk b13 (t.cells vt).toArray 31) :: (Blk b15 (fl.cells vm).toArray 36) :: (Blk b16 (m.cells).toArray 49) :: Rs) w543 := hW545
        have e549 : vals 2 = (.pointer (some ⟨b16, 2, none⟩) : Value) := hA544 2 (by decide)
        refine obl rfl ?_
        exact ov_load1 (v := .int .i64 (m.need)) Try.isAgg3 (show _ = (.pointer (some ⟨b16, 2, none⟩) : Value) from e549) (blk_cellL (hS548.blk (i := 2) rfl) rfl) (fun vals' hv _ => ⟨rfl, hv⟩)
      · intro k550 vals w551 h554 h555 hW553 hA552
        obtain rfl : k550 = 0 := Nat.le_antisymm h555 h554
        have hS556 : Sep G278 w275 ((Blk b13 (t.cells vt).toArray 31) :: (Blk b15 (fl.cells vm).toArray 36) :: (Blk b16 (m.cells).toArray 49) :: Rs) w551 := hW553
        have e557 : vals 3 = (.int .i64 (m.need) : Value) := hA552 3 (by decide)
        refine obl rfl ?_
        exact ov_eql (k := .i64) (a := m.need) (b := -1) (show _ = (.int .i64 (m.need) : Value) from e557) rfl (fun vals' hv _ => ⟨rfl, hv⟩)
      · intro k558 vals w559 h562 h563 hW561 hA560
        have e564 : vals 4 = (.bool (decide (m.need = (-1))) : Value) := hA560 4 (by decide)
        refine obl rfl ?_
        exact ov_move (v := .bool (decide (m.need = (-1)))) (show _ = (.bool (decide (m.need = (-1))) : Value) from e564) (fun vals' hv _ => ⟨rfl, hv⟩)
      · intro k565 vals w566 h569 h570 hW568 hA567
        have e571 : vals 5 = (.bool (decide (m.need = (-1))) : Value) := hA567 5 (by decide)
        refine oblc rfl rfl (show _ = (.bool (decide (m.need = (-1))) : Value) from e571) (fun hb572 => ?_) (fun hb572 => fun vals' hv _ => ⟨trivial, hv.trans (if_neg hb572).symm⟩)
        have hl573 : (decide (m.need = (-1))) = false := hb572
        have hl573 := of_decide_eq_false hl573
        exact ov_move (v := vc) rfl (fun vals' hv _ => ⟨rfl, hv.trans (if_pos hb572).symm⟩)
      · intro k574 vals w575 h578 h579 hW577 hA576
        have e580 : vals 5 = (.bool (decide (m.need = (-1))) : Value) := hA576 5 (by decide)
        refine oblc rfl rfl (show _ = (.bool (decide (m.need = (-1))) : Value) from e580) (fun hb581 => ?_) (fun hb581 => fun vals' hv _ => ⟨trivial, hv.trans (if_neg hb581).symm⟩)
        have hl582 : (decide (m.need = (-1))) = false := hb581
        have hl582 := of_decide_eq_false hl582
        exact fd49_2 rfl (fun vals' hv _ => ⟨rfl, hv.trans (if_pos hb581).symm⟩)
      · intro k583 vals w584 h587 h588 hW586 hA585
        obtain rfl : k583 = 0 := Nat.le_antisymm h588 h587
        have hS589 : Sep G278 w275 ((Blk b13 (t.cells vt).toArray 31) :: (Blk b15 (fl.cells vm).toArray 36) :: (Blk b16 (m.cells).toArray 49) :: Rs) w584 := hW586
        have e590 : vals 5 = (.bool (decide (m.need = (-1))) : Value) := hA585 5 (by decide)
        have e591 : vals 7 = (if (decide (m.need = (-1))) = false then (.pointer (some ⟨b16, 2, none⟩) : Value) else undef) := hA585 7 (by decide)
        refine oblc rfl rfl (show _ = (.bool (decide (m.need = (-1))) : Value) from e590) (fun hb592 => ?_) (fun hb592 => fun vals' hv _ => ⟨trivial, hv.trans (if_neg hb592).symm⟩)
        have hl593 : (decide (m.need = (-1))) = false := hb592
        have hl593 := of_decide_eq_false hl593
        exact ov_load1 (v := .int .i64 (m.need)) Try.isAgg3 (show _ = (.pointer (some ⟨b16, 2, none⟩) : Value) from (Eq.trans e591 (if_pos hb592))) (blk_cellL (hS589.blk (i := 2) rfl) rfl) (fun vals' hv _ => ⟨rfl, hv.trans (if_pos hb592).symm⟩)
      · intro k594 vals w595 h598 h599 hW597 hA596
        obtain rfl : k594 = 0 := Nat.le_antisymm h599 h598
        have hS600 : Sep G278 w275 ((Blk b13 (t.cells vt).toArray 31) :: (Blk b15 (fl.cells vm).toArray 36) :: (Blk b16 (m.cells).toArray 49) :: Rs) w595 := hW597
        have e601 : vals 5 = (.bool (decide (m.need = (-1))) : Value) := hA596 5 (by decide)
        have e602 : vals 6 = (if (decide (m.need = (-1))) = false then (vc : Value) else undef) := hA596 6 (by decide)
        have e603 : vals 8 = (if (decide (m.need = (-1))) = false then (.int .i64 (m.need) : Value) else undef) := hA596 8 (by decide)
        refine oblc rfl rfl (show _ = (.bool (decide (m.need = (-1))) : Value) from e601) (fun hb604 => ?_) (fun hb604 => fun vals' hv _ => ⟨trivial, hv.trans (if_neg hb604).symm⟩)
        have hl605 : (decide (m.need = (-1))) = false := hb604
        have hl605 := of_decide_eq_false hl605
        have hi606 : m.need.toNat < c.length := (by first | omega | (simp only [lens]; omega))
        exact ov_indexAddr (k := 2) (i := m.need) Try.underlying26 Try.sizeOf47 (show _ = (vc : Value) from (Eq.trans e602 (if_pos hb604))) hrd284.sl (show _ = (.int .i64 (m.need) : Value) from (Eq.trans e603 (if_pos hb604))) ⟨by omega, by omega⟩ (fun vals' hv _ => ⟨rfl, hv.trans (if_pos hb604).symm⟩)
      · intro k607 vals w608 h611 h612 hW610 hA609
        have e613 : vals 5 = (.bool (decide (m.need = (-1))) : Value) := hA609 5 (by decide)
        have e614 : vals 9 = (if (decide (m.need = (-1))) = false then (.pointer (some ⟨sb vc, so vc + m.need.toNat * 2, none⟩) : Value) else undef) := hA609 9 (by decide)
        refine oblc rfl rfl (show _ = (.bool (decide (m.need = (-1))) : Value) from e613) (fun hb615 => ?_) (fun hb615 => fun vals' hv _ => ⟨trivial, hv.trans (if_neg hb615).symm⟩)
        have hl616 : (decide (m.need = (-1))) = false := hb615
        have hl616 := of_decide_eq_false hl616
        exact fd47_0 (show _ = (.pointer (some ⟨sb vc, so vc + m.need.toNat * 2, none⟩) : Value) from (Eq.trans e614 (if_pos hb615))) (fun vals' hv _ => ⟨rfl, hv.trans (if_pos hb615).symm⟩)
      · intro k617 vals w618 h621 h622 hW620 hA619
        obtain rfl : k617 = 0 := Nat.le_antisymm h622 h621
        have hS623 : Sep G278 w275 ((Blk b13 (t.cells vt).toArray 31) :: (Blk b15 (fl.cells vm).toArray 36) :: (Blk b16 (m.cells).toArray 49) :: Rs) w618 := hW620
        have e624 : vals 5 = (.bool (decide (m.need = (-1))) : Value) := hA619 5 (by decide)
        have e625 : vals 10 = (if (decide (m.need = (-1))) = false then (.pointer (some ⟨sb vc, so vc + m.need.toNat * 2, none⟩) : Value) else undef) := hA619 10 (by decide)
        refine oblc rfl rfl (show _ = (.bool (decide (m.need = (-1))) : Value) from e624) (fun hb626 => ?_) (fun hb626 => fun vals' hv _ => ⟨trivial, hv.trans (if_neg hb626).symm⟩)
        have hl627 : (decide (m.need = (-1))) = false := hb626
        have hl627 := of_decide_eq_false hl627
        have hi629 : m.need.toNat < c.length := (by first | omega | (simp only [lens]; omega))
        obtain ⟨hce628, hde628_0, hoke628⟩ := hrd284.cel hi629
        rw [← getD_at default hi629] at hce628 hde628_0 hoke628
        have hsm630 : ((c.getD m.need.toNat default).set).length * 8 ≤ 140737488355328 := hde628_0.small
        have hcw631 := hS623.cells hce628 (hrd284.foot (ne_of_lt hi629))
        exact ov_load1 (v := .int .i64 ((c.getD m.need.toNat default).n)) Try.isAgg3 (show _ = (.pointer (some ⟨sb vc, so vc + m.need.toNat * 2, none⟩) : Value) from (Eq.trans e625 (if_pos hb626))) (hcw631.get (j := 0) rfl) (fun vals' hv _ => ⟨rfl, hv.trans (if_pos hb626).symm⟩)
      · intro k632 vals w633 h636 h637 hW635 hA634
        have e638 : vals 5 = (.bool (decide (m.need = (-1))) : Value) := hA634 5 (by decide)
        refine oblc rfl rfl (show _ = (.bool (decide (m.need = (-1))) : Value) from e638) (fun hb639 => ?_) (fun hb639 => fun vals' hv _ => ⟨trivial, hv.trans (if_neg hb639).symm⟩)
        have hl640 : (decide (m.need = (-1))) = false := hb639
        have hl640 := of_decide_eq_false hl640
        exact fd49_3 rfl (fun vals' hv _ => ⟨rfl, hv.trans (if_pos hb639).symm⟩)
      · intro k641 vals w642 h645 h646 hW644 hA643
        obtain rfl : k641 = 0 := Nat.le_antisymm h646 h645
        have hS647 : Sep G278 w275 ((Blk b13 (t.cells vt).toArray 31) :: (Blk b15 (fl.cells vm).toArray 36) :: (Blk b16 (m.cells).toArray 49) :: Rs) w642 := hW644
        have e648 : vals 5 = (.bool (decide (m.need = (-1))) : Value) := hA643 5 (by decide)
        have e649 : vals 12 = (if (decide (m.need = (-1))) = false then (.pointer (some ⟨b16, 3, none⟩) : Value) else undef) := hA643 12 (by decide)
        refine oblc rfl rfl (show _ = (.bool (decide (m.need = (-1))) : Value) from e648) (fun hb650 => ?_) (fun hb650 => fun vals' hv _ => ⟨trivial, hv.trans (if_neg hb650).symm⟩)
        have hl651 : (decide (m.need = (-1))) = false := hb650
        have hl651 := of_decide_eq_false hl651
        exact ov_load1 (v := .int .i64 (m.least)) Try.isAgg3 (show _ = (.pointer (some ⟨b16, 3, none⟩) : Value) from (Eq.trans e649 (if_pos hb650))) (blk_cellL (hS647.blk (i := 2) rfl) rfl) (fun vals' hv _ => ⟨rfl, hv.trans (if_pos hb650).symm⟩)
      · intro k652 vals w653 h656 h657 hW655 hA654
        obtain rfl : k652 = 0 := Nat.le_antisymm h657 h656
        have hS658 : Sep G278 w275 ((Blk b13 (t.cells vt).toArray 31) :: (Blk b15 (fl.cells vm).toArray 36) :: (Blk b16 (m.cells).toArray 49) :: Rs) w653 := hW655
        have e659 : vals 5 = (.bool (decide (m.need = (-1))) : Value) := hA654 5 (by decide)
        have e660 : vals 11 = (if (decide (m.need = (-1))) = false then (.int .i64 ((c.getD m.need.toNat default).n) : Value) else undef) := hA654 11 (by decide)
        have e661 : vals 13 = (if (decide (m.need = (-1))) = false then (.int .i64 (m.least) : Value) else undef) := hA654 13 (by decide)
        refine oblc rfl rfl (show _ = (.bool (decide (m.need = (-1))) : Value) from e659) (fun hb662 => ?_) (fun hb662 => fun vals' hv _ => ⟨trivial, hv.trans (if_neg hb662).symm⟩)
        have hl663 : (decide (m.need = (-1))) = false := hb662
        have hl663 := of_decide_eq_false hl663
        exact ov_geq (k := .i64) (a := (c.getD m.need.toNat default).n) (b := m.least) (show _ = (.int .i64 ((c.getD m.need.toNat default).n) : Value) from (Eq.trans e660 (if_pos hb662))) (show _ = (.int .i64 (m.least) : Value) from (Eq.trans e661 (if_pos hb662))) (fun vals' hv _ => ⟨rfl, hv.trans (if_pos hb662).symm⟩)
      · intro k664 vals w665 h668 h669 hW667 hA666
        have e670 : vals 5 = (.bool (decide (m.need = (-1))) : Value) := hA666 5 (by decide)
        have e671 : vals 14 = (if (decide (m.need = (-1))) = false then (.bool (decide (m.least ≤ ((c.getD m.need.toNat default).n))) : Value) else undef) := hA666 14 (by decide)
        refine obl rfl ?_
        exact ov_pick_or (b := decide (m.need = (-1))) (b' := decide (m.least ≤ ((c.getD m.need.toNat default).n))) (show _ = (.bool (decide (m.need = (-1))) : Value) from e670) (fun hbp => (show _ = (.bool (decide (m.least ≤ ((c.getD m.need.toNat default).n))) : Value) from (Eq.trans e671 (if_pos hbp)))) (fun vals' hv _ => ⟨rfl, hv⟩)
      · intro k672 vals w673 h676 h677 hW675 hA674
        obtain rfl : k672 = 0 := Nat.le_antisymm h677 h676
        have hS678 : Sep G278 w275 ((Blk b13 (t.cells vt).toArray 31) :: (Blk b15 (fl.cells vm).toArray 36) :: (Blk b16 (m.cells).toArray 49) :: Rs) w673 := hW675
        have e679 : vals 1 = (.bool (decide ((mayL t c ((q : Nat) : Int) 5 ((mv : Nat) : Int)) = 0)) : Value) := hA674 1 (by decide)
        have e680 : vals 15 = (.bool ((decide (m.need = (-1))) || (decide (m.least ≤ ((c.getD m.need.toNat default).n)))) : Value) := hA674 15 (by decide)
        refine obl rfl ?_
        exact ov_neqb (a := decide ((mayL t c ((q : Nat) : Int) 5 ((mv : Nat) : Int)) = 0)) (b := (decide (m.need = (-1))) || (decide (m.least ≤ ((c.getD m.need.toNat default).n)))) Try.underlying4 (show _ = (.bool (decide ((mayL t c ((q : Nat) : Int) 5 ((mv : Nat) : Int)) = 0)) : Value) from e679) (show _ = (.bool ((decide (m.need = (-1))) || (decide (m.least ≤ ((c.getD m.need.toNat default).n)))) : Value) from e680) (fun vals' hv _ => ⟨rfl, hv⟩)
      · intro k681 vals w682 h685 h686 hW684 hA683
        have e687 : vals 16 = (.bool (!((decide ((mayL t c ((q : Nat) : Int) 5 ((mv : Nat) : Int)) = 0)) == ((decide (m.need = (-1))) || (decide (m.least ≤ ((c.getD m.need.toNat default).n)))))) : Value) := hA683 16 (by decide)
        refine obl rfl ?_
        exact ov_move (v := .bool (!((decide ((mayL t c ((q : Nat) : Int) 5 ((mv : Nat) : Int)) = 0)) == ((decide (m.need = (-1))) || (decide (m.least ≤ ((c.getD m.need.toNat default).n))))))) (show _ = (.bool (!((decide ((mayL t c ((q : Nat) : Int) 5 ((mv : Nat) : Int)) = 0)) == ((decide (m.need = (-1))) || (decide (m.least ≤ ((c.getD m.need.toNat default).n)))))) : Value) from e687) (fun vals' hv _ => ⟨rfl, hv⟩)
      · intro k688 vals w689 h692 h693 hW691 hA690
        have e694 : vals 17 = (.bool (!((decide ((mayL t c ((q : Nat) : Int) 5 ((mv : Nat) : Int)) = 0)) == ((decide (m.need = (-1))) || (decide (m.least ≤ ((c.getD m.need.toNat default).n)))))) : Value) := hA690 17 (by decide)
        refine oblc rfl rfl (show _ = (.bool (!((decide ((mayL t c ((q : Nat) : Int) 5 ((mv : Nat) : Int)) = 0)) == ((decide (m.need = (-1))) || (decide (m.least ≤ ((c.getD m.need.toNat default).n)))))) : Value) from e694) (fun hb695 => ?_) (fun hb695 => fun vals' hv _ => ⟨trivial, hv.trans (if_neg hb695).symm⟩)
        have hl696 : (!((decide ((mayL t c ((q : Nat) : Int) 5 ((mv : Nat) : Int)) = 0)) == ((decide (m.need = (-1))) || (decide (m.least ≤ ((c.getD m.need.toNat default).n)))))) = false := hb695
        try simp only [bools] at hl696
        exact ov_move (v := .int .i64 (mayL t c ((q : Nat) : Int) 5 ((mv : Nat) : Int))) rfl (fun vals' hv _ => ⟨rfl, hv.trans (if_pos hb695).symm⟩)
      · intro k697 vals w698 h701 h702 hW700 hA699
        obtain rfl : k697 = 0 := Nat.le_antisymm h702 h701
        have hS703 : Sep G278 w275 ((Blk b13 (t.cells vt).toArray 31) :: (Blk b15 (fl.cells vm).toArray 36) :: (Blk b16 (m.cells).toArray 49) :: Rs) w698 := hW700
        have e704 : vals 17 = (.bool (!((decide ((mayL t c ((q : Nat) : Int) 5 ((mv : Nat) : Int)) = 0)) == ((decide (m.need = (-1))) || (decide (m.least ≤ ((c.getD m.need.toNat default).n)))))) : Value) := hA699 17 (by decide)
        have e705 : vals 18 = (if (!((decide ((mayL t c ((q : Nat) : Int) 5 ((mv : Nat) : Int)) = 0)) == ((decide (m.need = (-1))) || (decide (m.least ≤ ((c.getD m.need.toNat default).n)))))) = false then (.int .i64 (mayL t c ((q : Nat) : Int) 5 ((mv : Nat) : Int)) : Value) else undef) := hA699 18 (by decide)
        refine oblc rfl rfl (show _ = (.bool (!((decide ((mayL t c ((q : Nat) : Int) 5 ((mv : Nat) : Int)) = 0)) == ((decide (m.need = (-1))) || (decide (m.least ≤ ((c.getD m.need.toNat default).n)))))) : Value) from e704) (fun hb706 => ?_) (fun hb706 => fun vals' hv _ => ⟨trivial, hv.trans (if_neg hb706).symm⟩)
        have hl707 : (!((decide ((mayL t c ((q : Nat) : Int) 5 ((mv : Nat) : Int)) = 0)) == ((decide (m.need = (-1))) || (decide (m.least ≤ ((c.getD m.need.toNat default).n)))))) = false := hb706
        try simp only [bools] at hl707
        exact ov_neq (k := .i64) (a := mayL t c ((q : Nat) : Int) 5 ((mv : Nat) : Int)) (b := 0) (show _ = (.int .i64 (mayL t c ((q : Nat) : Int) 5 ((mv : Nat) : Int)) : Value) from (Eq.trans e705 (if_pos hb706))) rfl (fun vals' hv _ => ⟨rfl, hv.trans (if_pos hb706).symm⟩)
      · intro k708 vals w709 h712 h713 hW711 hA710
        have e714 : vals 17 = (.bool (!((decide ((mayL t c ((q : Nat) : Int) 5 ((mv : Nat) : Int)) = 0)) == ((decide (m.need = (-1))) || (decide (m.least ≤ ((c.getD m.need.toNat default).n)))))) : Value) := hA710 17 (by decide)
        have e715 : vals 19 = (if (!((decide ((mayL t c ((q : Nat) : Int) 5 ((mv : Nat) : Int)) = 0)) == ((decide (m.need = (-1))) || (decide (m.least ≤ ((c.getD m.need.toNat default).n)))))) = false then (.bool (!decide ((mayL t c ((q : Nat) : Int) 5 ((mv : Nat) : Int)) = 0)) : Value) else undef) := hA710 19 (by decide)
        refine oblc rfl rfl (show _ = (.bool (!((decide ((mayL t c ((q : Nat) : Int) 5 ((mv : Nat) : Int)) = 0)) == ((decide (m.need = (-1))) || (decide (m.least ≤ ((c.getD m.need.toNat default).n)))))) : Value) from e714) (fun hb716 => ?_) (fun hb716 => fun vals' hv _ => ⟨trivial, hv.trans (if_neg hb716).symm⟩)
        have hl717 : (!((decide ((mayL t c ((q : Nat) : Int) 5 ((mv : Nat) : Int)) = 0)) == ((decide (m.need = (-1))) || (decide (m.least ≤ ((c.getD m.need.toNat default).n)))))) = false := hb716
        try simp only [bools] at hl717
        exact ov_move (v := .bool (!decide ((mayL t c ((q : Nat) : Int) 5 ((mv : Nat) : Int)) = 0))) (show _ = (.bool (!decide ((mayL t c ((q : Nat) : Int) 5 ((mv : Nat) : Int)) = 0)) : Value) from (Eq.trans e715 (if_pos hb716))) (fun vals' hv _ => ⟨rfl, hv.trans (if_pos hb716).symm⟩)
      · intro k718 vals w719 h722 h723 hW721 hA720
        have e724 : vals 20 = (if (!((decide ((mayL t c ((q : Nat) : Int) 5 ((mv : Nat) : Int)) = 0)) == ((decide (m.need = (-1))) || (decide (m.least ≤ ((c.getD m.need.toNat default).n)))))) = false then (.bool (!decide ((mayL t c ((q : Nat) : Int) 5 ((mv : Nat) : Int)) = 0)) : Value) else undef) := hA720 20 (by decide)
        refine oblcP rfl rfl e724 (fun hb725 => ?_) (fun hb725 => fun vals' hv _ => ⟨trivial, hv.trans (if_neg hb725).symm⟩)
        have hl726 : (!((decide ((mayL t c ((q : Nat) : Int) 5 ((mv : Nat) : Int)) = 0)) == ((decide (m.need = (-1))) || (decide (m.least ≤ ((c.getD m.need.toNat default).n)))))) = false := hb725.1
        try simp only [bools] at hl726
        have hl727 : (!decide ((mayL t c ((q : Nat) : Int) 5 ((mv : Nat) : Int)) = 0)) = true := hb725.2
        have hl727 := ndec_true hl727
        exact ov_move (v := .int .i64 (mayL t c ((q : Nat) : Int) 5 ((mv : Nat) : Int))) rfl (fun vals' hv _ => ⟨rfl, hv.trans (if_pos hb725).symm⟩)
      · intro k728 vals w729 h732 h733 hW731 hA730
        obtain rfl : k728 = 0 := Nat.le_antisymm h733 h732
        have hS734 : Sep G278 w275 ((Blk b13 (t.cells vt).toArray 31) :: (Blk b15 (fl.cells vm).toArray 36) :: (Blk b16 (m.cells).toArray 49) :: Rs) w729 := hW731
        have e735 : vals 20 = (if (!((decide ((mayL t c ((q : Nat) : Int) 5 ((mv : Nat) : Int)) = 0)) == ((decide (m.need = (-1))) || (decide (m.least ≤ ((c.getD m.need.toNat default).n)))))) = false then (.bool (!decide ((mayL t c ((q : Nat) : Int) 5 ((mv : Nat) : Int)) = 0)) : Value) else undef) := hA730 20 (by decide)
        have e736 : vals 21 = (if ((!((decide ((mayL t c ((q : Nat) : Int) 5 ((mv : Nat) : Int)) = 0)) == ((decide (m.need = (-1))) || (decide (m.least ≤ ((c.getD m.need.toNat default).n)))))) = false) ∧ (!decide ((mayL t c ((q : Nat) : Int) 5 ((mv : Nat) : Int)) = 0)) = true then (.int .i64 (mayL t c ((q : Nat) : Int) 5 ((mv : Nat) : Int)) : Value) else undef) := hA730 21 (by decide)
        refine oblcP rfl rfl e735 (fun hb737 => ?_) (fun hb737 => fun vals' hv _ => ⟨trivial, hv.trans (if_neg hb737).symm⟩)
        have hl738 : (!((decide ((mayL t c ((q : Nat) : Int) 5 ((mv : Nat) : Int)) = 0)) == ((decide (m.need = (-1))) || (decide (m.least ≤ ((c.getD m.need.toNat default).n)))))) = false := hb737.1
        try simp only [bools] at hl738
        have hl739 : (!decide ((mayL t c ((q : Nat) : Int) 5 ((mv : Nat) : Int)) = 0)) = true := hb737.2
        have hl739 := ndec_true hl739
        exact ov_neq (k := .i64) (a := mayL t c ((q : Nat) : Int) 5 ((mv : Nat) : Int)) (b := 10) (show _ = (.int .i64 (mayL t c ((q : Nat) : Int) 5 ((mv : Nat) : Int)) : Value) from (Eq.trans e736 (if_pos ⟨hb737.1, hb737.2⟩))) rfl (fun vals' hv _ => ⟨rfl, hv.trans (if_pos hb737).symm⟩)
      · intro k740 vals w741 h744 h745 hW743 hA742
        have e746 : vals 17 = (.bool (!((decide ((mayL t c ((q : Nat) : Int) 5 ((mv : Nat) : Int)) = 0)) == ((decide (m.need = (-1))) || (decide (m.least ≤ ((c.getD m.need.toNat default).n)))))) : Value) := hA742 17 (by decide)
        have e747 : vals 20 = (if (!((decide ((mayL t c ((q : Nat) : Int) 5 ((mv : Nat) : Int)) = 0)) == ((decide (m.need = (-1))) || (decide (m.least ≤ ((c.getD m.need.toNat default).n)))))) = false then (.bool (!decide ((mayL t c ((q : Nat) : Int) 5 ((mv : Nat) : Int)) = 0)) : Value) else undef) := hA742 20 (by decide)
        have e748 : vals 22 = (if ((!((decide ((mayL t c ((q : Nat) : Int) 5 ((mv : Nat) : Int)) = 0)) == ((decide (m.need = (-1))) || (decide (m.least ≤ ((c.getD m.need.toNat default).n)))))) = false) ∧ (!decide ((mayL t c ((q : Nat) : Int) 5 ((mv : Nat) : Int)) = 0)) = true then (.bool (!decide ((mayL t c ((q : Nat) : Int) 5 ((mv : Nat) : Int)) = 10)) : Value) else undef) := hA742 22 (by decide)
        refine oblc rfl rfl (show _ = (.bool (!((decide ((mayL t c ((q : Nat) : Int) 5 ((mv : Nat) : Int)) = 0)) == ((decide (m.need = (-1))) || (decide (m.least ≤ ((c.getD m.need.toNat default).n)))))) : Value) from e746) (fun hb749 => ?_) (fun hb749 => fun vals' hv _ => ⟨trivial, hv.trans (if_neg hb749).symm⟩)
        have hl750 : (!((decide ((mayL t c ((q : Nat) : Int) 5 ((mv : Nat) : Int)) = 0)) == ((decide (m.need = (-1))) || (decide (m.least ≤ ((c.getD m.need.toNat default).n)))))) = false := hb749
        try simp only [bools] at hl750
        exact ov_pick_and (b := !decide ((mayL t c ((q : Nat) : Int) 5 ((mv : Nat) : Int)) = 0)) (b' := !decide ((mayL t c ((q : Nat) : Int) 5 ((mv : Nat) : Int)) = 10)) (show _ = (.bool (!decide ((mayL t c ((q : Nat) : Int) 5 ((mv : Nat) : Int)) = 0)) : Value) from (Eq.trans e747 (if_pos hb749))) (fun hbp => (show _ = (.bool (!decide ((mayL t c ((q : Nat) : Int) 5 ((mv : Nat) : Int)) = 10)) : Value) from (Eq.trans e748 (if_pos ⟨hb749, hbp⟩)))) (fun vals' hv _ => ⟨rfl, hv.trans (if_pos hb749).symm⟩)
      · intro k751 vals w752 h755 h756 hW754 hA753
        have e757 : vals 17 = (.bool (!((decide ((mayL t c ((q : Nat) : Int) 5 ((mv : Nat) : Int)) = 0)) == ((decide (m.need = (-1))) || (decide (m.least ≤ ((c.getD m.need.toNat default).n)))))) : Value) := hA753 17 (by decide)
        have e758 : vals 23 = (if (!((decide ((mayL t c ((q : Nat) : Int) 5 ((mv : Nat) : Int)) = 0)) == ((decide (m.need = (-1))) || (decide (m.least ≤ ((c.getD m.need.toNat default).n)))))) = false then (.bool ((!decide ((mayL t c ((q : Nat) : Int) 5 ((mv : Nat) : Int)) = 0)) && (!decide ((mayL t c ((q : Nat) : Int) 5 ((mv : Nat) : Int)) = 10))) : Value) else undef) := hA753 23 (by decide)
        refine obl rfl ?_
        exact ov_pick_or (b := !((decide ((mayL t c ((q : Nat) : Int) 5 ((mv : Nat) : Int)) = 0)) == ((decide (m.need = (-1))) || (decide (m.least ≤ ((c.getD m.need.toNat default).n)))))) (b' := (!decide ((mayL t c ((q : Nat) : Int) 5 ((mv : Nat) : Int)) = 0)) && (!decide ((mayL t c ((q : Nat) : Int) 5 ((mv : Nat) : Int)) = 10))) (show _ = (.bool (!((decide ((mayL t c ((q : Nat) : Int) 5 ((mv : Nat) : Int)) = 0)) == ((decide (m.need = (-1))) || (decide (m.least ≤ ((c.getD m.need.toNat default).n)))))) : Value) from e757) (fun hbp => (show _ = (.bool ((!decide ((mayL t c ((q : Nat) : Int) 5 ((mv : Nat) : Int)) = 0)) && (!decide ((mayL t c ((q : Nat) : Int) 5 ((mv : Nat) : Int)) = 10))) : Value) from (Eq.trans e758 (if_pos hbp)))) (fun vals' hv _ => ⟨rfl, hv⟩)
      intro vals w759 hW760 hA761
      have hS762 : Sep G278 w275 ((Blk b13 (t.cells vt).toArray 31) :: (Blk b15 (fl.cells vm).toArray 36) :: (Blk b16 (m.cells).toArray 49) :: Rs) w759 := hW760
      have e763 : vals 24 = (.bool ((!((decide ((mayL t c ((q : Nat) : Int) 5 ((mv : Nat) : Int)) = 0)) == ((decide (m.need = (-1))) || (decide (m.least ≤ ((c.getD m.need.toNat default).n)))))) || ((!decide ((mayL t c ((q : Nat) : Int) 5 ((mv : Nat) : Int)) = 0)) && (!decide ((mayL t c ((q : Nat) : Int) 5 ((mv : Nat) : Int)) = 10)))) : Value) := hA761 24 (by decide)
      refine st_env (kv := [(3, .int .i64 ((q : Nat) : Int)), (4, .int .i64 ((mv : Nat) : Int)), (5, .int .i64 (more)), (13, .pointer (some ⟨b13, 0, none⟩)), (14, vc), (15, .pointer (some ⟨b15, 0, none⟩)), (16, .pointer (some ⟨b16, 0, none⟩)), (68, .agg (t.cells vt).toArray), (69, vc), (70, .int .i64 ((q : Nat) : Int)), (71, .int .i64 ((mv : Nat) : Int)), (72, .int .i64 (mayL t c ((q : Nat) : Int) 5 ((mv : Nat) : Int))), (17, .int .i64 (mayL t c ((q : Nat) : Int) 5 ((mv : Nat) : Int))), (97, .bool ((!((decide ((mayL t c ((q : Nat) : Int) 5 ((mv : Nat) : Int)) = 0)) == ((decide (m.need = (-1))) || (decide (m.least ≤ ((c.getD m.need.toNat default).n)))))) || ((!decide ((mayL t c ((q : Nat) : Int) 5 ((mv : Nat) : Int)) = 0)) && (!decide ((mayL t c ((q : Nat) : Int) 5 ((mv : Nat) : Int)) = 10)))))]) ⟨rfl, rfl, rfl, rfl, rfl, rfl, rfl, rfl, rfl, rfl, rfl, rfl, rfl, (by exact e763), trivial⟩ (fun ρw759 => ?_)
      refine st_nil ?_
      cases hc764 : (!((decide ((mayL t c ((q : Nat) : Int) 5 ((mv : Nat) : Int)) = 0)) == ((decide (m.need = (-1))) || (decide (m.least ≤ ((c.getD m.need.toNat default).n)))))) || ((!decide ((mayL t c ((q : Nat) : Int) 5 ((mv : Nat) : Int)) = 0)) && (!decide ((mayL t c ((q : Nat) : Int) 5 ((mv : Nat) : Int)) = 10)))
      · skip
        try simp only [bools] at hc764
        refine WP_cond_f rfl ?_
        refine WP_skip ?_
        refine WP_seq ?_
        refine WP_seq ?_
        refine WP_region (by kernel_rfl) ?_
        refine st (fd49_2 rfl ?_)
        refine st (ov_load1 (v := .int .i64 (m.need)) Try.isAgg3 rfl (blk_cellL (hS762.blk (i := 2) rfl) rfl) ?_)
        refine st (ov_geq (k := .i64) (a := m.need) (b := 0) rfl rfl ?_)
        refine st (ov_move (v := .bool (decide (0 ≤ m.need))) rfl ?_)
        refine stc (V := .int .i64 (more)) rfl rfl (fun hb765 => ?_) ?_
        · have hl766 : (decide (0 ≤ m.need)) = true := hb765
          have hl766 := of_decide_eq_true hl766
          exact ov_move (v := .int .i64 (more)) rfl ⟨rfl, rfl⟩
        refine stc (V := .bool (decide (0 < more))) rfl rfl (fun hb767 => ?_) ?_
        · have hl768 : (decide (0 ≤ m.need)) = true := hb767
          have hl768 := of_decide_eq_true hl768
          exact ov_gtr (k := .i64) (a := more) (b := 0) (show _ = (.int .i64 (more) : Value) from (if_pos hb767)) rfl ⟨rfl, rfl⟩
        refine st (ov_pick_and (b := decide (0 ≤ m.need)) (b' := decide (0 < more)) rfl (fun hbp => (show _ = (.bool (decide (0 < more)) : Value) from (if_pos hbp))) ?_)
        refine st (ov_move (v := .bool ((decide (0 ≤ m.need)) && (decide (0 < more)))) rfl ?_)
        refine stc (V := .agg (t.cells vt).toArray) rfl rfl (fun hb769 => ?_) ?_
        · have hl770 : ((decide (0 ≤ m.need)) && (decide (0 < more))) = true := hb769
          try simp only [bools] at hl770
          exact ov_loadk (k := 1) Try.isAgg31 Try.sizeOf31 rfl rfl (CellsAt.all (hS762.blk (i := 0) rfl)) ⟨rfl, rfl⟩
        refine stc (V := vc) rfl rfl (fun hb771 => ?_) ?_
        · have hl772 : ((decide (0 ≤ m.need)) && (decide (0 < more))) = true := hb771
          try simp only [bools] at hl772
          exact ov_move (v := vc) rfl ⟨rfl, rfl⟩
        refine stc (V := .pointer (some ⟨b16, 2, none⟩)) rfl rfl (fun hb773 => ?_) ?_
        · have hl774 : ((decide (0 ≤ m.need)) && (decide (0 < more))) = true := hb773
          try simp only [bools] at hl774
          exact fd49_2 rfl ⟨rfl, rfl⟩
        refine stc (V := .int .i64 (m.need)) rfl rfl (fun hb775 => ?_) ?_
        · have hl776 : ((decide (0 ≤ m.need)) && (decide (0 < more))) = true := hb775
          try simp only [bools] at hl776
          exact ov_load1 (v := .int .i64 (m.need)) Try.isAgg3 (show _ = (.pointer (some ⟨b16, 2, none⟩) : Value) from (if_pos hb775)) (blk_cellL (hS762.blk (i := 2) rfl) rfl) ⟨rfl, rfl⟩
        refine stc (V := .int .i64 (more)) rfl rfl (fun hb777 => ?_) ?_
        · have hl778 : ((decide (0 ≤ m.need)) && (decide (0 < more))) = true := hb777
          try simp only [bools] at hl778
          exact ov_move (v := .int .i64 (more)) rfl ⟨rfl, rfl⟩
        refine stcw (V := .int .i64 (mayL t c m.need 1 more)) (fun _ wq => Sep G278 w275 ((Blk b13 (t.cells vt).toArray 31) :: (Blk b15 (fl.cells vm).toArray 36) :: (Blk b16 (m.cells).toArray 49) :: Rs) wq) hS762 rfl rfl (fun hb779 => ?_) (fun w783 hS784 => ?_)
        · have hl780 : ((decide (0 ≤ m.need)) && (decide (0 < more))) = true := hb779
          try simp only [bools] at hl780
          refine (ov_call (f := 10) (vals := [.agg (t.cells vt).toArray, vc, .int .i64 (m.need), .int .i64 (1), .int .i64 (more)]) (cap := []) (show _ = (.func (.func 10) #[] #[] : Value) from rfl) (mapL ⟨(show _ = (.agg (t.cells vt).toArray : Value) from (if_pos hb779)), (show _ = (vc : Value) from (if_pos hb779)), (show _ = (.int .i64 (m.need) : Value) from (if_pos hb779)), rfl, (show _ = (.int .i64 (more) : Value) from (if_pos hb779)), trivial⟩) Try.call10 (D_May (t := t) (c := c) (vc := vc) (f := m.need) (op := 1) (arg := more) (RdS.base hvt hB281) hot hrd284 hom.need (by decide) hmore hS762 (⟨by omega, by omega, by first | omega | (rw [doL_len]; omega), fun h => by omega, fun h => by omega⟩)) ?_)
          rintro _ w781 ⟨rfl, hS782⟩
          exact ⟨rfl, hS782⟩
        refine stc (V := .bool (decide ((mayL t c m.need 1 more) = 0))) rfl rfl (fun hb785 => ?_) ?_
        · have hl786 : ((decide (0 ≤ m.need)) && (decide (0 < more))) = true := hb785
          try simp only [bools] at hl786
          exact ov_eql (k := .i64) (a := mayL t c m.need 1 more) (b := 0) (show _ = (.int .i64 (mayL t c m.need 1 more) : Value) from (if_pos hb785)) rfl ⟨rfl, rfl⟩
        refine st (ov_pick_and (b := (decide (0 ≤ m.need)) && (decide (0 < more))) (b' := decide ((mayL t c m.need 1 more) = 0)) rfl (fun hbp => (show _ = (.bool (decide ((mayL t c m.need 1 more) = 0)) : Value) from (if_pos hbp))) ?_)
        refine st_nil ?_
        refine WP_join (fun σ wq => ∃  (ρ : Env), σ = setAll ρ [(3, .int .i64 ((q : Nat) : Int)), (4, .int .i64 ((mv : Nat) : Int)), (5, .int .i64 (more)), (13, .pointer (some ⟨b13, 0, none⟩)), (14, vc), (15, .pointer (some ⟨b15, 0, none⟩)), (16, .pointer (some ⟨b16, 0, none⟩)), (17, .int .i64 (mayL t c ((q : Nat) : Int) 5 ((mv : Nat) : Int)))] ∧ Sep G278 w275 ((Blk b13 (t.cells vt).toArray 31) :: (Blk b15 (fl.cells vm).toArray 36) :: (Blk b16 (m.cells).toArray 49) :: Rs) wq) ?_ ?_
        · skip
          cases hc787 : ((decide (0 ≤ m.need)) && (decide (0 < more))) && (decide ((mayL t c m.need 1 more) = 0))
          · skip
            try simp only [bools] at hc787
            refine WP_cond_f rfl ?_
            refine WP_skip ?_
            exact ⟨rfl, _, setAll_self ⟨(show _ = (.int .i64 ((q : Nat) : Int) : Value) from rfl), (show _ = (.int .i64 ((mv : Nat) : Int) : Value) from rfl), (show _ = (.int .i64 (more) : Value) from rfl), (show _ = (.pointer (some ⟨b13, 0, none⟩) : Value) from rfl), (show _ = (vc : Value) from rfl), (show _ = (.pointer (some ⟨b15, 0, none⟩) : Value) from rfl), (show _ = (.pointer (some ⟨b16, 0, none⟩) : Value) from rfl), (show _ = (.int .i64 (mayL t c ((q : Nat) : Int) 5 ((mv : Nat) : Int)) : Value) from rfl), trivial⟩, hS784⟩
          · skip
            try simp only [bools] at hc787
            refine WP_cond_t rfl ?_
            refine WP_seq ?_
            refine WP_region0 (by kernel_rfl) (fun _ => ?_)
            refine st (ov_loadk (k := 1) Try.isAgg31 Try.sizeOf31 rfl rfl (CellsAt.all (hS784.blk (i := 0) rfl)) ?_)
            refine st (ov_move (v := vc) rfl ?_)
            refine st (fd49_2 rfl ?_)
            refine st (ov_load1 (v := .int .i64 (m.need)) Try.isAgg3 rfl (blk_cellL (hS784.blk (i := 2) rfl) rfl) ?_)
            refine st (ov_move (v := .int .i64 (more)) rfl ?_)
            refine st (ov_call (f := 11) (vals := [.agg (t.cells vt).toArray, vc, .int .i64 (m.need), .int .i64 (1), .int .i64 (more)]) (cap := []) (show _ = (.func (.func 11) #[] #[] : Value) from rfl) rfl Try.call11 (D_Do (t := t) (c := c) (vc := vc) (f := m.need) (op := 1) (arg := more) (RdS.base hvt hB281) hot hrd284 hom.need (by decide) hmore hS784 (⟨by omega, by omega, by first | omega | (rw [doL_len]; omega), fun h => by omega, fun h => by omega⟩) ((fun h => by omega))) ?_)
            rintro v788 w789 ⟨_, rfl, hS790⟩
            have hr791 := hS790.row (i := 0) rfl
            have hr791s : (doL t c m.need 1 more).length * 32 ≤ 140737488355328 := hr791.2
            refine st (ov_assign (v := v788) rfl ?_)
            refine st_nil ?_
            refine WP_seq ?_
            refine WP_region (by kernel_rfl) ?_
            refine st (ov_move (v := .int .i64 (mayL t c ((q : Nat) : Int) 5 ((mv : Nat) : Int))) rfl ?_)
            refine st (ov_eql (k := .i64) (a := mayL t c ((q : Nat) : Int) 5 ((mv : Nat) : Int)) (b := 0) rfl rfl ?_)
            refine st (ov_move (v := .bool (decide ((mayL t c ((q : Nat) : Int) 5 ((mv : Nat) : Int)) = 0))) rfl ?_)
            refine stc (V := .agg (t.cells vt).toArray) rfl rfl (fun hb792 => ?_) ?_
            · have hl793 : (decide ((mayL t c ((q : Nat) : Int) 5 ((mv : Nat) : Int)) = 0)) = true := hb792
              have hl793 := of_decide_eq_true hl793
              exact ov_loadk (k := 1) Try.isAgg31 Try.sizeOf31 rfl rfl (CellsAt.all (hS790.blk (i := 1) rfl)) ⟨rfl, rfl⟩
            refine stc (V := v788) rfl rfl (fun hb794 => ?_) ?_
            · have hl795 : (decide ((mayL t c ((q : Nat) : Int) 5 ((mv : Nat) : Int)) = 0)) = true := hb794
              have hl795 := of_decide_eq_true hl795
              exact ov_move (v := v788) rfl ⟨rfl, rfl⟩
            refine stc (V := .int .i64 ((q : Nat) : Int)) rfl rfl (fun hb796 => ?_) ?_
            · have hl797 : (decide ((mayL t c ((q : Nat) : Int) 5 ((mv : Nat) : Int)) = 0)) = true := hb796
              have hl797 := of_decide_eq_true hl797
              exact ov_move (v := .int .i64 ((q : Nat) : Int)) rfl ⟨rfl, rfl⟩
            refine stc (V := .int .i64 ((mv : Nat) : Int)) rfl rfl (fun hb798 => ?_) ?_
            · have hl799 : (decide ((mayL t c ((q : Nat) : Int) 5 ((mv : Nat) : Int)) = 0)) = true := hb798
              have hl799 := of_decide_eq_true hl799
              exact ov_move (v := .int .i64 ((mv : Nat) : Int)) rfl ⟨rfl, rfl⟩
            refine stcw (V := .int .i64 (mayL t (doL t c m.need 1 more) ((q : Nat) : Int) 5 ((mv : Nat) : Int))) (fun _ wq => Sep G278 w275 ((RowE (α := Cel) own 47 v788 (doL t c m.need 1 more)) :: (Blk b13 (t.cells vt).toArray 31) :: (Blk b15 (fl.cells vm).toArray 36) :: (Blk b16 (m.cells).toArray 49) :: Rs) wq) hS790 rfl rfl (fun hb800 => ?_) (fun w812 hS813 => ?_)
            · have hl801 : (decide ((mayL t c ((q : Nat) : Int) 5 ((mv : Nat) : Int)) = 0)) = true := hb800
              have hl801 := of_decide_eq_true hl801
              obtain ⟨G802, hA804, hB805, hS806, hk807⟩ := hS790.lend
              have hrd808 := RowE.rd hA804
              have hrd808s : (doL t c m.need 1 more).length * 32 ≤ 140737488355328 := hrd808.small
              refine (ov_call (f := 10) (vals := [.agg (t.cells vt).toArray, v788, .int .i64 ((q : Nat) : Int), .int .i64 (5), .int .i64 ((mv : Nat) : Int)]) (cap := []) (show _ = (.func (.func 10) #[] #[] : Value) from rfl) (mapL ⟨(show _ = (.agg (t.cells vt).toArray : Value) from (if_pos hb800)), (show _ = (v788 : Value) from (if_pos hb800)), (show _ = (.int .i64 ((q : Nat) : Int) : Value) from (if_pos hb800)), rfl, (show _ = (.int .i64 ((mv : Nat) : Int) : Value) from (if_pos hb800)), trivial⟩) Try.call10 (D_May (t := t) (c := (doL t c m.need 1 more)) (vc := v788) (f := ((q : Nat) : Int)) (op := 5) (arg := ((mv : Nat) : Int)) (RdS.base (RdS.base hvt hB281) hB805) hot hrd808 (by omega) (by decide) (by omega) hS806 (cn_ask hfl (by omega) (by omega) (by first | omega | (rw [doL_len]; omega)) (by first | omega | (rw [← hm]; first | omega | (rw [doL_len]; omega))))) ?_)
              rintro _ w809 ⟨rfl, hS810⟩
              have hS811 : Sep G278 w275 ((RowE (α := Cel) own 47 v788 (doL t c m.need 1 more)) :: (Blk b13 (t.cells vt).toArray 31) :: (Blk b15 (fl.cells vm).toArray 36) :: (Blk b16 (m.cells).toArray 49) :: Rs) w809 := hk807 _ _ hS810
              exact ⟨rfl, hS811⟩
            refine stc (V := .bool (!decide ((mayL t (doL t c m.need 1 more) ((q : Nat) : Int) 5 ((mv : Nat) : Int)) = 0))) rfl rfl (fun hb814 => ?_) ?_
            · have hl815 : (decide ((mayL t c ((q : Nat) : Int) 5 ((mv : Nat) : Int)) = 0)) = true := hb814
              have hl815 := of_decide_eq_true hl815
              exact ov_neq (k := .i64) (a := mayL t (doL t c m.need 1 more) ((q : Nat) : Int) 5 ((mv : Nat) : Int)) (b := 0) (show _ = (.int .i64 (mayL t (doL t c m.need 1 more) ((q : Nat) : Int) 5 ((mv : Nat) : Int)) : Value) from (if_pos hb814)) rfl ⟨rfl, rfl⟩
            refine st (ov_pick_and (b := decide ((mayL t c ((q : Nat) : Int) 5 ((mv : Nat) : Int)) = 0)) (b' := !decide ((mayL t (doL t c m.need 1 more) ((q : Nat) : Int) 5 ((mv : Nat) : Int)) = 0)) rfl (fun hbp => (show _ = (.bool (!decide ((mayL t (doL t c m.need 1 more) ((q : Nat) : Int) 5 ((mv : Nat) : Int)) = 0)) : Value) from (if_pos hbp))) ?_)
            refine st_nil ?_
            cases hc816 : (decide ((mayL t c ((q : Nat) : Int) 5 ((mv : Nat) : Int)) = 0)) && (!decide ((mayL t (doL t c m.need 1 more) ((q : Nat) : Int) 5 ((mv : Nat) : Int)) = 0))
            · skip
              try simp only [bools] at hc816
              refine WP_cond_f rfl ?_
              refine WP_skip ?_
              have hS817 : Sep G278 w275 ((Blk b13 (t.cells vt).toArray 31) :: (Blk b15 (fl.cells vm).toArray 36) :: (Blk b16 (m.cells).toArray 49) :: Rs) w812 := hS813.sel 4 [1, 2, 3] (Nat.le_add_left _ _) rfl rfl
              exact ⟨rfl, _, setAll_self ⟨(show _ = (.int .i64 ((q : Nat) : Int) : Value) from rfl), (show _ = (.int .i64 ((mv : Nat) : Int) : Value) from rfl), (show _ = (.int .i64 (more) : Value) from rfl), (show _ = (.pointer (some ⟨b13, 0, none⟩) : Value) from rfl), (show _ = (vc : Value) from rfl), (show _ = (.pointer (some ⟨b15, 0, none⟩) : Value) from rfl), (show _ = (.pointer (some ⟨b16, 0, none⟩) : Value) from rfl), (show _ = (.int .i64 (mayL t c ((q : Nat) : Int) 5 ((mv : Nat) : Int)) : Value) from rfl), trivial⟩, hS817⟩
            · skip
              try simp only [bools] at hc816
              have hne9 : m.need.toNat ≠ q := fun e => by have h8 := hnd; rw [e, ← hfl] at h8; omega
              have hi819 : m.need.toNat < c.length := (by first | omega | (simp only [lens]; omega))
              obtain ⟨hce818, hde818_0, hoke818⟩ := hrd284.cel hi819
              rw [← getD_at default hi819] at hce818 hde818_0 hoke818
              have hsm820 : ((c.getD m.need.toNat default).set).length * 8 ≤ 140737488355328 := hde818_0.small
              have hcw821 := hS813.cells hce818 (hrd284.foot (ne_of_lt hi819))
              exact absurd (cn_more hfl hm hc816.1 (by have h9 := hc787; exact h9.2) hoke818.n hmore (by omega) (by omega) hne9 (by omega)) hc816.2
        rintro _ w822 ⟨ρj2, rfl, hS823⟩
        refine WP_seq ?_
        refine WP_seq ?_
        refine WP_region0 (by kernel_rfl) (fun _ => ?_)
        refine st (ov_move (v := .int .i64 (mayL t c ((q : Nat) : Int) 5 ((mv : Nat) : Int))) rfl ?_)
        refine st (ov_neq (k := .i64) (a := mayL t c ((q : Nat) : Int) 5 ((mv : Nat) : Int)) (b := 0) rfl rfl ?_)
        refine st_nil ?_
        cases hc824 : !decide ((mayL t c ((q : Nat) : Int) 5 ((mv : Nat) : Int)) = 0)
        · skip
          have hc824 := ndec_false hc824
          refine WP_cond_f rfl ?_
          refine WP_skip ?_
          refine WP_seq ?_
          refine WP_region0 (by kernel_rfl) (fun _ => ?_)
          refine st (ov_loadk (k := 1) Try.isAgg31 Try.sizeOf31 rfl rfl (CellsAt.all (hS823.blk (i := 0) rfl)) ?_)
          refine st (ov_move (v := vc) rfl ?_)
          refine st (ov_move (v := .int .i64 ((q : Nat) : Int)) rfl ?_)
          refine st (ov_move (v := .int .i64 ((mv : Nat) : Int)) rfl ?_)
          refine st (ov_call (f := 11) (vals := [.agg (t.cells vt).toArray, vc, .int .i64 ((q : Nat) : Int), .int .i64 (5), .int .i64 ((mv : Nat) : Int)]) (cap := []) (show _ = (.func (.func 11) #[] #[] : Value) from rfl) rfl Try.call11 (D_Do (t := t) (c := c) (vc := vc) (f := ((q : Nat) : Int)) (op := 5) (arg := ((mv : Nat) : Int)) (RdS.base hvt hB281) hot hrd284 (by omega) (by decide) (by omega) hS823 (cn_ask hfl (by omega) (by omega) (by first | omega | (rw [doL_len]; omega)) (by first | omega | (rw [← hm]; first | omega | (rw [doL_len]; omega)))) ((fun h => by omega))) ?_)
          rintro v825 w826 ⟨_, rfl, hS827⟩
          have hr828 := hS827.row (i := 0) rfl
          have hr828s : (doL t c ((q : Nat) : Int) 5 ((mv : Nat) : Int)).length * 32 ≤ 140737488355328 := hr828.2
          refine st (ov_assign (v := v825) rfl ?_)
          refine st_nil ?_
          refine WP_seq ?_
          refine WP_seq ?_
          obtain ⟨G829, hA831, hB832, hS833, hk834⟩ := hS827.lend
          have hrd835 := RowE.rd hA831
          have hrd835s : (doL t c ((q : Nat) : Int) 5 ((mv : Nat) : Int)).length * 32 ≤ 140737488355328 := hrd835.small
          refine WP_draw4 (WF [fun vals wq => Sep G829 w826 ((Blk b13 (t.cells vt).toArray 31) :: (Blk b15 (fl.cells vm).toArray 36) :: (Blk b16 (m.cells).toArray 49) :: Rs) wq]) (AF [fun vals => vals 0 = (v825 : Value), fun vals => vals 1 = (.int .i64 (((doL t c ((q : Nat) : Int) 5 ((mv : Nat) : Int)).length : Nat) : Int) : Value), fun vals => vals 2 = (vc : Value), fun vals => vals 3 = (.int .i64 ((c.length : Nat) : Int) : Value), fun vals => vals 4 = (.bool (!decide ((((doL t c ((q : Nat) : Int) 5 ((mv : Nat) : Int)).length : Nat) : Int) = ((c.length : Nat) : Int))) : Value), fun vals => vals 5 = (.bool (!decide ((((doL t c ((q : Nat) : Int) 5 ((mv : Nat) : Int)).length : Nat) : Int) = ((c.length : Nat) : Int))) : Value), fun vals => vals 6 = (if (!decide ((((doL t c ((q : Nat) : Int) 5 ((mv : Nat) : Int)).length : Nat) : Int) = ((c.length : Nat) : Int))) = false then (v825 : Value) else undef), fun vals => vals 7 = (if (!decide ((((doL t c ((q : Nat) : Int) 5 ((mv : Nat) : Int)).length : Nat) : Int) = ((c.length : Nat) : Int))) = false then (.int .i64 ((q : Nat) : Int) : Value) else undef), fun vals => vals 8 = (if (!decide ((((doL t c ((q : Nat) : Int) 5 ((mv : Nat) : Int)).length : Nat) : Int) = ((c.length : Nat) : Int))) = false then (.pointer (some ⟨sb v825, so v825 + q * 2, none⟩) : Value) else undef), fun vals => vals 9 = (if (!decide ((((doL t c ((q : Nat) : Int) 5 ((mv : Nat) : Int)).length : Nat) : Int) = ((c.length : Nat) : Int))) = false then (.pointer (some ⟨sb v825, so v825 + q * 2, none⟩) : Value) else undef), fun vals => vals 10 = (if (!decide ((((doL t c ((q : Nat) : Int) 5 ((mv : Nat) : Int)).length : Nat) : Int) = ((c.length : Nat) : Int))) = false then (.int .i64 (((doL t c ((q : Nat) : Int) 5 ((mv : Nat) : Int)).getD q default).n) : Value) else undef), fun vals => vals 11 = (if (!decide ((((doL t c ((q : Nat) : Int) 5 ((mv : Nat) : Int)).length : Nat) : Int) = ((c.length : Nat) : Int))) = false then (.pointer (some ⟨b16, 1, none⟩) : Value) else undef), fun vals => vals 12 = (if (!decide ((((doL t c ((q : Nat) : Int) 5 ((mv : Nat) : Int)).length : Nat) : Int) = ((c.length : Nat) : Int))) = false then (.int .i64 (m.to) : Value) else undef), fun vals => vals 13 = (if (!decide ((((doL t c ((q : Nat) : Int) 5 ((mv : Nat) : Int)).length : Nat) : Int) = ((c.length : Nat) : Int))) = false then (.bool (!decide ((((doL t c ((q : Nat) : Int) 5 ((mv : Nat) : Int)).getD q default).n) = m.to)) : Value) else undef), fun vals => vals 14 = (.bool ((!decide ((((doL t c ((q : Nat) : Int) 5 ((mv : Nat) : Int)).length : Nat) : Int) = ((c.length : Nat) : Int))) || (!decide ((((doL t c ((q : Nat) : Int) 5 ((mv : Nat) : Int)).getD q default).n) = m.to))) : Value)]) [[], [0], [], [2], [0, 1, 2, 3], [0, 1, 2, 3, 4], [0, 1, 2, 3, 4, 5], [0, 1, 2, 3, 4, 5], [0, 1, 2, 3, 4, 5, 6, 7], [0, 1, 2, 3, 4, 5, 6, 7, 8], [0, 1, 2, 3, 4, 5, 6, 7, 8, 9], [0, 1, 2, 3, 4, 5], [0, 1, 2, 3, 4, 5, 11], [0, 1, 2, 3, 4, 5, 6, 7, 8, 9, 10, 11, 12], [0, 1, 2, 3, 4, 5, 6, 7, 8, 9, 10, 11, 12, 13]] [] [(0, 0), (0, 0), (0, 0), (0, 0), (0, 0), (0, 0), (0, 0), (0, 0), (0, 0), (0, 0), (0, 0), (0, 0), (0, 0), (0, 0), (0, 0)] (by kernel_rfl) (by kernel_rfl) (by kernel_rfl) rfl (by kernel_rfl) (by kernel_rfl) (fun _ h1 h2 h3 h4 _ => hS833.same h1 h2 h3 h4) ?_ ?_ ⟨?_, ?_, ?_, ?_, ?_, ?_, ?_, ?_, ?_, ?_, ?_, ?_, ?_, ?_, ?_, trivial⟩ ?_
          · intro k vals vals' w hv h
            match k, h with
            | 0, h => exact h
            | _ + 1, _ => trivial
          · intro i vals vals' hv h
            match i, hv, h with
            | 0, hv, h => exact (hv 0 (.inl rfl)).trans h
            | 1, hv, h => exact (hv 1 (.inl rfl)).trans h
            | 2, hv, h => exact (hv 2 (.inl rfl)).trans h
            | 3, hv, h => exact (hv 3 (.inl rfl)).trans h
            | 4, hv, h => exact (hv 4 (.inl rfl)).trans h
            | 5, hv, h => exact (hv 5 (.inl rfl)).trans h
            | 6, hv, h => exact (hv 6 (.inl rfl)).trans h
            | 7, hv, h => exact (hv 7 (.inl rfl)).trans h
            | 8, hv, h => exact (hv 8 (.inl rfl)).trans h
            | 9, hv, h => exact (hv 9 (.inl rfl)).trans h
            | 10, hv, h => exact (hv 10 (.inl rfl)).trans h
            | 11, hv, h => exact (hv 11 (.inl rfl)).trans h
            | 12, hv, h => exact (hv 12 (.inl rfl)).trans h
            | 13, hv, h => exact (hv 13 (.inl rfl)).trans h
            | 14, hv, h => exact (hv 14 (.inl rfl)).trans h
            | _ + 15, _, _ => trivial
          · intro k976 vals w977 h980 h981 hW979 hA978
            refine obl rfl ?_
            exact ov_move (v := v825) rfl (fun vals' hv _ => ⟨rfl, hv⟩)
          · intro k982 vals w983 h986 h987 hW985 hA984
            obtain rfl : k982 = 0 := Nat.le_antisymm h987 h986
            have hS988 : Sep G829 w826 ((Blk b13 (t.cells vt).toArray 31) :: (Blk b15 (fl.cells vm).toArray 36) :: (Blk b16 (m.cells).toArray 49) :: Rs) w983 := hW985
            have e989 : vals 0 = (v825 : Value) := hA984 0 (by decide)
            refine obl rfl ?_
            exact ov_len (n := (doL t c ((q : Nat) : Int) 5 ((mv : Nat) : Int)).length) Try.underlying26 (show _ = (v825 : Value) from e989) hrd835.sl (fun vals' hv _ => ⟨rfl, hv⟩)
          · intro k990 vals w991 h994 h995 hW993 hA992
            refine obl rfl ?_
            exact ov_move (v := vc) rfl (fun vals' hv _ => ⟨rfl, hv⟩)
          · intro k996 vals w997 h1000 h1001 hW999 hA998
            obtain rfl : k996 = 0 := Nat.le_antisymm h1001 h1000
            have hS1002 : Sep G829 w826 ((Blk b13 (t.cells vt).toArray 31) :: (Blk b15 (fl.cells vm).toArray 36) :: (Blk b16 (m.cells).toArray 49) :: Rs) w997 := hW999
            have e1003 : vals 2 = (vc : Value) := hA998 2 (by decide)
            refine obl rfl ?_
            exact ov_len (n := c.length) Try.underlying26 (show _ = (vc : Value) from e1003) (RdS.base hrd284 hB832).sl (fun vals' hv _ => ⟨rfl, hv⟩)
          · intro k1004 vals w1005 h1008 h1009 hW1007 hA1006
            obtain rfl : k1004 = 0 := Nat.le_antisymm h1009 h1008
            have hS1010 : Sep G829 w826 ((Blk b13 (t.cells vt).toArray 31) :: (Blk b15 (fl.cells vm).toArray 36) :: (Blk b16 (m.cells).toArray 49) :: Rs) w1005 := hW1007
            have e1011 : vals 1 = (.int .i64 (((doL t c ((q : Nat) : Int) 5 ((mv : Nat) : Int)).length : Nat) : Int) : Value) := hA1006 1 (by decide)
            have e1012 : vals 3 = (.int .i64 ((c.length : Nat) : Int) : Value) := hA1006 3 (by decide)
            refine obl rfl ?_
            exact ov_neq (k := .i64) (a := (((doL t c ((q : Nat) : Int) 5 ((mv : Nat) : Int)).length : Nat) : Int)) (b := ((c.length : Nat) : Int)) (show _ = (.int .i64 (((doL t c ((q : Nat) : Int) 5 ((mv : Nat) : Int)).length : Nat) : Int) : Value) from e1011) (show _ = (.int .i64 ((c.length : Nat) : Int) : Value) from e1012) (fun vals' hv _ => ⟨rfl, hv⟩)
          · intro k1013 vals w1014 h1017 h1018 hW1016 hA1015
            have e1019 : vals 4 = (.bool (!decide ((((doL t c ((q : Nat) : Int) 5 ((mv : Nat) : Int)).length : Nat) : Int) = ((c.length : Nat) : Int))) : Value) := hA1015 4 (by decide)
            refine obl rfl ?_
            exact ov_move (v := .bool (!decide ((((doL t c ((q : Nat) : Int) 5 ((mv : Nat) : Int)).length : Nat) : Int) = ((c.length : Nat) : Int)))) (show _ = (.bool (!decide ((((doL t c ((q : Nat) : Int) 5 ((mv : Nat) : Int)).length : Nat) : Int) = ((c.length : Nat) : Int))) : Value) from e1019) (fun vals' hv _ => ⟨rfl, hv⟩)
          · intro k1020 vals w1021 h1024 h1025 hW1023 hA1022
            have e1026 : vals 5 = (.bool (!decide ((((doL t c ((q : Nat) : Int) 5 ((mv : Nat) : Int)).length : Nat) : Int) = ((c.length : Nat) : Int))) : Value) := hA1022 5 (by decide)
            refine oblc rfl rfl (show _ = (.bool (!decide ((((doL t c ((q : Nat) : Int) 5 ((mv : Nat) : Int)).length : Nat) : Int) = ((c.length : Nat) : Int))) : Value) from e1026) (fun hb1027 => ?_) (fun hb1027 => fun vals' hv _ => ⟨trivial, hv.trans (if_neg hb1027).symm⟩)
            have hl1028 : (!decide ((((doL t c ((q : Nat) : Int) 5 ((mv : Nat) : Int)).length : Nat) : Int) = ((c.length : Nat) : Int))) = false := hb1027
            have hl1028 := ndec_false hl1028
            exact ov_move (v := v825) rfl (fun vals' hv _ => ⟨rfl, hv.trans (if_pos hb1027).symm⟩)
          · intro k1029 vals w1030 h1033 h1034 hW1032 hA1031
            have e1035 : vals 5 = (.bool (!decide ((((doL t c ((q : Nat) : Int) 5 ((mv : Nat) : Int)).length : Nat) : Int) = ((c.length : Nat) : Int))) : Value) := hA1031 5 (by decide)
            refine oblc rfl rfl (show _ = (.bool (!decide ((((doL t c ((q : Nat) : Int) 5 ((mv : Nat) : Int)).length : Nat) : Int) = ((c.length : Nat) : Int))) : Value) from e1035) (fun hb1036 => ?_) (fun hb1036 => fun vals' hv _ => ⟨trivial, hv.trans (if_neg hb1036).symm⟩)
            have hl1037 : (!decide ((((doL t c ((q : Nat) : Int) 5 ((mv : Nat) : Int)).length : Nat) : Int) = ((c.length : Nat) : Int))) = false := hb1036
            have hl1037 := ndec_false hl1037
            exact ov_move (v := .int .i64 ((q : Nat) : Int)) rfl (fun vals' hv _ => ⟨rfl, hv.trans (if_pos hb1036).symm⟩)
          · intro k1038 vals w1039 h1042 h1043 hW1041 hA1040
            obtain rfl : k1038 = 0 := Nat.le_antisymm h1043 h1042
            have hS1044 : Sep G829 w826 ((Blk b13 (t.cells vt).toArray 31) :: (Blk b15 (fl.cells vm).toArray 36) :: (Blk b16 (m.cells).toArray 49) :: Rs) w1039 := hW1041
            have e1045 : vals 5 = (.bool (!decide ((((doL t c ((q : Nat) : Int) 5 ((mv : Nat) : Int)).length : Nat) : Int) = ((c.length : Nat) : Int))) : Value) := hA1040 5 (by decide)
            have e1046 : vals 6 = (if (!decide ((((doL t c ((q : Nat) : Int) 5 ((mv : Nat) : Int)).length : Nat) : Int) = ((c.length : Nat) : Int))) = false then (v825 : Value) else undef) := hA1040 6 (by decide)
            have e1047 : vals 7 = (if (!decide ((((doL t c ((q : Nat) : Int) 5 ((mv : Nat) : Int)).length : Nat) : Int) = ((c.length : Nat) : Int))) = false then (.int .i64 ((q : Nat) : Int) : Value) else undef) := hA1040 7 (by decide)
            refine oblc rfl rfl (show _ = (.bool (!decide ((((doL t c ((q : Nat) : Int) 5 ((mv : Nat) : Int)).length : Nat) : Int) = ((c.length : Nat) : Int))) : Value) from e1045) (fun hb1048 => ?_) (fun hb1048 => fun vals' hv _ => ⟨trivial, hv.trans (if_neg hb1048).symm⟩)
            have hl1049 : (!decide ((((doL t c ((q : Nat) : Int) 5 ((mv : Nat) : Int)).length : Nat) : Int) = ((c.length : Nat) : Int))) = false := hb1048
            have hl1049 := ndec_false hl1049
            have hi1050 : q < (doL t c ((q : Nat) : Int) 5 ((mv : Nat) : Int)).length := (by first | omega | (simp only [lens]; omega))
            exact ov_indexAddrN (k := 2) (i := q) Try.underlying26 Try.sizeOf47 (show _ = (v825 : Value) from (Eq.trans e1046 (if_pos hb1048))) hrd835.sl (show _ = (.int .i64 ((q : Nat) : Int) : Value) from (Eq.trans e1047 (if_pos hb1048))) hi1050 (fun vals' hv _ => ⟨rfl, hv.trans (if_pos hb1048).symm⟩)
          · intro k1051 vals w1052 h1055 h1056 hW1054 hA1053
            have e1057 : vals 5 = (.bool (!decide ((((doL t c ((q : Nat) : Int) 5 ((mv : Nat) : Int)).length : Nat) : Int) = ((c.length : Nat) : Int))) : Value) := hA1053 5 (by decide)
            have e1058 : vals 8 = (if (!decide ((((doL t c ((q : Nat) : Int) 5 ((mv : Nat) : Int)).length : Nat) : Int) = ((c.length : Nat) : Int))) = false then (.pointer (some ⟨sb v825, so v825 + q * 2, none⟩) : Value) else undef) := hA1053 8 (by decide)
            refine oblc rfl rfl (show _ = (.bool (!decide ((((doL t c ((q : Nat) : Int) 5 ((mv : Nat) : Int)).length : Nat) : Int) = ((c.length : Nat) : Int))) : Value) from e1057) (fun hb1059 => ?_) (fun hb1059 => fun vals' hv _ => ⟨trivial, hv.trans (if_neg hb1059).symm⟩)
            have hl1060 : (!decide ((((doL t c ((q : Nat) : Int) 5 ((mv : Nat) : Int)).length : Nat) : Int) = ((c.length : Nat) : Int))) = false := hb1059
            have hl1060 := ndec_false hl1060
            exact fd47_0 (show _ = (.pointer (some ⟨sb v825, so v825 + q * 2, none⟩) : Value) from (Eq.trans e1058 (if_pos hb1059))) (fun vals' hv _ => ⟨rfl, hv.trans (if_pos hb1059).symm⟩)
          · intro k1061 vals w1062 h1065 h1066 hW1064 hA1063
            obtain rfl : k1061 = 0 := Nat.le_antisymm h1066 h1065
            have hS1067 : Sep G829 w826 ((Blk b13 (t.cells vt).toArray 31) :: (Blk b15 (fl.cells vm).toArray 36) :: (Blk b16 (m.cells).toArray 49) :: Rs) w1062 := hW1064
            have e1068 : vals 5 = (.bool (!decide ((((doL t c ((q : Nat) : Int) 5 ((mv : Nat) : Int)).length : Nat) : Int) = ((c.length : Nat) : Int))) : Value) := hA1063 5 (by decide)
            have e1069 : vals 9 = (if (!decide ((((doL t c ((q : Nat) : Int) 5 ((mv : Nat) : Int)).length : Nat) : Int) = ((c.length : Nat) : Int))) = false then (.pointer (some ⟨sb v825, so v825 + q * 2, none⟩) : Value) else undef) := hA1063 9 (by decide)
            refine oblc rfl rfl (show _ = (.bool (!decide ((((doL t c ((q : Nat) : Int) 5 ((mv : Nat) : Int)).length : Nat) : Int) = ((c.length : Nat) : Int))) : Value) from e1068) (fun hb1070 => ?_) (fun hb1070 => fun vals' hv _ => ⟨trivial, hv.trans (if_neg hb1070).symm⟩)
            have hl1071 : (!decide ((((doL t c ((q : Nat) : Int) 5 ((mv : Nat) : Int)).length : Nat) : Int) = ((c.length : Nat) : Int))) = false := hb1070
            have hl1071 := ndec_false hl1071
            have hi1073 : q < (doL t c ((q : Nat) : Int) 5 ((mv : Nat) : Int)).length := (by first | omega | (simp only [lens]; omega))
            obtain ⟨hce1072, hde1072_0, hoke1072⟩ := hrd835.cel hi1073
            rw [← getD_at default hi1073] at hce1072 hde1072_0 hoke1072
            have hsm1074 : (((doL t c ((q : Nat) : Int) 5 ((mv : Nat) : Int)).getD q default).set).length * 8 ≤ 140737488355328 := hde1072_0.small
            have hcw1075 := hS1067.cells hce1072 (hrd835.foot (ne_of_lt hi1073))
            exact ov_load1 (v := .int .i64 (((doL t c ((q : Nat) : Int) 5 ((mv : Nat) : Int)).getD q default).n)) Try.isAgg3 (show _ = (.pointer (some ⟨sb v825, so v825 + q * 2, none⟩) : Value) from (Eq.trans e1069 (if_pos hb1070))) (hcw1075.get (j := 0) rfl) (fun vals' hv _ => ⟨rfl, hv.trans (if_pos hb1070).symm⟩)
          · intro k1076 vals w1077 h1080 h1081 hW1079 hA1078
            have e1082 : vals 5 = (.bool (!decide ((((doL t c ((q : Nat) : Int) 5 ((mv : Nat) : Int)).length : Nat) : Int) = ((c.length : Nat) : Int))) : Value) := hA1078 5 (by decide)
            refine oblc rfl rfl (show _ = (.bool (!decide ((((doL t c ((q : Nat) : Int) 5 ((mv : Nat) : Int)).length : Nat) : Int) = ((c.length : Nat) : Int))) : Value) from e1082) (fun hb1083 => ?_) (fun hb1083 => fun vals' hv _ => ⟨trivial, hv.trans (if_neg hb1083).symm⟩)
            have hl1084 : (!decide ((((doL t c ((q : Nat) : Int) 5 ((mv : Nat) : Int)).length : Nat) : Int) = ((c.length : Nat) : Int))) = false := hb1083
            have hl1084 := ndec_false hl1084
            exact fd49_1 rfl (fun vals' hv _ => ⟨rfl, hv.trans (if_pos hb1083).symm⟩)
          · intro k1085 vals w1086 h1089 h1090 hW1088 hA1087
            obtain rfl : k1085 = 0 := Nat.le_antisymm h1090 h1089
            have hS1091 : Sep G829 w826 ((Blk b13 (t.cells vt).toArray 31) :: (Blk b15 (fl.cells vm).toArray 36) :: (Blk b16 (m.cells).toArray 49) :: Rs) w1086 := hW1088
            have e1092 : vals 5 = (.bool (!decide ((((doL t c ((q : Nat) : Int) 5 ((mv : Nat) : Int)).length : Nat) : Int) = ((c.length : Nat) : Int))) : Value) := hA1087 5 (by decide)
            have e1093 : vals 11 = (if (!decide ((((doL t c ((q : Nat) : Int) 5 ((mv : Nat) : Int)).length : Nat) : Int) = ((c.length : Nat) : Int))) = false then (.pointer (some ⟨b16, 1, none⟩) : Value) else undef) := hA1087 11 (by decide)
            refine oblc rfl rfl (show _ = (.bool (!decide ((((doL t c ((q : Nat) : Int) 5 ((mv : Nat) : Int)).length : Nat) : Int) = ((c.length : Nat) : Int))) : Value) from e1092) (fun hb1094 => ?_) (fun hb1094 => fun vals' hv _ => ⟨trivial, hv.trans (if_neg hb1094).symm⟩)
            have hl1095 : (!decide ((((doL t c ((q : Nat) : Int) 5 ((mv : Nat) : Int)).length : Nat) : Int) = ((c.length : Nat) : Int))) = false := hb1094
            have hl1095 := ndec_false hl1095
            exact ov_load1 (v := .int .i64 (m.to)) Try.isAgg3 (show _ = (.pointer (some ⟨b16, 1, none⟩) : Value) from (Eq.trans e1093 (if_pos hb1094))) (blk_cellL (hS1091.blk (i := 2) rfl) rfl) (fun vals' hv _ => ⟨rfl, hv.trans (if_pos hb1094).symm⟩)
          · intro k1096 vals w1097 h1100 h1101 hW1099 hA1098
            obtain rfl : k1096 = 0 := Nat.le_antisymm h1101 h1100
            have hS1102 : Sep G829 w826 ((Blk b13 (t.cells vt).toArray 31) :: (Blk b15 (fl.cells vm).toArray 36) :: (Blk b16 (m.cells).toArray 49) :: Rs) w1097 := hW1099
            have e1103 : vals 5 = (.bool (!decide ((((doL t c ((q : Nat) : Int) 5 ((mv : Nat) : Int)).length : Nat) : Int) = ((c.length : Nat) : Int))) : Value) := hA1098 5 (by decide)
            have e1104 : vals 10 = (if (!decide ((((doL t c ((q : Nat) : Int) 5 ((mv : Nat) : Int)).length : Nat) : Int) = ((c.length : Nat) : Int))) = false then (.int .i64 (((doL t c ((q : Nat) : Int) 5 ((mv : Nat) : Int)).getD q default).n) : Value) else undef) := hA1098 10 (by decide)
            have e1105 : vals 12 = (if (!decide ((((doL t c ((q : Nat) : Int) 5 ((mv : Nat) : Int)).length : Nat) : Int) = ((c.length : Nat) : Int))) = false then (.int .i64 (m.to) : Value) else undef) := hA1098 12 (by decide)
            refine oblc rfl rfl (show _ = (.bool (!decide ((((doL t c ((q : Nat) : Int) 5 ((mv : Nat) : Int)).length : Nat) : Int) = ((c.length : Nat) : Int))) : Value) from e1103) (fun hb1106 => ?_) (fun hb1106 => fun vals' hv _ => ⟨trivial, hv.trans (if_neg hb1106).symm⟩)
            have hl1107 : (!decide ((((doL t c ((q : Nat) : Int) 5 ((mv : Nat) : Int)).length : Nat) : Int) = ((c.length : Nat) : Int))) = false := hb1106
            have hl1107 := ndec_false hl1107
            exact ov_neq (k := .i64) (a := ((doL t c ((q : Nat) : Int) 5 ((mv : Nat) : Int)).getD q default).n) (b := m.to) (show _ = (.int .i64 (((doL t c ((q : Nat) : Int) 5 ((mv : Nat) : Int)).getD q default).n) : Value) from (Eq.trans e1104 (if_pos hb1106))) (show _ = (.int .i64 (m.to) : Value) from (Eq.trans e1105 (if_pos hb1106))) (fun vals' hv _ => ⟨rfl, hv.trans (if_pos hb1106).symm⟩)
          · intro k1108 vals w1109 h1112 h1113 hW1111 hA1110
            have e1114 : vals 5 = (.bool (!decide ((((doL t c ((q : Nat) : Int) 5 ((mv : Nat) : Int)).length : Nat) : Int) = ((c.length : Nat) : Int))) : Value) := hA1110 5 (by decide)
            have e1115 : vals 13 = (if (!decide ((((doL t c ((q : Nat) : Int) 5 ((mv : Nat) : Int)).length : Nat) : Int) = ((c.length : Nat) : Int))) = false then (.bool (!decide ((((doL t c ((q : Nat) : Int) 5 ((mv : Nat) : Int)).getD q default).n) = m.to)) : Value) else undef) := hA1110 13 (by decide)
            refine obl rfl ?_
            exact ov_pick_or (b := !decide ((((doL t c ((q : Nat) : Int) 5 ((mv : Nat) : Int)).length : Nat) : Int) = ((c.length : Nat) : Int))) (b' := !decide ((((doL t c ((q : Nat) : Int) 5 ((mv : Nat) : Int)).getD q default).n) = m.to)) (show _ = (.bool (!decide ((((doL t c ((q : Nat) : Int) 5 ((mv : Nat) : Int)).length : Nat) : Int) = ((c.length : Nat) : Int))) : Value) from e1114) (fun hbp => (show _ = (.bool (!decide ((((doL t c ((q : Nat) : Int) 5 ((mv : Nat) : Int)).getD q default).n) = m.to)) : Value) from (Eq.trans e1115 (if_pos hbp)))) (fun vals' hv _ => ⟨rfl, hv⟩)
          intro vals w1116 hW1117 hA1118
          have hS1119 : Sep G829 w826 ((Blk b13 (t.cells vt).toArray 31) :: (Blk b15 (fl.cells vm).toArray 36) :: (Blk b16 (m.cells).toArray 49) :: Rs) w1116 := hW1117
          have e1120 : vals 14 = (.bool ((!decide ((((doL t c ((q : Nat) : Int) 5 ((mv : Nat) : Int)).length : Nat) : Int) = ((c.length : Nat) : Int))) || (!decide ((((doL t c ((q : Nat) : Int) 5 ((mv : Nat) : Int)).getD q default).n) = m.to))) : Value) := hA1118 14 (by decide)
          refine st_env (kv := [(3, .int .i64 ((q : Nat) : Int)), (4, .int .i64 ((mv : Nat) : Int)), (5, .int .i64 (more)), (13, .pointer (some ⟨b13, 0, none⟩)), (14, vc), (15, .pointer (some ⟨b15, 0, none⟩)), (16, .pointer (some ⟨b16, 0, none⟩)), (17, .int .i64 (mayL t c ((q : Nat) : Int) 5 ((mv : Nat) : Int))), (130, .int .i64 (mayL t c ((q : Nat) : Int) 5 ((mv : Nat) : Int))), (131, .bool false), (133, .agg (t.cells vt).toArray), (134, vc), (135, .int .i64 ((q : Nat) : Int)), (136, .int .i64 ((mv : Nat) : Int)), (137, v825), (19, v825), (152, .bool ((!decide ((((doL t c ((q : Nat) : Int) 5 ((mv : Nat) : Int)).length : Nat) : Int) = ((c.length : Nat) : Int))) || (!decide ((((doL t c ((q : Nat) : Int) 5 ((mv : Nat) : Int)).getD q default).n) = m.to))))]) ⟨rfl, rfl, rfl, rfl, rfl, rfl, rfl, rfl, rfl, rfl, rfl, rfl, rfl, rfl, rfl, rfl, (by exact e1120), trivial⟩ (fun ρw1116 => ?_)
          refine st_nil ?_
          cases hc1121 : (!decide ((((doL t c ((q : Nat) : Int) 5 ((mv : Nat) : Int)).length : Nat) : Int) = ((c.length : Nat) : Int))) || (!decide ((((doL t c ((q : Nat) : Int) 5 ((mv : Nat) : Int)).getD q default).n) = m.to))
          · skip
            try simp only [bools] at hc1121
            refine WP_cond_f rfl ?_
            refine WP_skip ?_
            refine WP_seq ?_
            refine WP_seq ?_
            refine WP_region0 (by kernel_rfl) (fun _ => ?_)
            refine st (ov_assign (v := .int .i64 (0)) rfl ?_)
            refine st_nil ?_
            refine WP_block ?_
            refine WP_loop (fun mq σ wq => ∃ (k : Nat) (ρ : Env), mq = fl.moves.length - k ∧ σ = setAll ρ [(3, .int .i64 ((q : Nat) : Int)), (4, .int .i64 ((mv : Nat) : Int)), (13, .pointer (some ⟨b13, 0, none⟩)), (15, .pointer (some ⟨b15, 0, none⟩)), (16, .pointer (some ⟨b16, 0, none⟩)), (19, v825), (20, .int .i64 ((k : Nat) : Int))] ∧ (k ≤ fl.moves.length) ∧ Sep G829 w826 ((Blk b13 (t.cells vt).toArray 31) :: (Blk b15 (fl.cells vm).toArray 36) :: (Blk b16 (m.cells).toArray 49) :: Rs) wq) ⟨0, _, rfl, setAll_self ⟨rfl, rfl, rfl, rfl, rfl, rfl, rfl, trivial⟩, Nat.zero_le _, hS1119⟩ ?_
            rintro m1123 σ1124 w1122 ⟨k, ρl1, rfl, rfl, hkk, hS1125⟩
            refine WP_seq ?_
            refine WP_seq ?_
            refine WP_region0 (by kernel_rfl) (fun _ => ?_)
            refine st (ov_move (v := .int .i64 ((k : Nat) : Int)) rfl ?_)
            refine st (fd36_3 rfl ?_)
            refine st (ov_load1 (v := vm) Try.isAgg34 rfl (blk_cellL (hS1125.blk (i := 1) rfl) rfl) ?_)
            refine st (ov_len (n := fl.moves.length) Try.underlying34 rfl (RdS.base (RdS.base hvm hB281) hB832).sl ?_)
            refine st (ov_lss (k := .i64) (a := ((k : Nat) : Int)) (b := ((fl.moves.length : Nat) : Int)) rfl rfl ?_)
            refine st_nil ?_
            cases hc1126 : decide (((k : Nat) : Int) < ((fl.moves.length : Nat) : Int))
            · skip
              have hc1126 := of_decide_eq_false hc1126
              refine WP_cond_f rfl ?_
              refine WP_exit ?_
              refine blk_exit ?_
              refine WP_seq ?_
              refine WP_region0 (by kernel_rfl) (fun _ => ?_)
              refine st (ov_call (f := 7) (vals := []) (cap := []) (show _ = (.func (.func 7) #[] #[] : Value) from rfl) rfl Try.call7 (D_known  hS1125) ?_)
              rintro _ w1127 ⟨rfl, hS1128⟩
              refine st (ov_assign (v := .bool true) rfl ?_)
              refine st_nil ?_
              refine WP_ret ?_
              refine fin1 Try.results5 (show _ = (.bool true : Value) from rfl) ?_
              have hS1129 : Sep G278 w275 ((RowE (α := Cel) own 47 v825 (doL t c ((q : Nat) : Int) 5 ((mv : Nat) : Int))) :: (Blk b13 (t.cells vt).toArray 31) :: (Blk b15 (fl.cells vm).toArray 36) :: (Blk b16 (m.cells).toArray 49) :: Rs) w1127 := hk834 _ _ hS1128
              have hS1130 : Sep G W ((RowE (α := Cel) own 47 vc c) :: (RowE (α := Cel) own 47 v825 (doL t c ((q : Nat) : Int) 5 ((mv : Nat) : Int))) :: (Blk b13 (t.cells vt).toArray 31) :: (Blk b15 (fl.cells vm).toArray 36) :: (Blk b16 (m.cells).toArray 49) :: Rs) w1127 := hk283 _ _ hS1129
              have hS1131 : Sep G W Rs w1127 := hS1130.sel 5 [] (Nat.le_add_left _ _) rfl rfl
              refine ⟨rfl, hS1131⟩
            · skip
              have hc1126 := of_decide_eq_true hc1126
              refine WP_cond_t rfl ?_
              refine WP_skip ?_
              refine WP_seq ?_
              refine WP_block ?_
              refine WP_seq ?_
              refine WP_draw4 (WF [fun vals wq => Sep G829 w826 ((Blk b13 (t.cells vt).toArray 31) :: (Blk b15 (fl.cells vm).toArray 36) :: (Blk b16 (m.cells).toArray 49) :: Rs) wq, fun vals wq => (vals 12 = (if (decide (((fl.moves.getD k default).need) = (-1))) = true then (.int .i64 (mayL t (doL t c ((q : Nat) : Int) 5 ((mv : Nat) : Int)) ((q : Nat) : Int) 5 ((k : Nat) : Int)) : Value) else undef)) ∧ Sep G829 w826 ((Blk b13 (t.cells vt).toArray 31) :: (Blk b15 (fl.cells vm).toArray 36) :: (Blk b16 (m.cells).toArray 49) :: Rs) wq]) (AF [fun vals => vals 0 = (.pointer (some ⟨b15, 3, none⟩) : Value), fun vals => vals 1 = (vm : Value), fun vals => vals 2 = (.int .i64 ((k : Nat) : Int) : Value), fun vals => vals 3 = (.pointer (some ⟨sb vm, so vm + k * 4, none⟩) : Value), fun vals => vals 4 = (.pointer (some ⟨sb vm, so vm + k * 4 + 2, none⟩) : Value), fun vals => vals 5 = (.int .i64 ((fl.moves.getD k default).need) : Value), fun vals => vals 6 = (.bool (decide (((fl.moves.getD k default).need) = (-1))) : Value), fun vals => vals 7 = (.bool (decide (((fl.moves.getD k default).need) = (-1))) : Value), fun vals => vals 8 = (if (decide (((fl.moves.getD k default).need) = (-1))) = true then (.agg (t.cells vt).toArray : Value) else undef), fun vals => vals 9 = (if (decide (((fl.moves.getD k default).need) = (-1))) = true then (v825 : Value) else undef), fun vals => vals 10 = (if (decide (((fl.moves.getD k default).need) = (-1))) = true then (.int .i64 ((q : Nat) : Int) : Value) else undef), fun vals => vals 11 = (if (decide (((fl.moves.getD k default).need) = (-1))) = true then (.int .i64 ((k : Nat) : Int) : Value) else undef), fun _ => True, fun vals => vals 13 = (if (decide (((fl.moves.getD k default).need) = (-1))) = true then (.bool (decide ((mayL t (doL t c ((q : Nat) : Int) 5 ((mv : Nat) : Int)) ((q : Nat) : Int) 5 ((k : Nat) : Int)) = 0)) : Value) else undef), fun vals => vals 14 = (if (decide (((fl.moves.getD k default).need) = (-1))) = true then (.pointer (some ⟨b15, 3, none⟩) : Value) else undef), fun vals => vals 15 = (if (decide (((fl.moves.getD k default).need) = (-1))) = true then (vm : Value) else undef), fun vals => vals 16 = (if (decide (((fl.moves.getD k default).need) = (-1))) = true then (.int .i64 ((k : Nat) : Int) : Value) else undef), fun vals => vals 17 = (if (decide (((fl.moves.getD k default).need) = (-1))) = true then (.pointer (some ⟨sb vm, so vm + k * 4, none⟩) : Value) else undef), fun vals => vals 18 = (if (decide (((fl.moves.getD k default).need) = (-1))) = true then (.pointer (some ⟨sb vm, so vm + k * 4, none⟩) : Value) else undef), fun vals => vals 19 = (if (decide (((fl.moves.getD k default).need) = (-1))) = true then (.int .i64 ((fl.moves.getD k default).frm) : Value) else undef), fun vals => vals 20 = (if (decide (((fl.moves.getD k default).need) = (-1))) = true then (.pointer (some ⟨b16, 1, none⟩) : Value) else undef), fun vals => vals 21 = (if (decide (((fl.moves.getD k default).need) = (-1))) = true then (.int .i64 (m.to) : Value) else undef), fun vals => vals 22 = (if (decide (((fl.moves.getD k default).need) = (-1))) = true then (.bool (decide (((fl.moves.getD k default).frm) = m.to)) : Value) else undef), fun vals => vals 23 = (if (decide (((fl.moves.getD k default).need) = (-1))) = true then (.bool (!((decide ((mayL t (doL t c ((q : Nat) : Int) 5 ((mv : Nat) : Int)) ((q : Nat) : Int) 5 ((k : Nat) : Int)) = 0)) == (decide (((fl.moves.getD k default).frm) = m.to)))) : Value) else undef), fun vals => vals 24 = (.bool ((decide (((fl.moves.getD k default).need) = (-1))) && (!((decide ((mayL t (doL t c ((q : Nat) : Int) 5 ((mv : Nat) : Int)) ((q : Nat) : Int) 5 ((k : Nat) : Int)) = 0)) == (decide (((fl.moves.getD k default).frm) = m.to))))) : Value)]) [[], [0], [], [0, 1, 2], [0, 1, 2, 3], [0, 1, 2, 3, 4], [0, 1, 2, 3, 4, 5], [0, 1, 2, 3, 4, 5, 6], [0, 1, 2, 3, 4, 5, 6, 7], [0, 1, 2, 3, 4, 5, 6, 7], [0, 1, 2, 3, 4, 5, 6, 7], [0, 1, 2, 3, 4, 5, 6, 7], [0, 1, 2, 3, 4, 5, 6, 7, 8, 9, 10, 11], [0, 1, 2, 3, 4, 5, 6, 7, 8, 9, 10, 11, 12], [0, 1, 2, 3, 4, 5, 6, 7], [0, 1, 2, 3, 4, 5, 6, 7, 14], [0, 1, 2, 3, 4, 5, 6, 7], [0, 1, 2, 3, 4, 5, 6, 7, 14, 15, 16], [0, 1, 2, 3, 4, 5, 6, 7, 14, 15, 16, 17], [0, 1, 2, 3, 4, 5, 6, 7, 14, 15, 16, 17, 18], [0, 1, 2, 3, 4, 5, 6, 7], [0, 1, 2, 3, 4, 5, 6, 7, 20], [0, 1, 2, 3, 4, 5, 6, 7, 14, 15, 16, 17, 18, 19, 20, 21], [0, 1, 2, 3, 4, 5, 6, 7, 8, 9, 10, 11, 12, 13, 14, 15, 16, 17, 18, 19, 20, 21, 22], [0, 1, 2, 3, 4, 5, 6, 7, 8, 9, 10, 11, 12, 13, 14, 15, 16, 17, 18, 19, 20, 21, 22, 23]] [12] [(0, 0), (0, 0), (0, 0), (0, 0), (0, 0), (0, 0), (0, 0), (0, 0), (0, 0), (0, 0), (0, 0), (0, 0), (0, 0), (1, 1), (0, 1), (0, 1), (0, 1), (0, 1), (0, 1), (0, 1), (0, 1), (0, 1), (0, 1), (1, 1), (1, 1)] (by kernel_rfl) (by kernel_rfl) (by kernel_rfl) rfl (by kernel_rfl) (by kernel_rfl) (fun _ h1 h2 h3 h4 _ => hS1125.same h1 h2 h3 h4) ?_ ?_ ⟨?_, ?_, ?_, ?_, ?_, ?_, ?_, ?_, ?_, ?_, ?_, ?_, ?_, ?_, ?_, ?_, ?_, ?_, ?_, ?_, ?_, ?_, ?_, ?_, ?_, trivial⟩ ?_
              · intro k vals vals' w hv h
                have e : ∀ j ∈ ([12] : List Nat), vals' j = vals j := hv
                match k, h with
                | 0, h => exact h
                | 1, h => exact (by simpa only [WF, List.getElem?_cons_zero, List.getElem?_cons_succ, e 12 (by decide)] using h)
                | _ + 2, _ => trivial
              · intro i vals vals' hv h
                match i, hv, h with
                | 0, hv, h => exact (hv 0 (.inl rfl)).trans h
                | 1, hv, h => exact (hv 1 (.inl rfl)).trans h
                | 2, hv, h => exact (hv 2 (.inl rfl)).trans h
                | 3, hv, h => exact (hv 3 (.inl rfl)).trans h
                | 4, hv, h => exact (hv 4 (.inl rfl)).trans h
                | 5, hv, h => exact (hv 5 (.inl rfl)).trans h
                | 6, hv, h => exact (hv 6 (.inl rfl)).trans h
                | 7, hv, h => exact (hv 7 (.inl rfl)).trans h
                | 8, hv, h => exact (hv 8 (.inl rfl)).trans h
                | 9, hv, h => exact (hv 9 (.inl rfl)).trans h
                | 10, hv, h => exact (hv 10 (.inl rfl)).trans h
                | 11, hv, h => exact (hv 11 (.inl rfl)).trans h
                | 12, _, _ => trivial
                | 13, hv, h => exact (hv 13 (.inl rfl)).trans h
                | 14, hv, h => exact (hv 14 (.inl rfl)).trans h
                | 15, hv, h => exact (hv 15 (.inl rfl)).trans h
                | 16, hv, h => exact (hv 16 (.inl rfl)).trans h
                | 17, hv, h => exact (hv 17 (.inl rfl)).trans h
                | 18, hv, h => exact (hv 18 (.inl rfl)).trans h
                | 19, hv, h => exact (hv 19 (.inl rfl)).trans h
                | 20, hv, h => exact (hv 20 (.inl rfl)).trans h
                | 21, hv, h => exact (hv 21 (.inl rfl)).trans h
                | 22, hv, h => exact (hv 22 (.inl rfl)).trans h
                | 23, hv, h => exact (hv 23 (.inl rfl)).trans h
                | 24, hv, h => exact (hv 24 (.inl rfl)).trans h
                | _ + 25, _, _ => trivial
              · intro k1377 vals w1378 h1381 h1382 hW1380 hA1379
                refine obl rfl ?_
                exact fd36_3 rfl (fun vals' hv _ => ⟨rfl, hv⟩)
              · intro k1383 vals w1384 h1387 h1388 hW1386 hA1385
                obtain rfl : k1383 = 0 := Nat.le_antisymm h1388 h1387
                have hS1389 : Sep G829 w826 ((Blk b13 (t.cells vt).toArray 31) :: (Blk b15 (fl.cells vm).toArray 36) :: (Blk b16 (m.cells).toArray 49) :: Rs) w1384 := hW1386
                have e1390 : vals 0 = (.pointer (some ⟨b15, 3, none⟩) : Value) := hA1385 0 (by decide)
                refine obl rfl ?_
                exact ov_load1 (v := vm) Try.isAgg34 (show _ = (.pointer (some ⟨b15, 3, none⟩) : Value) from e1390) (blk_cellL (hS1389.blk (i := 1) rfl) rfl) (fun vals' hv _ => ⟨rfl, hv⟩)
              · intro k1391 vals w1392 h1395 h1396 hW1394 hA1393
                refine obl rfl ?_
                exact ov_move (v := .int .i64 ((k : Nat) : Int)) rfl (fun vals' hv _ => ⟨rfl, hv⟩)
              · intro k1397 vals w1398 h1401 h1402 hW1400 hA1399
                obtain rfl : k1397 = 0 := Nat.le_antisymm h1402 h1401
                have hS1403 : Sep G829 w826 ((Blk b13 (t.cells vt).toArray 31) :: (Blk b15 (fl.cells vm).toArray 36) :: (Blk b16 (m.cells).toArray 49) :: Rs) w1398 := hW1400
                have e1404 : vals 1 = (vm : Value) := hA1399 1 (by decide)
                have e1405 : vals 2 = (.int .i64 ((k : Nat) : Int) : Value) := hA1399 2 (by decide)
                refine obl rfl ?_
                have hi1406 : k < fl.moves.length := (by first | omega | (simp only [lens]; omega))
                exact ov_indexAddrN (k := 4) (i := k) Try.underlying34 Try.sizeOf49 (show _ = (vm : Value) from e1404) (RdS.base (RdS.base hvm hB281) hB832).sl (show _ = (.int .i64 ((k : Nat) : Int) : Value) from e1405) hi1406 (fun vals' hv _ => ⟨rfl, hv⟩)
              · intro k1407 vals w1408 h1411 h1412 hW1410 hA1409
                have e1413 : vals 3 = (.pointer (some ⟨sb vm, so vm + k * 4, none⟩) : Value) := hA1409 3 (by decide)
                refine obl rfl ?_
                exact fd49_2 (show _ = (.pointer (some ⟨sb vm, so vm + k * 4, none⟩) : Value) from e1413) (fun vals' hv _ => ⟨rfl, hv⟩)
              · intro k1414 vals w1415 h1418 h1419 hW1417 hA1416
                obtain rfl : k1414 = 0 := Nat.le_antisymm h1419 h1418
                have hS1420 : Sep G829 w826 ((Blk b13 (t.cells vt).toArray 31) :: (Blk b15 (fl.cells vm).toArray 36) :: (Blk b16 (m.cells).toArray 49) :: Rs) w1415 := hW1417
                have e1421 : vals 4 = (.pointer (some ⟨sb vm, so vm + k * 4 + 2, none⟩) : Value) := hA1416 4 (by decide)
                refine obl rfl ?_
                have hi1423 : k < fl.moves.length := (by first | omega | (simp only [lens]; omega))
                obtain ⟨hce1422, hoke1422⟩ := (RdS.base (RdS.base hvm hB281) hB832).mv hi1423
                rw [← getD_at default hi1423] at hce1422 hoke1422
                have hcw1424 := hS1420.cells hce1422 ((RdS.base (RdS.base hvm hB281) hB832).foot (ne_of_lt hi1423))
                exact ov_load1 (v := .int .i64 ((fl.moves.getD k default).need)) Try.isAgg3 (show _ = (.pointer (some ⟨sb vm, so vm + k * 4 + 2, none⟩) : Value) from e1421) (hcw1424.get (j := 2) rfl) (fun vals' hv _ => ⟨rfl, hv⟩)
              · intro k1425 vals w1426 h1429 h1430 hW1428 hA1427
                obtain rfl : k1425 = 0 := Nat.le_antisymm h1430 h1429
                have hS1431 : Sep G829 w826 ((Blk b13 (t.cells vt).toArray 31) :: (Blk b15 (fl.cells vm).toArray 36) :: (Blk b16 (m.cells).toArray 49) :: Rs) w1426 := hW1428
                have e1432 : vals 5 = (.int .i64 ((fl.moves.getD k default).need) : Value) := hA1427 5 (by decide)
                refine obl rfl ?_
                exact ov_eql (k := .i64) (a := (fl.moves.getD k default).need) (b := -1) (show _ = (.int .i64 ((fl.moves.getD k default).need) : Value) from e1432) rfl (fun vals' hv _ => ⟨rfl, hv⟩)
              · intro k1433 vals w1434 h1437 h1438 hW1436 hA1435
                have e1439 : vals 6 = (.bool (decide (((fl.moves.getD k default).need) = (-1))) : Value) := hA1435 6 (by decide)
                refine obl rfl ?_
                exact ov_move (v := .bool (decide (((fl.moves.getD k default).need) = (-1)))) (show _ = (.bool (decide (((fl.moves.getD k default).need) = (-1))) : Value) from e1439) (fun vals' hv _ => ⟨rfl, hv⟩)
              · intro k1440 vals w1441 h1444 h1445 hW1443 hA1442
                obtain rfl : k1440 = 0 := Nat.le_antisymm h1445 h1444
                have hS1446 : Sep G829 w826 ((Blk b13 (t.cells vt).toArray 31) :: (Blk b15 (fl.cells vm).toArray 36) :: (Blk b16 (m.cells).toArray 49) :: Rs) w1441 := hW1443
                have e1447 : vals 7 = (.bool (decide (((fl.moves.getD k default).need) = (-1))) : Value) := hA1442 7 (by decide)
                refine oblc rfl rfl (show _ = (.bool (decide (((fl.moves.getD k default).need) = (-1))) : Value) from e1447) (fun hb1448 => ?_) (fun hb1448 => fun vals' hv _ => ⟨trivial, hv.trans (if_neg hb1448).symm⟩)
                have hl1449 : (decide (((fl.moves.getD k default).need) = (-1))) = true := hb1448
                have hl1449 := of_decide_eq_true hl1449
                exact ov_loadk (k := 1) Try.isAgg31 Try.sizeOf31 rfl rfl (CellsAt.all (hS1446.blk (i := 0) rfl)) (fun vals' hv _ => ⟨rfl, hv.trans (if_pos hb1448).symm⟩)
              · intro k1450 vals w1451 h1454 h1455 hW1453 hA1452
                have e1456 : vals 7 = (.bool (decide (((fl.moves.getD k default).need) = (-1))) : Value) := hA1452 7 (by decide)
                refine oblc rfl rfl (show _ = (.bool (decide (((fl.moves.getD k default).need) = (-1))) : Value) from e1456) (fun hb1457 => ?_) (fun hb1457 => fun vals' hv _ => ⟨trivial, hv.trans (if_neg hb1457).symm⟩)
                have hl1458 : (decide (((fl.moves.getD k default).need) = (-1))) = true := hb1457
                have hl1458 := of_decide_eq_true hl1458
                exact ov_move (v := v825) rfl (fun vals' hv _ => ⟨rfl, hv.trans (if_pos hb1457).symm⟩)
              · intro k1459 vals w1460 h1463 h1464 hW1462 hA1461
                have e1465 : vals 7 = (.bool (decide (((fl.moves.getD k default).need) = (-1))) : Value) := hA1461 7 (by decide)
                refine oblc rfl rfl (show _ = (.bool (decide (((fl.moves.getD k default).need) = (-1))) : Value) from e1465) (fun hb1466 => ?_) (fun hb1466 => fun vals' hv _ => ⟨trivial, hv.trans (if_neg hb1466).symm⟩)
                have hl1467 : (decide (((fl.moves.getD k default).need) = (-1))) = true := hb1466
                have hl1467 := of_decide_eq_true hl1467
                exact ov_move (v := .int .i64 ((q : Nat) : Int)) rfl (fun vals' hv _ => ⟨rfl, hv.trans (if_pos hb1466).symm⟩)
              · intro k1468 vals w1469 h1472 h1473 hW1471 hA1470
                have e1474 : vals 7 = (.bool (decide (((fl.moves.getD k default).need) = (-1))) : Value) := hA1470 7 (by decide)
                refine oblc rfl rfl (show _ = (.bool (decide (((fl.moves.getD k default).need) = (-1))) : Value) from e1474) (fun hb1475 => ?_) (fun hb1475 => fun vals' hv _ => ⟨trivial, hv.trans (if_neg hb1475).symm⟩)
                have hl1476 : (decide (((fl.moves.getD k default).need) = (-1))) = true := hb1475
                have hl1476 := of_decide_eq_true hl1476
                exact ov_move (v := .int .i64 ((k : Nat) : Int)) rfl (fun vals' hv _ => ⟨rfl, hv.trans (if_pos hb1475).symm⟩)
              · intro k1232 vals w1233 h1236 h1237 hW1235 hA1234
                obtain rfl : k1232 = 0 := Nat.le_antisymm h1237 h1236
                have hS1238 : Sep G829 w826 ((Blk b13 (t.cells vt).toArray 31) :: (Blk b15 (fl.cells vm).toArray 36) :: (Blk b16 (m.cells).toArray 49) :: Rs) w1233 := hW1235
                have e1239 : vals 7 = (.bool (decide (((fl.moves.getD k default).need) = (-1))) : Value) := hA1234 7 (by decide)
                have e1240 : vals 8 = (if (decide (((fl.moves.getD k default).need) = (-1))) = true then (.agg (t.cells vt).toArray : Value) else undef) := hA1234 8 (by decide)
                have e1241 : vals 9 = (if (decide (((fl.moves.getD k default).need) = (-1))) = true then (v825 : Value) else undef) := hA1234 9 (by decide)
                have e1242 : vals 10 = (if (decide (((fl.moves.getD k default).need) = (-1))) = true then (.int .i64 ((q : Nat) : Int) : Value) else undef) := hA1234 10 (by decide)
                have e1243 : vals 11 = (if (decide (((fl.moves.getD k default).need) = (-1))) = true then (.int .i64 ((k : Nat) : Int) : Value) else undef) := hA1234 11 (by decide)
                refine oblc rfl rfl (show _ = (.bool (decide (((fl.moves.getD k default).need) = (-1))) : Value) from e1239) (fun hb1244 => ?_) (fun hb1244 vals' hv hv' => ?_)
                · skip
                  have hl1245 : (decide (((fl.moves.getD k default).need) = (-1))) = true := hb1244
                  have hl1245 := of_decide_eq_true hl1245
                  refine (ov_call (f := 10) (vals := [.agg (t.cells vt).toArray, v825, .int .i64 ((q : Nat) : Int), .int .i64 (5), .int .i64 ((k : Nat) : Int)]) (cap := []) (show _ = (.func (.func 10) #[] #[] : Value) from rfl) (mapL ⟨(show _ = (.agg (t.cells vt).toArray : Value) from (Eq.trans e1240 (if_pos hb1244))), (show _ = (v825 : Value) from (Eq.trans e1241 (if_pos hb1244))), (show _ = (.int .i64 ((q : Nat) : Int) : Value) from (Eq.trans e1242 (if_pos hb1244))), rfl, (show _ = (.int .i64 ((k : Nat) : Int) : Value) from (Eq.trans e1243 (if_pos hb1244))), trivial⟩) Try.call10 (D_May (t := t) (c := (doL t c ((q : Nat) : Int) 5 ((mv : Nat) : Int))) (vc := v825) (f := ((q : Nat) : Int)) (op := 5) (arg := ((k : Nat) : Int)) (RdS.base (RdS.base hvt hB281) hB832) hot hrd835 (by omega) (by decide) (by omega) hS1238 (cn_ask hfl (by omega) (by omega) (by first | omega | (rw [doL_len]; omega)) (by first | omega | (rw [← hm]; first | omega | (rw [doL_len]; omega))))) ?_)
                  rintro _ w1246 ⟨rfl, hS1247⟩
                  intro vals' hv hv'
                  refine ⟨?_, trivial⟩
                  show (vals' 12 = (if (decide (((fl.moves.getD k default).need) = (-1))) = true then (.int .i64 (mayL t (doL t c ((q : Nat) : Int) 5 ((mv : Nat) : Int)) ((q : Nat) : Int) 5 ((k : Nat) : Int)) : Value) else undef)) ∧ Sep G829 w826 ((Blk b13 (t.cells vt).toArray 31) :: (Blk b15 (fl.cells vm).toArray 36) :: (Blk b16 (m.cells).toArray 49) :: Rs) w1246
                  exact ⟨(hv.trans (if_pos hb1244).symm), hS1247⟩
                · skip
                  refine ⟨?_, trivial⟩
                  show (vals' 12 = (if (decide (((fl.moves.getD k default).need) = (-1))) = true then (.int .i64 (mayL t (doL t c ((q : Nat) : Int) 5 ((mv : Nat) : Int)) ((q : Nat) : Int) 5 ((k : Nat) : Int)) : Value) else undef)) ∧ Sep G829 w826 ((Blk b13 (t.cells vt).toArray 31) :: (Blk b15 (fl.cells vm).toArray 36) :: (Blk b16 (m.cells).toArray 49) :: Rs) w1233
                  exact ⟨(hv.trans (if_neg hb1244).symm), hS1238⟩
              · intro k1477 vals w1478 h1481 h1482 hW1480 hA1479
                obtain rfl : k1477 = 1 := Nat.le_antisymm h1482 h1481
                obtain ⟨he1248, hS1483⟩ : (vals 12 = (if (decide (((fl.moves.getD k default).need) = (-1))) = true then (.int .i64 (mayL t (doL t c ((q : Nat) : Int) 5 ((mv : Nat) : Int)) ((q : Nat) : Int) 5 ((k : Nat) : Int)) : Value) else undef)) ∧ Sep G829 w826 ((Blk b13 (t.cells vt).toArray 31) :: (Blk b15 (fl.cells vm).toArray 36) :: (Blk b16 (m.cells).toArray 49) :: Rs) w1478 := hW1480
                have e1484 : vals 7 = (.bool (decide (((fl.moves.getD k default).need) = (-1))) : Value) := hA1479 7 (by decide)
                refine oblc rfl rfl (show _ = (.bool (decide (((fl.moves.getD k default).need) = (-1))) : Value) from e1484) (fun hb1485 => ?_) (fun hb1485 => fun vals' hv _ => ⟨trivial, hv.trans (if_neg hb1485).symm⟩)
                have hl1486 : (decide (((fl.moves.getD k default).need) = (-1))) = true := hb1485
                have hl1486 := of_decide_eq_true hl1486
                exact ov_eql (k := .i64) (a := mayL t (doL t c ((q : Nat) : Int) 5 ((mv : Nat) : Int)) ((q : Nat) : Int) 5 ((k : Nat) : Int)) (b := 0) (show _ = (.int .i64 (mayL t (doL t c ((q : Nat) : Int) 5 ((mv : Nat) : Int)) ((q : Nat) : Int) 5 ((k : Nat) : Int)) : Value) from (Eq.trans he1248 (if_pos hb1485))) rfl (fun vals' hv _ => ⟨rfl, hv.trans (if_pos hb1485).symm⟩)
              · intro k1487 vals w1488 h1491 h1492 hW1490 hA1489
                have e1493 : vals 7 = (.bool (decide (((fl.moves.getD k default).need) = (-1))) : Value) := hA1489 7 (by decide)
                refine oblc rfl rfl (show _ = (.bool (decide (((fl.moves.getD k default).need) = (-1))) : Value) from e1493) (fun hb1494 => ?_) (fun hb1494 => fun vals' hv _ => ⟨trivial, hv.trans (if_neg hb1494).symm⟩)
                have hl1495 : (decide (((fl.moves.getD k default).need) = (-1))) = true := hb1494
                have hl1495 := of_decide_eq_true hl1495
                exact fd36_3 rfl (fun vals' hv _ => ⟨rfl, hv.trans (if_pos hb1494).symm⟩)
              · intro k1496 vals w1497 h1500 h1501 hW1499 hA1498
                have hkk : k1496 = 0 ∨ k1496 = 1 := by have h1 : 0 ≤ k1496 := h1500; have h2 : k1496 ≤ 1 := h1501; omega
                rcases hkk with rfl | rfl
                · skip
                  have hS1502 : Sep G829 w826 ((Blk b13 (t.cells vt).toArray 31) :: (Blk b15 (fl.cells vm).toArray 36) :: (Blk b16 (m.cells).toArray 49) :: Rs) w1497 := hW1499
                  have e1503 : vals 7 = (.bool (decide (((fl.moves.getD k default).need) = (-1))) : Value) := hA1498 7 (by decide)
                  have e1504 : vals 14 = (if (decide (((fl.moves.getD k default).need) = (-1))) = true then (.pointer (some ⟨b15, 3, none⟩) : Value) else undef) := hA1498 14 (by decide)
                  refine oblc rfl rfl (show _ = (.bool (decide (((fl.moves.getD k default).need) = (-1))) : Value) from e1503) (fun hb1505 => ?_) (fun hb1505 => fun vals' hv _ => ⟨trivial, hv.trans (if_neg hb1505).symm⟩)
                  have hl1506 : (decide (((fl.moves.getD k default).need) = (-1))) = true := hb1505
                  have hl1506 := of_decide_eq_true hl1506
                  exact ov_load1 (v := vm) Try.isAgg34 (show _ = (.pointer (some ⟨b15, 3, none⟩) : Value) from (Eq.trans e1504 (if_pos hb1505))) (blk_cellL (hS1502.blk (i := 1) rfl) rfl) (fun vals' hv _ => ⟨rfl, hv.trans (if_pos hb1505).symm⟩)
                · skip
                  obtain ⟨he1248, hS1507⟩ : (vals 12 = (if (decide (((fl.moves.getD k default).need) = (-1))) = true then (.int .i64 (mayL t (doL t c ((q : Nat) : Int) 5 ((mv : Nat) : Int)) ((q : Nat) : Int) 5 ((k : Nat) : Int)) : Value) else undef)) ∧ Sep G829 w826 ((Blk b13 (t.cells vt).toArray 31) :: (Blk b15 (fl.cells vm).toArray 36) :: (Blk b16 (m.cells).toArray 49) :: Rs) w1497 := hW1499
                  have e1508 : vals 7 = (.bool (decide (((fl.moves.getD k default).need) = (-1))) : Value) := hA1498 7 (by decide)
                  have e1509 : vals 14 = (if (decide (((fl.moves.getD k default).need) = (-1))) = true then (.pointer (some ⟨b15, 3, none⟩) : Value) else undef) := hA1498 14 (by decide)
                  refine oblc rfl rfl (show _ = (.bool (decide (((fl.moves.getD k default).need) = (-1))) : Value) from e1508) (fun hb1510 => ?_) (fun hb1510 => fun vals' hv _ => ⟨trivial, hv.trans (if_neg hb1510).symm⟩)
                  have hl1511 : (decide (((fl.moves.getD k default).need) = (-1))) = true := hb1510
                  have hl1511 := of_decide_eq_true hl1511
                  exact ov_load1 (v := vm) Try.isAgg34 (show _ = (.pointer (some ⟨b15, 3, none⟩) : Value) from (Eq.trans e1509 (if_pos hb1510))) (blk_cellL (hS1507.blk (i := 1) rfl) rfl) (fun vals' hv _ => ⟨rfl, hv.trans (if_pos hb1510).symm⟩)
              · intro k1512 vals w1513 h1516 h1517 hW1515 hA1514
                have e1518 : vals 7 = (.bool (decide (((fl.moves.getD k default).need) = (-1))) : Value) := hA1514 7 (by decide)
                refine oblc rfl rfl (show _ = (.bool (decide (((fl.moves.getD k default).need) = (-1))) : Value) from e1518) (fun hb1519 => ?_) (fun hb1519 => fun vals' hv _ => ⟨trivial, hv.trans (if_neg hb1519).symm⟩)
                have hl1520 : (decide (((fl.moves.getD k default).need) = (-1))) = true := hb1519
                have hl1520 := of_decide_eq_true hl1520
                exact ov_move (v := .int .i64 ((k : Nat) : Int)) rfl (fun vals' hv _ => ⟨rfl, hv.trans (if_pos hb1519).symm⟩)
              · intro k1521 vals w1522 h1525 h1526 hW1524 hA1523
                have hkk : k1521 = 0 ∨ k1521 = 1 := by have h1 : 0 ≤ k1521 := h1525; have h2 : k1521 ≤ 1 := h1526; omega
                rcases hkk with rfl | rfl
                · skip
                  have hS1527 : Sep G829 w826 ((Blk b13 (t.cells vt).toArray 31) :: (Blk b15 (fl.cells vm).toArray 36) :: (Blk b16 (m.cells).toArray 49) :: Rs) w1522 := hW1524
                  have e1528 : vals 7 = (.bool (decide (((fl.moves.getD k default).need) = (-1))) : Value) := hA1523 7 (by decide)
                  have e1529 : vals 15 = (if (decide (((fl.moves.getD k default).need) = (-1))) = true then (vm : Value) else undef) := hA1523 15 (by decide)
                  have e1530 : vals 16 = (if (decide (((fl.moves.getD k default).need) = (-1))) = true then (.int .i64 ((k : Nat) : Int) : Value) else undef) := hA1523 16 (by decide)
                  refine oblc rfl rfl (show _ = (.bool (decide (((fl.moves.getD k default).need) = (-1))) : Value) from e1528) (fun hb1531 => ?_) (fun hb1531 => fun vals' hv _ => ⟨trivial, hv.trans (if_neg hb1531).symm⟩)
                  have hl1532 : (decide (((fl.moves.getD k default).need) = (-1))) = true := hb1531
                  have hl1532 := of_decide_eq_true hl1532
                  have hi1533 : k < fl.moves.length := (by first | omega | (simp only [lens]; omega))
                  exact ov_indexAddrN (k := 4) (i := k) Try.underlying34 Try.sizeOf49 (show _ = (vm : Value) from (Eq.trans e1529 (if_pos hb1531))) (RdS.base (RdS.base hvm hB281) hB832).sl (show _ = (.int .i64 ((k : Nat) : Int) : Value) from (Eq.trans e1530 (if_pos hb1531))) hi1533 (fun vals' hv _ => ⟨rfl, hv.trans (if_pos hb1531).symm⟩)
                · skip
                  obtain ⟨he1248, hS1534⟩ : (vals 12 = (if (decide (((fl.moves.getD k default).need) = (-1))) = true then (.int .i64 (mayL t (doL t c ((q : Nat) : Int) 5 ((mv : Nat) : Int)) ((q : Nat) : Int) 5 ((k : Nat) : Int)) : Value) else undef)) ∧ Sep G829 w826 ((Blk b13 (t.cells vt).toArray 31) :: (Blk b15 (fl.cells vm).toArray 36) :: (Blk b16 (m.cells).toArray 49) :: Rs) w1522 := hW1524
                  have e1535 : vals 7 = (.bool (decide (((fl.moves.getD k default).need) = (-1))) : Value) := hA1523 7 (by decide)
                  have e1536 : vals 15 = (if (decide (((fl.moves.getD k default).need) = (-1))) = true then (vm : Value) else undef) := hA1523 15 (by decide)
                  have e1537 : vals 16 = (if (decide (((fl.moves.getD k default).need) = (-1))) = true then (.int .i64 ((k : Nat) : Int) : Value) else undef) := hA1523 16 (by decide)
                  refine oblc rfl rfl (show _ = (.bool (decide (((fl.moves.getD k default).need) = (-1))) : Value) from e1535) (fun hb1538 => ?_) (fun hb1538 => fun vals' hv _ => ⟨trivial, hv.trans (if_neg hb1538).symm⟩)
                  have hl1539 : (decide (((fl.moves.getD k default).need) = (-1))) = true := hb1538
                  have hl1539 := of_decide_eq_true hl1539
                  have hi1540 : k < fl.moves.length := (by first | omega | (simp only [lens]; omega))
                  exact ov_indexAddrN (k := 4) (i := k) Try.underlying34 Try.sizeOf49 (show _ = (vm : Value) from (Eq.trans e1536 (if_pos hb1538))) (RdS.base (RdS.base hvm hB281) hB832).sl (show _ = (.int .i64 ((k : Nat) : Int) : Value) from (Eq.trans e1537 (if_pos hb1538))) hi1540 (fun vals' hv _ => ⟨rfl, hv.trans (if_pos hb1538).symm⟩)
              · intro k1541 vals w1542 h1545 h1546 hW1544 hA1543
                have e1547 : vals 7 = (.bool (decide (((fl.moves.getD k default).need) = (-1))) : Value) := hA1543 7 (by decide)
                have e1548 : vals 17 = (if (decide (((fl.moves.getD k default).need) = (-1))) = true then (.pointer (some ⟨sb vm, so vm + k * 4, none⟩) : Value) else undef) := hA1543 17 (by decide)
                refine oblc rfl rfl (show _ = (.bool (decide (((fl.moves.getD k default).need) = (-1))) : Value) from e1547) (fun hb1549 => ?_) (fun hb1549 => fun vals' hv _ => ⟨trivial, hv.trans (if_neg hb1549).symm⟩)
                have hl1550 : (decide (((fl.moves.getD k default).need) = (-1))) = true := hb1549
                have hl1550 := of_decide_eq_true hl1550
                exact fd49_0 (show _ = (.pointer (some ⟨sb vm, so vm + k * 4, none⟩) : Value) from (Eq.trans e1548 (if_pos hb1549))) (fun vals' hv _ => ⟨rfl, hv.trans (if_pos hb1549).symm⟩)
              · intro k1551 vals w1552 h1555 h1556 hW1554 hA1553
                have hkk : k1551 = 0 ∨ k1551 = 1 := by have h1 : 0 ≤ k1551 := h1555; have h2 : k1551 ≤ 1 := h1556; omega
                rcases hkk with rfl | rfl
                · skip
                  have hS1557 : Sep G829 w826 ((Blk b13 (t.cells vt).toArray 31) :: (Blk b15 (fl.cells vm).toArray 36) :: (Blk b16 (m.cells).toArray 49) :: Rs) w1552 := hW1554
                  have e1558 : vals 7 = (.bool (decide (((fl.moves.getD k default).need) = (-1))) : Value) := hA1553 7 (by decide)
                  have e1559 : vals 18 = (if (decide (((fl.moves.getD k default).need) = (-1))) = true then (.pointer (some ⟨sb vm, so vm + k * 4, none⟩) : Value) else undef) := hA1553 18 (by decide)
                  refine oblc rfl rfl (show _ = (.bool (decide (((fl.moves.getD k default).need) = (-1))) : Value) from e1558) (fun hb1560 => ?_) (fun hb1560 => fun vals' hv _ => ⟨trivial, hv.trans (if_neg hb1560).symm⟩)
                  have hl1561 : (decide (((fl.moves.getD k default).need) = (-1))) = true := hb1560
                  have hl1561 := of_decide_eq_true hl1561
                  have hi1563 : k < fl.moves.length := (by first | omega | (simp only [lens]; omega))
                  obtain ⟨hce1562, hoke1562⟩ := (RdS.base (RdS.base hvm hB281) hB832).mv hi1563
                  rw [← getD_at default hi1563] at hce1562 hoke1562
                  have hcw1564 := hS1557.cells hce1562 ((RdS.base (RdS.base hvm hB281) hB832).foot (ne_of_lt hi1563))
                  exact ov_load1 (v := .int .i64 ((fl.moves.getD k default).frm)) Try.isAgg3 (show _ = (.pointer (some ⟨sb vm, so vm + k * 4, none⟩) : Value) from (Eq.trans e1559 (if_pos hb1560))) (hcw1564.get (j := 0) rfl) (fun vals' hv _ => ⟨rfl, hv.trans (if_pos hb1560).symm⟩)
                · skip
                  obtain ⟨he1248, hS1565⟩ : (vals 12 = (if (decide (((fl.moves.getD k default).need) = (-1))) = true then (.int .i64 (mayL t (doL t c ((q : Nat) : Int) 5 ((mv : Nat) : Int)) ((q : Nat) : Int) 5 ((k : Nat) : Int)) : Value) else undef)) ∧ Sep G829 w826 ((Blk b13 (t.cells vt).toArray 31) :: (Blk b15 (fl.cells vm).toArray 36) :: (Blk b16 (m.cells).toArray 49) :: Rs) w1552 := hW1554
                  have e1566 : vals 7 = (.bool (decide (((fl.moves.getD k default).need) = (-1))) : Value) := hA1553 7 (by decide)
                  have e1567 : vals 18 = (if (decide (((fl.moves.getD k default).need) = (-1))) = true then (.pointer (some ⟨sb vm, so vm + k * 4, none⟩) : Value) else undef) := hA1553 18 (by decide)
                  refine oblc rfl rfl (show _ = (.bool (decide (((fl.moves.getD k default).need) = (-1))) : Value) from e1566) (fun hb1568 => ?_) (fun hb1568 => fun vals' hv _ => ⟨trivial, hv.trans (if_neg hb1568).symm⟩)
                  have hl1569 : (decide (((fl.moves.getD k default).need) = (-1))) = true := hb1568
                  have hl1569 := of_decide_eq_true hl1569
                  have hi1571 : k < fl.moves.length := (by first | omega | (simp only [lens]; omega))
                  obtain ⟨hce1570, hoke1570⟩ := (RdS.base (RdS.base hvm hB281) hB832).mv hi1571
                  rw [← getD_at default hi1571] at hce1570 hoke1570
                  have hcw1572 := hS1565.cells hce1570 ((RdS.base (RdS.base hvm hB281) hB832).foot (ne_of_lt hi1571))
                  exact ov_load1 (v := .int .i64 ((fl.moves.getD k default).frm)) Try.isAgg3 (show _ = (.pointer (some ⟨sb vm, so vm + k * 4, none⟩) : Value) from (Eq.trans e1567 (if_pos hb1568))) (hcw1572.get (j := 0) rfl) (fun vals' hv _ => ⟨rfl, hv.trans (if_pos hb1568).symm⟩)
              · intro k1573 vals w1574 h1577 h1578 hW1576 hA1575
                have e1579 : vals 7 = (.bool (decide (((fl.moves.getD k default).need) = (-1))) : Value) := hA1575 7 (by decide)
                refine oblc rfl rfl (show _ = (.bool (decide (((fl.moves.getD k default).need) = (-1))) : Value) from e1579) (fun hb1580 => ?_) (fun hb1580 => fun vals' hv _ => ⟨trivial, hv.trans (if_neg hb1580).symm⟩)
                have hl1581 : (decide (((fl.moves.getD k default).need) = (-1))) = true := hb1580
                have hl1581 := of_decide_eq_true hl1581
                exact fd49_1 rfl (fun vals' hv _ => ⟨rfl, hv.trans (if_pos hb1580).symm⟩)
              · intro k1582 vals w1583 h1586 h1587 hW1585 hA1584
                have hkk : k1582 = 0 ∨ k1582 = 1 := by have h1 : 0 ≤ k1582 := h1586; have h2 : k1582 ≤ 1 := h1587; omega
                rcases hkk with rfl | rfl
                · skip
                  have hS1588 : Sep G829 w826 ((Blk b13 (t.cells vt).toArray 31) :: (Blk b15 (fl.cells vm).toArray 36) :: (Blk b16 (m.cells).toArray 49) :: Rs) w1583 := hW1585
                  have e1589 : vals 7 = (.bool (decide (((fl.moves.getD k default).need) = (-1))) : Value) := hA1584 7 (by decide)
                  have e1590 : vals 20 = (if (decide (((fl.moves.getD k default).need) = (-1))) = true then (.pointer (some ⟨b16, 1, none⟩) : Value) else undef) := hA1584 20 (by decide)
                  refine oblc rfl rfl (show _ = (.bool (decide (((fl.moves.getD k default).need) = (-1))) : Value) from e1589) (fun hb1591 => ?_) (fun hb1591 => fun vals' hv _ => ⟨trivial, hv.trans (if_neg hb1591).symm⟩)
                  have hl1592 : (decide (((fl.moves.getD k default).need) = (-1))) = true := hb1591
                  have hl1592 := of_decide_eq_true hl1592
                  exact ov_load1 (v := .int .i64 (m.to)) Try.isAgg3 (show _ = (.pointer (some ⟨b16, 1, none⟩) : Value) from (Eq.trans e1590 (if_pos hb1591))) (blk_cellL (hS1588.blk (i := 2) rfl) rfl) (fun vals' hv _ => ⟨rfl, hv.trans (if_pos hb1591).symm⟩)
                · skip
                  obtain ⟨he1248, hS1593⟩ : (vals 12 = (if (decide (((fl.moves.getD k default).need) = (-1))) = true then (.int .i64 (mayL t (doL t c ((q : Nat) : Int) 5 ((mv : Nat) : Int)) ((q : Nat) : Int) 5 ((k : Nat) : Int)) : Value) else undef)) ∧ Sep G829 w826 ((Blk b13 (t.cells vt).toArray 31) :: (Blk b15 (fl.cells vm).toArray 36) :: (Blk b16 (m.cells).toArray 49) :: Rs) w1583 := hW1585
                  have e1594 : vals 7 = (.bool (decide (((fl.moves.getD k default).need) = (-1))) : Value) := hA1584 7 (by decide)
                  have e1595 : vals 20 = (if (decide (((fl.moves.getD k default).need) = (-1))) = true then (.pointer (some ⟨b16, 1, none⟩) : Value) else undef) := hA1584 20 (by decide)
                  refine oblc rfl rfl (show _ = (.bool (decide (((fl.moves.getD k default).need) = (-1))) : Value) from e1594) (fun hb1596 => ?_) (fun hb1596 => fun vals' hv _ => ⟨trivial, hv.trans (if_neg hb1596).symm⟩)
                  have hl1597 : (decide (((fl.moves.getD k default).need) = (-1))) = true := hb1596
                  have hl1597 := of_decide_eq_true hl1597
                  exact ov_load1 (v := .int .i64 (m.to)) Try.isAgg3 (show _ = (.pointer (some ⟨b16, 1, none⟩) : Value) from (Eq.trans e1595 (if_pos hb1596))) (blk_cellL (hS1593.blk (i := 2) rfl) rfl) (fun vals' hv _ => ⟨rfl, hv.trans (if_pos hb1596).symm⟩)
              · intro k1598 vals w1599 h1602 h1603 hW1601 hA1600
                have hkk : k1598 = 0 ∨ k1598 = 1 := by have h1 : 0 ≤ k1598 := h1602; have h2 : k1598 ≤ 1 := h1603; omega
                rcases hkk with rfl | rfl
                · skip
                  have hS1604 : Sep G829 w826 ((Blk b13 (t.cells vt).toArray 31) :: (Blk b15 (fl.cells vm).toArray 36) :: (Blk b16 (m.cells).toArray 49) :: Rs) w1599 := hW1601
                  have e1605 : vals 7 = (.bool (decide (((fl.moves.getD k default).need) = (-1))) : Value) := hA1600 7 (by decide)
                  have e1606 : vals 19 = (if (decide (((fl.moves.getD k default).need) = (-1))) = true then (.int .i64 ((fl.moves.getD k default).frm) : Value) else undef) := hA1600 19 (by decide)
                  have e1607 : vals 21 = (if (decide (((fl.moves.getD k default).need) = (-1))) = true then (.int .i64 (m.to) : Value) else undef) := hA1600 21 (by decide)
                  refine oblc rfl rfl (show _ = (.bool (decide (((fl.moves.getD k default).need) = (-1))) : Value) from e1605) (fun hb1608 => ?_) (fun hb1608 => fun vals' hv _ => ⟨trivial, hv.trans (if_neg hb1608).symm⟩)
                  have hl1609 : (decide (((fl.moves.getD k default).need) = (-1))) = true := hb1608
                  have hl1609 := of_decide_eq_true hl1609
                  exact ov_eql (k := .i64) (a := (fl.moves.getD k default).frm) (b := m.to) (show _ = (.int .i64 ((fl.moves.getD k default).frm) : Value) from (Eq.trans e1606 (if_pos hb1608))) (show _ = (.int .i64 (m.to) : Value) from (Eq.trans e1607 (if_pos hb1608))) (fun vals' hv _ => ⟨rfl, hv.trans (if_pos hb1608).symm⟩)
                · skip
                  obtain ⟨he1248, hS1610⟩ : (vals 12 = (if (decide (((fl.moves.getD k default).need) = (-1))) = true then (.int .i64 (mayL t (doL t c ((q : Nat) : Int) 5 ((mv : Nat) : Int)) ((q : Nat) : Int) 5 ((k : Nat) : Int)) : Value) else undef)) ∧ Sep G829 w826 ((Blk b13 (t.cells vt).toArray 31) :: (Blk b15 (fl.cells vm).toArray 36) :: (Blk b16 (m.cells).toArray 49) :: Rs) w1599 := hW1601
                  have e1611 : vals 7 = (.bool (decide (((fl.moves.getD k default).need) = (-1))) : Value) := hA1600 7 (by decide)
                  have e1612 : vals 19 = (if (decide (((fl.moves.getD k default).need) = (-1))) = true then (.int .i64 ((fl.moves.getD k default).frm) : Value) else undef) := hA1600 19 (by decide)
                  have e1613 : vals 21 = (if (decide (((fl.moves.getD k default).need) = (-1))) = true then (.int .i64 (m.to) : Value) else undef) := hA1600 21 (by decide)
                  refine oblc rfl rfl (show _ = (.bool (decide (((fl.moves.getD k default).need) = (-1))) : Value) from e1611) (fun hb1614 => ?_) (fun hb1614 => fun vals' hv _ => ⟨trivial, hv.trans (if_neg hb1614).symm⟩)
                  have hl1615 : (decide (((fl.moves.getD k default).need) = (-1))) = true := hb1614
                  have hl1615 := of_decide_eq_true hl1615
                  exact ov_eql (k := .i64) (a := (fl.moves.getD k default).frm) (b := m.to) (show _ = (.int .i64 ((fl.moves.getD k default).frm) : Value) from (Eq.trans e1612 (if_pos hb1614))) (show _ = (.int .i64 (m.to) : Value) from (Eq.trans e1613 (if_pos hb1614))) (fun vals' hv _ => ⟨rfl, hv.trans (if_pos hb1614).symm⟩)
              · intro k1616 vals w1617 h1620 h1621 hW1619 hA1618
                obtain rfl : k1616 = 1 := Nat.le_antisymm h1621 h1620
                obtain ⟨he1248, hS1622⟩ : (vals 12 = (if (decide (((fl.moves.getD k default).need) = (-1))) = true then (.int .i64 (mayL t (doL t c ((q : Nat) : Int) 5 ((mv : Nat) : Int)) ((q : Nat) : Int) 5 ((k : Nat) : Int)) : Value) else undef)) ∧ Sep G829 w826 ((Blk b13 (t.cells vt).toArray 31) :: (Blk b15 (fl.cells vm).toArray 36) :: (Blk b16 (m.cells).toArray 49) :: Rs) w1617 := hW1619
                have e1623 : vals 7 = (.bool (decide (((fl.moves.getD k default).need) = (-1))) : Value) := hA1618 7 (by decide)
                have e1624 : vals 13 = (if (decide (((fl.moves.getD k default).need) = (-1))) = true then (.bool (decide ((mayL t (doL t c ((q : Nat) : Int) 5 ((mv : Nat) : Int)) ((q : Nat) : Int) 5 ((k : Nat) : Int)) = 0)) : Value) else undef) := hA1618 13 (by decide)
                have e1625 : vals 22 = (if (decide (((fl.moves.getD k default).need) = (-1))) = true then (.bool (decide (((fl.moves.getD k default).frm) = m.to)) : Value) else undef) := hA1618 22 (by decide)
                refine oblc rfl rfl (show _ = (.bool (decide (((fl.moves.getD k default).need) = (-1))) : Value) from e1623) (fun hb1626 => ?_) (fun hb1626 => fun vals' hv _ => ⟨trivial, hv.trans (if_neg hb1626).symm⟩)
                have hl1627 : (decide (((fl.moves.getD k default).need) = (-1))) = true := hb1626
                have hl1627 := of_decide_eq_true hl1627
                exact ov_neqb (a := decide ((mayL t (doL t c ((q : Nat) : Int) 5 ((mv : Nat) : Int)) ((q : Nat) : Int) 5 ((k : Nat) : Int)) = 0)) (b := decide (((fl.moves.getD k default).frm) = m.to)) Try.underlying4 (show _ = (.bool (decide ((mayL t (doL t c ((q : Nat) : Int) 5 ((mv : Nat) : Int)) ((q : Nat) : Int) 5 ((k : Nat) : Int)) = 0)) : Value) from (Eq.trans e1624 (if_pos hb1626))) (show _ = (.bool (decide (((fl.moves.getD k default).frm) = m.to)) : Value) from (Eq.trans e1625 (if_pos hb1626))) (fun vals' hv _ => ⟨rfl, hv.trans (if_pos hb1626).symm⟩)
              · intro k1628 vals w1629 h1632 h1633 hW1631 hA1630
                have e1634 : vals 7 = (.bool (decide (((fl.moves.getD k default).need) = (-1))) : Value) := hA1630 7 (by decide)
                have e1635 : vals 23 = (if (decide (((fl.moves.getD k default).need) = (-1))) = true then (.bool (!((decide ((mayL t (doL t c ((q : Nat) : Int) 5 ((mv : Nat) : Int)) ((q : Nat) : Int) 5 ((k : Nat) : Int)) = 0)) == (decide (((fl.moves.getD k default).frm) = m.to)))) : Value) else undef) := hA1630 23 (by decide)
                refine obl rfl ?_
                exact ov_pick_and (b := decide (((fl.moves.getD k default).need) = (-1))) (b' := !((decide ((mayL t (doL t c ((q : Nat) : Int) 5 ((mv : Nat) : Int)) ((q : Nat) : Int) 5 ((k : Nat) : Int)) = 0)) == (decide (((fl.moves.getD k default).frm) = m.to)))) (show _ = (.bool (decide (((fl.moves.getD k default).need) = (-1))) : Value) from e1634) (fun hbp => (show _ = (.bool (!((decide ((mayL t (doL t c ((q : Nat) : Int) 5 ((mv : Nat) : Int)) ((q : Nat) : Int) 5 ((k : Nat) : Int)) = 0)) == (decide (((fl.moves.getD k default).frm) = m.to)))) : Value) from (Eq.trans e1635 (if_pos hbp)))) (fun vals' hv _ => ⟨rfl, hv⟩)
              intro vals w1636 hW1637 hA1638
              obtain ⟨he1248, hS1639⟩ : (vals 12 = (if (decide (((fl.moves.getD k default).need) = (-1))) = true then (.int .i64 (mayL t (doL t c ((q : Nat) : Int) 5 ((mv : Nat) : Int)) ((q : Nat) : Int) 5 ((k : Nat) : Int)) : Value) else undef)) ∧ Sep G829 w826 ((Blk b13 (t.cells vt).toArray 31) :: (Blk b15 (fl.cells vm).toArray 36) :: (Blk b16 (m.cells).toArray 49) :: Rs) w1636 := hW1637
              have e1640 : vals 24 = (.bool ((decide (((fl.moves.getD k default).need) = (-1))) && (!((decide ((mayL t (doL t c ((q : Nat) : Int) 5 ((mv : Nat) : Int)) ((q : Nat) : Int) 5 ((k : Nat) : Int)) = 0)) == (decide (((fl.moves.getD k default).frm) = m.to))))) : Value) := hA1638 24 (by decide)
              refine st_env (kv := [(3, .int .i64 ((q : Nat) : Int)), (4, .int .i64 ((mv : Nat) : Int)), (13, .pointer (some ⟨b13, 0, none⟩)), (15, .pointer (some ⟨b15, 0, none⟩)), (16, .pointer (some ⟨b16, 0, none⟩)), (19, v825), (20, .int .i64 ((k : Nat) : Int)), (153, .int .i64 ((k : Nat) : Int)), (154, .pointer (some ⟨b15, 3, none⟩)), (155, vm), (156, .int .i64 ((fl.moves.length : Nat) : Int)), (157, .bool true), (184, .bool ((decide (((fl.moves.getD k default).need) = (-1))) && (!((decide ((mayL t (doL t c ((q : Nat) : Int) 5 ((mv : Nat) : Int)) ((q : Nat) : Int) 5 ((k : Nat) : Int)) = 0)) == (decide (((fl.moves.getD k default).frm) = m.to))))))]) ⟨rfl, rfl, rfl, rfl, rfl, rfl, rfl, rfl, rfl, rfl, rfl, rfl, (by exact e1640), trivial⟩ (fun ρw1636 => ?_)
              refine st_nil ?_
              cases hc1641 : (decide (((fl.moves.getD k default).need) = (-1))) && (!((decide ((mayL t (doL t c ((q : Nat) : Int) 5 ((mv : Nat) : Int)) ((q : Nat) : Int) 5 ((k : Nat) : Int)) = 0)) == (decide (((fl.moves.getD k default).frm) = m.to))))
              · skip
                try simp only [bools] at hc1641
                refine WP_cond_f rfl ?_
                refine WP_skip ?_
                refine WP_region0 (by kernel_rfl) (fun _ => ?_)
                refine st (ov_move (v := .int .i64 ((k : Nat) : Int)) rfl ?_)
                have hr1642 : InR ((k + 1 : Nat) : Int) := by first | omega | (simp only [lens]; omega)
                refine st (ov_add (r := ((k + 1 : Nat) : Int)) (k := .i64) (a := ((k : Nat) : Int)) (b := 1) rfl rfl (by rw [show (((k : Nat) : Int) + 1 : Int) = ((k + 1 : Nat) : Int) by first | omega | (simp only [lens]; omega)]; exact wrap_in hr1642) ?_)
                refine st (ov_assign (v := .int .i64 ((k + 1 : Nat) : Int)) rfl ?_)
                refine st_nil ?_
                exact ⟨_, by omega, k + 1, _, rfl, setAll_self ⟨rfl, rfl, rfl, rfl, rfl, rfl, rfl, trivial⟩, by omega, hS1639⟩
              · skip
                try simp only [bools] at hc1641
                exfalso
                have k1 := cn_k (c := c) hfl hm (by omega) hc1641.1
                rw [k1] at hc1641
                exact Bool.noConfusion hc1641.2
          · skip
            try simp only [bools] at hc1121
            exfalso
            have k1 := cn_to hfl hm (show q < c.length by omega)
            rw [doL_len] at hc1121
            omega
        · skip
          have hc824 := ndec_true hc824
          refine WP_cond_t rfl ?_
          refine WP_seq ?_
          refine WP_region0 (by kernel_rfl) (fun _ => ?_)
          refine st (ov_call (f := 7) (vals := []) (cap := []) (show _ = (.func (.func 7) #[] #[] : Value) from rfl) rfl Try.call7 (D_known  hS823) ?_)
          rintro _ w1643 ⟨rfl, hS1644⟩
          refine st (ov_assign (v := .bool true) rfl ?_)
          refine st_nil ?_
          refine WP_ret ?_
          refine fin1 Try.results5 (show _ = (.bool true : Value) from rfl) ?_
          have hS1645 : Sep G W ((RowE (α := Cel) own 47 vc c) :: (Blk b13 (t.cells vt).toArray 31) :: (Blk b15 (fl.cells vm).toArray 36) :: (Blk b16 (m.cells).toArray 49) :: Rs) w1643 := hk283 _ _ hS1644
          have hS1646 : Sep G W Rs w1643 := hS1645.sel 4 [] (Nat.le_add_left _ _) rfl rfl
          refine ⟨rfl, hS1646⟩
      · skip
        try simp only [bools] at hc764
        exfalso
        have k1 := cn_first hfl hm hcn (by omega)
        have k2 := may_or (t := t) (c := c) (f := (q : Int)) (op := 5) (a := (mv : Int))
        rcases hc764 with h | h
        · rw [k1] at h; cases h
        · omega
    · skip
      have hc242 := ndec_true hc242
      refine WP_cond_t rfl ?_
      refine WP_seq ?_
      refine WP_region0 (by kernel_rfl) (fun _ => ?_)
      refine st (ov_call (f := 7) (vals := []) (cap := []) (show _ = (.func (.func 7) #[] #[] : Value) from rfl) rfl Try.call7 (D_known  hS241) ?_)
      rintro _ w1647 ⟨rfl, hS1648⟩
      refine st (ov_assign (v := .bool true) rfl ?_)
      refine st_nil ?_
      refine WP_ret ?_
      refine fin1 Try.results5 (show _ = (.bool true : Value) from rfl) ?_
      have hS1649 : Sep G W Rs w1647 := hS1648.sel 4 [] (Nat.le_add_left _ _) rfl rfl
      refine ⟨rfl, hS1649⟩
  · skip
    try simp only [bools] at hc9
    refine WP_cond_t rfl ?_
    refine WP_seq ?_
    refine WP_region0 (by kernel_rfl) (fun _ => ?_)
    refine st (ov_call (f := 7) (vals := []) (cap := []) (show _ = (.func (.func 7) #[] #[] : Value) from rfl) rfl Try.call7 (D_known  hS8) ?_)
    rintro _ w1650 ⟨rfl, hS1651⟩
    refine st (ov_assign (v := .bool true) rfl ?_)
    refine st_nil ?_
    refine WP_ret ?_
    refine fin1 Try.results5 (show _ = (.bool true : Value) from rfl) ?_
    have hS1652 : Sep G W Rs w1650 := hS1651.sel 1 [] (Nat.le_add_left _ _) rfl rfl
    refine ⟨rfl, hS1652⟩

end Go.Proofs.Ytlblilbmpdejgaa
