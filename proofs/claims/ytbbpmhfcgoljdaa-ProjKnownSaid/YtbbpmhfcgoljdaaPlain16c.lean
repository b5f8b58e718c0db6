/- What the rows of joined entries come to. -/
import Derived.Test.YtbbpmhfcgoljdaaL0
import Derived.Test.YtbbpmhfcgoljdaaDraw3
set_option linter.unusedSimpArgs false
set_option linter.unusedVariables false
namespace Go.Proofs.Ytbbpmhfcgoljdaa
theorem ov_field {P : Program} {d : Option Tmp} {ty : TypeId} {pos : String} {af : Array Edge} {g : Option (Nat × Bool)} {σ : Env} {w : World} {K : Value → World → Prop} {x : Operand} {t : TypeId} {f : Nat} {v u : Value} (hx : ev σ x = v) (hr : ∀ w, (Instr.field t v f).run P w = .ok u w) (h : K u w) : opV P ⟨d, .field t x f, ty, pos, af, g⟩ σ w K :=
  ov_run (v := u) (w' := w) (by simp [execOp, hx, hr, go_sem]) h
theorem WP_join {P : Program} {n : Nat} {c : Code} {Q : Post} {σ : Env} {w : World} (J : Env → World → Prop) (h : WP P n c (fun e σ w => e = .normal ∧ J σ w) σ w) (hq : ∀ σ w, J σ w → Q .normal σ w) : WP P n c Q σ w := fun a hs =>
  wp_mono (h a hs) (by rintro e a' w' ⟨σ'', hs'', rfl, hj⟩; exact ⟨σ'', hs'', hq _ _ hj⟩)
theorem pairs_const (l : List Ent) (r : Int) : pairs l [r] = l.map fun e => (e, r) := by
  refine List.ext_getElem (by rw [pairs_length, List.length_map]) fun i h1 h2 => ?_
  have h3 := pairs_at (l := l) (g := [r]) (i := i) (by simpa using h2)
  rw [List.getElem?_eq_getElem h1] at h3
  rw [Option.some.inj h3, List.getElem_map]
  unfold regI; simp [Nat.mod_one]
theorem args_join (p : Prj) (G : Int) (l m : List Ent) (r : Int) : argsP p G (pairs (l ++ m) [r]) = argsP p G (pairs l [r]) ++ argsP p G (pairs m [r]) := by
  unfold argsP
  rw [pairs_const, pairs_const, pairs_const, List.map_append, List.filter_append, List.map_append]
theorem args_len (p : Prj) (G : Int) (l : List Ent) (g : List Int) : (argsP p G (pairs l g)).length ≤ l.length := by
  unfold argsP
  rw [List.length_map]
  exact Nat.le_trans (List.length_filter_le _ _) (Nat.le_of_eq (pairs_length l g))
theorem snoc_ex {l : List Int} (h : l ≠ []) : ∃ a b, l = a ++ [b] := ⟨l.dropLast, l.getLast h, (List.dropLast_concat_getLast h).symm⟩
theorem stF_one {p : Prj} (h1 : p.pmake = 1) {A : List Int} : (stF p A).2 = A.length := by
  by_cases hA : A = []
  · subst hA; rfl
  · obtain ⟨a, b, rfl⟩ := snoc_ex hA
    rw [stF_app]
    show madeI p ⟨0, _, (stF p a).1 + 1⟩ b = _
    unfold madeI
    rw [if_pos h1, stF_fst]
    simp
theorem stF_join {p : Prj} (hp : 2 ≤ p.pmake ∧ p.pmake ≤ 4) {A : List Int} (hA : A ≠ []) : ∀ n (B : List Int), B.length = n + 1 → (stF p (A ++ B)).2 = if p.pmake = 4 then max (stF p A).2 (stF p B).2 else if p.pmake = 3 then min (stF p A).2 (stF p B).2 else IntKind.i64.wrap ((stF p A).2 + (stF p B).2) := by
  have hA0 : 0 < A.length := List.length_pos_iff.2 hA
  intro n
  induction n with
  | zero =>
    intro B hB
    obtain ⟨b, rfl⟩ : ∃ b, B = [b] := List.length_eq_one_iff.1 hB
    rw [stF_app, show ([b] : List Int) = [] ++ [b] from rfl, stF_app]
    show madeI p ⟨0, _, (stF p A).1 + 1⟩ b = _
    rw [stF_fst]
    show _ = if p.pmake = 4 then max (stF p A).2 (madeI p ⟨0, 0, 0 + 1⟩ b) else if p.pmake = 3 then min (stF p A).2 (madeI p ⟨0, 0, 0 + 1⟩ b) else IntKind.i64.wrap ((stF p A).2 + (madeI p ⟨0, 0, 0 + 1⟩ b))
    unfold madeI
    dsimp only
    by_cases h2 : p.pmake = 2
    · simp only [h2, show ¬ ((2 : Int) = 1) by decide, show ¬ ((2 : Int) = 4) by decide, show ¬ ((2 : Int) = 3) by decide, if_false, if_true]
      rw [IntKind.wrap_i64, IntKind.wrap_i64, IntKind.wrap_i64]; omega
    · by_cases h3 : p.pmake = 3
      · have : ¬ ((A.length : Int) + 1 = 1) := by omega
        simp [h3, this]
      · have h4 : p.pmake = 4 := by omega
        have : ¬ ((A.length : Int) + 1 = 1) := by omega
        simp [h4, this]
  | succ n ih =>
    intro B hB
    obtain ⟨B', b, rfl⟩ := snoc_ex (l := B) (by intro e; subst e; simp at hB)
    have hB' : B'.length = n + 1 := by simpa using hB
    rw [← List.append_assoc, stF_app, stF_app]
    show madeI p ⟨0, (stF p (A ++ B')).2, (stF p (A ++ B')).1 + 1⟩ b = if p.pmake = 4 then max (stF p A).2 (madeI p ⟨0, (stF p B').2, (stF p B').1 + 1⟩ b) else if p.pmake = 3 then min (stF p A).2 (madeI p ⟨0, (stF p B').2, (stF p B').1 + 1⟩ b) else IntKind.i64.wrap ((stF p A).2 + (madeI p ⟨0, (stF p B').2, (stF p B').1 + 1⟩ b))
    rw [stF_fst, stF_fst, ih B' hB', List.length_append]
    unfold madeI
    dsimp only
    have e1 : ¬ (((A.length + B'.length : Nat) : Int) + 1 = 1) := by omega
    have e2 : ¬ ((B'.length : Int) + 1 = 1) := by omega
    by_cases h2 : p.pmake = 2
    · simp only [h2, show ¬ ((2 : Int) = 1) by decide, show ¬ ((2 : Int) = 4) by decide, show ¬ ((2 : Int) = 3) by decide, if_false, if_true]
      rw [IntKind.wrap_i64, IntKind.wrap_i64, IntKind.wrap_i64, IntKind.wrap_i64]; omega
    · by_cases h3 : p.pmake = 3
      · simp only [h3, e1, e2, show ¬ ((3 : Int) = 1) by decide, show ¬ ((3 : Int) = 4) by decide, show ¬ ((3 : Int) = 5) by decide, show ¬ ((3 : Int) = 2) by decide, if_false, if_true, false_and, or_self, true_or, and_false]
        omega
      · have h4 : p.pmake = 4 := by omega
        simp only [h4, e1, e2, show ¬ ((4 : Int) = 1) by decide, show ¬ ((4 : Int) = 3) by decide, show ¬ ((4 : Int) = 5) by decide, show ¬ ((4 : Int) = 2) by decide, if_false, if_true, false_and, or_self, or_true, and_false]
        omega
theorem find_rows (p : Prj) (l : List Ent) (g : List Int) (G : Int) : findR (rowsL p l g) G = (rowOf p G (argsP p G (pairs l g))).getD ⟨0, 0, 0⟩ := by
  rw [rowsL_eq]
  unfold findR
  cases h : (rowsP p (pairs l g)).find? (fun x => decide (x.group = G)) with
  | none =>
    cases hr : rowOf p G (argsP p G (pairs l g)) with
    | none => rfl
    | some x =>
      have hg : x.group = G := by
        unfold rowOf at hr
        split at hr
        · cases hr
        · cases hr; rfl
      have hm : x ∈ rowsP p (pairs l g) := row_mem.2 (by rw [hg]; exact hr)
      have := List.find?_eq_none.1 h x hm
      simp [hg] at this
  | some x =>
    have hg : x.group = G := by simpa using List.find?_some h
    have := row_mem.1 (List.mem_of_find?_eq_some h)
    rw [hg] at this
    rw [this]
theorem find_cnt (p : Prj) (l : List Ent) (g : List Int) (G : Int) : (findR (rowsL p l g) G).count = (argsP p G (pairs l g)).length := by
  rw [find_rows]
  unfold rowOf
  split
  · rename_i h; rw [h]; rfl
  · rfl
theorem find_val (p : Prj) (l : List Ent) (g : List Int) (G : Int) : (findR (rowsL p l g) G).value = (stF p (argsP p G (pairs l g))).2 := by
  rw [find_rows]
  unfold rowOf
  split
  · rename_i h; rw [h]; rfl
  · rfl
theorem find_bnd (p : Prj) (l : List Ent) (g : List Int) (G : Int) : 0 ≤ (findR (rowsL p l g) G).count ∧ (findR (rowsL p l g) G).count ≤ l.length := by
  have := args_len p G l g
  rw [find_cnt]; omega
theorem row_self {p : Prj} {l : List Ent} {g : List Int} {k : Nat} (hk : k < (rowsL p l g).length) : findR (rowsL p l g) ((rowsL p l g).getD k default).group = (rowsL p l g).getD k default ∧ 1 ≤ ((rowsL p l g).getD k default).count := by
  have hm : (rowsL p l g).getD k default ∈ rowsP p (pairs l g) := by
    rw [← rowsL_eq, getD_at _ hk]; exact List.getElem_mem hk
  have h1 := row_mem.1 hm
  have h2 : findR (rowsL p l g) ((rowsL p l g).getD k default).group = (rowsL p l g).getD k default := by rw [find_rows, h1]; rfl
  refine ⟨h2, ?_⟩
  have h3 := find_cnt p l g ((rowsL p l g).getD k default).group
  rw [h2] at h3
  rw [h3]
  unfold rowOf at h1
  split at h1
  · cases h1
  · rename_i hne
    have := List.length_pos_iff.2 hne
    omega
theorem join_cnt (p : Prj) (l m : List Ent) (r G : Int) : (findR (rowsL p (l ++ m) [r]) G).count = (findR (rowsL p l [r]) G).count + (findR (rowsL p m [r]) G).count := by
  rw [find_cnt, find_cnt, find_cnt, args_join, List.length_append]; omega
theorem join_val {p : Prj} (hp : 1 ≤ p.pmake ∧ p.pmake ≤ 4) {l m : List Ent} (hl : l.length ≤ 300) (hm : m.length ≤ 300) (r G : Int) : (findR (rowsL p (l ++ m) [r]) G).value =
    if (findR (rowsL p m [r]) G).count = 0 then (findR (rowsL p l [r]) G).value else if (findR (rowsL p l [r]) G).count = 0 then (findR (rowsL p m [r]) G).value else
      if p.pmake = 4 then max (findR (rowsL p l [r]) G).value (findR (rowsL p m [r]) G).value else if p.pmake = 3 then min (findR (rowsL p l [r]) G).value (findR (rowsL p m [r]) G).value else IntKind.i64.wrap ((findR (rowsL p l [r]) G).value + (findR (rowsL p m [r]) G).value) := by
  have hal := args_len p G l [r]
  have hbl := args_len p G m [r]
  rw [find_cnt, find_cnt, find_val, find_val, find_val, args_join]
  generalize argsP p G (pairs l [r]) = A at *
  generalize argsP p G (pairs m [r]) = B at *
  by_cases hB : B = []
  · subst hB; simp
  · have hB0 := List.length_pos_iff.2 hB
    rw [if_neg (by omega)]
    by_cases hA : A = []
    · subst hA; simp
    · have hA0 := List.length_pos_iff.2 hA
      rw [if_neg (by omega)]
      by_cases h1 : p.pmake = 1
      · rw [if_neg (by omega), if_neg (by omega), stF_one h1, stF_one h1, stF_one h1, List.length_append, IntKind.wrap_i64]; omega
      · exact stF_join ⟨by omega, hp.2⟩ hA (B.length - 1) B (by omega)
end Go.Proofs.Ytbbpmhfcgoljdaa
