/- The reference's rows and the map's rows are the same. -/
import Derived.Test.YtbbpmhfcgoljdaaR2
set_option linter.unusedSimpArgs false
set_option linter.unusedVariables false
namespace Go.Proofs.Ytbbpmhfcgoljdaa
theorem good_mem {L : List (Int × Row)} {n : Nat} (hg : GoodM L n) {x : Row} : x ∈ srtR (L.map (·.2)) ↔ lookM L x.group = some x := by
  rw [(srtR_perm _).mem_iff, List.mem_map]
  constructor
  · rintro ⟨y, hy, rfl⟩
    have := lookM_mem hg.nodup hy
    rw [hg.grp y hy] at this
    exact this
  · intro h
    exact ⟨_, lookM_some h, rfl⟩
theorem good_strict {L : List (Int × Row)} {n : Nat} (hg : GoodM L n) : (srtR (L.map (·.2))).Pairwise fun a b => a.group < b.group := by
  have h1 := srtR_sorted (L.map (·.2))
  have h2 : ((srtR (L.map (·.2))).map (·.group)).Nodup := (((srtR_perm _).map (·.group)).nodup_iff).2 (groups_nodup hg.grp hg.nodup)
  have h3 := List.pairwise_map.1 h2
  exact (h1.and h3).imp fun {a b} ⟨h, hne⟩ => by omega
theorem strict_ext {A B : List Row} (ha : A.Pairwise fun a b => a.group < b.group) (hb : B.Pairwise fun a b => a.group < b.group) (h : ∀ x, x ∈ A ↔ x ∈ B) : A = B := by
  have nd : ∀ {A : List Row}, (A.Pairwise fun a b => a.group < b.group) → A.Nodup := fun ha => ha.imp (fun hlt e => by subst e; omega)
  have nd2 : (A.map (·.group)).Nodup := List.pairwise_map.2 (ha.imp (fun {a b} hlt e => by have e : a.group = b.group := e; omega))
  exact sorted_eq ((List.perm_ext_iff_of_nodup (nd ha) (nd hb)).2 h) (ha.imp (fun {a b} hlt => by omega)) (hb.imp (fun {a b} hlt => by omega)) nd2
theorem strict_at {l : List Row} (hs : l.Pairwise fun a b => a.group < b.group) {i j : Nat} (hi : i < j) (hj : j < l.length) : (l.getD i default).group < (l.getD j default).group := by
  rw [getD_at _ (show i < l.length by omega), getD_at _ hj]
  exact List.pairwise_iff_getElem.1 hs i j (by omega) hj hi
theorem addM_on {p : Prj} {L : List (Int × Row)} {e : Ent} {reg g : Int} (h : e.void = false ∧ e.ev.typ = p.ptyp ∧ e.ev.field = p.pfield) (hg : grpI p e.ev reg = some g) :
    addM p L e reg = updM L g ⟨g, madeI p ⟨g, ((lookM L g).getD ⟨0, 0, 0⟩).value, ((lookM L g).getD ⟨0, 0, 0⟩).count + 1⟩ e.ev.arg, ((lookM L g).getD ⟨0, 0, 0⟩).count + 1⟩ := by
  unfold addM
  rw [hg]
  simp only []
  rw [if_neg (by rintro (h' | h' | h'); rw [h.1] at h'; cases h'; exact h' h.2.1; exact h' h.2.2)]
theorem addM_off {p : Prj} {L : List (Int × Row)} {e : Ent} {reg : Int} (h : e.void = true ∨ e.ev.typ ≠ p.ptyp ∨ e.ev.field ≠ p.pfield ∨ p.pgroup < 1 ∨ 3 < p.pgroup) : addM p L e reg = L := by
  unfold addM
  split
  · rfl
  · rename_i g hg
    rcases h with h | h | h | h | h
    · rw [if_pos (.inl h)]
    · rw [if_pos (.inr (.inl h))]
    · rw [if_pos (.inr (.inr h))]
    · unfold grpI at hg
      rw [if_neg (by omega), if_neg (by omega), if_neg (by omega)] at hg; cases hg
    · unfold grpI at hg
      rw [if_neg (by omega), if_neg (by omega), if_neg (by omega)] at hg; cases hg
theorem madeI_off {p : Prj} (h : ¬ (1 ≤ p.pmake ∧ p.pmake ≤ 5)) (r : Row) (x : Int) : madeI p r x = 0 := by
  unfold madeI
  rw [if_neg (by omega), if_neg (by omega), if_neg (by omega), if_neg (by omega), if_neg (by omega)]
theorem oneR_eq {p : Prj} {r : Row} {g x : Int} (hr : r.group = g) (hz : ¬ (1 ≤ p.pmake ∧ p.pmake ≤ 5) → r.value = 0) : oneR p r x = ⟨g, madeI p ⟨g, r.value, r.count + 1⟩ x, r.count + 1⟩ := by
  unfold oneR
  subst hr
  refine Row.eq_iff.2 ⟨rfl, ?_, rfl⟩
  dsimp only
  by_cases h : 1 ≤ p.pmake ∧ p.pmake ≤ 5
  · rw [if_pos h]
  · rw [if_neg h, madeI_off h, hz h]
theorem addRel_rows {p : Prj} {L : List (Int × Row)} {n : Nat} {e : Ent} {reg : Int} {l' : List Row} (hg : GoodM L n) (hz : ¬ (1 ≤ p.pmake ∧ p.pmake ≤ 5) → ∀ q ∈ L, q.2.value = 0) (h : AddRel p (srtR (L.map (·.2))) e reg l') :
    l' = srtR ((addM p L e reg).map (·.2)) := by
  have hgA := hg.add p e reg
  rcases h with ⟨h, rfl⟩ | ⟨⟨h1, h2, h3, h4, h5⟩, g, k, hG, hk, hlt, hc⟩
  · rw [addM_off h]
  · have hs := good_strict hg
    rw [addM_on ⟨h1, h2, h3⟩ hG] at hgA ⊢
    generalize hl : srtR (L.map (·.2)) = l at *
    have hm : ∀ x, x ∈ l ↔ lookM L x.group = some x := fun x => by rw [← hl]; exact good_mem hg
    have hvz : ∀ x ∈ l, ¬ (1 ≤ p.pmake ∧ p.pmake ≤ 5) → x.value = 0 := fun x hx hn => hz hn _ (lookM_some ((hm x).1 hx))
    refine strict_ext ?_ (good_strict hgA) (fun x => ?_)
    · rcases hc with ⟨hkl, hkg, rfl⟩ | ⟨hc, rfl⟩
      · have e1 : (l.set k (oneR p (l.getD k default) e.ev.arg)).map (·.group) = l.map (·.group) := by
          refine List.ext_getElem (by simp) fun i h1 h2 => ?_
          rw [List.getElem_map, List.getElem_map, List.getElem_set]
          split
          · rename_i hik; subst hik
            show (l.getD k default).group = _
            rw [getD_at _ hkl]
          · rfl
        have h6 : (l.map (·.group)).Pairwise (fun a b => a < b) := List.pairwise_map.2 hs
        rw [← e1] at h6
        exact List.pairwise_map.1 h6
      · have e1 : (shl l k).set k (oneR p ⟨g, 0, 0⟩ e.ev.arg) = l.take k ++ oneR p ⟨g, 0, 0⟩ e.ev.arg :: l.drop k := by
          unfold shl
          rw [List.set_append_right _ _ (by rw [List.length_take]; omega), List.length_take, Nat.min_eq_left hk, Nat.sub_self, List.set_cons_zero]
        rw [e1, List.pairwise_append]
        have hg0 : (oneR p ⟨g, 0, 0⟩ e.ev.arg).group = g := rfl
        refine ⟨hs.sublist (List.take_sublist _ _), ?_, ?_⟩
        · rw [List.pairwise_cons]
          refine ⟨fun y hy => ?_, hs.sublist (List.drop_sublist _ _)⟩
          obtain ⟨i, hi, rfl⟩ := List.getElem_of_mem hy
          rw [List.length_drop] at hi
          rw [List.getElem_drop, hg0, ← getD_atR l (by omega)]
          rcases hc with hc | hc
          · omega
          · rcases Nat.eq_zero_or_pos i with h0 | h0
            · subst h0; exact hc
            · have := strict_at hs (i := k) (j := k + i) (by omega) (by omega); omega
        · intro a ha b hb
          obtain ⟨i, hi, rfl⟩ := List.getElem_of_mem ha
          rw [List.length_take] at hi
          have hi2 : (l.take k)[i].group < g := by
            rw [List.getElem_take, ← getD_atR l (by omega)]; exact hlt i (by omega)
          rcases List.mem_cons.1 hb with rfl | hb
          · exact hi2
          · obtain ⟨j, hj, rfl⟩ := List.getElem_of_mem hb
            rw [List.length_drop] at hj
            rw [List.getElem_take, List.getElem_drop, ← getD_atR l (by omega), ← getD_atR l (by omega)]
            exact strict_at hs (by omega) (by omega)
    · rw [good_mem hgA, lookM_upd]
      rcases hc with ⟨hkl, hkg, rfl⟩ | ⟨hc, rfl⟩
      · have hkm : l.getD k default ∈ l := by rw [getD_at _ hkl]; exact List.getElem_mem hkl
        have hlk := (hm _).1 hkm
        rw [hkg] at hlk
        rw [hlk, Option.getD_some, oneR_eq hkg (hvz _ hkm)]
        constructor
        · intro hx
          obtain ⟨i, hi, rfl⟩ := List.getElem_of_mem hx
          rw [List.length_set] at hi
          rw [List.getElem_set]
          by_cases hik : k = i
          · simp [hik]
          · rw [if_neg hik]
            have hne : ¬ (l[i].group = g) := by
              intro he
              rw [← getD_atR l hi, ← hkg] at he
              rcases Nat.lt_or_gt_of_ne hik with h | h
              · have := strict_at hs h hi; omega
              · have := strict_at hs h hkl; omega
            rw [if_neg hne]
            exact (hm _).1 (List.getElem_mem hi)
        · intro hx
          split at hx
          · cases hx
            exact List.mem_iff_getElem.2 ⟨k, by rw [List.length_set]; exact hkl, by simp⟩
          · rename_i hne
            have hxl := (hm x).2 hx
            obtain ⟨i, hi, rfl⟩ := List.getElem_of_mem hxl
            refine List.mem_iff_getElem.2 ⟨i, by rw [List.length_set]; exact hi, ?_⟩
            rw [List.getElem_set, if_neg]
            rintro rfl
            rw [← getD_atR l hi] at hne
            exact hne hkg
      · have hno : ∀ x ∈ l, x.group ≠ g := by
          intro x hx he
          obtain ⟨i, hi, rfl⟩ := List.getElem_of_mem hx
          rw [← getD_atR l hi] at he
          rcases Nat.lt_or_ge i k with h | h
          · have := hlt i h; omega
          · rcases hc with hc | hc
            · omega
            · rcases Nat.eq_or_lt_of_le h with h' | h'
              · subst h'; omega
              · have := strict_at hs h' hi; omega
        have hln : lookM L g = none := by
          cases hq : lookM L g with
          | none => rfl
          | some y =>
            have hy := lookM_some hq
            have hyg := hg.grp _ hy
            exact absurd hyg.symm (hno y ((hm y).2 (by rw [← hyg]; exact hq)))
        rw [hln, Option.getD_none, oneR_eq (r := ⟨g, 0, 0⟩) rfl (fun _ => rfl)]
        have e1 : ∀ y, (shl l k).set k y = l.take k ++ y :: l.drop k := fun y => by
          unfold shl
          rw [List.set_append_right _ _ (by rw [List.length_take]; omega), List.length_take, Nat.min_eq_left hk, Nat.sub_self, List.set_cons_zero]
        rw [e1]
        have hmem : x ∈ l.take k ++ (⟨g, madeI p ⟨g, 0, 0 + 1⟩ e.ev.arg, 0 + 1⟩ : Row) :: l.drop k ↔ x = ⟨g, madeI p ⟨g, 0, 0 + 1⟩ e.ev.arg, 0 + 1⟩ ∨ x ∈ l := by
          rw [List.mem_append, List.mem_cons]
          conv => rhs; rw [← List.take_append_drop k l, List.mem_append]
          constructor
          · rintro (h | h | h)
            · exact .inr (.inl h)
            · exact .inl h
            · exact .inr (.inr h)
          · rintro (h | h | h)
            · exact .inr (.inl h)
            · exact .inl h
            · exact .inr (.inr h)
        rw [hmem]
        constructor
        · rintro (rfl | hx)
          · simp
          · rw [if_neg (hno x hx)]; exact (hm x).1 hx
        · intro hx
          split at hx
          · cases hx; exact .inl rfl
          · exact .inr ((hm x).2 hx)
theorem addM_zero {p : Prj} (hn : ¬ (1 ≤ p.pmake ∧ p.pmake ≤ 5)) {L : List (Int × Row)} (h : ∀ q ∈ L, q.2.value = 0) (e : Ent) (reg : Int) : ∀ q ∈ addM p L e reg, q.2.value = 0 := by
  intro q hq
  unfold addM at hq
  split at hq
  · exact h q hq
  · split at hq
    · exact h q hq
    · rcases updM_mem hq with rfl | hq
      · exact madeI_off hn _ _
      · exact h q hq
theorem adds_zero {p : Prj} (hn : ¬ (1 ≤ p.pmake ∧ p.pmake ≤ 5)) (l : List Ent) (g : List Int) : ∀ k, ∀ q ∈ addsM p l g k, q.2.value = 0
  | 0, q, h => by cases h
  | k + 1, q, h => addM_zero hn (adds_zero hn l g k) _ _ q h
/-- The rows behind k entries. -/
def rowsK (p : Prj) (l : List Ent) (g : List Int) (k : Nat) : List Row := srtR ((addsM p l g k).map (·.2))
theorem rowsK_step {p : Prj} {l : List Ent} {g : List Int} {k : Nat} {l' : List Row} (h : AddRel p (rowsK p l g k) (l.getD k default) (regI g k) l') : l' = rowsK p l g (k + 1) :=
  addRel_rows (adds_good p l g k) (fun hn => adds_zero hn l g k) h
theorem rowsK_len (p : Prj) (l : List Ent) (g : List Int) (k : Nat) : (rowsK p l g k).length ≤ k := by
  unfold rowsK
  rw [(srtR_perm _).length_eq, List.length_map]
  exact (adds_good p l g k).len
theorem rowsK_cnt {p : Prj} {l : List Ent} {g : List Int} {k : Nat} (hk : k ≤ 1000) : ∀ j, j < (rowsK p l g k).length → 0 ≤ ((rowsK p l g k).getD j default).count ∧ ((rowsK p l g k).getD j default).count < 4611686018427387904 := by
  intro j hj
  have hm : (rowsK p l g k).getD j default ∈ rowsK p l g k := by rw [getD_at _ hj]; exact List.getElem_mem hj
  have h1 := (good_mem (adds_good p l g k)).1 hm
  have h2 := cnt_of (adds_good p l g k) ((rowsK p l g k).getD j default).group
  rw [h1, Option.getD_some] at h2
  omega
end Go.Proofs.Ytbbpmhfcgoljdaa
