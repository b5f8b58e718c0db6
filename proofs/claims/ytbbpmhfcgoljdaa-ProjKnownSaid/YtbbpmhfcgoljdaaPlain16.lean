/- A projection's rows, in plain words. -/
import Derived.Test.YtbbpmhfcgoljdaaP2
set_option linter.unusedSimpArgs false
set_option linter.unusedVariables false
namespace Go.Proofs.Ytbbpmhfcgoljdaa

theorem updM_keys {α : Type} {L : List (Int × α)} {k : Int} {x : α} : (∃ p ∈ L, p.1 = k) ∧ (updM L k x).map (·.1) = L.map (·.1) ∨ (∀ p ∈ L, p.1 ≠ k) ∧ updM L k x = L ++ [(k, x)] := by
  unfold updM
  split
  · rename_i j hj
    obtain ⟨h1, h2, h3⟩ := List.findIdx?_eq_some_iff_getElem.1 hj
    refine .inl ⟨⟨L[j], List.getElem_mem h1, by simpa using h2⟩, ?_⟩
    refine List.ext_getElem (by simp) fun i h4 h5 => ?_
    simp only [List.getElem_map, List.getElem_set]
    split
    · rename_i e; subst e; have h6 : L[j].1 = k := by simpa using h2
      exact h6.symm
    · rfl
  · rename_i hj
    rw [List.findIdx?_eq_none_iff] at hj
    exact .inr ⟨fun p hp => by simpa using hj p hp, rfl⟩
theorem lookM_upd {α : Type} {L : List (Int × α)} {k g : Int} {x : α} : lookM (updM L k x) g = if g = k then some x else lookM L g := by
  unfold lookM updM
  split
  · rename_i j hj
    obtain ⟨h1, h2, h3⟩ := List.findIdx?_eq_some_iff_getElem.1 hj
    have h2' : L[j].1 = k := by simpa using h2
    by_cases hg : g = k
    · subst hg
      rw [if_pos rfl]
      have : (L.set j (g, x)).find? (fun p => p.1 == g) = some (g, x) := by
        rw [List.find?_eq_some_iff_getElem]
        refine ⟨by simp, j, by simpa using h1, by simp, fun i hi => ?_⟩
        have h4 := h3 i hi
        simp only [List.getElem_set]
        rw [if_neg (by omega)]
        simpa using h4
      rw [this]; rfl
    · rw [if_neg hg]
      congr 1
      clear h3 hj
      induction L generalizing j with
      | nil => rfl
      | cons p L ih =>
        cases j with
        | zero =>
          simp only [List.set_cons_zero, List.find?_cons]
          have e1 : (k == g) = false := by simpa using fun e => hg e.symm
          have e2 : (p.1 == g) = false := by
            have : p.1 = k := by simpa using h2'
            rw [this]; exact e1
          simp only [e1, e2]
        | succ j =>
          simp only [List.set_cons_succ, List.find?_cons]
          split
          · rfl
          · exact ih j (by simpa using h1) (by simpa using h2) (by simpa using h2')
  · rename_i hj
    rw [List.findIdx?_eq_none_iff] at hj
    rw [List.find?_append]
    by_cases hg : g = k
    · subst hg
      rw [if_pos rfl]
      have : L.find? (fun p => p.1 == g) = none := by
        rw [List.find?_eq_none]
        intro p hp; simpa using hj p hp
      rw [this]; simp
    · rw [if_neg hg]
      have e1 : (k == g) = false := by simpa using fun e => hg e.symm
      simp [e1]
theorem lookM_mem {α : Type} {L : List (Int × α)} (hn : (L.map (·.1)).Nodup) {p : Int × α} (hp : p ∈ L) : lookM L p.1 = some p.2 := by
  obtain ⟨j, hj, rfl⟩ := List.getElem_of_mem hp
  unfold lookM
  rw [look_at hn hj]; rfl
theorem lookM_some {α : Type} {L : List (Int × α)} {g : Int} {x : α} (h : lookM L g = some x) : (g, x) ∈ L := by
  unfold lookM at h
  rw [Option.map_eq_some_iff] at h
  obtain ⟨p, hp, rfl⟩ := h
  have h1 := List.find?_some hp
  have h2 := List.mem_of_find?_eq_some hp
  have : p.1 = g := by simpa using h1
  rw [← this]; exact h2

def regI (regs : List Int) (i : Nat) : Int := if regs.length = 0 then 0 else regs.getD (i % regs.length) 0
/-- The first k entries done. -/
def addsM (p : Prj) (l : List Ent) (regs : List Int) : Nat → List (Int × Row)
  | 0 => []
  | k + 1 => addM p (addsM p l regs k) (l.getD k default) (regI regs k)

structure GoodM (L : List (Int × Row)) (k : Nat) : Prop where
  grp : ∀ q ∈ L, q.1 = q.2.group
  cnt : ∀ q ∈ L, 1 ≤ q.2.count ∧ q.2.count ≤ k
  nodup : (L.map (·.1)).Nodup
  len : L.length ≤ k
theorem good_nil : GoodM [] 0 := ⟨fun q h => (by cases h), fun q h => (by cases h), List.nodup_nil, Nat.le_refl _⟩
theorem updM_mem {α : Type} {L : List (Int × α)} {k : Int} {x : α} {q : Int × α} (h : q ∈ updM L k x) : q = (k, x) ∨ q ∈ L := by
  unfold updM at h
  split at h
  · rcases List.mem_or_eq_of_mem_set h with h | h
    · exact .inr h
    · exact .inl h
  · rcases List.mem_append.1 h with h | h
    · exact .inr h
    · exact .inl (by simpa using h)
theorem cnt_of {L : List (Int × Row)} {k : Nat} (h : GoodM L k) (g : Int) : 0 ≤ ((lookM L g).getD (⟨0, 0, 0⟩ : Row)).count ∧ ((lookM L g).getD (⟨0, 0, 0⟩ : Row)).count ≤ k := by
  cases hl : lookM L g with
  | none => simp
  | some x => have h1 : 1 ≤ x.count ∧ x.count ≤ k := h.cnt (g, x) (lookM_some hl); simp; omega
theorem GoodM.add {L : List (Int × Row)} {k : Nat} (h : GoodM L k) (p : Prj) (e : Ent) (reg : Int) : GoodM (addM p L e reg) (k + 1) := by
  have hw : GoodM L (k + 1) := ⟨h.grp, fun q hq => by have := h.cnt q hq; omega, h.nodup, Nat.le_succ_of_le h.len⟩
  unfold addM
  split
  · exact hw
  · rename_i g hg
    split
    · exact hw
    · have hc := cnt_of h g
      refine ⟨fun q hq => ?_, fun q hq => ?_, ?_, ?_⟩
      · rcases updM_mem hq with rfl | hq
        · rfl
        · exact h.grp q hq
      · rcases updM_mem hq with rfl | hq
        · show 1 ≤ _ + 1 ∧ _ + 1 ≤ ((k + 1 : Nat) : Int)
          omega
        · have := h.cnt q hq; omega
      · rcases updM_keys (L := L) (k := g) (x := (⟨g, madeI p ⟨g, ((lookM L g).getD ⟨0, 0, 0⟩).value, ((lookM L g).getD ⟨0, 0, 0⟩).count + 1⟩ e.ev.arg, ((lookM L g).getD ⟨0, 0, 0⟩).count + 1⟩ : Row)) with ⟨_, h1⟩ | ⟨h1, h2⟩
        · rw [h1]; exact h.nodup
        · rw [h2, List.map_append, List.nodup_append]
          refine ⟨h.nodup, by simp, fun a ha b hb => ?_⟩
          simp at hb
          subst hb
          obtain ⟨q, hq, rfl⟩ := List.mem_map.1 ha
          exact h1 q hq
      · have := h.len
        unfold updM
        split
        · rw [List.length_set]; omega
        · rw [List.length_append]; simp; omega
theorem adds_good (p : Prj) (l : List Ent) (regs : List Int) : ∀ k, GoodM (addsM p l regs k) k
  | 0 => good_nil
  | k + 1 => (adds_good p l regs k).add p _ _

/-- Rows in the order of their groups. -/
def insR (x : Row) : List Row → List Row
  | [] => [x]
  | y :: l => if x.group < y.group then x :: y :: l else y :: insR x l
def srtR : List Row → List Row
  | [] => []
  | x :: l => insR x (srtR l)
theorem insR_perm (x : Row) : ∀ l, (insR x l).Perm (x :: l)
  | [] => List.Perm.refl _
  | y :: l => by
    unfold insR; split
    · exact List.Perm.refl _
    · exact ((insR_perm x l).cons y).trans (List.Perm.swap x y l)
theorem srtR_perm : ∀ l, (srtR l).Perm l
  | [] => List.Perm.refl _
  | x :: l => (insR_perm x _).trans ((srtR_perm l).cons x)
theorem insR_sorted (x : Row) : ∀ {l : List Row}, l.Pairwise (fun a b => ¬ b.group < a.group) → (insR x l).Pairwise (fun a b => ¬ b.group < a.group)
  | [], _ => by simp [insR]
  | y :: l, h => by
    obtain ⟨h1, h2⟩ := List.pairwise_cons.1 h
    unfold insR; split
    · rename_i hl
      refine List.pairwise_cons.2 ⟨fun z hz => ?_, h⟩
      rcases List.mem_cons.1 hz with rfl | hz
      · omega
      · have := h1 z hz; omega
    · rename_i hl
      refine List.pairwise_cons.2 ⟨fun z hz => ?_, insR_sorted x h2⟩
      rcases List.mem_cons.1 ((insR_perm x l).subset hz) with rfl | hz
      · exact hl
      · exact h1 z hz
theorem srtR_sorted : ∀ l : List Row, (srtR l).Pairwise (fun a b => ¬ b.group < a.group)
  | [] => List.Pairwise.nil
  | x :: l => insR_sorted x (srtR_sorted l)
theorem sorted_eq : ∀ {a b : List Row}, a.Perm b → a.Pairwise (fun x y => ¬ y.group < x.group) → b.Pairwise (fun x y => ¬ y.group < x.group) → (a.map (·.group)).Nodup → a = b
  | [], b, hp, _, _, _ => (List.nil_perm.1 hp).symm
  | x :: a, b, hp, ha, hb, hn => by
    cases b with
    | nil => exact absurd hp.symm (by simp)
    | cons y b =>
      obtain ⟨ha1, ha2⟩ := List.pairwise_cons.1 ha
      obtain ⟨hb1, hb2⟩ := List.pairwise_cons.1 hb
      have hn' := List.nodup_cons.1 (by simpa using hn : (x.group :: a.map (·.group)).Nodup)
      have hxy : x = y := by
        have hy : y ∈ x :: a := hp.symm.subset (List.mem_cons_self ..)
        have hx : x ∈ y :: b := hp.subset (List.mem_cons_self ..)
        rcases List.mem_cons.1 hy with h | h
        · exact h.symm
        · rcases List.mem_cons.1 hx with h' | h'
          · exact h'
          · have h1 := ha1 y h
            have h2 := hb1 x h'
            have : y.group = x.group := by omega
            exact absurd (this ▸ List.mem_map_of_mem (f := (·.group)) h) hn'.1
      subst hxy
      rw [sorted_eq ((List.perm_cons x).1 hp) ha2 hb2 hn'.2]
theorem groups_nodup {L : List (Int × Row)} (hg : ∀ q ∈ L, q.1 = q.2.group) (hn : (L.map (·.1)).Nodup) : ((L.map (·.2)).map (·.group)).Nodup := by
  have : (L.map (·.2)).map (·.group) = L.map (·.1) := by
    rw [List.map_map]
    exact List.map_congr_left fun q hq => (hg q hq).symm
  rw [this]; exact hn
theorem srtR_unique {L : List (Int × Row)} (hg : ∀ q ∈ L, q.1 = q.2.group) (hn : (L.map (·.1)).Nodup) {l' : List Row} (hp : l'.Perm (L.map (·.2))) (hs : l'.Pairwise (fun a b => ¬ b.group < a.group)) : l' = srtR (L.map (·.2)) := by
  refine sorted_eq (hp.trans (srtR_perm _).symm) hs (srtR_sorted _) ?_
  exact ((hp.map (·.group)).nodup_iff).2 (groups_nodup hg hn)
/-- All rows of entries. -/
def rowsL (p : Prj) (l : List Ent) (regs : List Int) : List Row := srtR ((addsM p l regs l.length).map (·.2))
end Go.Proofs.Ytbbpmhfcgoljdaa
