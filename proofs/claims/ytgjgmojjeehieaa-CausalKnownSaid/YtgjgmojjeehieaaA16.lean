/- Steps of the proofs of this seat: part A16. -/
import Derived.Test.YtgjgmojjeehieaaA15
set_option linter.unusedSimpArgs false
set_option linter.unusedVariables false
set_option maxRecDepth 8000
set_option maxHeartbeats 4000000
namespace Go.Proofs.Ytgjgmojjeehieaa
open Go.Proofs Go.RowKit

def insE (e : Ev) : List Ev → List Ev
  | [] => [e]
  | x :: l => if ltE e x = true then e :: x :: l else x :: insE e l
def knowsE (n : Nat) (L : List Ev) (e : Ev) : Bool := (List.range n).all (knewE L e)
def addE (n : Nat) (L : List Ev) (e : Ev) : Int := if checkE e n ≠ 0 then checkE e n else if (getE L (e.origin, e.seq)).isSome = true then 16 else if e.seq ≠ ((cntE L e.origin.toNat : Nat) : Int) + 1 then 9 else if knowsE n L e = true then 0 else 9
def addL (n : Nat) (L : List Ev) (e : Ev) : List Ev := if addE n L e = 0 then insE e L else L
section
variable {n : Nat} {L : List Ev} {e : Ev}
theorem add_c (h : ¬ checkE e n = 0) : addE n L e = checkE e n := by unfold addE; rw [if_pos h]
theorem add_t (h : checkE e n = 0) (h2 : (getE L (e.origin, e.seq)).isSome = true) : addE n L e = 16 := by unfold addE; rw [if_neg (by simpa using h), if_pos h2]
theorem add_s (h : checkE e n = 0) (h2 : (getE L (e.origin, e.seq)).isSome = false) (h3 : ¬ e.seq = ((cntE L e.origin.toNat : Nat) : Int) + 1) : addE n L e = 9 := by unfold addE; rw [if_neg (by simpa using h), if_neg (by rw [h2]; decide), if_pos h3]
theorem add_k (h : checkE e n = 0) (h2 : (getE L (e.origin, e.seq)).isSome = false) (h3 : e.seq = ((cntE L e.origin.toNat : Nat) : Int) + 1) {k : Nat} (hk : k < n) (h4 : knewE L e k = false) : addE n L e = 9 := by
  unfold addE
  rw [if_neg (by simpa using h), if_neg (by rw [h2]; decide), if_neg (by simpa using h3), if_neg (fun h5 => ?_)]
  have := (List.all_eq_true.1 h5) k (List.mem_range.2 hk)
  rw [h4] at this; cases this
theorem add_0 (h : checkE e n = 0) (h2 : (getE L (e.origin, e.seq)).isSome = false) (h3 : e.seq = ((cntE L e.origin.toNat : Nat) : Int) + 1) (h4 : ∀ i, i < n → knewE L e i = true) : addE n L e = 0 := by
  unfold addE
  rw [if_neg (by simpa using h), if_neg (by rw [h2]; decide), if_neg (by simpa using h3), if_pos (show knowsE n L e = true from List.all_eq_true.2 fun i hi => h4 i (List.mem_range.1 hi))]
theorem addL_no (h : ¬ addE n L e = 0) : addL n L e = L := if_neg h
theorem addL_yes (h : addE n L e = 0) : addL n L e = insE e L := if_pos h
theorem check_ok (h : checkE e n = 0) : (0 ≤ e.origin ∧ e.origin < n) ∧ (1 ≤ e.seq ∧ 1 ≤ e.lam) ∧ e.deps.length = n ∧ e.deps.getD e.origin.toNat 0 = e.seq - 1 := by
  unfold checkE at h
  split at h
  · cases h
  · rename_i h1
    split at h
    · cases h
    · rename_i h2
      have h1' : (((((decide (e.origin < 0) || decide ((n : Int) ≤ e.origin)) || decide (min e.seq e.lam < 1)) || decide (min e.agg e.key < 0)) || !decide (((e.deps.length : Nat) : Int) = n)) || negL e.deps) = false := by simpa using h1
      simp only [Bool.or_eq_false_iff, decide_eq_false_iff_not, Bool.not_eq_false', decide_eq_true_eq] at h1'
      have h2' : e.deps.getD e.origin.toNat 0 = e.seq - 1 := by simpa using h2
      obtain ⟨⟨⟨⟨⟨a1, a2⟩, a3⟩, a4⟩, a5⟩, a6⟩ := h1'
      exact ⟨⟨by omega, by omega⟩, ⟨by omega, by omega⟩, by omega, h2'⟩
theorem insE_perm : ∀ {L : List Ev}, (insE e L).Perm (e :: L)
  | [] => List.Perm.refl _
  | x :: l => by
    unfold insE
    split
    · exact List.Perm.refl _
    · exact ((insE_perm (L := l)).cons x).trans (List.Perm.swap ..)
theorem insE_len : (insE e L).length = L.length + 1 := insE_perm.length_eq
theorem cntE_le {o : Nat} : cntE L o ≤ L.length := List.length_filter_le ..
theorem cnt_ins {o : Nat} : cntE (insE e L) o = cntE L o + if e.origin = (o : Int) then 1 else 0 := by
  unfold cntE
  rw [((insE_perm (e := e) (L := L)).filter _).length_eq, List.filter_cons]
  by_cases h : e.origin = (o : Int)
  · rw [if_pos (by simpa using h), if_pos h]; rfl
  · rw [if_neg (by simpa using h), if_neg h]; rfl
theorem vec_ins (h0 : 0 ≤ e.origin) (h1 : e.origin < n) : (vecE n L).set e.origin.toNat (((cntE L e.origin.toNat : Nat) : Int) + 1) = vecE n (insE e L) := by
  refine List.ext_getElem (by simp [vecE]) (fun i h2 h3 => ?_)
  simp only [List.length_set, vecE_len] at h2
  rw [List.getElem_set]
  simp only [vecE, List.getElem_map, List.getElem_range]
  rw [cnt_ins]
  by_cases h : e.origin.toNat = i
  · rw [if_pos h, if_pos (by omega), ← h]; omega
  · rw [if_neg h, if_neg (by omega)]; omega
theorem top_perm {A B : List Ev} (h : A.Perm B) : topE A = topE B := by
  unfold topE
  induction h with
  | nil => rfl
  | cons x _ ih => simp only [List.foldr_cons, ih]
  | swap x y l => simp only [List.foldr_cons]; omega
  | trans _ _ h1 h2 => exact h1.trans h2
theorem top_ins : max (topE L) e.lam = topE (insE e L) := by rw [top_perm insE_perm]; rfl
theorem getE_ins (h : (getE L (e.origin, e.seq)).isSome = false) : updF (getE L) (e.origin, e.seq) e = getE (insE e L) := by
  funext k
  unfold updF
  induction L with
  | nil =>
    simp only [insE, getE, List.find?_cons, List.find?_nil]
    obtain ⟨a, b⟩ := k
    by_cases hk : (e.origin, e.seq) = (a, b)
    · rw [if_pos hk]; cases hk; simp
    · rw [if_neg hk]; simp only [Prod.mk.injEq] at hk; simp [hk]
  | cons x l ih =>
    have hx : ¬ (x.origin = e.origin ∧ x.seq = e.seq) ∧ (getE l (e.origin, e.seq)).isSome = false := by
      unfold getE at h
      rw [List.find?_cons] at h
      by_cases hx : x.origin = e.origin ∧ x.seq = e.seq
      · rw [decide_eq_true hx] at h; cases h
      · rw [decide_eq_false hx] at h; exact ⟨hx, h⟩
    obtain ⟨a, b⟩ := k
    have ih := ih hx.2
    simp only [insE]
    by_cases hlt : ltE e x = true
    · rw [if_pos hlt]
      by_cases hk : (e.origin, e.seq) = (a, b)
      · rw [if_pos hk]; cases hk; simp [getE]
      · rw [if_neg hk]; simp only [Prod.mk.injEq] at hk; simp [getE, hk]
    · rw [if_neg hlt]
      unfold getE at ih ⊢
      rw [List.find?_cons, List.find?_cons]
      by_cases hxa : x.origin = a ∧ x.seq = b
      · have hk : ¬ (e.origin, e.seq) = (a, b) := fun hk => by cases hk; exact hx.1 hxa
        rw [if_neg hk, decide_eq_true hxa]
      · rw [decide_eq_false hxa]; exact ih
end
end Go.Proofs.Ytgjgmojjeehieaa
