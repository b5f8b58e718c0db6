/- Order, in plain words: sorting by insertion, what it keeps. -/
import Derived.Test.YtbbhpddgjiifmaaSrt3
set_option linter.unusedSimpArgs false
set_option linter.unusedVariables false
namespace Go.Proofs.Ytbbhpddgjiifmaa

def insPos (out : List Ev) (e : Ev) : Nat → Nat
  | 0 => 0
  | k + 1 => if less e (out.getD k default) = true then insPos out e k else k + 1
def insBack (out : List Ev) (e : Ev) : List Ev := out.take (insPos out e out.length) ++ e :: out.drop (insPos out e out.length)
def srt (l : List Ev) : List Ev := l.foldl insBack []

theorem insPos_le (out : List Ev) (e : Ev) : ∀ k, insPos out e k ≤ k
  | 0 => Nat.le_refl _
  | k + 1 => by
    unfold insPos; split
    · exact Nat.le_trans (insPos_le out e k) (Nat.le_succ _)
    · exact Nat.le_refl _
theorem insPos_app (A B : List Ev) (e : Ev) : ∀ k, k ≤ A.length → insPos (A ++ B) e k = insPos A e k
  | 0, _ => rfl
  | k + 1, h => by
    have e1 : (A ++ B).getD k default = A.getD k default := by
      rw [List.getD_eq_getElem?_getD, List.getD_eq_getElem?_getD, List.getElem?_append_left (by omega)]
    rw [insPos, insPos, e1, insPos_app A B e k (by omega)]
theorem sift_ins (e : Ev) : ∀ (j : Nat) (A R : List Ev), A.length = j → sift (A ++ e :: R) 0 j = A.take (insPos A e j) ++ e :: A.drop (insPos A e j) ++ R
  | 0, A, R, h => by
    rw [List.length_eq_zero_iff.1 h]; rfl
  | j + 1, A, R, h => by
    obtain ⟨A', y, rfl⟩ : ∃ A' y, A = A' ++ [y] := ⟨A.dropLast, A.getLast (by intro h'; subst h'; simp at h), (List.dropLast_concat_getLast _).symm⟩
    have hA : A'.length = j := by simpa using h
    have g1 : ((A' ++ [y]) ++ e :: R).getD (j + 1) default = e := by
      rw [List.getD_eq_getElem?_getD, List.getElem?_append_right (by simp [hA])]; simp [hA]
    have g0 : ((A' ++ [y]) ++ e :: R).getD j default = y := by
      rw [List.getD_eq_getElem?_getD, List.getElem?_append_left (by simp [hA]), List.getElem?_append_right (by omega)]; simp [hA]
    have g2 : (A' ++ [y]).getD j default = y := by
      rw [List.getD_eq_getElem?_getD, List.getElem?_append_right (by omega)]; simp [hA]
    have hp := insPos_le A' e j
    rw [sift, g1, g0, insPos, g2]
    by_cases hl : less e y = true
    · rw [if_pos ⟨Nat.succ_pos _, hl⟩, if_pos hl, insPos_app A' [y] e j (by omega)]
      have hs : swapL ((A' ++ [y]) ++ e :: R) (j + 1) j = A' ++ e :: (y :: R) := by
        unfold swapL
        rw [g1, g0]
        subst hA
        rw [List.append_assoc, List.set_append_right _ _ (by omega), show A'.length + 1 - A'.length = 1 by omega, List.set_append_right _ _ (by omega), Nat.sub_self]
        rfl
      rw [hs, sift_ins e j A' (y :: R) hA, List.take_append_of_le_length (by omega), List.drop_append_of_le_length (by omega)]
      simp
    · rw [if_neg (fun h => hl h.2), if_neg hl]
      have h1 : (A' ++ [y]).take (j + 1) = A' ++ [y] := List.take_of_length_le (by simp; omega)
      have h2 : (A' ++ [y]).drop (j + 1) = [] := List.drop_of_length_le (by simp; omega)
      rw [h1, h2]; simp
theorem insBack_length (out : List Ev) (e : Ev) : (insBack out e).length = out.length + 1 := by
  have := insPos_le out e out.length
  unfold insBack; simp; omega
theorem insFrom_fold : ∀ (n : Nat) (out R : List Ev), R.length = n → insFrom 0 n out.length (out ++ R) = R.foldl insBack out
  | 0, out, R, h => by rw [List.length_eq_zero_iff.1 h, insFrom]; simp
  | n + 1, out, e :: R, h => by
    rw [insFrom, sift_ins e out.length out R rfl, List.foldl_cons]
    have := insFrom_fold n (insBack out e) R (by simpa using h)
    rw [insBack_length] at this
    exact this
theorem srt_eq (l : List Ev) : insFrom 0 (l.length - (0 + 1)) (0 + 1) l = srt l := by
  cases l with
  | nil => rfl
  | cons x t => exact insFrom_fold t.length [x] t rfl

theorem less_irr (x : Ev) : less x x = false := by
  cases h : less x x with
  | false => rfl
  | true => have := (less_iff x x).1 h; omega
theorem nless_iff (a b : Ev) : less a b = false ↔ ¬ (a.lam < b.lam ∨ a.lam = b.lam ∧ (a.origin < b.origin ∨ a.origin = b.origin ∧ a.seq < b.seq)) := by
  rw [← less_iff]; cases less a b <;> simp
/-- What stands in order. -/
def Srtd (l : List Ev) : Prop := l.Pairwise fun a b => less b a = false

theorem insBack_perm (out : List Ev) (e : Ev) : (insBack out e).Perm (e :: out) := by
  unfold insBack
  refine List.perm_middle.trans ?_
  rw [List.take_append_drop]
theorem fold_perm : ∀ (R out : List Ev), (R.foldl insBack out).Perm (R ++ out)
  | [], out => List.Perm.refl _
  | e :: R, out => by
    rw [List.foldl_cons]
    refine (fold_perm R (insBack out e)).trans ?_
    refine ((insBack_perm out e).append_left R).trans ?_
    exact List.perm_middle
theorem srt_perm (l : List Ev) : (srt l).Perm l := by have := fold_perm l []; rwa [List.append_nil] at this
theorem srt_length (l : List Ev) : (srt l).length = l.length := (srt_perm l).length_eq

theorem insPos_after (out : List Ev) (e : Ev) : ∀ k, ∀ j, insPos out e k ≤ j → j < k → less e (out.getD j default) = true
  | 0, j, _, h => by omega
  | k + 1, j, h1, h2 => by
    unfold insPos at h1
    split at h1
    · rename_i hl
      rcases Nat.lt_or_ge j k with h | h
      · exact insPos_after out e k j h1 h
      · rw [show j = k by omega]; exact hl
    · omega
theorem insPos_before (out : List Ev) (e : Ev) : ∀ k, insPos out e k = 0 ∨ less e (out.getD (insPos out e k - 1) default) = false
  | 0 => .inl rfl
  | k + 1 => by
    unfold insPos
    split
    · exact insPos_before out e k
    · rename_i hl
      exact .inr (by simpa using hl)
theorem insBack_srtd {out : List Ev} {e : Ev} (h : Srtd out) : Srtd (insBack out e) := by
  have hp := insPos_le out e out.length
  have hA := insPos_after out e out.length
  have hB := insPos_before out e out.length
  unfold insBack
  generalize insPos out e out.length = p at hp hA hB
  have hout : Srtd (out.take p ++ out.drop p) := by rw [List.take_append_drop]; exact h
  obtain ⟨h1, h2, h3⟩ := List.pairwise_append.1 hout
  refine List.pairwise_append.2 ⟨h1, List.pairwise_cons.2 ⟨fun x hx => ?_, h2⟩, fun x hx y hy => ?_⟩
  · obtain ⟨i, hi, rfl⟩ := List.getElem_of_mem hx
    have hlt : p + i < out.length := by simp at hi; omega
    have := hA (p + i) (by omega) hlt
    rw [getD_at _ hlt] at this
    rw [List.getElem_drop]
    rw [less_iff] at this
    rw [nless_iff]
    omega
  · rcases List.mem_cons.1 hy with rfl | hy
    · obtain ⟨i, hi, rfl⟩ := List.getElem_of_mem hx
      have hi' : i < p ∧ i < out.length := by simp at hi; omega
      rcases hB with h0 | hB
      · omega
      · have hlt : p - 1 < out.length := by omega
        rw [getD_at _ hlt] at hB
        rw [List.getElem_take]
        rcases Nat.lt_or_ge i (p - 1) with hh | hh
        · have := List.pairwise_iff_getElem.1 h i (p - 1) hi'.2 hlt hh
          rw [nless_iff] at *
          omega
        · have e1 : i = p - 1 := by omega
          subst e1; exact hB
    · exact h3 x hx y hy
theorem fold_srtd : ∀ (R out : List Ev), Srtd out → Srtd (R.foldl insBack out)
  | [], _, h => h
  | _ :: R, _, h => fold_srtd R _ (insBack_srtd h)
theorem srt_srtd (l : List Ev) : Srtd (srt l) := fold_srtd l [] List.Pairwise.nil
theorem insBack_end {out : List Ev} {e : Ev} (h : Srtd (out ++ [e])) : insBack out e = out ++ [e] := by
  have hB : insPos out e out.length = out.length := by
    cases hn : out.length with
    | zero => rfl
    | succ n =>
      unfold insPos
      rw [if_neg]
      have hlt : n < out.length := by omega
      rw [getD_at _ hlt]
      obtain ⟨_, _, h3⟩ := List.pairwise_append.1 h
      have := h3 out[n] (List.getElem_mem _) e (by simp)
      simp [this]
  unfold insBack
  rw [hB]; simp
theorem fold_end : ∀ (R out : List Ev), Srtd (out ++ R) → R.foldl insBack out = out ++ R
  | [], out, _ => by simp
  | e :: R, out, h => by
    have h' : Srtd ((out ++ [e]) ++ R) := by simpa using h
    rw [List.foldl_cons, insBack_end (List.pairwise_append.1 h').1, fold_end R _ h']
    simp
theorem srt_idem {l : List Ev} (h : Srtd l) : srt l = l := by have := fold_end l [] h; rwa [List.nil_append] at this

theorem srtd_at {l : List Ev} (h : Srtd l) {i j : Nat} (hij : i < j) (hj : j < l.length) : less (l.getD j default) (l.getD i default) = false := by
  rw [getD_at _ hj, getD_at _ (show i < l.length by omega)]
  exact List.pairwise_iff_getElem.1 h i j (by omega) hj hij

/-- All stand strictly ahead of what comes behind. -/
theorem strict_all {l : List Ev} (h : ∀ j, 1 ≤ j → j < l.length → less (l.getD (j - 1) default) (l.getD j default) = true) : l.Pairwise fun a b => less a b = true := by
  rw [List.pairwise_iff_getElem]
  intro i j hi hj hij
  induction j with
  | zero => omega
  | succ j ih =>
    have h1 := h (j + 1) (by omega) hj
    rw [Nat.add_sub_cancel, getD_at _ (show j < l.length by omega), getD_at _ hj] at h1
    rcases Nat.lt_or_ge i j with hh | hh
    · have h2 := ih (by omega) hh
      rw [less_iff] at *
      omega
    · have : i = j := by omega
      subst this; exact h1
theorem perm_strict : ∀ {a b : List Ev}, a.Perm b → a.Pairwise (fun x y => less x y = true) → Srtd b → b = a
  | [], b, hp, _, _ => by rw [List.nil_perm.1 hp]
  | x :: a, b, hp, ha, hb => by
    cases b with
    | nil => exact absurd hp.symm (by simp)
    | cons y b =>
      obtain ⟨ha1, ha2⟩ := List.pairwise_cons.1 ha
      obtain ⟨hb1, hb2⟩ := List.pairwise_cons.1 hb
      have hxy : y = x := by
        have hy : y ∈ x :: a := hp.symm.subset (List.mem_cons_self ..)
        have hx : x ∈ y :: b := hp.subset (List.mem_cons_self ..)
        rcases List.mem_cons.1 hy with h | h
        · exact h
        · rcases List.mem_cons.1 hx with h' | h'
          · exact h'.symm
          · have h1 := ha1 y h
            have h2 := hb1 x h'
            rw [h1] at h2; cases h2
      subst hxy
      rw [perm_strict ((List.perm_cons y).1 hp) ha2 hb2]
theorem srt_turn {l x : List Ev} (hp : x.Perm l) (h : ∀ j, 1 ≤ j → j < (srt l).length → less ((srt l).getD (j - 1) default) ((srt l).getD j default) = true) : srt x = srt l :=
  perm_strict (((srt_perm l).trans hp.symm).trans (srt_perm x).symm) (strict_all h) (srt_srtd x)
theorem turn_perm (l : List Ev) (p : Nat) : (l.drop p ++ l.take p).Perm l := by
  have h := (List.perm_append_comm (l₁ := l.drop p) (l₂ := l.take p))
  rw [List.take_append_drop] at h
  exact h

/-- How many of the used ones are x. -/
def cntU (x : Ev) : List Ev → List Bool → Nat
  | a :: l, u :: us => (if u = true ∧ a = x then 1 else 0) + cntU x l us
  | _, _ => 0
theorem cntU_none (x : Ev) : ∀ (l : List Ev), cntU x l (List.replicate l.length false) = 0
  | [] => rfl
  | a :: l => by simp [cntU, List.replicate_succ, cntU_none x l]
theorem cntU_set (x : Ev) : ∀ (l : List Ev) (U : List Bool) (j : Nat), j < l.length → U.length = l.length → U.getD j false = false →
    cntU x l (U.set j true) = cntU x l U + (if l.getD j default = x then 1 else 0)
  | a :: l, u :: us, 0, _, _, hu => by
    have hu' : u = false := by simpa using hu
    subst hu'
    simp only [List.set_cons_zero, cntU, List.getD_cons_zero]
    by_cases h : a = x <;> simp [h]; omega
  | a :: l, u :: us, j + 1, h1, h2, hu => by
    have := cntU_set x l us j (by simpa using h1) (by simpa using h2) (by simpa using hu)
    simp only [List.set_cons_succ, cntU, List.getD_cons_succ, this]
    omega
  | [], _, _, h, _, _ => by simp at h
  | _ :: _, [], _, _, h, _ => by simp at h
theorem cntU_all (x : Ev) : ∀ (l : List Ev) (U : List Bool), U.length = l.length → (∀ j, j < l.length → U.getD j false = true ∨ l.getD j default ≠ x) → cntU x l U = l.count x
  | [], _, _, _ => rfl
  | a :: l, u :: us, h1, h => by
    have ih := cntU_all x l us (by simpa using h1) (fun j hj => by simpa using h (j + 1) (by simpa using hj))
    have h0 := h 0 (by simp)
    simp only [List.getD_cons_zero] at h0
    simp only [cntU, ih, List.count_cons]
    by_cases hx : a = x
    · subst hx
      have : u = true := by simpa using h0
      simp [this]; omega
    · simp [hx]
  | _ :: _, [], h, _ => by simp at h
theorem take_count {S : List Ev} {i : Nat} (h : i < S.length) (x : Ev) : (S.take (i + 1)).count x = (S.take i).count x + (if S.getD i default = x then 1 else 0) := by
  rw [List.take_succ_eq_append_getElem h, List.count_append, getD_at _ h]
  simp [List.count_cons]
theorem found_some {l S : List Ev} {U : List Bool} {i : Nat} (hp : S.Perm l) (hU : U.length = l.length) (hi : i < S.length) (hc : ∀ x, cntU x l U = (S.take i).count x)
    (hall : ∀ j, j < l.length → U.getD j false = true ∨ l.getD j default ≠ S.getD i default) : False := by
  have h1 := cntU_all (S.getD i default) l U hU hall
  have h2 := take_count hi (S.getD i default)
  have h3 : (S.take (i + 1)).count (S.getD i default) ≤ S.count (S.getD i default) := (List.take_sublist _ _).count_le _
  rw [hp.count_eq] at h3
  rw [hc] at h1
  rw [if_pos rfl] at h2
  omega

/-- Where all stand ahead in lam of what they knew, sorted they do too. -/
theorem extends_ok {l : List Ev} (h : ∀ i k, i < l.length → k < l.length → i ≠ k → before (l.getD i default) (l.getD k default) = true → (l.getD i default).lam < (l.getD k default).lam)
    {i k : Nat} (hk : k < i) (hi : i < (srt l).length) : before ((srt l).getD i default) ((srt l).getD k default) = false := by
  cases hb : before ((srt l).getD i default) ((srt l).getD k default) with
  | false => rfl
  | true =>
    exfalso
    have hP : l.Pairwise fun a b => (before a b = true → a.lam < b.lam) ∧ (before b a = true → b.lam < a.lam) := by
      rw [List.pairwise_iff_getElem]
      intro x y hx hy hxy
      have h1 := h x y hx hy (by omega)
      have h2 := h y x hy hx (by omega)
      rw [getD_at _ hx, getD_at _ hy] at h1 h2
      exact ⟨h1, h2⟩
    have hQ := (srt_perm l).symm.pairwise hP (fun h => ⟨h.2, h.1⟩)
    rw [getD_at _ hi, getD_at _ (show k < (srt l).length by omega)] at hb
    have h1 := (List.pairwise_iff_getElem.1 hQ k i (by omega) hi hk).2 hb
    have h2 := srtd_at (srt_srtd l) hk hi
    rw [getD_at _ hi, getD_at _ (show k < (srt l).length by omega), nless_iff] at h2
    omega

/-- The document's own way: all behind move up by one, then e is put in its place. -/
def shiftS (at' : Nat) : Nat → List Ev → List Ev
  | 0, L => L
  | k + 1, L => if at' < k + 1 then shiftS at' k (L.set (k + 1) (L.getD k default)) else L
theorem shiftS_no {a k : Nat} {L : List Ev} (h : k ≤ a) : shiftS a k L = L := by
  cases k with
  | zero => rfl
  | succ k => rw [shiftS, if_neg (by omega)]
theorem shiftS_yes {a k : Nat} {L : List Ev} (h : a < k) : shiftS a k L = shiftS a (k - 1) (L.set k (L.getD (k - 1) default)) := by
  obtain ⟨j, rfl⟩ : ∃ j, k = j + 1 := ⟨k - 1, by omega⟩
  rw [shiftS, if_pos h, Nat.add_sub_cancel]
theorem shiftS_length (a : Nat) : ∀ (k : Nat) (L : List Ev), (shiftS a k L).length = L.length
  | 0, _ => rfl
  | k + 1, L => by unfold shiftS; split; rw [shiftS_length a k]; simp; rfl
theorem shiftS_ok (e : Ev) : ∀ (k a : Nat) (A B : List Ev) (z : Ev), A.length = k → a ≤ k → (shiftS a k (A ++ z :: B)).set a e = A.take a ++ e :: A.drop a ++ B
  | 0, a, A, B, z, h, ha => by
    obtain rfl : A = [] := List.length_eq_zero_iff.1 h
    obtain rfl : a = 0 := by omega
    rfl
  | k + 1, a, A, B, z, h, ha => by
    by_cases hlt : a < k + 1
    · obtain ⟨A', y, rfl⟩ : ∃ A' y, A = A' ++ [y] := ⟨A.dropLast, A.getLast (by intro h'; subst h'; simp at h), (List.dropLast_concat_getLast _).symm⟩
      have hA : A'.length = k := by simpa using h
      have g0 : ((A' ++ [y]) ++ z :: B).getD k default = y := by
        rw [List.getD_eq_getElem?_getD, List.getElem?_append_left (by simp [hA]), List.getElem?_append_right (by omega)]; simp [hA]
      have hs : ((A' ++ [y]) ++ z :: B).set (k + 1) y = A' ++ y :: (y :: B) := by
        subst hA
        rw [List.append_assoc, List.set_append_right _ _ (by omega), show A'.length + 1 - A'.length = 1 by omega]
        rfl
      rw [shiftS, if_pos hlt, g0, hs, shiftS_ok e k a A' (y :: B) y hA (by omega), List.take_append_of_le_length (by omega), List.drop_append_of_le_length (by omega)]
      simp
    · obtain rfl : a = k + 1 := by omega
      rw [shiftS_no (Nat.le_refl _), List.set_append_right _ _ (by omega), List.take_of_length_le (by omega), List.drop_of_length_le (by omega), show k + 1 - A.length = 0 by omega]
      simp
theorem shift_ins {out : List Ev} {e : Ev} {a : Nat} (h : insPos out e out.length = a) : (shiftS a (out.length + 1 - 1) (out ++ [e])).set a e = insBack out e := by
  have hp := insPos_le out e out.length
  rw [Nat.add_sub_cancel, shiftS_ok e out.length a out [] e rfl (by omega), insBack, h]
  simp
theorem insPos_go {out : List Ev} {e : Ev} {k : Nat} (h0 : 0 < k) (h : less e (out.getD (k - 1) default) = true) : insPos out e k = insPos out e (k - 1) := by
  obtain ⟨j, rfl⟩ : ∃ j, k = j + 1 := ⟨k - 1, by omega⟩
  rw [Nat.add_sub_cancel] at *
  rw [insPos, if_pos h]
theorem insPos_stop {out : List Ev} {e : Ev} {k : Nat} (h : k = 0 ∨ less e (out.getD (k - 1) default) = false) : insPos out e k = k := by
  cases k with
  | zero => rfl
  | succ k =>
    rcases h with h | h
    · omega
    · rw [Nat.add_sub_cancel] at h
      rw [insPos, if_neg (by rw [h]; exact Bool.false_ne_true)]
end Go.Proofs.Ytbbhpddgjiifmaa
