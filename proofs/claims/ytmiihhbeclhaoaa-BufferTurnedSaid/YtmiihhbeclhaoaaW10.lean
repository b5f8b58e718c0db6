/- Texts of this claim, part 10. -/
import Derived.Test.YtmiihhbeclhaoaaW9
set_option linter.unusedSimpArgs false
set_option linter.unusedVariables false
set_option linter.unusedSectionVars false
section
/- Steps of the proofs of this seat: part B5. -/
set_option linter.unusedSimpArgs false
set_option linter.unusedVariables false
set_option maxRecDepth 8000
set_option maxHeartbeats 4000000
namespace Go.Proofs.Ytmiihhbeclhaoaa
open Go.Proofs Go.RowKit

section
variable {n : Nat} {L : List Ev} {e : Ev}
theorem lt_asym {a b : Ev} (h : ltE a b = true) : ltE b a = false := by
  cases hb : ltE b a with
  | false => rfl
  | true => exact absurd (lt_cmp.1 hb) (cmp_asym (lt_cmp.1 h))
theorem lt_tot {a b : Ev} (h : idE a ≠ idE b) (h2 : ¬ ltE a b = true) : ltE b a = true := by
  rcases cmp_total h with h3 | h3
  · exact absurd (lt_cmp.2 h3) h2
  · exact lt_cmp.2 h3
theorem ins_at : ∀ {L : List Ev} {k : Nat}, idE e ∉ L.map idE → k ≤ L.length → (∀ j, j < k → ltE (L.getD j default) e = true) → (k < L.length → ltE (L.getD k default) e = false) → insE e L = (L.take k ++ [e]) ++ L.drop k
  | [], k, _, hk, _, _ => by
    have : k = 0 := by simpa using hk
    subst this; rfl
  | x :: l, 0, hn, _, _, h => by
    have h1 := h (Nat.succ_pos _)
    have hne : idE x ≠ idE e := fun he => hn (by rw [← he]; exact List.mem_map.2 ⟨x, List.mem_cons_self .., rfl⟩)
    have h2 : ltE e x = true := lt_tot hne (by simpa using h1)
    simp only [insE]
    rw [if_pos h2]; rfl
  | x :: l, k + 1, hn, hk, hp, h => by
    have h1 := hp 0 (Nat.succ_pos _)
    have h2 : ¬ ltE e x = true := by rw [lt_asym (by simpa using h1)]; decide
    simp only [insE]
    rw [if_neg h2, ins_at (L := l) (k := k) (fun hm => hn (List.mem_cons_of_mem _ hm)) (by simpa using hk) (fun j hj => by simpa using hp (j + 1) (Nat.succ_lt_succ hj)) (fun hl => by simpa using h (Nat.succ_lt_succ hl))]
    rfl
end
end Go.Proofs.Ytmiihhbeclhaoaa
end

section
/- Steps of the proofs of this seat: part B6. -/
set_option linter.unusedSimpArgs false
set_option linter.unusedVariables false
set_option maxRecDepth 8000
set_option maxHeartbeats 4000000
namespace Go.Proofs.Ytmiihhbeclhaoaa
open Go.Proofs Go.RowKit

section
variable {n : Nat} {L T : List Ev} {e x : Ev}
theorem ins_end : ∀ {T : List Ev}, (∀ x ∈ T, cmpE x e < 0) → insE e T = T ++ [e]
  | [], _ => rfl
  | x :: l, h => by
    have h1 := h x (List.mem_cons_self ..)
    have h2 : ¬ ltE e x = true := fun h3 => cmp_asym h1 (lt_cmp.1 h3)
    simp only [insE]
    rw [if_neg h2, ins_end fun y hy => h y (List.mem_cons_of_mem _ hy)]; rfl
theorem Good.at_lt (h : Good n L) {i j : Nat} (hij : i < j) (hj : j < L.length) : cmpE (L.getD i default) (L.getD j default) < 0 := by
  rw [getD_at _ (by omega), getD_at _ hj]
  exact List.pairwise_iff_getElem.1 h.srt i j (by omega) hj hij
theorem mem_take {i : Nat} (hx : x ∈ L.take i) : ∃ j, j < i ∧ j < L.length ∧ x = L.getD j default := by
  obtain ⟨j, hj, rfl⟩ := List.getElem_of_mem hx
  rw [List.length_take] at hj
  refine ⟨j, by omega, by omega, ?_⟩
  rw [getD_at _ (by omega), List.getElem_take]
theorem getD_mem {i : Nat} (hi : i < L.length) : L.getD i default ∈ L := by rw [getD_at _ hi]; exact List.getElem_mem hi
theorem take_mem {i j : Nat} (hi : i < j) (hj : i < L.length) : L.getD i default ∈ L.take j := by
  rw [getD_at _ hj]
  exact List.mem_take_iff_getElem.2 ⟨i, by omega, rfl⟩
theorem Good.step (h : Good n L) {i : Nat} (hi : i < L.length) (ht : Good n (L.take i)) : addE n (L.take i) (L.getD i default) = 0 := by
  refine h.sub_add ht (fun x hx => List.mem_of_mem_take hx) (getD_mem hi) (fun hm => ?_) (fun x hx hlt => ?_)
  · obtain ⟨j, h1, h2, h3⟩ := mem_take hm
    have := h.at_lt h1 hi
    rw [← h3] at this
    rw [cmpE_neg] at this; omega
  · obtain ⟨j, hj, rfl⟩ := List.getElem_of_mem hx
    rw [← getD_at default hj] at hlt ⊢
    rcases Nat.lt_trichotomy j i with h1 | h1 | h1
    · exact take_mem h1 hj
    · subst h1; rw [cmpE_neg] at hlt; omega
    · exact absurd (h.at_lt h1 hj) (cmp_asym hlt)
theorem take_snoc {i : Nat} (hi : i < L.length) : L.take (i + 1) = L.take i ++ [L.getD i default] := by
  rw [List.take_succ_eq_append_getElem hi, getD_at _ hi]
theorem Good.ins_take (h : Good n L) {i : Nat} (hi : i < L.length) : insE (L.getD i default) (L.take i) = L.take (i + 1) := by
  rw [take_snoc hi]
  refine ins_end fun x hx => ?_
  obtain ⟨j, h1, h2, rfl⟩ := mem_take hx
  exact h.at_lt h1 hi
theorem Good.upto (h : Good n L) : ∀ (i : Nat), i ≤ L.length → Good n (L.take i)
  | 0, _ => Good.nil
  | i + 1, hi => by
    have ht := h.upto i (by omega)
    rw [← h.ins_take hi]
    exact ht.add (h.step hi ht)
end
end Go.Proofs.Ytmiihhbeclhaoaa
end

section
/- Rows, of whose elements some have memory of their own, and others lie in what is lent. -/
set_option linter.unusedSimpArgs false
set_option linter.unusedVariables false
set_option linter.unusedSectionVars false
namespace Go.Proofs.Ytmiihhbeclhaoaa
open Go.RowKit

theorem ov_as {P : Program} {o : Oper} {σ : Env} {w : World} {K : Value → World → Prop} {v v' : Value} (h : v = v') (hop : ∀ K' : Value → World → Prop, K' v w → opV P o σ w K') (hK : K v' w) : opV P o σ w K := by subst h; exact hop K hK
section
variable {α : Type} [Rep α] {G : Nat → Prop} {W w : World} {As : List HP} {T : TypeId} {v : Value} {l : List α}
end
end Go.Proofs.Ytmiihhbeclhaoaa
end

section
/- Steps of the proofs of this seat: part R1. -/
set_option linter.unusedSimpArgs false
set_option linter.unusedVariables false
set_option maxRecDepth 8000
set_option maxHeartbeats 4000000
namespace Go.Proofs.Ytmiihhbeclhaoaa
open Go.Proofs Go.RowKit

section
variable {G : Nat → Prop} {W w : World} {As : List HP} {b n : Nat} {L : List Ev}
end
section
variable {L : List Ev} {o q : Int} {k : Nat}
end
end Go.Proofs.Ytmiihhbeclhaoaa
end

section
/- Steps of the proofs of this seat: part R2. -/
set_option linter.unusedSimpArgs false
set_option linter.unusedVariables false
set_option maxRecDepth 8000
set_option maxHeartbeats 4000000
namespace Go.Proofs.Ytmiihhbeclhaoaa
open Go.Proofs Go.RowKit

end Go.Proofs.Ytmiihhbeclhaoaa
end

section
/- Steps of the proofs of this seat: part R3. -/
set_option linter.unusedSimpArgs false
set_option linter.unusedVariables false
set_option maxRecDepth 8000
set_option maxHeartbeats 4000000
namespace Go.Proofs.Ytmiihhbeclhaoaa
open Go.Proofs Go.RowKit

section
variable {e x : Ev} {A B L : List Ev} {k : Nat}
end
end Go.Proofs.Ytmiihhbeclhaoaa
end

section
/- Steps of the proofs of this seat: part R4. -/
set_option linter.unusedSimpArgs false
set_option linter.unusedVariables false
set_option maxRecDepth 8000
set_option maxHeartbeats 4000000
namespace Go.Proofs.Ytmiihhbeclhaoaa
open Go.Proofs Go.RowKit

section
variable {L : List Ev} {key : Int} {k : Nat}
end
end Go.Proofs.Ytmiihhbeclhaoaa
end

section
/- Steps of the proofs of this seat: part R5. -/
set_option linter.unusedSimpArgs false
set_option linter.unusedVariables false
set_option maxRecDepth 8000
set_option maxHeartbeats 4000000
namespace Go.Proofs.Ytmiihhbeclhaoaa
open Go.Proofs Go.RowKit

end Go.Proofs.Ytmiihhbeclhaoaa
end
