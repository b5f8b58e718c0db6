/- Steps of the proofs of this seat: part L0. -/
import Derived.Test.YtbbpmhfcgoljdaaP6
set_option linter.unusedSimpArgs false
set_option linter.unusedVariables false
namespace Go.Proofs.Ytbbpmhfcgoljdaa
open Go.Proofs Go.RowKit

theorem elem24 : Elem Try.prog 24 38 13 120 := ⟨Try.underlying24, _, _, rfl, rfl, rfl, rfl, rfl⟩
theorem keep_iff {p : Prj} {e : Ent} : keepB p e = true ↔ (e.void = false ∧ e.ev.typ = p.ptyp) ∧ e.ev.field = p.pfield := by
  unfold keepB
  simp [and_assoc]
theorem pairs_zip (q : List PE) : pairs (q.map (·.1)) (q.map (·.2)) = q := by
  refine List.ext_getElem (by rw [pairs_length, List.length_map]) fun i h1 h2 => ?_
  have h3 := pairs_at (l := q.map (·.1)) (g := q.map (·.2)) (i := i) (by simpa using h2)
  rw [List.getElem?_eq_getElem h1] at h3
  rw [Option.some.inj h3]
  have e : regI (q.map (·.2)) i = q[i].2 := by
    unfold regI
    rw [if_neg (by rw [List.length_map]; omega), List.length_map, Nat.mod_eq_of_lt h2, getD_at _ (by simpa using h2)]
    simp
  rw [e]; simp
def entsOf (q : List PE) : List Ent := q.map (·.1)
def regsOf (q : List PE) : List Int := q.map (·.2)
theorem entsOf_app (q q' : List PE) : entsOf (q ++ q') = entsOf q ++ entsOf q' := List.map_append
theorem regsOf_app (q q' : List PE) : regsOf (q ++ q') = regsOf q ++ regsOf q' := List.map_append
theorem entsOf_len (q : List PE) : (entsOf q).length = q.length := List.length_map _
theorem regsOf_len (q : List PE) : (regsOf q).length = q.length := List.length_map _
def voidQ (p : Prj) (l : List Ent) (g : List Int) (k : Nat) : List PE := ((pairs l g).take k).filter fun x => keepB p x.1
theorem voidQ_len (p : Prj) (l : List Ent) (g : List Int) (k : Nat) : (voidQ p l g k).length ≤ l.length := by
  unfold voidQ
  refine Nat.le_trans (List.length_filter_le _ _) ?_
  rw [List.length_take, pairs_length]
  exact Nat.min_le_right _ _
theorem voidQ_yes {p : Prj} {l : List Ent} {g : List Int} {k : Nat} (hk : k < l.length) (h : keepB p (l.getD k default) = true) : voidQ p l g (k + 1) = voidQ p l g k ++ [(l.getD k default, regI g k)] := by
  rw [getD_at _ hk] at h ⊢
  unfold voidQ
  rw [pairs_take hk, List.filter_append]
  simp [h]
theorem voidQ_no {p : Prj} {l : List Ent} {g : List Int} {k : Nat} (hk : k < l.length) (h : ¬ keepB p (l.getD k default) = true) : voidQ p l g (k + 1) = voidQ p l g k := by
  rw [getD_at _ hk] at h
  unfold voidQ
  rw [pairs_take hk, List.filter_append]
  simp [h]
theorem void_rows {p : Prj} {l : List Ent} {g : List Int} {k : Nat} (hk : l.length ≤ k) : rowsL p (entsOf (voidQ p l g k)) (regsOf (voidQ p l g k)) = rowsL p l g := by
  rw [rowsL_eq, rowsL_eq, entsOf, regsOf, pairs_zip]
  unfold voidQ
  rw [List.take_of_length_le (by rw [pairs_length]; exact hk), rows_filter]

end Go.Proofs.Ytbbpmhfcgoljdaa
