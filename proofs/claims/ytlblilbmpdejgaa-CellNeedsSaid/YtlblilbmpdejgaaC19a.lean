/- Steps of the proofs of this seat: part C19a. -/
import Derived.Test.YtlblilbmpdejgaaC16a
import Derived.Test.YtlblilbmpdejgaaC18
import Derived.Test.YtlblilbmpdejgaaDraw5
set_option linter.unusedSimpArgs false
set_option linter.unusedVariables false
namespace Go.Proofs.Ytlblilbmpdejgaa
open Go.Proofs Go.RowKit

theorem iwrap_add (x y : Int) : iwrap (iwrap x + y) = iwrap (x + y) := by
  unfold iwrap
  rw [IntKind.wrap_i64, IntKind.wrap_i64, IntKind.wrap_i64]
  omega
theorem inc_exact {n a : Int} (hn : InR n) (ha : InR a) (h0 : ¬ a = 0) (hs : (decide (n < iwrap (n + a)) == decide (0 < a)) = true) : iwrap (n + a) = n + a := by
  have h1 : (n < iwrap (n + a)) ↔ 0 < a := by simpa using hs
  unfold iwrap at *
  rw [IntKind.wrap_i64] at *
  omega
theorem may_inc {t : Typ} {c : List Cel} {f a : Int} (h : mayL t c f 1 a = 0) (hn : InR (celAt c f).n) (ha : InR a) (h0 : ¬ a = 0) : iwrap ((celAt c f).n + a) = (celAt c f).n + a ∧ ((fldAt t f).floor = true → 0 ≤ (celAt c f).n + a) := by
  have hm : mayB (fldAt t f) c (celAt c f) 1 a = true := by
    unfold mayL at h
    split at h
    · assumption
    · cases h
  unfold mayB at hm
  rw [if_pos rfl] at hm
  simp only [Bool.and_eq_true, Bool.or_eq_true, decide_eq_true_eq, Bool.not_eq_true', Bool.and_eq_false_iff, decide_eq_false_iff_not] at hm
  obtain ⟨h1, h2⟩ := hm
  have he := inc_exact hn ha h0 (by rcases h1 with h1 | h1; · exact absurd h1 h0
                                    · exact h1)
  refine ⟨he, fun hf => ?_⟩
  rw [he] at h2
  rcases h2 with h2 | h2
  · rw [hf] at h2; cases h2
  · omega
theorem mayL_of {t : Typ} {c : List Cel} {f op a : Int} (h : mayB (fldAt t f) c (celAt c f) op a = true) : mayL t c f op a = 0 := by unfold mayL; rw [if_pos h]
theorem inc_comm {t : Typ} {c : List Cel} {f a b : Int} (h0 : 0 ≤ f) (h : f < c.length) : doL t (doL t c f 1 a) f 1 b = doL t (doL t c f 1 b) f 1 a := by
  rw [doL_do h0 h, doL_do h0 h]
  show c.set f.toNat ⟨iwrap (iwrap ((celAt c f).n + a) + b), (celAt c f).set⟩ = c.set f.toNat ⟨iwrap (iwrap ((celAt c f).n + b) + a), (celAt c f).set⟩
  rw [iwrap_add, iwrap_add, show (celAt c f).n + a + b = (celAt c f).n + b + a by omega]
theorem inc_back {t : Typ} {c : List Cel} {f a : Int} (h0 : 0 ≤ f) (h : f < c.length) (hn : InR (celAt c f).n) (ha : InR a) (hz : ¬ a = 0) (hm : mayL t c f 1 a = 0) (hfl : (fldAt t f).floor = true → 0 ≤ (celAt c f).n) : mayL t (doL t c f 1 a) f 1 (-a) = 0 ∧ doL t (doL t c f 1 a) f 1 (-a) = c := by
  obtain ⟨h1, h2⟩ := may_inc hm hn ha hz
  have e : doCel (fldAt t f) (celAt c f) 1 a = ⟨(celAt c f).n + a, (celAt c f).set⟩ := by
    show (⟨iwrap ((celAt c f).n + a), (celAt c f).set⟩ : Cel) = _
    rw [h1]
  have e2 : iwrap ((celAt c f).n + a + -a) = (celAt c f).n := by rw [show (celAt c f).n + a + -a = (celAt c f).n by omega]; exact iwrap_in hn
  constructor
  · refine mayL_of ?_
    rw [celAt_do h0 h, e]
    unfold mayB
    rw [if_pos rfl]
    show ((decide (-a = 0) || (decide ((celAt c f).n + a < iwrap ((celAt c f).n + a + -a)) == decide (0 < -a))) && !((fldAt t f).floor && decide (iwrap ((celAt c f).n + a + -a) < 0))) = true
    rw [e2]
    have k1 : (decide ((celAt c f).n + a < (celAt c f).n) == decide (0 < -a)) = true := by
      have k0 : decide ((celAt c f).n + a < (celAt c f).n) = decide (0 < -a) := decide_eq_decide.2 (by omega)
      rw [k0]; exact beq_self_eq_true _
    rw [k1, Bool.or_true, Bool.true_and]
    cases hb : (fldAt t f).floor with
    | false => rfl
    | true => have := hfl hb; rw [decide_eq_false (by omega)]; rfl
  · rw [doL_do h0 h, e]
    show c.set f.toNat ⟨iwrap ((celAt c f).n + a + -a), (celAt c f).set⟩ = c
    rw [e2]
    exact setD_self default (by omega)
end Go.Proofs.Ytlblilbmpdejgaa
