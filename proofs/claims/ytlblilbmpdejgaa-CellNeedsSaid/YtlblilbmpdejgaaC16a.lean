/- Steps of the proofs of this seat: part C16a. -/
import Derived.Test.YtlblilbmpdejgaaC15
set_option linter.unusedSimpArgs false
set_option linter.unusedVariables false
namespace Go.Proofs.Ytlblilbmpdejgaa
open Go.Proofs Go.RowKit

theorem iins_len {l : List Int} (x : Int) : (insS l x).length ≤ l.length + 1 := by
  unfold insS
  split
  · omega
  · have key : ∀ l : List Int, (l.filter (fun y => decide (y < x))).length + (l.filter (fun y => decide (x < y))).length ≤ l.length := by
      intro l
      induction l with
      | nil => simp
      | cons z l ih =>
        rw [List.filter_cons, List.filter_cons]
        by_cases h1 : z < x
        · rw [if_pos (by simpa using h1), if_neg (by simp; omega)]; simp only [List.length_cons]; omega
        · rw [if_neg (by simpa using h1)]
          split
          · simp only [List.length_cons]; omega
          · simp only [List.length_cons]; omega
    have := key l
    simp only [List.length_append, List.length_cons]; omega
structure SetOk (t : Typ) (f : Int) (c : List Cel) : Prop where
  lo : 0 ≤ f
  hi : f < t.fields.length
  len : f < c.length
  asc : Asc (celAt c f).set
  few : (celAt c f).set.length ≤ 500
theorem celAt_do {t : Typ} {c : List Cel} {f op a : Int} (h0 : 0 ≤ f) (h : f < c.length) : celAt (doL t c f op a) f = doCel (fldAt t f) (celAt c f) op a := by
  unfold celAt doL; rw [getD_set_self (by omega)]; rfl
theorem SetOk.ask {t : Typ} {f : Int} {c : List Cel} (h : SetOk t f c) {op a : Int} (ho : op = 3 ∨ op = 4) : AskOk t c f op a := ⟨h.lo, h.hi, h.len, fun _ => h.asc, fun e => by omega⟩
theorem SetOk.few2 {t : Typ} {f : Int} {c : List Cel} (h : SetOk t f c) {op : Int} : op = 3 → (celAt c f).set.length ≤ 1000 := fun _ => by have := h.few; omega
theorem SetOk.rem {t : Typ} {f : Int} {c : List Cel} (h : SetOk t f c) {a : Int} : SetOk t f (doL t c f 4 a) :=
  ⟨h.lo, h.hi, by rw [doL_len]; exact h.len, by rw [celAt_do h.lo h.len]; exact remS_asc h.asc a, by rw [celAt_do h.lo h.len]; have := remS_len (celAt c f).set a; have := h.few; show (remS (celAt c f).set a).length ≤ 500; omega⟩
theorem SetOk.ins {t : Typ} {f : Int} {c : List Cel} (h : SetOk t f c) {a : Int} (hl : (celAt c f).set.length < 500) : SetOk t f (doL t c f 3 a) :=
  ⟨h.lo, h.hi, by rw [doL_len]; exact h.len, by rw [celAt_do h.lo h.len]; exact insS_asc h.asc a, by rw [celAt_do h.lo h.len]; have := iins_len (l := (celAt c f).set) a; show (insS (celAt c f).set a).length ≤ 500; omega⟩
theorem doL_do {t : Typ} {c : List Cel} {f o1 o2 a b : Int} (h0 : 0 ≤ f) (h : f < c.length) : doL t (doL t c f o1 a) f o2 b = c.set f.toNat (doCel (fldAt t f) (doCel (fldAt t f) (celAt c f) o1 a) o2 b) := by
  show (doL t c f o1 a).set f.toNat (doCel (fldAt t f) (celAt (doL t c f o1 a) f) o2 b) = _
  rw [celAt_do h0 h]; unfold doL; rw [List.set_set]
theorem remS_comm (l : List Int) (a b : Int) : remS (remS l a) b = remS (remS l b) a := by
  unfold remS; rw [List.filter_filter, List.filter_filter]; exact List.filter_congr (fun _ _ => Bool.and_comm _ _)
theorem insS_comm {l : List Int} (h : Asc l) (a b : Int) : insS (insS l a) b = insS (insS l b) a :=
  asc_ext (insS_asc (insS_asc h a) b) (insS_asc (insS_asc h b) a) (fun x => by simp only [mem_insS]; constructor <;> (rintro (h | h | h) <;> simp [h]))
theorem rem_rem {t : Typ} {c : List Cel} {f a b : Int} (h : SetOk t f c) : doL t (doL t c f 4 a) f 4 b = doL t (doL t c f 4 b) f 4 a := by
  rw [doL_do h.lo h.len, doL_do h.lo h.len]
  show c.set f.toNat ⟨(celAt c f).n, remS (remS (celAt c f).set a) b⟩ = c.set f.toNat ⟨(celAt c f).n, remS (remS (celAt c f).set b) a⟩
  rw [remS_comm]
theorem ins_ins {t : Typ} {c : List Cel} {f a b : Int} (h : SetOk t f c) : doL t (doL t c f 3 a) f 3 b = doL t (doL t c f 3 b) f 3 a := by
  rw [doL_do h.lo h.len, doL_do h.lo h.len]
  show c.set f.toNat ⟨(celAt c f).n, insS (insS (celAt c f).set a) b⟩ = c.set f.toNat ⟨(celAt c f).n, insS (insS (celAt c f).set b) a⟩
  rw [insS_comm h.asc]
theorem rem_set {t : Typ} {c : List Cel} {f a b : Int} (h : SetOk t f c) : ((doL t (doL t c f 4 a) f 4 b).getD f.toNat default).set = remS (remS (celAt c f).set a) b := by
  have h9 := h.len; have h8 := h.lo
  rw [doL_do h.lo h.len, getD_set_self (by omega)]; rfl
theorem ins_set {t : Typ} {c : List Cel} {f a b : Int} (h : SetOk t f c) : ((doL t (doL t c f 3 a) f 3 b).getD f.toNat default).set = insS (insS (celAt c f).set a) b := by
  have h9 := h.len; have h8 := h.lo
  rw [doL_do h.lo h.len, getD_set_self (by omega)]; rfl
theorem ins_same {t : Typ} {c : List Cel} {f a b : Int} (h : SetOk t f c) : doL t (doL t (doL t c f 3 a) f 3 b) f 3 a = doL t (doL t c f 3 a) f 3 b := by
  have hl : f < (doL t (doL t c f 3 a) f 3 b).length := by rw [doL_len, doL_len]; exact h.len
  have hm : a ∈ (celAt (doL t (doL t c f 3 a) f 3 b) f).set := by
    show a ∈ ((doL t (doL t c f 3 a) f 3 b).getD f.toNat default).set
    rw [ins_set h]; simp [mem_insS]
  show (doL t (doL t c f 3 a) f 3 b).set f.toNat (doCel (fldAt t f) (celAt (doL t (doL t c f 3 a) f 3 b) f) 3 a) = _
  rw [doAdd_same hm]
  exact setD_self default (by have := h.lo; omega)
end Go.Proofs.Ytlblilbmpdejgaa
