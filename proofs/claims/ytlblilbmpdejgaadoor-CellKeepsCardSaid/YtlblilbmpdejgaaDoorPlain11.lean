/- Cells: what may be done with them, and what comes of it, in plain numbers. -/
import Derived.Test.YtlblilbmpdejgaaDoorRecs
set_option linter.unusedSimpArgs false
set_option linter.unusedVariables false
namespace Go.Proofs.YtlblilbmpdejgaaDoor

def iwrap (n : Int) : Int := IntKind.i64.wrap n
theorem iwrap_in {n : Int} (h : InR n) : iwrap n = n := wrap_in h
theorem iwrap_range (n : Int) : InR (iwrap n) := by
  unfold iwrap
  rw [IntKind.wrap_i64]
  omega
def Asc (l : List Int) : Prop := l.Pairwise (· < ·)
def insS (l : List Int) (x : Int) : List Int := if x ∈ l then l else l.filter (fun y => decide (y < x)) ++ x :: l.filter (fun y => decide (x < y))
def remS (l : List Int) (x : Int) : List Int := l.filter (fun y => decide (y ≠ x))
theorem mem_insS {l : List Int} {x y : Int} : y ∈ insS l x ↔ y = x ∨ y ∈ l := by
  unfold insS
  split
  · rename_i h
    constructor
    · exact .inr
    · rintro (rfl | h2)
      · exact h
      · exact h2
  · rename_i h
    simp only [List.mem_append, List.mem_cons, List.mem_filter, decide_eq_true_eq]
    constructor
    · rintro (⟨h1, _⟩ | rfl | ⟨h1, _⟩)
      · exact .inr h1
      · exact .inl rfl
      · exact .inr h1
    · rintro (rfl | h1)
      · exact .inr (.inl rfl)
      · rcases Int.lt_trichotomy y x with h2 | h2 | h2
        · exact .inl ⟨h1, h2⟩
        · exact .inr (.inl h2)
        · exact .inr (.inr ⟨h1, h2⟩)
theorem mem_remS {l : List Int} {x y : Int} : y ∈ remS l x ↔ y ∈ l ∧ y ≠ x := by
  unfold remS; simp only [List.mem_filter, decide_eq_true_eq]
theorem insS_asc {l : List Int} (h : Asc l) (x : Int) : Asc (insS l x) := by
  unfold insS
  split
  · exact h
  · refine List.pairwise_append.2 ⟨h.filter _, List.pairwise_cons.2 ⟨fun y hy => ?_, h.filter _⟩, fun a ha b hb => ?_⟩
    · simpa using (List.mem_filter.1 hy).2
    · have h1 : a < x := by simpa using (List.mem_filter.1 ha).2
      rcases List.mem_cons.1 hb with rfl | hb
      · exact h1
      · have h2 : x < b := by simpa using (List.mem_filter.1 hb).2
        omega
theorem remS_asc {l : List Int} (h : Asc l) (x : Int) : Asc (remS l x) := h.filter _
theorem asc_ext {a b : List Int} (ha : Asc a) (hb : Asc b) (h : ∀ x, x ∈ a ↔ x ∈ b) : a = b := by
  have nd : ∀ {l : List Int}, Asc l → l.Nodup := fun h => h.imp (fun hlt e => by subst e; omega)
  exact List.Perm.eq_of_pairwise (fun x y _ _ h1 h2 => by omega) ha hb ((List.perm_ext_iff_of_nodup (nd ha) (nd hb)).2 h)
theorem insS_len {l : List Int} (h : Asc l) (x : Int) : (insS l x).length ≤ l.length + 1 := by
  unfold insS
  split
  · omega
  · have : ∀ l : List Int, (l.filter (fun y => decide (y < x))).length + (l.filter (fun y => decide (x < y))).length ≤ l.length := by
      intro l
      induction l with
      | nil => simp
      | cons a l ih =>
        simp only [List.filter_cons, List.length_cons]
        by_cases h1 : a < x
        · have h2 : ¬ x < a := by omega
          simp [h1, h2]; omega
        · by_cases h2 : x < a
          · simp [h1, h2]; omega
          · simp [h1, h2]; omega
    have := this l
    simp only [List.length_append, List.length_cons]
    omega
theorem remS_len (l : List Int) (x : Int) : (remS l x).length ≤ l.length := List.length_filter_le _ _
theorem insS_of_mem {l : List Int} {x : Int} (h : x ∈ l) : insS l x = l := by unfold insS; rw [if_pos h]

def fldAt (t : Typ) (f : Int) : Fld := t.fields.getD f.toNat default
def celAt (cs : List Cel) (f : Int) : Cel := cs.getD f.toNat default
def mvAt (fl : Fld) (a : Int) : Mv := fl.moves.getD a.toNat default
/-- Whether something may be done. -/
def mayB (fl : Fld) (cs : List Cel) (c : Cel) (op arg : Int) : Bool :=
  if op = 1 then (decide (arg = 0) || (decide (c.n < iwrap (c.n + arg)) == decide (0 < arg))) && !(fl.floor && decide (iwrap (c.n + arg) < 0))
  else if op = 3 then decide (arg ∈ c.set) || decide ((c.set.length : Int) < 64)
  else if op = 5 then decide (c.n = (mvAt fl arg).frm) && (decide ((mvAt fl arg).need < 0) || decide ((mvAt fl arg).least ≤ (celAt cs (mvAt fl arg).need).n))
  else true
def mayL (t : Typ) (cs : List Cel) (f op arg : Int) : Int := if mayB (fldAt t f) cs (celAt cs f) op arg = true then 0 else 10
def doCel (fl : Fld) (c : Cel) (op arg : Int) : Cel :=
  if op = 1 then ⟨iwrap (c.n + arg), c.set⟩ else if op = 2 then ⟨arg, c.set⟩ else if op = 3 then ⟨c.n, insS c.set arg⟩ else if op = 4 then ⟨c.n, remS c.set arg⟩ else if op = 5 then ⟨(mvAt fl arg).to, c.set⟩ else c
def doL (t : Typ) (cs : List Cel) (f op arg : Int) : List Cel := cs.set f.toNat (doCel (fldAt t f) (celAt cs f) op arg)
theorem doL_len (t : Typ) (cs : List Cel) (f op arg : Int) : (doL t cs f op arg).length = cs.length := by unfold doL; rw [List.length_set]
/-- What an operation asks of a field. -/
def AskOk (t : Typ) (cs : List Cel) (f op arg : Int) : Prop :=
  0 ≤ f ∧ f < t.fields.length ∧ f < cs.length ∧ ((op = 3 ∨ op = 4) → Asc (celAt cs f).set) ∧ (op = 5 → 0 ≤ arg ∧ arg < (fldAt t f).moves.length ∧ ((mvAt (fldAt t f) arg).need < 0 ∨ (mvAt (fldAt t f) arg).need < cs.length))
/-- A type that may be. -/
structure TypOk (t : Typ) : Prop where
  some : 1 ≤ t.fields.length
  few : t.fields.length ≤ 8
  kind : ∀ i, i < t.fields.length → 1 ≤ (t.fields.getD i default).kind ∧ (t.fields.getD i default).kind ≤ 4
  floor : ∀ i, i < t.fields.length → (t.fields.getD i default).floor = true → (t.fields.getD i default).kind = 1
  moves : ∀ i, i < t.fields.length → ((t.fields.getD i default).kind = 4 → 1 ≤ (t.fields.getD i default).moves.length) ∧ (t.fields.getD i default).moves.length ≤ 16
  need : ∀ i, i < t.fields.length → ∀ j, j < (t.fields.getD i default).moves.length → ((t.fields.getD i default).moves.getD j default).need = -1 ∨ (0 ≤ ((t.fields.getD i default).moves.getD j default).need ∧ ((t.fields.getD i default).moves.getD j default).need < t.fields.length ∧ (t.fields.getD ((t.fields.getD i default).moves.getD j default).need.toNat default).kind = 1)
structure DclOk (d : Dcl) : Prop where
  some : 1 ≤ d.types.length
  few : d.types.length ≤ 8
  typ : ∀ i, i < d.types.length → TypOk (d.types.getD i default)
/-- Cells of a type. -/
structure Right (t : Typ) (c : List Cel) : Prop where
  len : c.length = t.fields.length
  num : ∀ i, i < c.length → (t.fields.getD i default).kind = 3 → (c.getD i default).n = 0
  set : ∀ i, i < c.length → (t.fields.getD i default).kind ≠ 3 → (c.getD i default).set = []
  floor : ∀ i, i < c.length → (t.fields.getD i default).floor = true → 0 ≤ (c.getD i default).n
  most : ∀ i, i < c.length → (c.getD i default).set.length ≤ 64
  asc : ∀ i, i < c.length → Asc (c.getD i default).set
/-- An operation that fits. -/
structure Fits (t : Typ) (f op arg : Int) : Prop where
  lo : 0 ≤ f
  hi : f < t.fields.length
  kind : (op = 1 ∧ (fldAt t f).kind = 1) ∨ (op = 2 ∧ (fldAt t f).kind = 2) ∨ ((op = 3 ∨ op = 4) ∧ (fldAt t f).kind = 3) ∨ (op = 5 ∧ (fldAt t f).kind = 4 ∧ 0 ≤ arg ∧ arg < (fldAt t f).moves.length)

theorem Fits.ask {t : Typ} {f op arg : Int} {c : List Cel} (h : Fits t f op arg) (ht : TypOk t) (hr : Right t c) : AskOk t c f op arg := by
  have hl := hr.len
  have hlo := h.lo
  have hhi := h.hi
  refine ⟨h.lo, h.hi, by omega, fun _ => hr.asc f.toNat (by omega), fun h5 => ?_⟩
  rcases h.kind with ⟨h1, _⟩ | ⟨h1, _⟩ | ⟨h1, _⟩ | ⟨_, h1, h2, h3⟩
  · omega
  · omega
  · omega
  · refine ⟨h2, h3, ?_⟩
    have := ht.need f.toNat (by omega) arg.toNat (by show arg.toNat < (fldAt t f).moves.length; omega)
    rcases this with h4 | ⟨_, h4, _⟩
    · exact .inl (by show (mvAt (fldAt t f) arg).need < 0; have h4 : (mvAt (fldAt t f) arg).need = -1 := h4; omega)
    · exact .inr (by have h4 : (mvAt (fldAt t f) arg).need < t.fields.length := h4; omega)

theorem getD_set_self {α : Type} {l : List α} {i : Nat} (h : i < l.length) (x d : α) : (l.set i x).getD i d = x := by
  rw [getD_at _ (by simpa using h), List.getElem_set_self]
theorem getD_set_ne {α : Type} {l : List α} {i j : Nat} (h : i ≠ j) (x d : α) : (l.set i x).getD j d = l.getD j d := by
  rw [List.getD_eq_getElem?_getD, List.getD_eq_getElem?_getD, List.getElem?_set_ne h]

theorem do_right {t : Typ} {f op arg : Int} {c : List Cel} (h : Fits t f op arg) (ht : TypOk t) (hr : Right t c) (hm : mayB (fldAt t f) c (celAt c f) op arg = true) : Right t (doL t c f op arg) := by
  have hl := hr.len
  have hlo := h.lo
  have hhi := h.hi
  have hf : f.toNat < c.length := by omega
  have hft : f.toNat < t.fields.length := by omega
  have hlen := doL_len t c f op arg
  have split : ∀ i, i < c.length → (i = f.toNat ∧ (doL t c f op arg).getD i default = doCel (fldAt t f) (celAt c f) op arg) ∨ (i ≠ f.toNat ∧ (doL t c f op arg).getD i default = c.getD i default) := by
    intro i hi
    by_cases e : i = f.toNat
    · subst e; exact .inl ⟨rfl, getD_set_self hf _ _⟩
    · exact .inr ⟨e, getD_set_ne (Ne.symm e) _ _⟩
  have e1 : t.fields.getD f.toNat default = fldAt t f := rfl
  have e2 : c.getD f.toNat default = celAt c f := rfl
  refine ⟨hlen.trans hl, fun i hi hk => ?_, fun i hi hk => ?_, fun i hi hk => ?_, fun i hi => ?_, fun i hi => ?_⟩
  · rcases split i (by omega) with ⟨rfl, e⟩ | ⟨_, e⟩
    · rw [e]
      have := hr.num f.toNat hf hk
      rw [e2] at this
      rw [e1] at hk
      unfold doCel
      rcases h.kind with ⟨_, h1⟩ | ⟨_, h1⟩ | ⟨h0, _⟩ | ⟨_, h1, _⟩
      · omega
      · omega
      · rcases h0 with rfl | rfl <;> simpa using this
      · omega
    · rw [e]; exact hr.num i (by omega) hk
  · rcases split i (by omega) with ⟨rfl, e⟩ | ⟨_, e⟩
    · rw [e]
      have := hr.set f.toNat hf hk
      rw [e2] at this
      rw [e1] at hk
      unfold doCel
      rcases h.kind with ⟨rfl, _⟩ | ⟨rfl, _⟩ | ⟨_, h1⟩ | ⟨rfl, _⟩
      · simpa using this
      · simpa using this
      · exact absurd h1 hk
      · simpa using this
    · rw [e]; exact hr.set i (by omega) hk
  · rcases split i (by omega) with ⟨rfl, e⟩ | ⟨_, e⟩
    · rw [e]
      have hk1 := ht.floor f.toNat hft hk
      rw [e1] at hk1 hk
      unfold doCel
      unfold mayB at hm
      rcases h.kind with ⟨rfl, _⟩ | ⟨rfl, h1⟩ | ⟨_, h1⟩ | ⟨rfl, h1, _⟩
      · simp only [if_true, hk, Bool.true_and, Bool.and_eq_true, Bool.not_eq_true', decide_eq_false_iff_not] at hm
        simp only [if_true]; omega
      · omega
      · omega
      · omega
    · rw [e]; exact hr.floor i (by omega) hk
  · rcases split i (by omega) with ⟨rfl, e⟩ | ⟨_, e⟩
    · rw [e]
      have h64 := hr.most f.toNat hf
      have hasc := hr.asc f.toNat hf
      rw [e2] at h64 hasc
      unfold doCel
      unfold mayB at hm
      rcases h.kind with ⟨rfl, _⟩ | ⟨rfl, h1⟩ | ⟨rfl | rfl, h1⟩ | ⟨rfl, h1, _⟩
      · simpa using h64
      · simpa using h64
      · have hm : (decide (arg ∈ (celAt c f).set) || decide (((celAt c f).set.length : Int) < 64)) = true := hm
        simp only [Bool.or_eq_true, decide_eq_true_eq] at hm
        show (insS (celAt c f).set arg).length ≤ 64
        rcases hm with hm | hm
        · rw [insS_of_mem hm]; exact h64
        · have := insS_len hasc arg; omega
      · exact Nat.le_trans (remS_len _ _) h64
      · simpa using h64
    · rw [e]; exact hr.most i (by omega)
  · rcases split i (by omega) with ⟨rfl, e⟩ | ⟨_, e⟩
    · rw [e]
      have hasc := hr.asc f.toNat hf
      rw [e2] at hasc
      unfold doCel
      rcases h.kind with ⟨rfl, _⟩ | ⟨rfl, h1⟩ | ⟨rfl | rfl, h1⟩ | ⟨rfl, h1, _⟩
      · simpa using hasc
      · simpa using hasc
      · exact insS_asc hasc arg
      · exact remS_asc hasc arg
      · simpa using hasc
    · rw [e]; exact hr.asc i (by omega)
end Go.Proofs.YtlblilbmpdejgaaDoor
