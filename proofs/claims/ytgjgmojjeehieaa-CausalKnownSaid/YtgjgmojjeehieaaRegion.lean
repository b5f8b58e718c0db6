/- A region that draws its order: an assertion for each operation that needs it, then the last operations in their order. -/
import Derived.Test.YtgjgmojjeehieaaCore
namespace Go.Proofs.Ytgjgmojjeehieaa

theorem opV_mono {P : Program} {o : Oper} {σ : Env} {w : World} {K K' : Value → World → Prop} (h : ∀ v w', K v w' → K' v w') (hh : opV P o σ w K) : opV P o σ w K' := by
  unfold opV at *
  generalize (execOp (ev σ) o).run P w = r at *
  cases r with
  | halt x w' => cases x <;> exact hh.elim
  | ok x w' =>
    cases x <;> try exact hh.elim
    case value v => exact h _ _ hh
    case skip => exact h _ _ hh
    case enter f args =>
      refine Calls.mono hh fun e w'' => ?_
      rintro ⟨v, rfl, hk⟩
      exact ⟨v, rfl, h _ _ hk⟩

def dstIs (ops : List Oper) (t j : Nat) : Bool := match ops[j]? with
  | some o => match o.dst with
    | some d => Nat.beq d t
    | none => false
  | none => false

/-- What an operation sees: what stood ahead of the region, and what the operations ahead of it gave. -/
def view (ops : List Oper) (pre : List Nat) (σ : Env) (vals : Nat → Value) : Env := fun t =>
  match pre.find? (dstIs ops t) with
  | some j => vals j
  | none => σ t

def afterOk (pre : List (List Nat)) (i : Nat) (o : Oper) : Bool :=
  (o.after.toList.all fun e => !Region.binds .any e || Nat.blt e.on i) &&
  (pre.getD i []).all fun j => Nat.blt j i && o.after.toList.any fun e => Region.binds .any e && (Nat.beq e.on j || (pre.getD e.on []).contains j)
def looksOk (ops : List Oper) (pre : List (List Nat)) (i : Nat) (o : Oper) : Bool :=
  (o.looksAt ops.toArray).all fun t => ((pre.getD i []).any (dstIs ops t)) || (List.range ops.length).all fun j => !dstIs ops t j || Nat.beq j i || (pre.getD j []).contains i
def uniqueOk (ops : List Oper) : Bool := (List.range ops.length).all fun i => (List.range i).all fun j => match ops[i]? with
  | some o => (match o.dst with | some d => !dstIs ops d j | none => true)
  | none => true
def noSel (o : Oper) : Bool := match o.op with | .select .. => false | _ => true
/-- k: from which operation on all stand in one order. -/
def drawOk (ops : List Oper) (pre : List (List Nat)) (k : Nat) : Bool :=
  Nat.ble k ops.length && uniqueOk ops && ops.zipIdx.all fun (o, i) => noSel o && afterOk pre i o && looksOk ops pre i o && (Nat.blt i k || (List.range i).all fun j => (pre.getD i []).contains j)

def Obls (P : Program) (ops : List Oper) (pre : List (List Nat)) (R : World → World → Prop) (A : Nat → Value → World → Prop) (σ : Env) (w0 : World) : Nat → List Oper → Prop
  | _, [] => True
  | i, o :: rest => (∀ vals w, R w0 w → (∀ j, j ∈ pre.getD i [] → A j (vals j) w) →
      if Region.wanted o (yl ops.toArray (view ops (pre.getD i []) σ vals)) then opV P o (view ops (pre.getD i []) σ vals) w (fun v w' => R w w' ∧ A i v w') else A i undef w) ∧
    Obls P ops pre R A σ w0 (i + 1) rest

theorem obl {P : Program} {ops : Array Oper} {o : Oper} {σ : Env} {w : World} {K : Value → World → Prop} {X : Prop} (hg : o.guard = none) (h : opV P o σ w K) : (if Region.wanted o (yl ops σ) then opV P o σ w K else X) := by
  rw [if_pos (by simp [Region.wanted, hg])]; exact h
theorem oblc {P : Program} {ops : Array Oper} {o : Oper} {σ : Env} {w : World} {K : Value → World → Prop} {X : Prop} {j t : Nat} {want b : Bool} (hg : o.guard = some (j, want)) (hd : ((ops[j]?).bind (·.dst)) = some t) (ht : σ t = .bool b)
    (h : b = want → opV P o σ w K) (hx : b ≠ want → X) : (if Region.wanted o (yl ops σ) then opV P o σ w K else X) := by
  by_cases hb : b = want
  · rw [if_pos (by simp [Region.wanted, hg, yl, hd, ht, hb])]; exact h hb
  · rw [if_neg (by simp [Region.wanted, hg, yl, hd, ht, hb])]; exact hx hb

theorem oblcP {P : Program} {ops : Array Oper} {o : Oper} {σ : Env} {w : World} {K : Value → World → Prop} {X : Prop} {j t : Nat} {want b : Bool} {p : Prop} [Decidable p] (hg : o.guard = some (j, want)) (hd : ((ops[j]?).bind (·.dst)) = some t) (ht : σ t = if p then .bool b else undef)
    (h : p ∧ b = want → opV P o σ w K) (hx : ¬ (p ∧ b = want) → X) : (if Region.wanted o (yl ops σ) then opV P o σ w K else X) := by
  by_cases hp : p
  · rw [if_pos hp] at ht
    exact oblc hg hd ht (fun hb => h ⟨hp, hb⟩) (fun hb => hx (fun h => hb h.2))
  · rw [if_neg hp] at ht
    rw [if_neg (by simp [Region.wanted, hg, yl, hd, ht, undef])]
    exact hx (fun h => hp h.1)

/-- The environment behind the first k operations. -/
def behind (ops : List Oper) (vals : Nat → Value) (σ : Env) : Nat → Env
  | 0 => σ
  | k + 1 => match ops[k]? with
    | some o => updO (behind ops vals σ k) o.dst (vals k)
    | none => behind ops vals σ k

section
variable {P : Program} {n : Nat} {Q : Post} {σ : Env} {w : World} {ops : List Oper} {pre : List (List Nat)} {k : Nat} {R : World → World → Prop} {A : Nat → Value → World → Prop}

structure Fit (ops : List Oper) (pre : List (List Nat)) (k : Nat) : Prop where
  k_le : k ≤ ops.length
  sel : ∀ (i : Nat) (o : Oper), ops[i]? = some o → ∀ (cs : Array SelectCase) (b : Bool), o.op ≠ .select cs b
  edge : ∀ (i : Nat) (o : Oper), ops[i]? = some o → ∀ e ∈ o.after, Region.binds .any e = true → e.on < i
  lt : ∀ (i : Nat) (o : Oper), ops[i]? = some o → ∀ j ∈ pre.getD i [], j < i
  prec : ∀ (i : Nat) (o : Oper), ops[i]? = some o → ∀ j ∈ pre.getD i [], ∃ e ∈ o.after, Region.binds .any e = true ∧ (e.on = j ∨ j ∈ pre.getD e.on [])
  looks : ∀ (i : Nat) (o : Oper), ops[i]? = some o → ∀ t ∈ o.looksAt ops.toArray, (∃ j ∈ pre.getD i [], dstIs ops t j = true) ∨ ∀ j, dstIs ops t j = true → j = i ∨ i ∈ pre.getD j []
  uniq : ∀ t i j, dstIs ops t i = true → dstIs ops t j = true → i = j
  late : ∀ (i : Nat) (o : Oper), ops[i]? = some o → k ≤ i → ∀ j, j < i → j ∈ pre.getD i []

theorem nbeq {a b : Nat} : Nat.beq a b = true ↔ a = b := ⟨Nat.eq_of_beq_eq_true, fun h => by subst h; exact Nat.beq_refl a⟩

theorem dstIs_iff {t j : Nat} : dstIs ops t j = true ↔ ∃ o, ops[j]? = some o ∧ o.dst = some t := by
  unfold dstIs
  cases h : ops[j]? with
  | none => simp
  | some o =>
    cases hd : o.dst with
    | none => simp [hd]
    | some d => simp only [nbeq, Option.some.injEq, exists_eq_left', hd]

theorem dstIs_lt {t j : Nat} (h : dstIs ops t j = true) : j < ops.length := by
  obtain ⟨o, ho, _⟩ := dstIs_iff.1 h
  exact (List.getElem?_eq_some_iff.1 ho).1

theorem drawOk.fit (h : drawOk ops pre k = true) : Fit ops pre k := by
  simp only [drawOk, Bool.and_eq_true, List.all_eq_true] at h
  obtain ⟨⟨hk, hu⟩, hall⟩ := h
  have at_ : ∀ i o, ops[i]? = some o → (o, i) ∈ ops.zipIdx := by
    intro i o ho
    rw [List.mem_zipIdx_iff_getElem?]
    exact ho
  refine ⟨Nat.le_of_ble_eq_true hk, ?_, ?_, ?_, ?_, ?_, ?_, ?_⟩
  · intro i o ho cs b hs
    have := (hall _ (at_ i o ho)).1.1.1
    simp [noSel, hs] at this
  · intro i o ho e he hb
    have := (hall _ (at_ i o ho)).1.1.2
    simp only [afterOk, Bool.and_eq_true, List.all_eq_true] at this
    have h1 := this.1 e (by simpa using he)
    simpa [hb, Nat.blt_eq] using h1
  · intro i o ho j hj
    have := (hall _ (at_ i o ho)).1.1.2
    simp only [afterOk, Bool.and_eq_true, List.all_eq_true] at this
    have h1 := (this.2 j hj).1
    simpa [Nat.blt_eq] using h1
  · intro i o ho j hj
    have := (hall _ (at_ i o ho)).1.1.2
    simp only [afterOk, Bool.and_eq_true, List.all_eq_true] at this
    have h1 := (this.2 j hj).2
    simp only [List.any_eq_true, Bool.and_eq_true, Bool.or_eq_true, nbeq, List.contains_iff_mem] at h1
    obtain ⟨e, he, hb, hj'⟩ := h1
    exact ⟨e, by simpa using he, hb, hj'⟩
  · intro i o ho t ht
    have := (hall _ (at_ i o ho)).1.2
    simp only [looksOk, List.all_eq_true] at this
    have h1 := this t ht
    simp only [Bool.or_eq_true, List.any_eq_true, List.all_eq_true, List.mem_range, Bool.not_eq_true', nbeq, List.contains_iff_mem] at h1
    rcases h1 with ⟨j, hj, hd⟩ | h1
    · exact .inl ⟨j, hj, hd⟩
    · refine .inr fun j hj => ?_
      rcases h1 j (dstIs_lt hj) with (h2 | h2) | h2
      · rw [hj] at h2; cases h2
      · exact .inl h2
      · exact .inr h2
  · have key : ∀ t i j, j < i → dstIs ops t i = true → dstIs ops t j = true → False := by
      intro t i j hji hi hj
      obtain ⟨o, ho, hd⟩ := dstIs_iff.1 hi
      simp only [uniqueOk, List.all_eq_true, List.mem_range] at hu
      have := hu i (dstIs_lt hi) j hji
      simp only [ho, hd, hj] at this
      cases this
    intro t i j hi hj
    rcases Nat.lt_trichotomy i j with h | h | h
    · exact (key t j i h hj hi).elim
    · exact h
    · exact (key t i j h hi hj).elim
  · intro i o ho hki j hj
    have := (hall _ (at_ i o ho)).2
    simp only [Bool.or_eq_true, List.all_eq_true, List.mem_range, List.contains_iff_mem] at this
    rcases this with h1 | h1
    · have : i < k := by simpa [Nat.blt_eq] using h1
      omega
    · exact h1 j hj

/-- The environment when some operations are done. -/
def mixed (ops : List Oper) (done : Nat → Bool) (vals : Nat → Value) (σ : Env) : Env := fun t =>
  match (List.range ops.length).find? (fun j => dstIs ops t j && done j) with
  | some j => vals j
  | none => σ t

theorem mixed_some (hf : Fit ops pre k) {done : Nat → Bool} {vals : Nat → Value} {t j : Nat} (hd : dstIs ops t j = true) (hj : done j = true) : mixed ops done vals σ t = vals j := by
  unfold mixed
  cases h : (List.range ops.length).find? (fun j => dstIs ops t j && done j) with
  | none =>
    have := List.find?_eq_none.1 h j (List.mem_range.2 (dstIs_lt hd))
    simp [hd, hj] at this
  | some j' =>
    have := List.find?_some h
    simp only [Bool.and_eq_true] at this
    rw [hf.uniq t j' j this.1 hd]

theorem mixed_none {done : Nat → Bool} {vals : Nat → Value} {t : Nat} (h : ∀ j, dstIs ops t j = true → done j = false) : mixed ops done vals σ t = σ t := by
  unfold mixed
  cases h' : (List.range ops.length).find? (fun j => dstIs ops t j && done j) with
  | none => rfl
  | some j' =>
    have := List.find?_some h'
    simp only [Bool.and_eq_true] at this
    rw [h j' this.1] at this
    cases this.2

theorem opV_congr {o : Oper} {σ σ' : Env} {K : Value → World → Prop} (hs : ∀ cs b, o.op ≠ .select cs b) (h : ∀ t ∈ o.looksAt ops.toArray, σ' t = σ t) : opV P o σ' w K = opV P o σ w K := by
  have : execOp (ev σ') o = execOp (ev σ) o := execOp_congr o hs fun x hx => by
    cases x with
    | tmp t => exact h t (List.mem_append_left _ (List.mem_filterMap.2 ⟨.tmp t, by simpa using hx, rfl⟩))
    | _ => rfl
  unfold opV
  rw [this]

theorem wanted_congr {o : Oper} {σ σ' : Env} (h : ∀ t ∈ o.looksAt ops.toArray, σ' t = σ t) : Region.wanted o (yl ops.toArray σ') = Region.wanted o (yl ops.toArray σ) := by
  unfold Region.wanted
  cases hg : o.guard with
  | none => rfl
  | some gw =>
    obtain ⟨g, want⟩ := gw
    have : yl ops.toArray σ' g = yl ops.toArray σ g := by
      unfold yl
      cases ht : (ops.toArray[g]?).bind (·.dst) with
      | none => rfl
      | some t =>
        have := h t (by simp only [Oper.looksAt, hg, ht, Option.toList_some, List.mem_append]; exact .inr (List.mem_singleton.2 rfl))
        simp only [this]
    simp only [this]

def closed (pre : List (List Nat)) (done : Nat → Bool) : Prop := ∀ i, done i = true → ∀ j ∈ pre.getD i [], done j = true

theorem view_mixed (hf : Fit ops pre k) {done : Nat → Bool} {vals : Nat → Value} {i : Nat} {o : Oper} (ho : ops[i]? = some o) (hc : closed pre done) (hi : done i = false)
    (hp : ∀ j ∈ pre.getD i [], done j = true) : ∀ t ∈ o.looksAt ops.toArray, mixed ops done vals σ t = view ops (pre.getD i []) σ vals t := by
  intro t ht
  unfold view
  cases hfd : (pre.getD i []).find? (dstIs ops t) with
  | some j =>
    have h1 := List.find?_some hfd
    have h2 := List.mem_of_find?_eq_some hfd
    exact mixed_some hf h1 (hp j h2)
  | none =>
    have hno := List.find?_eq_none.1 hfd
    refine mixed_none fun j hj => ?_
    rcases hf.looks i o ho t ht with ⟨j', hj', hd'⟩ | h
    · exact (hno j' hj' hd').elim
    · rcases h j hj with rfl | h
      · exact hi
      · cases hdj : done j with
        | false => rfl
        | true => have := hc j hdj i h; rw [hi] at this; cases this

theorem Obls_at {i0 : Nat} : ∀ {l : List Oper} {w0 : World}, Obls P ops pre R A σ w0 i0 l → ∀ i o, l[i]? = some o → ∀ vals w, R w0 w → (∀ j, j ∈ pre.getD (i0 + i) [] → A j (vals j) w) →
      if Region.wanted o (yl ops.toArray (view ops (pre.getD (i0 + i) []) σ vals)) then opV P o (view ops (pre.getD (i0 + i) []) σ vals) w (fun v w' => R w w' ∧ A (i0 + i) v w') else A (i0 + i) undef w := by
  intro l
  induction l generalizing i0 with
  | nil => intro w0 _ i o h; simp at h
  | cons x l ih =>
    intro w0 h i o ho
    obtain ⟨h1, h2⟩ := h
    cases i with
    | zero => simp only [List.getElem?_cons_zero, Option.some.injEq] at ho; subst ho; exact h1
    | succ i =>
      have := ih h2 i o (by simpa using ho)
      rw [show i0 + 1 + i = i0 + (i + 1) by omega] at this
      exact this

theorem putMixed (hf : Fit ops pre k) {done : Nat → Bool} {vals : Nat → Value} {i : Nat} {o : Oper} (ho : ops[i]? = some o) (hi : done i = false) (v : Value) :
    updO (mixed ops done vals σ) o.dst v = mixed ops (fun j => done j || j == i) (fun j => if j = i then v else vals j) σ := by
  funext t
  by_cases hd : dstIs ops t i = true
  · obtain ⟨o', ho', hd'⟩ := dstIs_iff.1 hd
    rw [ho] at ho'; cases ho'
    rw [mixed_some hf hd (by simp), hd']
    simp [updO, upd_same]
  · have h1 : updO (mixed ops done vals σ) o.dst v t = mixed ops done vals σ t := by
      cases hdst : o.dst with
      | none => rfl
      | some d =>
        refine upd_ne _ _ ?_
        rintro rfl
        exact hd (dstIs_iff.2 ⟨o, ho, hdst⟩)
    rw [h1]
    by_cases hex : ∃ j, dstIs ops t j = true ∧ done j = true
    · obtain ⟨j, hj, hdj⟩ := hex
      have hji : j ≠ i := by rintro rfl; rw [hi] at hdj; cases hdj
      rw [mixed_some hf hj hdj, mixed_some hf hj (by simp [hdj])]
      simp [hji]
    · rw [mixed_none (fun j hj => by cases h : done j with | false => rfl | true => exact (hex ⟨j, hj, h⟩).elim),
        mixed_none (fun j hj => ?_)]
      cases h : done j with
      | true => exact (hex ⟨j, hj, h⟩).elim
      | false =>
        have : j ≠ i := by rintro rfl; exact hd hj
        simp [this]

theorem behind_mixed (hf : Fit ops pre k) {vals : Nat → Value} : ∀ m, m ≤ ops.length → behind ops vals σ m = mixed ops (fun j => decide (j < m)) vals σ
  | 0, _ => by funext t; simp only [behind]; exact (mixed_none (fun j _ => by simp)).symm
  | m + 1, h => by
    have ho : ops[m]? = some ops[m] := List.getElem?_eq_getElem (by omega)
    simp only [behind, ho]
    rw [behind_mixed hf m (by omega), putMixed hf ho (by simp)]
    congr 1
    · funext j
      rw [Bool.eq_iff_iff]
      simp only [Bool.or_eq_true, decide_eq_true_eq, beq_iff_eq]
      omega
    · funext j; split
      · subst_vars; rfl
      · rfl

def cnt (done : Nat → Bool) (m : Nat) : Nat := (List.range m).countP done
theorem cnt_succ (done : Nat → Bool) (m : Nat) : cnt done (m + 1) = cnt done m + if done m = true then 1 else 0 := by
  simp [cnt, List.range_succ, List.countP_append, List.countP_cons]
theorem cnt_add {done : Nat → Bool} {i : Nat} (hi : done i = false) : ∀ m, cnt (fun j => done j || j == i) m = cnt done m + if i < m then 1 else 0
  | 0 => by simp [cnt]
  | m + 1 => by
    rw [cnt_succ, cnt_succ, cnt_add hi m]
    by_cases h : m = i
    · subst h; simp [hi]
    · have h2 : (i < m + 1) ↔ (i < m) := by omega
      simp only [h2]
      cases done m <;> simp [h] <;> omega
theorem cnt_le (done : Nat → Bool) : ∀ m, cnt done m ≤ m
  | 0 => by simp [cnt]
  | m + 1 => by rw [cnt_succ]; have := cnt_le done m; split <;> omega
theorem cnt_full {done : Nat → Bool} : ∀ {m}, m ≤ cnt done m → ∀ j, j < m → done j = true
  | 0, _, j, hj => by omega
  | m + 1, h, j, hj => by
    rw [cnt_succ] at h
    have hle := cnt_le done m
    by_cases hm : done m = true
    · rw [if_pos hm] at h
      by_cases hjm : j = m
      · subst hjm; exact hm
      · exact cnt_full (m := m) (by omega) j (by omega)
    · rw [if_neg hm] at h; omega

theorem first_open {done : Nat → Bool} : ∀ m, (∃ j, j < m ∧ done j = false) → ∃ i, i < m ∧ done i = false ∧ ∀ j, j < i → done j = true
  | 0, ⟨j, hj, _⟩ => by omega
  | m + 1, ⟨j, hj, hd⟩ => by
    by_cases h : ∃ j, j < m ∧ done j = false
    · obtain ⟨i, hi, h1, h2⟩ := first_open m h
      exact ⟨i, by omega, h1, h2⟩
    · have hjm : j = m := by
        rcases Nat.lt_or_ge j m with h' | h'
        · exact (h ⟨j, h', hd⟩).elim
        · omega
      subst hjm
      refine ⟨j, hj, hd, fun i hi => ?_⟩
      cases hdi : done i with
      | true => rfl
      | false => exact (h ⟨i, hi, hdi⟩).elim

def dn (listed : Array Bool) (j : Nat) : Bool := listed.getD j false

theorem ready_iff {listed : Array Bool} (hs : listed.size = ops.length) {i : Nat} : i ∈ Region.ready .any ops.toArray listed ↔
    dn listed i = false ∧ ∃ o, ops[i]? = some o ∧ ∀ e ∈ o.after, Region.binds .any e = true → dn listed e.on = true := by
  rw [mem_ready]
  simp only [List.getElem?_toArray]
  constructor
  · rintro ⟨h1, o, ho, h2⟩
    have hlt : i < listed.size := by rw [hs]; exact (List.getElem?_eq_some_iff.1 ho).1
    refine ⟨?_, o, ho, h2⟩
    simp [dn, hlt] at h1 ⊢
    exact h1
  · rintro ⟨h1, o, ho, h2⟩
    have hlt : i < listed.size := by rw [hs]; exact (List.getElem?_eq_some_iff.1 ho).1
    refine ⟨?_, o, ho, h2⟩
    simp [dn, hlt] at h1 ⊢
    exact h1

theorem dn_set {listed : Array Bool} (hs : listed.size = ops.length) {i : Nat} {o : Oper} (ho : ops[i]? = some o) : dn (listed.setIfInBounds i true) = fun j => dn listed j || j == i := by
  funext j
  have hlt : i < listed.size := by rw [hs]; exact (List.getElem?_eq_some_iff.1 ho).1
  by_cases h : i = j
  · subst h; simp [dn, hlt]
  · have h' : ¬ j = i := fun e => h e.symm
    simp [dn, Array.getElem?_setIfInBounds_ne h, h']

theorem ready_nil (hf : Fit ops pre k) {listed : Array Bool} (hs : listed.size = ops.length) (h : Region.ready .any ops.toArray listed = []) : ∀ j, j < ops.length → dn listed j = true := by
  intro j hj
  cases hd : dn listed j with
  | true => rfl
  | false =>
    obtain ⟨i, hi, h1, h2⟩ := first_open ops.length ⟨j, hj, hd⟩
    have ho : ops[i]? = some ops[i] := List.getElem?_eq_getElem hi
    have : i ∈ Region.ready .any ops.toArray listed := (ready_iff hs).2 ⟨h1, _, ho, fun e he hb => h2 _ (hf.edge i _ ho e he hb)⟩
    rw [h] at this
    cases this

theorem ready_pre (hf : Fit ops pre k) {listed : Array Bool} (hs : listed.size = ops.length) (hc : closed pre (dn listed)) {i : Nat} (h : i ∈ Region.ready .any ops.toArray listed) :
    ∃ o, ops[i]? = some o ∧ dn listed i = false ∧ ∀ j ∈ pre.getD i [], dn listed j = true := by
  obtain ⟨h1, o, ho, h2⟩ := (ready_iff hs).1 h
  refine ⟨o, ho, h1, fun j hj => ?_⟩
  obtain ⟨e, he, hb, hj'⟩ := hf.prec i o ho j hj
  have h3 := h2 e he hb
  rcases hj' with rfl | hj'
  · exact h3
  · exact hc _ h3 j hj'

theorem phase2 (hf : Fit ops pre k) (hd : dstsOk n ops = true) : ∀ (fuel : Nat) (p : Nat) (listed : Array Bool) (a : Act) (σ' : Env) (w : World), k ≤ p → p ≤ ops.length → ops.length ≤ p + fuel → listed.size = ops.length →
    dn listed = (fun j => decide (j < p)) → Sim n σ' a → WPs P ops.toArray (Q .normal) (ops.drop p) σ' w →
    wpAny P .any ops.toArray (fun e a' w' => ∃ σ'', Sim n σ'' a' ∧ Q e σ'' w') fuel listed a w := by
  intro fuel
  induction fuel with
  | zero =>
    intro p listed a σ' w hkp hp hfu hs hdn hsim h
    have hpe : p = ops.length := by omega
    rw [hpe, List.drop_length] at h
    refine ⟨?_, σ', hsim, h⟩
    cases hr : Region.ready .any ops.toArray listed with
    | nil => rfl
    | cons i r =>
      have hi : i ∈ Region.ready .any ops.toArray listed := by rw [hr]; exact List.mem_cons_self
      obtain ⟨h1, o, ho, _⟩ := (ready_iff hs).1 hi
      have := (List.getElem?_eq_some_iff.1 ho).1
      rw [hdn] at h1
      simp at h1
      omega
  | succ fuel ih =>
    intro p listed a σ' w hkp hp hfu hs hdn hsim h
    have hopen : ∀ i ∈ Region.ready .any ops.toArray listed, ∃ o, i = p ∧ ops[i]? = some o := by
      intro i hi
      obtain ⟨o, ho, hni, hpre⟩ := ready_pre hf hs (by
        intro i hi j hj
        rw [hdn] at hi ⊢
        simp only [decide_eq_true_eq] at hi ⊢
        have := hf.lt i ops[i] (List.getElem?_eq_getElem (by omega)) j hj
        omega) hi
      have hpi : p ≤ i := by rw [hdn] at hni; simpa using hni
      refine ⟨o, ?_, ho⟩
      rcases Nat.lt_or_ge p i with hlt | hge
      · have h2 := hf.late i o ho (by omega) p hlt
        have h3 := hpre p h2
        rw [hdn] at h3
        simp at h3
      · omega
    refine ⟨fun hr => ?_, fun i hi => ?_⟩
    · have hall := ready_nil hf hs hr
      have hpe : p = ops.length := by
        rcases Nat.lt_or_ge p ops.length with hlt | hge
        · have := hall p hlt; rw [hdn] at this; simp at this
        · omega
      rw [hpe, List.drop_length] at h
      exact ⟨σ', hsim, h⟩
    · obtain ⟨o, rfl, ho⟩ := hopen i hi
      have hlt := (List.getElem?_eq_some_iff.1 ho).1
      have hdrop : ops.drop i = o :: ops.drop (i + 1) := by
        rw [List.drop_eq_getElem_cons hlt]
        congr 1
        rw [List.getElem?_eq_getElem hlt] at ho
        exact Option.some.inj ho
      have hdst : ∀ d, o.dst = some d → d < n := by
        intro d hd'
        simp only [dstsOk, List.all_eq_true] at hd
        have := hd o (List.mem_of_getElem? ho)
        rw [hd'] at this
        simpa [Nat.blt_eq] using this
      rw [hdrop] at h
      have hnext : ∀ a' σ'' w', Sim n σ'' a' → WPs P ops.toArray (Q .normal) (ops.drop (i + 1)) σ'' w' →
          wpAny P .any ops.toArray (fun e a' w' => ∃ σ'', Sim n σ'' a' ∧ Q e σ'' w') fuel (listed.setIfInBounds i true) a' w' := by
        intro a' σ'' w' hs' hw'
        refine ih (i + 1) _ a' σ'' w' (by omega) (by omega) (by omega) (by simpa using hs) ?_ hs' hw'
        rw [dn_set hs ho, hdn]
        funext j
        rw [Bool.eq_iff_iff]
        simp only [Bool.or_eq_true, decide_eq_true_eq, beq_iff_eq]
        omega
      unfold wpOp
      simp only [List.getElem?_toArray, ho]
      simp only [WPs] at h
      rw [hsim.yielded]
      split <;> rename_i hw
      · rw [if_pos hw] at h
        exact .inl (opP_wp hsim (fun a' σ'' w' hs' hk => hnext a' σ'' w' hs' hk) hdst h)
      · rw [if_neg hw] at h
        exact hnext _ _ _ (hsim.put hdst undef) h

theorem phase1 (hf : Fit ops pre k) (hd : dstsOk n ops = true) {w0 : World} (hrefl' : ∀ w, R w w) (htrans : ∀ a b c, R a b → R b c → R a c) (hstab : ∀ j v w w', R w w' → A j v w → A j v w')
    (hob : Obls P ops pre R A σ w0 0 (ops.take k))
    (hlate : ∀ vals w', R w0 w' → (∀ j, j < k → A j (vals j) w') → WPs P ops.toArray (Q .normal) (ops.drop k) (behind ops vals σ k) w') :
    ∀ (fuel : Nat) (listed : Array Bool) (a : Act) (vals : Nat → Value) (w : World), listed.size = ops.length → closed pre (dn listed) → (∀ j, dn listed j = true → j < k) →
    ops.length ≤ cnt (dn listed) ops.length + fuel → Sim n (mixed ops (dn listed) vals σ) a → R w0 w → (∀ j, dn listed j = true → A j (vals j) w) →
    wpAny P .any ops.toArray (fun e a' w' => ∃ σ'', Sim n σ'' a' ∧ Q e σ'' w') fuel listed a w := by
  intro fuel
  induction fuel with
  | zero =>
    intro listed a vals w hs hc hlt hfu hsim hR hA
    have hall := cnt_full (done := dn listed) (m := ops.length) (by omega)
    have hk : k = ops.length := by
      have := hf.k_le
      rcases Nat.lt_or_ge k ops.length with h | h
      · have := hlt k (hall k h); omega
      · omega
    have hdn : dn listed = fun j => decide (j < k) := by
      funext j
      rw [Bool.eq_iff_iff, decide_eq_true_eq]
      exact ⟨hlt j, fun h => hall j (by omega)⟩
    rw [hdn, ← behind_mixed hf k hf.k_le] at hsim
    exact phase2 hf hd 0 k listed a _ w (Nat.le_refl _) hf.k_le (by omega) hs hdn hsim (hlate vals w hR fun j hj => hA j (hall j (by omega)))
  | succ fuel ih =>
    intro listed a vals w hs hc hlt hfu hsim hR hA
    by_cases hfull : ∀ j, j < k → dn listed j = true
    · have hdn : dn listed = fun j => decide (j < k) := by
        funext j
        rw [Bool.eq_iff_iff, decide_eq_true_eq]
        exact ⟨hlt j, hfull j⟩
      rw [hdn, ← behind_mixed hf k hf.k_le] at hsim
      have hcnt : cnt (dn listed) ops.length ≤ k := by
        rw [hdn]
        have : ∀ m, cnt (fun j => decide (j < k)) m ≤ k := by
          intro m
          induction m with
          | zero => simp [cnt]
          | succ m ihm =>
            rw [cnt_succ]
            have := cnt_le (fun j => decide (j < k)) m
            split
            · rename_i h; simp at h; omega
            · omega
        exact this _
      exact phase2 hf hd (fuel + 1) k listed a _ w (Nat.le_refl _) hf.k_le (by omega) hs hdn hsim (hlate vals w hR fun j hj => hA j (hfull j hj))
    · have hopen : ∃ j, j < k ∧ dn listed j = false := by
        refine Classical.byContradiction fun hno => hfull fun j hj => ?_
        cases h : dn listed j with
        | true => rfl
        | false => exact (hno ⟨j, hj, h⟩).elim
      refine ⟨fun hr => ?_, fun i hi => ?_⟩
      · obtain ⟨j, hj, hdj⟩ := hopen
        have := ready_nil hf hs hr j (by have := hf.k_le; omega)
        rw [hdj] at this; cases this
      · obtain ⟨o, ho, hni, hpre⟩ := ready_pre hf hs hc hi
        have hik : i < k := by
          rcases Nat.lt_or_ge i k with h | h
          · exact h
          · obtain ⟨j, hj, hdj⟩ := hopen
            have := hpre j (hf.late i o ho h j (by omega))
            rw [hdj] at this; cases this
        have hilen := (List.getElem?_eq_some_iff.1 ho).1
        have hdst : ∀ d, o.dst = some d → d < n := by
          intro d hd'
          simp only [dstsOk, List.all_eq_true] at hd
          have := hd o (List.mem_of_getElem? ho)
          rw [hd'] at this
          simpa [Nat.blt_eq] using this
        have hv := view_mixed (σ := σ) (vals := vals) hf ho hc hni hpre
        have hO := Obls_at hob i o (by rw [List.getElem?_take]; simp [hik, ho]) vals w hR (fun j hj => hA j (hpre j (by simpa using hj)))
        simp only [Nat.zero_add] at hO
        rw [← wanted_congr hv] at hO
        have hnext : ∀ v a' w', R w w' → A i v w' → Sim n (updO (mixed ops (dn listed) vals σ) o.dst v) a' →
            wpAny P .any ops.toArray (fun e a' w' => ∃ σ'', Sim n σ'' a' ∧ Q e σ'' w') fuel (listed.setIfInBounds i true) a' w' := by
          intro v a' w' hRw hAv hs'
          rw [putMixed hf ho hni v] at hs'
          have hset := dn_set hs ho
          refine ih _ a' (fun j => if j = i then v else vals j) w' (by simpa using hs) ?_ ?_ ?_ ?_ (htrans _ _ _ hR hRw) ?_
          · intro j hj j' hj'
            rw [hset] at hj ⊢
            simp only [Bool.or_eq_true, beq_iff_eq] at hj ⊢
            rcases hj with hj | rfl
            · exact .inl (hc j hj j' hj')
            · exact .inl (hpre j' hj')
          · intro j hj
            rw [hset] at hj
            simp only [Bool.or_eq_true, beq_iff_eq] at hj
            rcases hj with hj | rfl
            · exact hlt j hj
            · exact hik
          · rw [hset, cnt_add hni, if_pos hilen]; omega
          · rw [hset]; exact hs'
          · intro j hj
            rw [hset] at hj
            simp only [Bool.or_eq_true, beq_iff_eq] at hj
            by_cases hji : j = i
            · subst hji; simpa using hAv
            · rcases hj with hj | hj
              · simp only [hji, if_false]; exact hstab _ _ _ _ hRw (hA j hj)
              · exact (hji hj).elim
        unfold wpOp
        simp only [List.getElem?_toArray, ho]
        rw [hsim.yielded]
        split <;> rename_i hw
        · rw [if_pos hw] at hO
          refine .inl (opP_wp hsim (K := fun σ'' w' => ∃ v, R w w' ∧ A i v w' ∧ σ'' = updO (mixed ops (dn listed) vals σ) o.dst v) ?_ hdst ?_)
          · rintro a' σ'' w' hs' ⟨v, h1, h2, rfl⟩
            exact hnext v a' w' h1 h2 hs'
          · unfold opP
            rw [opV_congr (hf.sel i o ho) hv]
            exact opV_mono (fun v w' ⟨h1, h2⟩ => ⟨v, h1, h2, rfl⟩) hO
        · rw [if_neg hw] at hO
          exact hnext undef _ w (by
            have : R w w := by
              exact hrefl' w
            exact this) hO (hsim.put hdst undef)

/-- A region that draws its order. -/
theorem WP_draw {id : Nat} (R : World → World → Prop) (A : Nat → Value → World → Prop) (pre : List (List Nat)) (k : Nat) (hm : P.follows .mixedOrders = true) (hd : dstsOk n ops = true) (hok : drawOk ops pre k = true)
    (hrefl : ∀ w, R w w) (htrans : ∀ a b c, R a b → R b c → R a c) (hstab : ∀ j v w w', R w w' → A j v w → A j v w')
    (h : ∀ w0 : World, w0.heap = w.heap → w0.os = w.os → w0.tape = w.tape → w0.output = w.output ∧ w.drawn ≤ w0.drawn → Obls P ops pre R A σ w0 0 (ops.take k) ∧
      ∀ vals w', R w0 w' → (∀ j, j < k → A j (vals j) w') → WPs P ops.toArray (Q .normal) (ops.drop k) (behind ops vals σ k) w') :
    WP P n (.region id ops.toArray true) Q σ w := by
  intro a hs
  have hf := drawOk.fit hok
  obtain ⟨h1, h2⟩ := h { w with drawn := w.drawn + 1 } rfl rfl rfl ⟨rfl, Nat.le_succ _⟩
  refine wp_region_any hm ?_
  refine phase1 (vals := fun _ => undef) hf hd hrefl htrans hstab h1 h2 _ _ a _ (by simp) ?_ ?_ ?_ ?_ (hrefl _) ?_
  · intro i hi
    simp [dn, Array.getElem?_replicate] at hi
    split at hi <;> simp at hi
  · intro i hi
    simp [dn, Array.getElem?_replicate] at hi
    split at hi <;> simp at hi
  · simp
  · have : mixed ops (dn (Array.replicate ops.toArray.size false)) (fun _ => undef) σ = σ := by
      funext t
      refine mixed_none fun j _ => ?_
      simp [dn, Array.getElem?_replicate]
      split <;> rfl
    rw [this]; exact hs
  · intro i hi
    simp [dn, Array.getElem?_replicate] at hi
    split at hi <;> simp at hi
end
end Go.Proofs.Ytgjgmojjeehieaa
