/- A stable sort as plain functions on lists: insertion, rotation, merging in place. -/
import Derived.Test.YtbbhpddgjiifmaaData
namespace Go.Proofs.Ytbbhpddgjiifmaa

section
variable {α : Type} [Inhabited α]
abbrev gd (d : List α) (i : Nat) : α := d.getD i default
def swapG (d : List α) (i j : Nat) : List α := (d.set i (gd d j)).set j (gd d i)
def swapR (a b : Nat) : Nat → Nat → List α → List α
  | 0, _, d => d
  | k + 1, i, d => swapR a b k (i + 1) (swapG d (a + i) (b + i))
def rotL (m : Nat) : Nat → Nat → Nat → List α → List α
  | 0, i, _, d => swapR (m - i) m i 0 d
  | f + 1, i, j, d => if i = j then swapR (m - i) m i 0 d else if j < i then rotL m f (i - j) j (swapR (m - i) m j 0 d) else rotL m f i (j - i) (swapR (m - i) (m + j - i) i 0 d)
def bsA (t : Nat → Bool) : Nat → Nat → Nat → Nat
  | 0, i, _ => i
  | g + 1, i, j => if i < j then (if t ((i + j) / 2) = true then bsA t g ((i + j) / 2 + 1) j else bsA t g i ((i + j) / 2)) else i
def chainUp : Nat → Nat → List α → List α
  | 0, _, d => d
  | n + 1, k, d => chainUp n (k + 1) (swapG d k (k + 1))
def chainDn : Nat → Nat → List α → List α
  | 0, _, d => d
  | n + 1, k, d => chainDn n (k - 1) (swapG d k (k - 1))
def symS (lt : α → α → Bool) (a m b : Nat) (d : List α) : Nat :=
  bsA (fun c => !lt (gd d ((a + b) / 2 + m - 1 - c)) (gd d c)) ((if (a + b) / 2 < m then (a + b) / 2 else m) - (if (a + b) / 2 < m then (a + b) / 2 + m - b else a))
    (if (a + b) / 2 < m then (a + b) / 2 + m - b else a) (if (a + b) / 2 < m then (a + b) / 2 else m)
def symRot (s m e : Nat) (d : List α) : List α := if s < m ∧ m < e then rotL m (e - s) (m - s) (e - m) d else d
def symL (lt : α → α → Bool) : Nat → Nat → Nat → Nat → List α → List α
  | 0, _, _, _, d => d
  | N + 1, a, m, b, d =>
    if m - a = 1 then chainUp (bsA (fun h => lt (gd d h) (gd d a)) (b - m) m b - 1 - a) a d
    else if b - m = 1 then chainDn (m - bsA (fun h => !lt (gd d m) (gd d h)) (m - a) a m) m d
    else
      let s := symS lt a m b d
      let mid := (a + b) / 2
      let e := mid + m - s
      let d1 := symRot s m e d
      let d2 := if a < s ∧ s < mid then symL lt N a s mid d1 else d1
      if mid < e ∧ e < b then symL lt N mid e b d2 else d2
def siftG (lt : α → α → Bool) (d : List α) (a : Nat) : Nat → List α
  | 0 => d
  | j + 1 => if a < j + 1 ∧ lt (gd d (j + 1)) (gd d j) = true then siftG lt (swapG d (j + 1) j) a j else d
def insG (lt : α → α → Bool) (a : Nat) : Nat → Nat → List α → List α
  | 0, _, d => d
  | n + 1, i, d => insG lt a n (i + 1) (siftG lt d a i)
def insB (lt : α → α → Bool) : Nat → Nat → List α → List α
  | 0, a, d => insG lt a (d.length - (a + 1)) (a + 1) d
  | g + 1, a, d => if a + 20 ≤ d.length then insB lt g (a + 20) (insG lt a (a + 20 - (a + 1)) (a + 1) d) else insG lt a (d.length - (a + 1)) (a + 1) d
def mergeRow (lt : α → α → Bool) (bs : Nat) : Nat → Nat → List α → List α
  | 0, _, d => d
  | g + 1, a, d => if a + 2 * bs ≤ d.length then mergeRow lt bs g (a + 2 * bs) (symL lt (2 * bs) a (a + bs) (a + 2 * bs) d)
    else if a + bs < d.length then symL lt (d.length - a) a (a + bs) d.length d else d
def mergeAll (lt : α → α → Bool) : Nat → Nat → List α → List α
  | 0, _, d => d
  | g + 1, bs, d => if bs < d.length then mergeAll lt g (2 * bs) (mergeRow lt bs (d.length + 1) 0 d) else d
def stableL (lt : α → α → Bool) (d : List α) : List α := mergeAll lt d.length 20 (insB lt d.length 0 d)

theorem rotL_eq {m g i j : Nat} {d : List α} (h : i = j) : rotL m g i j d = swapR (m - i) m i 0 d := by
  cases g with
  | zero => rfl
  | succ g => rw [rotL, if_pos h]
theorem rotL_gt {m g i j : Nat} {d : List α} (h : j < i) (hg : i + j ≤ g) : rotL m g i j d = rotL m (g - 1) (i - j) j (swapR (m - i) m j 0 d) := by
  obtain ⟨k, rfl⟩ : ∃ k, g = k + 1 := ⟨g - 1, by omega⟩
  rw [rotL, if_neg (by omega), if_pos h, Nat.add_sub_cancel]
theorem rotL_lt {m g i j : Nat} {d : List α} (h : i < j) (hg : i + j ≤ g) : rotL m g i j d = rotL m (g - 1) i (j - i) (swapR (m - i) (m + j - i) i 0 d) := by
  obtain ⟨k, rfl⟩ : ∃ k, g = k + 1 := ⟨g - 1, by omega⟩
  rw [rotL, if_neg (by omega), if_neg (by omega), Nat.add_sub_cancel]
theorem bsA_no {t : Nat → Bool} {g i j : Nat} (h : ¬ i < j) : bsA t g i j = i := by
  cases g with
  | zero => rfl
  | succ g => rw [bsA, if_neg h]
theorem bsA_t {t : Nat → Bool} {g i j : Nat} (h : i < j) (hg : j - i ≤ g) (ht : t ((i + j) / 2) = true) : bsA t g i j = bsA t (g - 1) ((i + j) / 2 + 1) j := by
  obtain ⟨k, rfl⟩ : ∃ k, g = k + 1 := ⟨g - 1, by omega⟩
  rw [bsA, if_pos h, if_pos ht, Nat.add_sub_cancel]
theorem bsA_f {t : Nat → Bool} {g i j : Nat} (h : i < j) (hg : j - i ≤ g) (ht : t ((i + j) / 2) = false) : bsA t g i j = bsA t (g - 1) i ((i + j) / 2) := by
  obtain ⟨k, rfl⟩ : ∃ k, g = k + 1 := ⟨g - 1, by omega⟩
  rw [bsA, if_pos h, if_neg (by rw [ht]; simp), Nat.add_sub_cancel]

theorem insB_no {lt : α → α → Bool} {g p : Nat} {d : List α} (h : ¬ p + 20 ≤ d.length) : insB lt g p d = insG lt p (d.length - (p + 1)) (p + 1) d := by
  cases g with
  | zero => rfl
  | succ g => rw [insB, if_neg h]
theorem insB_yes {lt : α → α → Bool} {g p : Nat} {d : List α} (h : p + 20 ≤ d.length) (hg : d.length ≤ p + g) : insB lt g p d = insB lt (g - 1) (p + 20) (insG lt p (p + 20 - (p + 1)) (p + 1) d) := by
  obtain ⟨k, rfl⟩ : ∃ k, g = k + 1 := ⟨g - 1, by omega⟩
  rw [insB, if_pos h, Nat.add_sub_cancel]
theorem mergeRow_yes {lt : α → α → Bool} {bs g p : Nat} {d : List α} (h : p + 2 * bs ≤ d.length) (hg : d.length < p + g) : mergeRow lt bs g p d = mergeRow lt bs (g - 1) (p + 2 * bs) (symL lt (2 * bs) p (p + bs) (p + 2 * bs) d) := by
  obtain ⟨k, rfl⟩ : ∃ k, g = k + 1 := ⟨g - 1, by omega⟩
  rw [mergeRow, if_pos h, Nat.add_sub_cancel]
theorem mergeRow_t {lt : α → α → Bool} {bs g p : Nat} {d : List α} (h : ¬ p + 2 * bs ≤ d.length) (h2 : p + bs < d.length) (hg : d.length < p + g) : mergeRow lt bs g p d = symL lt (d.length - p) p (p + bs) d.length d := by
  obtain ⟨k, rfl⟩ : ∃ k, g = k + 1 := ⟨g - 1, by omega⟩
  rw [mergeRow, if_neg h, if_pos h2]
theorem mergeRow_f {lt : α → α → Bool} {bs g p : Nat} {d : List α} (h : ¬ p + 2 * bs ≤ d.length) (h2 : ¬ p + bs < d.length) : mergeRow lt bs g p d = d := by
  cases g with
  | zero => rfl
  | succ g => rw [mergeRow, if_neg h, if_neg h2]
theorem mergeAll_yes {lt : α → α → Bool} {bs g : Nat} {d : List α} (h : bs < d.length) (hg : d.length ≤ bs + g) : mergeAll lt g bs d = mergeAll lt (g - 1) (2 * bs) (mergeRow lt bs (d.length + 1) 0 d) := by
  obtain ⟨k, rfl⟩ : ∃ k, g = k + 1 := ⟨g - 1, by omega⟩
  rw [mergeAll, if_pos h, Nat.add_sub_cancel]
theorem mergeAll_no {lt : α → α → Bool} {bs g : Nat} {d : List α} (h : ¬ bs < d.length) : mergeAll lt g bs d = d := by
  cases g with
  | zero => rfl
  | succ g => rw [mergeAll, if_neg h]

/-! Lengths. -/
theorem swapG_length (d : List α) (i j : Nat) : (swapG d i j).length = d.length := by simp [swapG]
theorem swapR_length (a b : Nat) : ∀ (k i : Nat) (d : List α), (swapR a b k i d).length = d.length
  | 0, _, _ => rfl
  | k + 1, i, d => by rw [swapR, swapR_length a b k, swapG_length]
theorem rotL_length (m : Nat) : ∀ (f i j : Nat) (d : List α), (rotL m f i j d).length = d.length
  | 0, i, _, d => by rw [rotL, swapR_length]
  | f + 1, i, j, d => by
    rw [rotL]
    split
    · rw [swapR_length]
    · split <;> rw [rotL_length m f, swapR_length]
theorem chainUp_length : ∀ (n k : Nat) (d : List α), (chainUp n k d).length = d.length
  | 0, _, _ => rfl
  | n + 1, k, d => by rw [chainUp, chainUp_length n, swapG_length]
theorem chainDn_length : ∀ (n k : Nat) (d : List α), (chainDn n k d).length = d.length
  | 0, _, _ => rfl
  | n + 1, k, d => by rw [chainDn, chainDn_length n, swapG_length]
theorem symRot_length (s m e : Nat) (d : List α) : (symRot s m e d).length = d.length := by
  unfold symRot; split
  · rw [rotL_length]
  · rfl
theorem symL_length (lt : α → α → Bool) : ∀ (N a m b : Nat) (d : List α), (symL lt N a m b d).length = d.length
  | 0, _, _, _, _ => rfl
  | N + 1, a, m, b, d => by
    rw [symL]
    split
    · rw [chainUp_length]
    · split
      · rw [chainDn_length]
      · dsimp only
        have h1 : ∀ x : List α, (if a < symS lt a m b d ∧ symS lt a m b d < (a + b) / 2 then symL lt N a (symS lt a m b d) ((a + b) / 2) x else x).length = x.length := fun x => by
          split
          · rw [symL_length lt N]
          · rfl
        split
        · rw [symL_length lt N, h1, symRot_length]
        · rw [h1, symRot_length]
theorem siftG_length (lt : α → α → Bool) (a : Nat) : ∀ (j : Nat) (d : List α), (siftG lt d a j).length = d.length
  | 0, _ => rfl
  | j + 1, d => by
    rw [siftG]; split
    · rw [siftG_length lt a j, swapG_length]
    · rfl
theorem insG_length (lt : α → α → Bool) (a : Nat) : ∀ (n i : Nat) (d : List α), (insG lt a n i d).length = d.length
  | 0, _, _ => rfl
  | n + 1, i, d => by rw [insG, insG_length lt a n, siftG_length]
theorem insB_length (lt : α → α → Bool) : ∀ (g a : Nat) (d : List α), (insB lt g a d).length = d.length
  | 0, a, d => by rw [insB, insG_length]
  | g + 1, a, d => by
    rw [insB]; split
    · rw [insB_length lt g, insG_length]
    · rw [insG_length]
theorem mergeRow_length (lt : α → α → Bool) (bs : Nat) : ∀ (g a : Nat) (d : List α), (mergeRow lt bs g a d).length = d.length
  | 0, _, _ => rfl
  | g + 1, a, d => by
    rw [mergeRow]; split
    · rw [mergeRow_length lt bs g, symL_length]
    · split
      · rw [symL_length]
      · rfl

/-! What stands where. -/
theorem swapG_get {d : List α} {i j : Nat} (hi : i < d.length) (hj : j < d.length) (x : Nat) : gd (swapG d i j) x = if x = j then gd d i else if x = i then gd d j else gd d x := by
  unfold gd swapG
  simp only [List.getD_eq_getElem?_getD, List.getElem?_set, List.length_set]
  by_cases h1 : x = j
  · subst h1; simp [hj]
  · by_cases h2 : x = i
    · subst h2; simp [h1, Ne.symm h1, hi]
    · simp [h1, h2, Ne.symm h1, Ne.symm h2]
theorem swapR_get {a b : Nat} : ∀ (k i : Nat) (d : List α), a + k ≤ b → b + i + k ≤ d.length → ∀ x, gd (swapR a b k i d) x =
    if a + i ≤ x ∧ x < a + i + k then gd d (x + (b - a)) else if b + i ≤ x ∧ x < b + i + k then gd d (x - (b - a)) else gd d x
  | 0, i, d, _, _, x => by
    rw [swapR, if_neg (by omega), if_neg (by omega)]
  | k + 1, i, d, h1, h2, x => by
    rw [swapR, swapR_get k (i + 1) _ (by omega) (by rw [swapG_length]; omega)]
    simp only [swapG_get (d := d) (i := a + i) (j := b + i) (by omega) (by omega)]
    repeat' split
    all_goals first | omega | rfl | (congr 1; omega) | (exfalso; apply ‹¬True›; trivial)
theorem rotL_get {m : Nat} : ∀ (f i j : Nat) (d : List α), i + j ≤ f → 1 ≤ i → 1 ≤ j → i ≤ m → m + j ≤ d.length → ∀ x, gd (rotL m f i j d) x =
    if m - i ≤ x ∧ x < m - i + j then gd d (x + i) else if m - i + j ≤ x ∧ x < m + j then gd d (x - j) else gd d x
  | 0, i, j, d, h, h1, h2, h3, h4, x => by omega
  | f + 1, i, j, d, h, h1, h2, h3, h4, x => by
    rw [rotL]
    split
    · rename_i e
      subst e
      rw [swapR_get _ _ _ (by omega) (by omega)]
      repeat' split
      all_goals first | omega | rfl | (congr 1; omega) | (exfalso; apply ‹¬True›; trivial)
    · split
      · rw [rotL_get f _ _ _ (by omega) (by omega) (by omega) (by omega) (by rw [swapR_length]; omega)]
        simp only [swapR_get (a := m - i) (b := m) j 0 d (by omega) (by omega)]
        repeat' split
        all_goals first | omega | rfl | (congr 1; omega) | (exfalso; apply ‹¬True›; trivial)
      · rw [rotL_get f _ _ _ (by omega) (by omega) (by omega) (by omega) (by rw [swapR_length]; omega)]
        simp only [swapR_get (a := m - i) (b := m + j - i) i 0 d (by omega) (by omega)]
        repeat' split
        all_goals first | omega | rfl | (congr 1; omega) | (exfalso; apply ‹¬True›; trivial)
theorem chainUp_get : ∀ (n k : Nat) (d : List α), k + n < d.length → ∀ x, gd (chainUp n k d) x = if k ≤ x ∧ x < k + n then gd d (x + 1) else if x = k + n then gd d k else gd d x
  | 0, k, d, _, x => by
    rw [chainUp, if_neg (by omega)]; split
    · rename_i e; rw [e, Nat.add_zero]
    · rfl
  | n + 1, k, d, h, x => by
    rw [chainUp, chainUp_get n (k + 1) _ (by rw [swapG_length]; omega)]
    simp only [swapG_get (d := d) (i := k) (j := k + 1) (by omega) (by omega)]
    repeat' split
    all_goals first | omega | rfl | (congr 1; omega) | (exfalso; apply ‹¬True›; trivial)
theorem chainDn_get : ∀ (n k : Nat) (d : List α), n ≤ k → k < d.length → ∀ x, gd (chainDn n k d) x = if k - n < x ∧ x ≤ k then gd d (x - 1) else if x = k - n then gd d k else gd d x
  | 0, k, d, _, _, x => by
    rw [chainDn, if_neg (by omega)]; split
    · rename_i e; rw [e, Nat.sub_zero]
    · rfl
  | n + 1, k, d, h, h2, x => by
    rw [chainDn, chainDn_get n (k - 1) _ (by omega) (by rw [swapG_length]; omega)]
    simp only [swapG_get (d := d) (i := k) (j := k - 1) (by omega) (by omega)]
    repeat' split
    all_goals first | omega | rfl | (congr 1; omega) | (exfalso; apply ‹¬True›; trivial)
theorem symRot_get {s m e : Nat} {d : List α} (h1 : s ≤ m) (h2 : m ≤ e) (h3 : e ≤ d.length) (x : Nat) : gd (symRot s m e d) x =
    if s ≤ x ∧ x < s + (e - m) then gd d (x + (m - s)) else if s + (e - m) ≤ x ∧ x < e then gd d (x - (e - m)) else gd d x := by
  unfold symRot
  split
  · rw [rotL_get _ _ _ _ (by omega) (by omega) (by omega) (by omega) (by omega)]
    repeat' split
    all_goals first | omega | rfl | (congr 1; omega) | (exfalso; apply ‹¬True›; trivial)
  · repeat' split
    all_goals first | omega | rfl | (congr 1; omega) | (exfalso; apply ‹¬True›; trivial)
theorem bsA_ok {t : Nat → Bool} : ∀ (g i j : Nat), j - i ≤ g → i ≤ j → i ≤ bsA t g i j ∧ bsA t g i j ≤ j ∧ (bsA t g i j = i ∨ t (bsA t g i j - 1) = true) ∧ (bsA t g i j = j ∨ t (bsA t g i j) = false)
  | 0, i, j, h, h2 => by
    rw [bsA]
    exact ⟨Nat.le_refl _, h2, .inl rfl, .inl (by omega)⟩
  | g + 1, i, j, h, h2 => by
    rw [bsA]
    by_cases hij : i < j
    · rw [if_pos hij]
      cases ht : t ((i + j) / 2) with
      | true =>
        rw [if_pos rfl]
        obtain ⟨a1, a2, a3, a4⟩ := bsA_ok g ((i + j) / 2 + 1) j (by omega) (by omega) (t := t)
        refine ⟨by omega, a2, .inr ?_, a4⟩
        rcases a3 with a3 | a3
        · rw [a3, Nat.add_sub_cancel]; exact ht
        · exact a3
      | false =>
        rw [if_neg (by simp)]
        obtain ⟨a1, a2, a3, a4⟩ := bsA_ok g i ((i + j) / 2) (by omega) (by omega) (t := t)
        refine ⟨a1, by omega, a3, .inr ?_⟩
        rcases a4 with a4 | a4
        · rw [a4]; exact ht
        · exact a4
    · rw [if_neg hij]
      exact ⟨Nat.le_refl _, h2, .inl rfl, .inl (by omega)⟩
end
end Go.Proofs.Ytbbhpddgjiifmaa
