/- The stable sort's law, on: blocks, passes, and that there is one sorted list alone. -/
import Derived.Test.YtbbhpddgjiifmaaSort1
namespace Go.Proofs.Ytbbhpddgjiifmaa

section
variable {α : Type} [Inhabited α]
/-- What stands in d: the elements of d0, each in its block; c: where a place's block begins. -/
structure Blk (R : α → α → Prop) (c : Nat → Nat) (d0 d : List α) : Prop where
  len : d.length = d0.length
  to : ∀ x, x < d0.length → ∃ y, y < d0.length ∧ c y = c x ∧ gd d x = gd d0 y
  fro : ∀ y, y < d0.length → ∃ x, x < d0.length ∧ c x = c y ∧ gd d x = gd d0 y
  srt : ∀ x y, x < y → y < d0.length → c x = c y → R (gd d x) (gd d y)
variable {R : α → α → Prop}
theorem Blk.step {c c' : Nat → Nat} {d0 d d' : List α} {a b : Nat} (h : Blk R c d0 d) (sh : Sh a b d d') (sr : Srt R a b d') (hb : b ≤ d0.length)
    (hu : ∀ x, x < d0.length → (a ≤ x ∧ x < b ↔ a ≤ c x ∧ c x < b)) (hc : ∀ x, x < d0.length → c' x = if a ≤ x ∧ x < b then a else c x) : Blk R c' d0 d' := by
  refine ⟨sh.len.trans h.len, fun x hx => ?_, fun y hy => ?_, fun x y xy hy e => ?_⟩
  · by_cases cx : a ≤ x ∧ x < b
    · obtain ⟨z, z1, z2, e1⟩ := sh.to x cx.1 cx.2
      obtain ⟨y, y1, y2, e2⟩ := h.to z (by omega)
      have hz := (hu z (by omega)).1 ⟨z1, z2⟩
      have hy := (hu y y1).2 (by rw [y2]; exact hz)
      exact ⟨y, y1, by rw [hc y y1, hc x hx, if_pos hy, if_pos cx], e1.trans e2⟩
    · obtain ⟨y, y1, y2, e2⟩ := h.to x hx
      have hy : ¬ (a ≤ y ∧ y < b) := fun hh => cx ((hu x hx).2 (by rw [← y2]; exact (hu y y1).1 hh))
      exact ⟨y, y1, by rw [hc y y1, hc x hx, if_neg hy, if_neg cx, y2], (sh.out x cx).trans e2⟩
  · obtain ⟨z, z1, z2, e1⟩ := h.fro y hy
    by_cases cz : a ≤ z ∧ z < b
    · obtain ⟨x, x1, x2, e2⟩ := sh.fro z cz.1 cz.2
      have hy2 := (hu y hy).2 (by rw [← z2]; exact (hu z z1).1 cz)
      exact ⟨x, by omega, by rw [hc x (by omega), hc y hy, if_pos ⟨x1, x2⟩, if_pos hy2], e2.trans e1⟩
    · have hy2 : ¬ (a ≤ y ∧ y < b) := fun hh => cz ((hu z z1).2 (by rw [z2]; exact (hu y hy).1 hh))
      exact ⟨z, z1, by rw [hc z z1, hc y hy, if_neg cz, if_neg hy2, z2], (sh.out z cz).trans e1⟩
  · rw [hc x (by omega), hc y hy] at e
    by_cases cx : a ≤ x ∧ x < b <;> by_cases cy : a ≤ y ∧ y < b
    · exact sr x y cx.1 xy cy.2
    · exfalso
      rw [if_pos cx, if_neg cy] at e
      exact cy ((hu y hy).2 (by omega))
    · exfalso
      rw [if_neg cx, if_pos cy] at e
      exact cx ((hu x (by omega)).2 (by omega))
    · rw [if_neg cx, if_neg cy] at e
      rw [sh.out x cx, sh.out y cy]
      exact h.srt x y xy hy e
theorem Blk.tag {τ : α → Nat} {c : Nat → Nat} {d0 d : List α} (h : Blk R c d0 d) (hm : ∀ x y, x ≤ y → y < d0.length → c x ≤ c y) (ht : ∀ x, x < d0.length → τ (gd d0 x) = x) {x y : Nat} (hx : x < d0.length) (hy : y < d0.length) (hc : c x < c y) : τ (gd d x) < τ (gd d y) := by
  obtain ⟨x', x1, x2, e1⟩ := h.to x hx
  obtain ⟨y', y1, y2, e2⟩ := h.to y hy
  rw [e1, e2, ht x' x1, ht y' y1]
  rcases Nat.lt_or_ge x' y' with c1 | c1
  · exact c1
  · have := hm y' x' c1 x1
    omega
theorem Blk.congr {c c' : Nat → Nat} {d0 d : List α} (h : Blk R c d0 d) (hc : ∀ x, x < d0.length → c' x = c x) : Blk R c' d0 d := by
  refine ⟨h.len, fun x hx => ?_, fun y hy => ?_, fun x y xy hy e => h.srt x y xy hy (by rw [← hc x (by omega), ← hc y hy]; exact e)⟩
  · obtain ⟨y, y1, y2, y3⟩ := h.to x hx
    exact ⟨y, y1, by rw [hc y y1, hc x hx, y2], y3⟩
  · obtain ⟨y, y1, y2, y3⟩ := h.fro y hy
    exact ⟨y, y1, by rw [hc y y1, hc _ hy, y2], y3⟩

def fl (B x : Nat) : Nat := x / B * B
theorem fl_le (B x : Nat) : fl B x ≤ x := Nat.div_mul_le_self x B
theorem fl_mono (B : Nat) {x y : Nat} (h : x ≤ y) : fl B x ≤ fl B y := Nat.mul_le_mul_right _ (Nat.div_le_div_right h)
theorem fl_eq {B k x : Nat} (h1 : k * B ≤ x) (h2 : x < k * B + B) : fl B x = k * B := by
  unfold fl
  rw [Nat.div_eq_of_lt_le (k := k) h1 (by rw [Nat.add_mul, Nat.one_mul]; exact h2)]
theorem fl_ge {B k x : Nat} (hB : 0 < B) (h : k * B ≤ x) : k * B ≤ fl B x := by
  have := fl_mono B h
  rwa [fl_eq (Nat.le_refl _) (by omega)] at this

variable (Rtr : ∀ x y z, R x y → R y z → R x z) {lt : α → α → Bool} {τ : α → Nat} (hC : ∀ x y, τ x < τ y → (lt y x = true → R y x) ∧ (lt y x = false → R x y))

include Rtr hC
theorem insB_ok {d0 : List α} (ht : ∀ x, x < d0.length → τ (gd d0 x) = x) : ∀ (g k : Nat) (d : List α), d0.length < k * 20 + 20 + 20 * g → k * 20 ≤ d0.length → Blk R (fun x => if x < k * 20 then fl 20 x else x) d0 d →
    Blk R (fl 20) d0 (insB lt g (k * 20) d) := by
  have tags : ∀ (k : Nat) (d : List α), Blk R (fun x => if x < k * 20 then fl 20 x else x) d0 d → ∀ x y, k * 20 ≤ x → x < y → y < d0.length → τ (gd d x) < τ (gd d y) := by
    intro k d h x y x1 xy y1
    refine h.tag (fun u v uv hv => ?_) ht (by omega) y1 (by rw [if_neg (by omega), if_neg (by omega)]; exact xy)
    have := fl_le 20 u
    have := fl_mono 20 uv
    have h3 : k * 20 ≤ v → k * 20 ≤ fl 20 v := fl_ge (by omega)
    split <;> split <;> omega
  have one : ∀ (k b : Nat) (d : List α), Blk R (fun x => if x < k * 20 then fl 20 x else x) d0 d → k * 20 < b → b ≤ k * 20 + 20 → b ≤ d0.length → (b = k * 20 + 20 ∨ b = d0.length) →
      Blk R (fun x => if x < b then fl 20 x else x) d0 (insG lt (k * 20) (b - (k * 20 + 1)) (k * 20 + 1) d) := by
    intro k b d h hb1 hb2 hb3 hb4
    have hl : d.length = d0.length := h.len
    have ok := ins_ok Rtr hC (k * 20) b (b - (k * 20 + 1)) (k * 20 + 1) d (by omega) (by omega) (by omega) (fun x y _ _ _ => by omega)
      (fun x y x1 x2 y1 y2 => tags k d h x y x1 (by omega) (by omega)) (fun x y x1 xy y1 => tags k d h x y (by omega) xy (by omega))
    refine h.step ok.1 ok.2 hb3 (fun x hx => ?_) (fun x hx => ?_)
    · have := fl_le 20 x
      split <;> omega
    · by_cases c1 : k * 20 ≤ x ∧ x < b
      · rw [if_pos c1, if_pos c1.2]
        exact fl_eq c1.1 (by omega)
      · rw [if_neg c1]
        have : x < b ↔ x < k * 20 := by omega
        simp only [this]
  intro g
  induction g with
  | zero =>
    intro k d h1 h2 hb
    rw [insB, hb.len]
    by_cases e : k * 20 = d0.length
    · rw [show d0.length - (k * 20 + 1) = 0 by omega, insG]
      exact hb.congr fun x hx => by rw [if_pos (by omega)]
    · exact (one k d0.length d hb (by omega) (by omega) (Nat.le_refl _) (.inr rfl)).congr fun x hx => by rw [if_pos hx]
  | succ g ih =>
    intro k d h1 h2 hb
    rw [insB, hb.len]
    split
    · rename_i c
      have e : k * 20 + 20 = (k + 1) * 20 := by omega
      have := one k (k * 20 + 20) d hb (by omega) (by omega) c (.inl rfl)
      rw [e] at this ⊢
      exact ih (k + 1) _ (by omega) (by omega) this
    · by_cases e : k * 20 = d0.length
      · rw [show d0.length - (k * 20 + 1) = 0 by omega, insG]
        exact hb.congr fun x hx => by rw [if_pos (by omega)]
      · exact (one k d0.length d hb (by omega) (by omega) (Nat.le_refl _) (.inr rfl)).congr fun x hx => by rw [if_pos hx]

theorem mergeRow_ok {d0 : List α} (ht : ∀ x, x < d0.length → τ (gd d0 x) = x) (bs : Nat) (hbs : 0 < bs) : ∀ (g k : Nat) (d : List α), d0.length < k * (2 * bs) + g → Blk R (fun x => if x < k * (2 * bs) then fl (2 * bs) x else fl bs x) d0 d →
    Blk R (fl (2 * bs)) d0 (mergeRow lt bs g (k * (2 * bs)) d) := by
  have e2 : ∀ k : Nat, k * (2 * bs) = (2 * k) * bs := fun k => by rw [← Nat.mul_assoc, Nat.mul_comm k 2]
  have e3 : ∀ k : Nat, k * (2 * bs) + bs = (2 * k + 1) * bs := fun k => by rw [e2, Nat.add_mul, Nat.one_mul]
  have one : ∀ (k b : Nat) (d : List α) (N : Nat), Blk R (fun x => if x < k * (2 * bs) then fl (2 * bs) x else fl bs x) d0 d → k * (2 * bs) + bs < b → b ≤ k * (2 * bs) + 2 * bs → b ≤ d0.length → (b = k * (2 * bs) + 2 * bs ∨ b = d0.length) → b - k * (2 * bs) ≤ N →
      Blk R (fun x => if x < b then fl (2 * bs) x else fl bs x) d0 (symL lt N (k * (2 * bs)) (k * (2 * bs) + bs) b d) := by
    intro k b d N h hb1 hb2 hb3 hb4 hN
    have hl : d.length = d0.length := h.len
    have c1 : ∀ x, k * (2 * bs) ≤ x → x < k * (2 * bs) + bs → fl bs x = k * (2 * bs) := fun x x1 x2 => by
      rw [fl_eq (k := 2 * k) (by rw [← e2]; exact x1) (by rw [← e2]; exact x2), e2]
    have c2 : ∀ x, k * (2 * bs) + bs ≤ x → x < b → fl bs x = k * (2 * bs) + bs := fun x x1 x2 => by
      rw [fl_eq (k := 2 * k + 1) (by rw [← e3]; exact x1) (by rw [← e3]; omega), e3]
    have mono : ∀ u v, u ≤ v → v < d0.length → (if u < k * (2 * bs) then fl (2 * bs) u else fl bs u) ≤ (if v < k * (2 * bs) then fl (2 * bs) v else fl bs v) := by
      intro u v uv hv
      have h1 := fl_le (2 * bs) u
      have h2 := fl_mono (2 * bs) uv
      have h4 := fl_mono bs uv
      have h3 : k * (2 * bs) ≤ v → k * (2 * bs) ≤ fl bs v := fun hh => by rw [e2] at hh ⊢; exact fl_ge hbs hh
      split <;> split <;> omega
    have ok := symL_ok Rtr hC N (k * (2 * bs)) (k * (2 * bs) + bs) b d hN (by omega) hb1 (by omega)
      (fun x y x1 xy y1 => h.srt x y xy (by omega) (by rw [if_neg (by omega), if_neg (by omega), c1 x x1 (by omega), c1 y (by omega) y1]))
      (fun x y x1 xy y1 => h.srt x y xy (by omega) (by rw [if_neg (by omega), if_neg (by omega), c2 x x1 (by omega), c2 y (by omega) y1]))
      (fun x y x1 x2 y1 y2 => h.tag mono ht (by omega) (by omega) (by rw [if_neg (by omega), if_neg (by omega), c1 x x1 x2, c2 y y1 y2]; omega))
    refine h.step ok.1 ok.2 hb3 (fun x hx => ?_) (fun x hx => ?_)
    · by_cases p1 : x < k * (2 * bs)
      · rw [if_pos p1]
        have := fl_le (2 * bs) x
        omega
      · rw [if_neg p1]
        by_cases p2 : x < k * (2 * bs) + bs
        · rw [c1 x (by omega) p2]; omega
        · by_cases p3 : x < b
          · rw [c2 x (by omega) p3]; omega
          · rcases hb4 with p4 | p4
            · have : b ≤ fl bs x := by
                have e4 : b = (2 * k + 2) * bs := by rw [p4, e2, Nat.add_mul]
                rw [e4]; exact fl_ge hbs (by rw [← e4]; omega)
              omega
            · omega
    · by_cases p : k * (2 * bs) ≤ x ∧ x < b
      · rw [if_pos p, if_pos p.2]
        exact fl_eq p.1 (by omega)
      · rw [if_neg p]
        have : x < b ↔ x < k * (2 * bs) := by omega
        simp only [this]
  intro g
  induction g with
  | zero =>
    intro k d h1 hb
    rw [mergeRow]
    exact hb.congr fun x hx => by rw [if_pos (by omega)]
  | succ g ih =>
    intro k d h1 hb
    rw [mergeRow, hb.len]
    split
    · rename_i c
      have e : k * (2 * bs) + 2 * bs = (k + 1) * (2 * bs) := by rw [Nat.add_mul, Nat.one_mul]
      have := one k (k * (2 * bs) + 2 * bs) d (2 * bs) hb (by omega) (Nat.le_refl _) c (.inl rfl) (by omega)
      rw [e] at this ⊢
      exact ih (k + 1) _ (by omega) this
    · rename_i c
      split
      · rename_i c2
        exact (one k d0.length d (d0.length - k * (2 * bs)) hb (by omega) (by omega) (Nat.le_refl _) (.inr rfl) (Nat.le_refl _)).congr fun x hx => by rw [if_pos hx]
      · rename_i c2
        refine hb.congr fun x hx => ?_
        by_cases p : x < k * (2 * bs)
        · rw [if_pos p]
        · rw [if_neg p, fl_eq (k := k) (by omega) (by omega), e2, fl_eq (k := 2 * k) (by rw [← e2]; omega) (by rw [← e2]; omega)]

theorem mergeAll_ok {d0 : List α} (ht : ∀ x, x < d0.length → τ (gd d0 x) = x) : ∀ (g bs : Nat) (d : List α), d0.length ≤ bs + g → 0 < bs → Blk R (fl bs) d0 d → Blk R (fun _ => 0) d0 (mergeAll lt g bs d)
  | 0, bs, d, h1, h2, hb => by
    rw [mergeAll]
    exact hb.congr fun x hx => by rw [fl_eq (k := 0) (by omega) (by omega), Nat.zero_mul]
  | g + 1, bs, d, h1, h2, hb => by
    rw [mergeAll, hb.len]
    split
    · refine mergeAll_ok ht g (2 * bs) _ (by omega) (by omega) ?_
      have := mergeRow_ok Rtr hC ht bs h2 (d0.length + 1) 0 d (by omega) (hb.congr fun x hx => by rw [if_neg (by omega)])
      rwa [Nat.zero_mul] at this
    · exact hb.congr fun x hx => by rw [fl_eq (k := 0) (by omega) (by omega), Nat.zero_mul]

theorem stable_eq (Rirr : ∀ x, ¬ R x x) {d0 : List α} (ht : ∀ x, x < d0.length → τ (gd d0 x) = x) : stableL lt d0 = insG lt 0 (d0.length - (0 + 1)) (0 + 1) d0 := by
  have b0 : Blk R (fun x => if x < 0 * 20 then fl 20 x else x) d0 d0 := by
    refine ⟨rfl, fun x hx => ⟨x, hx, rfl, rfl⟩, fun x hx => ⟨x, hx, rfl, rfl⟩, fun x y xy _ e => ?_⟩
    rw [if_neg (by omega), if_neg (by omega)] at e
    omega
  have b1 := insB_ok Rtr hC ht d0.length 0 d0 (by omega) (by omega) b0
  rw [Nat.zero_mul] at b1
  have b2 := mergeAll_ok Rtr hC ht d0.length 20 _ (by omega) (by omega) b1
  change Blk R (fun _ => 0) d0 (stableL lt d0) at b2
  have ok : Sh 0 d0.length d0 (insG lt 0 (d0.length - (0 + 1)) (0 + 1) d0) ∧ Srt R 0 d0.length (insG lt 0 (d0.length - (0 + 1)) (0 + 1) d0) := by
    by_cases e : d0.length = 0
    · rw [e, insG]
      exact ⟨Sh.refl _ _ _, fun x y _ _ _ => by omega⟩
    · exact ins_ok Rtr hC 0 d0.length _ 1 d0 (by omega) (by omega) (Nat.le_refl _) (fun x y _ _ _ => by omega)
        (fun x y x1 x2 y1 y2 => by rw [ht x (by omega), ht y y2]; omega) (fun x y x1 xy y1 => by rw [ht x (by omega), ht y y1]; omega)
  generalize insG lt 0 (d0.length - (0 + 1)) (0 + 1) d0 = u at *
  generalize stableL lt d0 = v at *
  obtain ⟨sh, sr⟩ := ok
  have key : ∀ x, x < d0.length → gd v x = gd u x := by
    intro x
    induction x using Nat.strongRecOn with
    | _ x ih =>
      intro hx
      obtain ⟨y, y1, y2, e1⟩ : ∃ y, y < d0.length ∧ True ∧ gd v x = gd u y := by
        obtain ⟨z, z1, _, ez⟩ := b2.to x hx
        obtain ⟨y, _, y1, ey⟩ := sh.fro z (by omega) z1
        exact ⟨y, y1, trivial, ez.trans ey.symm⟩
      obtain ⟨z, z1, z2, e2⟩ : ∃ z, z < d0.length ∧ True ∧ gd u x = gd v z := by
        obtain ⟨z, _, z1, ez⟩ := sh.to x (by omega) hx
        obtain ⟨y, y1, _, ey⟩ := b2.fro z (by omega)
        exact ⟨y, y1, trivial, ez.trans ey.symm⟩
      have hy : x ≤ y := by
        rcases Nat.lt_or_ge y x with c | c
        · exfalso
          have h1 := b2.srt y x c hx rfl
          rw [e1, ih y c y1] at h1
          exact Rirr _ h1
        · exact c
      have hz : x ≤ z := by
        rcases Nat.lt_or_ge z x with c | c
        · exfalso
          have h1 := sr z x (by omega) c hx
          rw [e2, ← ih z c z1] at h1
          exact Rirr _ h1
        · exact c
      by_cases c : x = y
      · rw [e1, ← c]
      · by_cases c2 : x = z
        · rw [e2, ← c2]
        · exfalso
          have h1 := sr x y (by omega) (by omega) y1
          have h2 := b2.srt x z (by omega) z1 rfl
          rw [← e1, e2] at h1
          exact Rirr _ (Rtr _ _ _ h1 h2)
  refine List.ext_getElem (b2.len.trans sh.len.symm) fun x h1 h2 => ?_
  have := key x (by rw [← b2.len]; exact h1)
  simpa [gd, List.getD_eq_getElem?_getD, h1, h2] using this
end

section
variable {α β : Type} [Inhabited α] [Inhabited β] (f : α → β) (hf : f default = default)
include hf
theorem gd_map (d : List α) (x : Nat) : gd (d.map f) x = f (gd d x) := by
  unfold gd
  rw [List.getD_eq_getElem?_getD, List.getD_eq_getElem?_getD, List.getElem?_map]
  cases d[x]? with
  | none => exact hf.symm
  | some a => rfl
theorem swapG_map (d : List α) (i j : Nat) : swapG (d.map f) i j = (swapG d i j).map f := by
  unfold swapG
  rw [gd_map f hf, gd_map f hf, List.map_set, List.map_set]
theorem swapR_map (a b : Nat) : ∀ (k i : Nat) (d : List α), swapR a b k i (d.map f) = (swapR a b k i d).map f
  | 0, _, _ => rfl
  | k + 1, i, d => by rw [swapR, swapR, swapG_map f hf, swapR_map a b k]
theorem rotL_map (m : Nat) : ∀ (g i j : Nat) (d : List α), rotL m g i j (d.map f) = (rotL m g i j d).map f
  | 0, i, _, d => by rw [rotL, rotL, swapR_map f hf]
  | g + 1, i, j, d => by
    rw [rotL, rotL]
    split
    · rw [swapR_map f hf]
    · split <;> rw [swapR_map f hf, rotL_map m g]
theorem chainUp_map : ∀ (n k : Nat) (d : List α), chainUp n k (d.map f) = (chainUp n k d).map f
  | 0, _, _ => rfl
  | n + 1, k, d => by rw [chainUp, chainUp, swapG_map f hf, chainUp_map n]
theorem chainDn_map : ∀ (n k : Nat) (d : List α), chainDn n k (d.map f) = (chainDn n k d).map f
  | 0, _, _ => rfl
  | n + 1, k, d => by rw [chainDn, chainDn, swapG_map f hf, chainDn_map n]
theorem symRot_map (s m e : Nat) (d : List α) : symRot s m e (d.map f) = (symRot s m e d).map f := by
  unfold symRot; split
  · rw [rotL_map f hf]
  · rfl
variable (lt : β → β → Bool)
theorem symS_map (a m b : Nat) (d : List α) : symS lt a m b (d.map f) = symS (fun x y => lt (f x) (f y)) a m b d := by
  unfold symS; simp only [gd_map f hf]
theorem symL_map : ∀ (N a m b : Nat) (d : List α), symL lt N a m b (d.map f) = (symL (fun x y => lt (f x) (f y)) N a m b d).map f
  | 0, _, _, _, _ => rfl
  | N + 1, a, m, b, d => by
    rw [symL, symL]
    simp only [gd_map f hf, symS_map f hf, chainUp_map f hf, chainDn_map f hf, symRot_map f hf]
    split
    · rfl
    · split
      · rfl
      · split <;> split <;> simp only [symL_map N]
theorem siftG_map (a : Nat) : ∀ (j : Nat) (d : List α), siftG lt (d.map f) a j = (siftG (fun x y => lt (f x) (f y)) d a j).map f
  | 0, _ => rfl
  | j + 1, d => by
    rw [siftG, siftG]
    simp only [gd_map f hf, swapG_map f hf]
    split
    · rw [siftG_map a j]
    · rfl
theorem insG_map (a : Nat) : ∀ (n i : Nat) (d : List α), insG lt a n i (d.map f) = (insG (fun x y => lt (f x) (f y)) a n i d).map f
  | 0, _, _ => rfl
  | n + 1, i, d => by rw [insG, insG, siftG_map f hf, insG_map a n]
theorem insB_map : ∀ (g a : Nat) (d : List α), insB lt g a (d.map f) = (insB (fun x y => lt (f x) (f y)) g a d).map f
  | 0, a, d => by rw [insB, insB, insG_map f hf, List.length_map]
  | g + 1, a, d => by
    rw [insB, insB]
    simp only [insG_map f hf, List.length_map]
    split
    · rw [insB_map g]
    · rfl
theorem mergeRow_map (bs : Nat) : ∀ (g a : Nat) (d : List α), mergeRow lt bs g a (d.map f) = (mergeRow (fun x y => lt (f x) (f y)) bs g a d).map f
  | 0, _, _ => rfl
  | g + 1, a, d => by
    rw [mergeRow, mergeRow]
    simp only [symL_map f hf, List.length_map]
    split
    · rw [mergeRow_map bs g]
    · split <;> rfl
theorem mergeAll_map : ∀ (g bs : Nat) (d : List α), mergeAll lt g bs (d.map f) = (mergeAll (fun x y => lt (f x) (f y)) g bs d).map f
  | 0, _, _ => rfl
  | g + 1, bs, d => by
    rw [mergeAll, mergeAll]
    simp only [mergeRow_map f hf, List.length_map]
    split
    · rw [mergeAll_map g]
    · rfl
theorem stableL_map (d : List α) : stableL lt (d.map f) = (stableL (fun x y => lt (f x) (f y)) d).map f := by
  unfold stableL
  rw [insB_map f hf, mergeAll_map f hf, List.length_map]
end

/-- A stable sort in place gives what insertion gives. -/
theorem stable_is_ins {β : Type} [Inhabited β] (lt : β → β → Bool) (irr : ∀ x, lt x x = false) (tr : ∀ x y z, lt x y = true → lt y z = true → lt x z = true) (neg : ∀ x y z, lt x z = true → lt x y = true ∨ lt y z = true) (l : List β) :
    stableL lt l = insG lt 0 (l.length - (0 + 1)) (0 + 1) l := by
  have hl : l = l.zipIdx.map Prod.fst := by simp
  have e := stable_eq (R := fun x y : β × Nat => lt x.1 y.1 = true ∨ (lt y.1 x.1 = false ∧ x.2 < y.2)) (lt := fun x y : β × Nat => lt x.1 y.1) (τ := Prod.snd) (d0 := l.zipIdx)
    (fun x y z h1 h2 => by
      have t1 := tr x.1 y.1 z.1
      have t2 := tr z.1 x.1 y.1
      have n1 := neg x.1 z.1 y.1
      have n2 := neg y.1 x.1 z.1
      have n3 := neg z.1 y.1 x.1
      cases q1 : lt x.1 y.1 <;> cases q2 : lt y.1 z.1 <;> cases q3 : lt x.1 z.1 <;> cases q4 : lt y.1 x.1 <;> cases q5 : lt z.1 y.1 <;> cases q6 : lt z.1 x.1 <;> simp_all <;> omega)
    (fun x y h => ⟨fun h1 => .inl h1, fun h1 => .inr ⟨h1, h⟩⟩)
    (fun x h => by rcases h with h | h
                   · rw [irr] at h; cases h
                   · omega)
    (fun x hx => by
      have hx' : x < l.length := by simpa using hx
      simp [gd, List.getD_eq_getElem?_getD, hx'])
  have e2 := congrArg (List.map Prod.fst) e
  rw [← stableL_map Prod.fst rfl lt, ← insG_map Prod.fst rfl lt, ← hl] at e2
  simpa using e2
end Go.Proofs.Ytbbhpddgjiifmaa
