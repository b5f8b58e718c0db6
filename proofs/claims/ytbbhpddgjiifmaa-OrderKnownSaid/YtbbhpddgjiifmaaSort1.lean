/- The stable sort's law: what stableL gives is what insertion gives. -/
import Derived.Test.YtbbhpddgjiifmaaSort0
namespace Go.Proofs.Ytbbhpddgjiifmaa

section
variable {α : Type} [Inhabited α]
/-- Sorted from a to b. -/
def Srt (R : α → α → Prop) (a b : Nat) (d : List α) : Prop := ∀ x y, a ≤ x → x < y → y < b → R (gd d x) (gd d y)
/-- From d to d' what stands from a to b is shuffled, the rest stays. -/
structure Sh (a b : Nat) (d d' : List α) : Prop where
  len : d'.length = d.length
  out : ∀ x, ¬ (a ≤ x ∧ x < b) → gd d' x = gd d x
  to : ∀ x, a ≤ x → x < b → ∃ y, a ≤ y ∧ y < b ∧ gd d' x = gd d y
  fro : ∀ y, a ≤ y → y < b → ∃ x, a ≤ x ∧ x < b ∧ gd d' x = gd d y
theorem Sh.refl (a b : Nat) (d : List α) : Sh a b d d := ⟨rfl, fun _ _ => rfl, fun x h1 h2 => ⟨x, h1, h2, rfl⟩, fun x h1 h2 => ⟨x, h1, h2, rfl⟩⟩
theorem Sh.trans {a b : Nat} {d e f : List α} (h : Sh a b d e) (k : Sh a b e f) : Sh a b d f := by
  refine ⟨k.len.trans h.len, fun x hx => (k.out x hx).trans (h.out x hx), fun x h1 h2 => ?_, fun y h1 h2 => ?_⟩
  · obtain ⟨y, y1, y2, e1⟩ := k.to x h1 h2
    obtain ⟨z, z1, z2, e2⟩ := h.to y y1 y2
    exact ⟨z, z1, z2, e1.trans e2⟩
  · obtain ⟨z, z1, z2, e2⟩ := h.fro y h1 h2
    obtain ⟨x, x1, x2, e1⟩ := k.fro z z1 z2
    exact ⟨x, x1, x2, e1.trans e2⟩
theorem Sh.wide {a b a' b' : Nat} {d e : List α} (h : Sh a b d e) (ha : a' ≤ a) (hb : b ≤ b') : Sh a' b' d e := by
  refine ⟨h.len, fun x hx => h.out x (by omega), fun x h1 h2 => ?_, fun y h1 h2 => ?_⟩
  · by_cases hx : a ≤ x ∧ x < b
    · obtain ⟨y, y1, y2, e1⟩ := h.to x hx.1 hx.2
      exact ⟨y, by omega, by omega, e1⟩
    · exact ⟨x, h1, h2, h.out x hx⟩
  · by_cases hx : a ≤ y ∧ y < b
    · obtain ⟨x, y1, y2, e1⟩ := h.fro y hx.1 hx.2
      exact ⟨x, by omega, by omega, e1⟩
    · exact ⟨y, h1, h2, h.out y hx⟩

variable {R : α → α → Prop} (Rtr : ∀ x y z, R x y → R y z → R x z)

theorem chainDn_ok {a s j : Nat} {d : List α} (h1 : a ≤ s) (h2 : s ≤ j) (h3 : j < d.length) (hs : Srt R a j d) (hl : ∀ x, a ≤ x → x < s → R (gd d x) (gd d j)) (hr : ∀ x, s ≤ x → x < j → R (gd d j) (gd d x)) :
    Sh a (j + 1) d (chainDn (j - s) j d) ∧ Srt R a (j + 1) (chainDn (j - s) j d) := by
  have key : ∀ x, gd (chainDn (j - s) j d) x = if s < x ∧ x ≤ j then gd d (x - 1) else if x = s then gd d j else gd d x := fun x => by
    rw [chainDn_get _ _ _ (by omega) h3]
    repeat' split
    all_goals first | omega | rfl
  constructor
  · refine ⟨chainDn_length .., fun x hx => ?_, fun x x1 x2 => ?_, fun y y1 y2 => ?_⟩
    · rw [key, if_neg (by omega), if_neg (by omega)]
    · rw [key]
      split
      · exact ⟨x - 1, by omega, by omega, rfl⟩
      · split
        · exact ⟨j, by omega, by omega, rfl⟩
        · exact ⟨x, by omega, by omega, rfl⟩
    · by_cases c1 : y = j
      · exact ⟨s, by omega, by omega, by rw [key, if_neg (by omega), if_pos rfl, c1]⟩
      · by_cases c2 : y < s
        · exact ⟨y, by omega, by omega, by rw [key, if_neg (by omega), if_neg (by omega)]⟩
        · exact ⟨y + 1, by omega, by omega, by rw [key, if_pos (by omega)]; rfl⟩
  · intro x y x1 xy y2
    rw [key, key]
    by_cases cx : x < s
    · rw [if_neg (by omega), if_neg (by omega)]
      split
      · exact hs _ _ x1 (by omega) (by omega)
      · split
        · exact hl x x1 cx
        · exact hs _ _ x1 xy (by omega)
    · by_cases ex : x = s
      · rw [if_neg (by omega), if_pos ex, if_pos (by omega)]
        exact hr _ (by omega) (by omega)
      · rw [if_pos (by omega), if_pos (by omega)]
        exact hs _ _ (by omega) (by omega) (by omega)

theorem chainUp_ok {a s b : Nat} {d : List α} (h1 : a + 1 ≤ s) (h2 : s ≤ b) (h3 : b ≤ d.length) (hs : Srt R (a + 1) b d) (hl : ∀ x, a + 1 ≤ x → x < s → R (gd d x) (gd d a)) (hr : ∀ x, s ≤ x → x < b → R (gd d a) (gd d x)) :
    Sh a b d (chainUp (s - 1 - a) a d) ∧ Srt R a b (chainUp (s - 1 - a) a d) := by
  have key : ∀ x, gd (chainUp (s - 1 - a) a d) x = if a ≤ x ∧ x < s - 1 then gd d (x + 1) else if x = s - 1 then gd d a else gd d x := fun x => by
    rw [chainUp_get _ _ _ (by omega)]
    repeat' split
    all_goals first | omega | rfl
  constructor
  · refine ⟨chainUp_length .., fun x hx => ?_, fun x x1 x2 => ?_, fun y y1 y2 => ?_⟩
    · rw [key, if_neg (by omega), if_neg (by omega)]
    · rw [key]
      split
      · exact ⟨x + 1, by omega, by omega, rfl⟩
      · split
        · exact ⟨a, by omega, by omega, rfl⟩
        · exact ⟨x, by omega, by omega, rfl⟩
    · by_cases c1 : y = a
      · exact ⟨s - 1, by omega, by omega, by rw [key, if_neg (by omega), if_pos rfl, c1]⟩
      · by_cases c2 : s ≤ y
        · exact ⟨y, by omega, by omega, by rw [key, if_neg (by omega), if_neg (by omega)]⟩
        · exact ⟨y - 1, by omega, by omega, by rw [key, if_pos (by omega), Nat.sub_add_cancel (by omega)]⟩
  · intro x y x1 xy y2
    rw [key, key]
    by_cases cx : x < s - 1
    · rw [if_pos (by omega)]
      split
      · exact hs _ _ (by omega) (by omega) (by omega)
      · split
        · exact hl _ (by omega) (by omega)
        · exact hs _ _ (by omega) (by omega) (by omega)
    · by_cases ex : x = s - 1
      · rw [if_neg (by omega), if_pos ex, if_neg (by omega), if_neg (by omega)]
        exact hr _ (by omega) (by omega)
      · rw [if_neg (by omega), if_neg ex, if_neg (by omega), if_neg (by omega)]
        exact hs _ _ (by omega) (by omega) (by omega)

variable {lt : α → α → Bool} {τ : α → Nat} (hC : ∀ x y, τ x < τ y → (lt y x = true → R y x) ∧ (lt y x = false → R x y))

def Tag (τ : α → Nat) (a m b : Nat) (d : List α) : Prop := ∀ x y, a ≤ x → x < m → m ≤ y → y < b → τ (gd d x) < τ (gd d y)

include Rtr hC
theorem symL_ok : ∀ (N a m b : Nat) (d : List α), b - a ≤ N → a < m → m < b → b ≤ d.length → Srt R a m d → Srt R m b d → Tag τ a m b d →
    Sh a b d (symL lt N a m b d) ∧ Srt R a b (symL lt N a m b d)
  | 0, a, m, b, d, h, h1, h2, _, _, _, _ => by omega
  | N + 1, a, m, b, d, h, h1, h2, h3, sa, sm, tg => by
    rw [symL]
    split
    · rename_i hm
      obtain ⟨b1, b2, b3, b4⟩ := bsA_ok (t := fun h => lt (gd d h) (gd d a)) (b - m) m b (Nat.le_refl _) (by omega)
      generalize bsA (fun h => lt (gd d h) (gd d a)) (b - m) m b = s at *
      obtain rfl : m = a + 1 := by omega
      refine chainUp_ok b1 b2 h3 sm (fun x x1 x2 => ?_) (fun x x1 x2 => ?_)
      · rcases b3 with b3 | b3
        · omega
        · have hR := (hC _ _ (tg a (s - 1) (by omega) (by omega) (by omega) (by omega))).1 b3
          by_cases e : x = s - 1
          · rw [e]; exact hR
          · exact Rtr _ _ _ (sm x (s - 1) (by omega) (by omega) (by omega)) hR
      · rcases b4 with b4 | b4
        · omega
        · have hR := (hC _ _ (tg a s (by omega) (by omega) (by omega) (by omega))).2 b4
          by_cases e : x = s
          · rw [e]; exact hR
          · exact Rtr _ _ _ hR (sm s x (by omega) (by omega) (by omega))
    · rename_i hma
      split
      · rename_i hb
        obtain ⟨b1, b2, b3, b4⟩ := bsA_ok (t := fun h => !lt (gd d m) (gd d h)) (m - a) a m (Nat.le_refl _) (by omega)
        generalize bsA (fun h => !lt (gd d m) (gd d h)) (m - a) a m = s at *
        obtain rfl : b = m + 1 := by omega
        refine chainDn_ok b1 b2 (by omega) sa (fun x x1 x2 => ?_) (fun x x1 x2 => ?_)
        · rcases b3 with b3 | b3
          · omega
          · have hR := (hC _ _ (tg (s - 1) m (by omega) (by omega) (by omega) (by omega))).2 (by simpa using b3)
            by_cases e : x = s - 1
            · rw [e]; exact hR
            · exact Rtr _ _ _ (sa x (s - 1) (by omega) (by omega) (by omega)) hR
        · rcases b4 with b4 | b4
          · omega
          · have hR := (hC _ _ (tg s m (by omega) (by omega) (by omega) (by omega))).1 (by simpa using b4)
            by_cases e : x = s
            · rw [e]; exact hR
            · exact Rtr _ _ _ hR (sa s x (by omega) (by omega) (by omega))
      · rename_i hbm
        dsimp only
        -- the split
        obtain ⟨b1, b2, b3, b4⟩ := bsA_ok (t := fun c => !lt (gd d ((a + b) / 2 + m - 1 - c)) (gd d c))
          ((if (a + b) / 2 < m then (a + b) / 2 else m) - (if (a + b) / 2 < m then (a + b) / 2 + m - b else a))
          (if (a + b) / 2 < m then (a + b) / 2 + m - b else a) (if (a + b) / 2 < m then (a + b) / 2 else m) (Nat.le_refl _) (by split <;> omega)
        change (if (a + b) / 2 < m then (a + b) / 2 + m - b else a) ≤ symS lt a m b d at b1
        change symS lt a m b d ≤ _ at b2
        change symS lt a m b d = _ ∨ (!lt (gd d ((a + b) / 2 + m - 1 - (symS lt a m b d - 1))) (gd d (symS lt a m b d - 1))) = true at b3
        change symS lt a m b d = _ ∨ (!lt (gd d ((a + b) / 2 + m - 1 - symS lt a m b d)) (gd d (symS lt a m b d))) = false at b4
        generalize hs : symS lt a m b d = s at *
        generalize hmid : (a + b) / 2 = mid at *
        have hmid1 : a < mid := by omega
        have hmid2 : mid < b := by omega
        generalize he : mid + m - s = e at *
        have f1 : a ≤ s ∧ s ≤ m ∧ s ≤ mid ∧ m ≤ e ∧ mid ≤ e ∧ e ≤ b ∧ s + (e - m) = mid := by
          split at b1 <;> rename_i c <;> simp only [c, if_true, if_false] at b2 <;> omega
        obtain ⟨g1, g2, g3, g4, g5, g6, g7⟩ := f1
        have lowhigh : ∀ x y, a ≤ x → x < s → e ≤ y → y < b → R (gd d x) (gd d y) := by
          intro x y x1 x2 y1 y2
          have hR : R (gd d (s - 1)) (gd d e) := by
            rcases b3 with b3 | b3
            · exfalso; split at b3 <;> omega
            · rw [show mid + m - 1 - (s - 1) = e by omega] at b3
              exact (hC _ _ (tg (s - 1) e (by omega) (by omega) (by omega) (by omega))).2 (by simpa using b3)
          have h5 : R (gd d x) (gd d e) := by
            by_cases ee : x = s - 1
            · rw [ee]; exact hR
            · exact Rtr _ _ _ (sa x (s - 1) (by omega) (by omega) (by omega)) hR
          by_cases ee : y = e
          · rw [ee]; exact h5
          · exact Rtr _ _ _ h5 (sm e y (by omega) (by omega) (by omega))
        have highlow : ∀ x y, m ≤ x → x < e → s ≤ y → y < m → R (gd d x) (gd d y) := by
          intro x y x1 x2 y1 y2
          have hR : R (gd d (e - 1)) (gd d s) := by
            rcases b4 with b4 | b4
            · exfalso; split at b4 <;> omega
            · rw [show mid + m - 1 - s = e - 1 by omega] at b4
              exact (hC _ _ (tg s (e - 1) (by omega) (by omega) (by omega) (by omega))).1 (by simpa using b4)
          have h5 : R (gd d x) (gd d s) := by
            by_cases ee : x = e - 1
            · rw [ee]; exact hR
            · exact Rtr _ _ _ (sm x (e - 1) (by omega) (by omega) (by omega)) hR
          by_cases ee : y = s
          · rw [ee]; exact h5
          · exact Rtr _ _ _ h5 (sa s y (by omega) (by omega) (by omega))
        clear b1 b2 b3 b4
        have key : ∀ x, gd (symRot s m e d) x = if s ≤ x ∧ x < mid then gd d (x + (m - s)) else if mid ≤ x ∧ x < e then gd d (x - (e - m)) else gd d x := fun x => by
          rw [symRot_get g2 g4 (by omega), g7]
        have len1 : (symRot s m e d).length = d.length := symRot_length ..
        generalize symRot s m e d = d1 at *
        have sh1 : Sh a b d d1 := by
          refine ⟨len1, fun x hx => by rw [key, if_neg (by omega), if_neg (by omega)], fun x x1 x2 => ?_, fun y y1 y2 => ?_⟩
          · rw [key]
            split
            · exact ⟨_, by omega, by omega, rfl⟩
            · split
              · exact ⟨_, by omega, by omega, rfl⟩
              · exact ⟨_, x1, x2, rfl⟩
          · by_cases c1 : s ≤ y ∧ y < m
            · exact ⟨y + (e - m), by omega, by omega, by rw [key, if_neg (by omega), if_pos (by omega), Nat.add_sub_cancel]⟩
            · by_cases c2 : m ≤ y ∧ y < e
              · exact ⟨y - (m - s), by omega, by omega, by rw [key, if_pos (by omega), Nat.sub_add_cancel (by omega)]⟩
              · exact ⟨y, y1, y2, by rw [key, if_neg (by omega), if_neg (by omega)]⟩
        have s1 : Srt R a s d1 := fun x y x1 xy y1 => by
          rw [key, key, if_neg (by omega), if_neg (by omega), if_neg (by omega), if_neg (by omega)]
          exact sa _ _ x1 xy (by omega)
        have s2 : Srt R s mid d1 := fun x y x1 xy y1 => by
          rw [key, key, if_pos (by omega), if_pos (by omega)]
          exact sm _ _ (by omega) (by omega) (by omega)
        have s3 : Srt R mid e d1 := fun x y x1 xy y1 => by
          rw [key, key, if_neg (by omega), if_pos (by omega), if_neg (by omega), if_pos (by omega)]
          exact sa _ _ (by omega) (by omega) (by omega)
        have s4 : Srt R e b d1 := fun x y x1 xy y1 => by
          rw [key, key, if_neg (by omega), if_neg (by omega), if_neg (by omega), if_neg (by omega)]
          exact sm _ _ (by omega) (by omega) (by omega)
        have t1 : Tag τ a s mid d1 := fun x y x1 x2 y1 y2 => by
          rw [key, key, if_neg (by omega), if_neg (by omega), if_pos (by omega)]
          exact tg _ _ (by omega) (by omega) (by omega) (by omega)
        have t2 : Tag τ mid e b d1 := fun x y x1 x2 y1 y2 => by
          rw [key, key, if_neg (by omega), if_pos (by omega), if_neg (by omega), if_neg (by omega)]
          exact tg _ _ (by omega) (by omega) (by omega) (by omega)
        have cross : ∀ x y, a ≤ x → x < mid → mid ≤ y → y < b → R (gd d1 x) (gd d1 y) := by
          intro x y x1 x2 y1 y2
          rw [key, key]
          by_cases cx : s ≤ x
          · rw [if_pos ⟨cx, x2⟩, if_neg (by omega)]
            by_cases cy : y < e
            · rw [if_pos ⟨y1, cy⟩]
              exact highlow _ _ (by omega) (by omega) (by omega) (by omega)
            · rw [if_neg (by omega)]
              exact sm _ _ (by omega) (by omega) (by omega)
          · rw [if_neg (by omega), if_neg (by omega), if_neg (by omega)]
            by_cases cy : y < e
            · rw [if_pos ⟨y1, cy⟩]
              exact sa _ _ (by omega) (by omega) (by omega)
            · rw [if_neg (by omega)]
              exact lowhigh _ _ (by omega) (by omega) (by omega) (by omega)
        have low : Sh a mid d1 (if a < s ∧ s < mid then symL lt N a s mid d1 else d1) ∧ Srt R a mid (if a < s ∧ s < mid then symL lt N a s mid d1 else d1) := by
          split
          · rename_i c
            exact symL_ok N a s mid d1 (by omega) c.1 c.2 (by omega) s1 s2 t1
          · rename_i c
            refine ⟨Sh.refl _ _ _, ?_⟩
            rcases Nat.lt_or_ge a s with c1 | c1
            · obtain rfl : s = mid := by omega
              exact s1
            · obtain rfl : a = s := by omega
              exact s2
        generalize (if a < s ∧ s < mid then symL lt N a s mid d1 else d1) = d2 at *
        obtain ⟨sh2, sr2⟩ := low
        have s3' : Srt R mid e d2 := fun x y x1 xy y1 => by
          rw [sh2.out x (by omega), sh2.out y (by omega)]; exact s3 x y x1 xy y1
        have s4' : Srt R e b d2 := fun x y x1 xy y1 => by
          rw [sh2.out x (by omega), sh2.out y (by omega)]; exact s4 x y x1 xy y1
        have t2' : Tag τ mid e b d2 := fun x y x1 x2 y1 y2 => by
          rw [sh2.out x (by omega), sh2.out y (by omega)]; exact t2 x y x1 x2 y1 y2
        have high : Sh mid b d2 (if mid < e ∧ e < b then symL lt N mid e b d2 else d2) ∧ Srt R mid b (if mid < e ∧ e < b then symL lt N mid e b d2 else d2) := by
          split
          · rename_i c
            exact symL_ok N mid e b d2 (by omega) c.1 c.2 (by rw [sh2.len]; omega) s3' s4' t2'
          · rename_i c
            refine ⟨Sh.refl _ _ _, ?_⟩
            rcases Nat.lt_or_ge mid e with c1 | c1
            · obtain rfl : e = b := by omega
              exact s3'
            · obtain rfl : mid = e := by omega
              exact s4'
        generalize (if mid < e ∧ e < b then symL lt N mid e b d2 else d2) = d3 at *
        obtain ⟨sh3, sr3⟩ := high
        refine ⟨sh1.trans ((sh2.wide (Nat.le_refl _) (by omega)).trans (sh3.wide (by omega) (Nat.le_refl _))), fun x y x1 xy y1 => ?_⟩
        by_cases cx : x < mid
        · rw [sh3.out x (by omega)]
          by_cases cy : y < mid
          · rw [sh3.out y (by omega)]
            exact sr2 x y x1 xy cy
          · obtain ⟨y', p1, p2, e1⟩ := sh3.to y (by omega) y1
            obtain ⟨x', q1, q2, e2⟩ := sh2.to x x1 cx
            rw [e1, e2, sh2.out y' (by omega)]
            exact cross x' y' q1 q2 p1 p2
        · exact sr3 x y (by omega) xy y1

omit Rtr hC in
theorem sift_chain (a : Nat) : ∀ (j : Nat) (d : List α), a ≤ j → j < d.length → ∃ s, a ≤ s ∧ s ≤ j ∧ siftG lt d a j = chainDn (j - s) j d ∧ (s = a ∨ lt (gd d j) (gd d (s - 1)) = false) ∧ (∀ x, s ≤ x → x < j → lt (gd d j) (gd d x) = true)
  | 0, d, h1, h2 => ⟨0, by omega, by omega, rfl, .inl (by omega), fun x _ hx => by omega⟩
  | j + 1, d, h1, h2 => by
    rw [siftG]
    split
    · rename_i c
      obtain ⟨s, s1, s2, s3, s4, s5⟩ := sift_chain a j (swapG d (j + 1) j) (by omega) (by rw [swapG_length]; omega)
      have k : ∀ x, gd (swapG d (j + 1) j) x = if x = j then gd d (j + 1) else if x = j + 1 then gd d j else gd d x := swapG_get h2 (by omega)
      refine ⟨s, s1, by omega, ?_, ?_, fun x x1 x2 => ?_⟩
      · rw [s3, show j + 1 - s = (j - s) + 1 by omega, chainDn]; rfl
      · rcases s4 with s4 | s4
        · exact .inl s4
        · by_cases e : s = 0
          · exact .inl (by omega)
          · rw [k, k, if_pos rfl, if_neg (by omega), if_neg (by omega)] at s4
            exact .inr s4
      · by_cases e : x = j
        · rw [e]; exact c.2
        · have := s5 x x1 (by omega)
          rwa [k, k, if_pos rfl, if_neg e, if_neg (by omega)] at this
    · rename_i c
      refine ⟨j + 1, h1, Nat.le_refl _, by rw [Nat.sub_self]; rfl, ?_, fun x x1 x2 => by omega⟩
      by_cases e : a = j + 1
      · exact .inl e.symm
      · right
        rw [Nat.add_sub_cancel]
        cases hh : lt (gd d (j + 1)) (gd d j) with
        | false => rfl
        | true => exact absurd ⟨by omega, hh⟩ c

theorem ins_ok (a b : Nat) : ∀ (n i : Nat) (d : List α), i + n = b → a + 1 ≤ i → b ≤ d.length → Srt R a i d → (∀ x y, a ≤ x → x < i → i ≤ y → y < b → τ (gd d x) < τ (gd d y)) → (∀ x y, i ≤ x → x < y → y < b → τ (gd d x) < τ (gd d y)) →
    Sh a b d (insG lt a n i d) ∧ Srt R a b (insG lt a n i d)
  | 0, i, d, h, h1, h2, s, _, _ => by
    rw [insG]
    obtain rfl : i = b := by omega
    exact ⟨Sh.refl _ _ _, s⟩
  | n + 1, i, d, h, h1, h2, s, t1, t2 => by
    rw [insG]
    obtain ⟨p, p1, p2, p3, p4, p5⟩ := sift_chain (lt := lt) a i d (by omega) (by omega)
    have ok := chainDn_ok (R := R) p1 p2 (show i < d.length by omega) s (fun x x1 x2 => by
        rcases p4 with p4 | p4
        · omega
        · have hR := (hC _ _ (t1 (p - 1) i (by omega) (by omega) (by omega) (by omega))).2 p4
          by_cases e : x = p - 1
          · rw [e]; exact hR
          · exact Rtr _ _ _ (s x (p - 1) x1 (by omega) (by omega)) hR)
      (fun x x1 x2 => (hC _ _ (t1 x i (by omega) (by omega) (by omega) (by omega))).1 (p5 x x1 x2))
    rw [← p3] at ok
    generalize siftG lt d a i = d1 at *
    obtain ⟨sh, sr⟩ := ok
    have := ins_ok a b n (i + 1) d1 (by omega) (by omega) (by rw [sh.len]; omega) sr (fun x y x1 x2 y1 y2 => by
        obtain ⟨z, z1, z2, e⟩ := sh.to x x1 x2
        rw [e, sh.out y (by omega)]
        by_cases c : z = i
        · rw [c]; exact t2 i y (by omega) (by omega) y2
        · exact t1 z y z1 (by omega) (by omega) y2)
      (fun x y x1 xy y1 => by rw [sh.out x (by omega), sh.out y (by omega)]; exact t2 x y (by omega) xy y1)
    exact ⟨(sh.wide (Nat.le_refl _) (by omega)).trans this.1, this.2⟩
end
end Go.Proofs.Ytbbhpddgjiifmaa
