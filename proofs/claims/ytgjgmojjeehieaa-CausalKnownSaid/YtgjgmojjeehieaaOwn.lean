/- Slices that a function has made itself, and appends to them. -/
import Derived.Test.YtgjgmojjeehieaaOps
set_option linter.unusedSimpArgs false
set_option linter.unusedVariables false
namespace Go.Proofs.Ytgjgmojjeehieaa
open Go.RowKit

section
variable {α : Type} [Rep α]
def Els (w : World) (F : Nat → Prop) : List (List Value) → List α → Prop
  | [], [] => True
  | cs :: css, x :: l => Rep.rd w F cs x ∧ Els w F css l
  | _, _ => False

theorem Els.mono {w w' : World} {F F' : Nat → Prop} (hF : ∀ b, F b → b < w.heap.size → w'.heap[b]? = w.heap[b]? ∧ F' b) : ∀ {css : List (List Value)} {l : List α}, Els w F css l → Els w' F' css l
  | [], [], _ => trivial
  | _ :: _, _ :: _, h => ⟨Rep.mono h.1 hF, Els.mono hF h.2⟩
  | [], _ :: _, h => h.elim
  | _ :: _, [], h => h.elim
theorem Els.append {w : World} {F : Nat → Prop} : ∀ {css css2 : List (List Value)} {l l2 : List α}, Els w F css l → Els w F css2 l2 → Els w F (css ++ css2) (l ++ l2)
  | [], _, [], _, _, h2 => h2
  | _ :: _, _, _ :: _, _, h, h2 => ⟨h.1, Els.append h.2 h2⟩
  | [], _, _ :: _, _, h, _ => h.elim
  | _ :: _, _, [], _, h, _ => h.elim
theorem Els.map {w : World} {F F' : Nat → Prop} (hG : ∀ cs (x : α), Rep.rd w F cs x → Rep.rd w F' cs x) : ∀ {css : List (List Value)} {l : List α}, Els w F css l → Els w F' css l
  | [], [], _ => trivial
  | _ :: _, _ :: _, h => ⟨hG _ _ h.1, Els.map hG h.2⟩
  | [], _ :: _, h => h.elim
  | _ :: _, [], h => h.elim
theorem Els.length {w : World} {F : Nat → Prop} : ∀ {css : List (List Value)} {l : List α}, Els w F css l → css.length = l.length
  | [], [], _ => rfl
  | _ :: _, _ :: _, h => by simp [Els.length h.2]
  | [], _ :: _, h => h.elim
  | _ :: _, [], h => h.elim
theorem Els.flat {w : World} {F : Nat → Prop} : ∀ {css : List (List Value)} {l : List α}, Els w F css l → css.flatten.length = l.length * Rep.k α
  | [], [], _ => by simp
  | _ :: _, _ :: _, h => by simp only [List.flatten_cons, List.length_append, List.length_cons, Els.flat h.2, Rep.len h.1]; rw [Nat.add_mul]; omega
  | [], _ :: _, h => h.elim
  | _ :: _, [], h => h.elim
theorem Els.one {w : World} {F : Nat → Prop} : ∀ {css : List (List Value)} {l : List α}, Els w F css l → ∀ u ∈ css.flatten, u.oneCell' = true
  | [], [], _ => by simp
  | _ :: _, _ :: _, h => by
    intro u hu
    simp only [List.flatten_cons, List.mem_append] at hu
    rcases hu with hu | hu
    · exact Rep.one h.1 u hu
    · exact Els.one h.2 u hu
  | [], _ :: _, h => h.elim
  | _ :: _, [], h => h.elim
theorem Els.at_ {w : World} {F : Nat → Prop} : ∀ {css : List (List Value)} {l : List α}, Els w F css l → ∀ i (h : i < l.length), ∃ cs, Rep.rd w F cs l[i] ∧ ∀ j (hj : j < cs.length), css.flatten[i * Rep.k α + j]? = some cs[j]
  | [], [], _, i, h => absurd h (Nat.not_lt_zero i)
  | cs :: css, x :: l, h, 0, _ => ⟨cs, h.1, fun j hj => by simp [List.getElem?_append, hj]⟩
  | cs :: css, x :: l, h, i + 1, hi => by
    obtain ⟨c, h1, h2⟩ := Els.at_ h.2 i (by simpa using hi)
    refine ⟨c, by simpa using h1, fun j hj => ?_⟩
    have hl := Rep.len h.1
    rw [List.flatten_cons, List.getElem?_append_right (by rw [hl, Nat.add_mul]; omega), hl, show (i + 1) * Rep.k α + j - Rep.k α = i * Rep.k α + j by rw [Nat.add_mul]; omega]
    exact h2 j hj
  | [], _ :: _, h, _, _ => h.elim
  | _ :: _, [], h, _, _ => h.elim
/-- The cells of a slice that reads, as one list. -/
theorem RdS.els {w : World} {F : Nat → Prop} {v : Value} {l : List α} (h : RdS w F v l) : ∃ css, Els w F css l ∧ ∀ j u, css.flatten[j]? = some u → w.cell? ⟨sb v, so v + j, none⟩ = some u := by
  suffices key : ∀ (l' : List α) (k : Nat), (∀ i (hi : i < l'.length), ∃ cs, CellsAt w (sb v) (so v + (k + i) * Rep.k α) cs ∧ Rep.rd w F cs l'[i]) →
      ∃ css, Els w F css l' ∧ ∀ j u, css.flatten[j]? = some u → w.cell? ⟨sb v, so v + (k * Rep.k α + j), none⟩ = some u by
    obtain ⟨css, h1, h2⟩ := key l 0 (fun i hi => by simpa using h.at_ i hi)
    exact ⟨css, h1, fun j u hu => by simpa using h2 j u hu⟩
  intro l'
  induction l' with
  | nil => intro k _; exact ⟨[], trivial, fun j u hu => by simp at hu⟩
  | cons x l' ih =>
    intro k hk
    obtain ⟨cs, hc, hr⟩ := hk 0 (by simp)
    obtain ⟨css, h1, h2⟩ := ih (k + 1) (fun i hi => by
      have := hk (i + 1) (by simpa using hi)
      rw [show k + (i + 1) = k + 1 + i by omega] at this
      simpa using this)
    have hl := Rep.len hr
    refine ⟨cs :: css, ⟨by simpa using hr, h1⟩, fun j u hu => ?_⟩
    rw [List.flatten_cons] at hu
    by_cases hj : j < cs.length
    · rw [List.getElem?_append_left hj] at hu
      have := hc j hj
      rw [List.getElem?_eq_getElem hj] at hu
      rw [Option.some.inj hu] at this
      rw [show so v + (k + 0) * Rep.k α + j = so v + (k * Rep.k α + j) by rw [Nat.add_zero]; omega] at this
      exact this
    · rw [List.getElem?_append_right (by omega)] at hu
      have := h2 _ u hu
      rw [hl, Nat.add_mul, Nat.one_mul] at this
      rw [show so v + (k * Rep.k α + Rep.k α + (j - Rep.k α)) = so v + (k * Rep.k α + j) by omega] at this
      exact this

structure OwnS (T : TypeId) (lo : Nat) (w : World) (F : Nat → Prop) (v : Value) (l : List α) : Prop where
  css : ∃ css, Els w F css l ∧ w.ownsRow lo T (Rep.k α) v l.length css.flatten
  apart : ∀ b, v.ownBlock = some b → ¬ F b
  bound : ∀ b, F b → b < w.heap.size ∧ (lo ≤ b → Soft w b)
  small : l.length * Rep.bytes α ≤ 140737488355328

theorem OwnS.nil (T : TypeId) (lo : Nat) (w : World) (F : Nat → Prop) (hF : ∀ b, F b → b < w.heap.size ∧ (lo ≤ b → Soft w b)) : OwnS (α := α) T lo w F (.slice none 0 0) [] :=
  ⟨⟨[], trivial, World.ownsRow_nil w lo T _⟩, fun b h => by simp [Value.ownBlock] at h, hF, by simp⟩
theorem OwnS.isSl {T : TypeId} {lo : Nat} {w : World} {F : Nat → Prop} {v : Value} {l : List α} (h : OwnS T lo w F v l) : IsSl v l.length := by
  obtain ⟨css, h1, h2⟩ := h.css
  rcases h2.2 with ⟨rfl, h0⟩ | ⟨g, cap, cur, rfl, _, _, hn, _⟩
  · exact ⟨none, 0, by rw [h0], by omega, fun h => by omega⟩
  · exact ⟨_, cap, rfl, hn, fun _ => ⟨g, 0, rfl⟩⟩
theorem OwnS.lt {T : TypeId} {lo : Nat} {w : World} {F : Nat → Prop} {v : Value} {l : List α} (h : OwnS T lo w F v l) : ∀ b, v.ownBlock = some b → lo ≤ b ∧ b < w.heap.size := by
  obtain ⟨css, h1, h2⟩ := h.css
  exact h2.lt
theorem OwnS.toRd {T : TypeId} {lo : Nat} {w : World} {F F' : Nat → Prop} {v : Value} {l : List α} (h : OwnS T lo w F v l) (hF : ∀ b, F b → F' b) (hv : ∀ b, v.ownBlock = some b → F' b) : RdS w F' v l := by
  obtain ⟨css, h1, h2⟩ := h.css
  refine ⟨h.isSl, fun hne => ?_, h.small, fun i hi => ?_⟩
  · rcases h2.2 with ⟨rfl, h0⟩ | ⟨g, cap, cur, rfl, _⟩
    · exact (hne (List.length_eq_zero_iff.1 h0)).elim
    · exact hv g rfl
  · rcases h2.2 with ⟨rfl, h0⟩ | ⟨g, cap, cur, rfl, hg, hb, hn, hm, hs, ht⟩
    · omega
    · obtain ⟨cs, hr, hc⟩ := h1.at_ i hi
      refine ⟨cs, ?_, Rep.mono hr (fun b hb _ => ⟨rfl, hF b hb⟩)⟩
      intro j hj
      have h3 := hc j hj
      rw [← ht, List.getElem?_take] at h3
      split at h3
      · show w.cell? ⟨g, 0 + i * Rep.k α + j, none⟩ = _
        rw [Nat.zero_add]
        exact blk_cell hb (by simpa using h3)
      · cases h3
theorem OwnS.mono {T : TypeId} {lo lo' : Nat} {w w' : World} {F F' : Nat → Prop} {v : Value} {l : List α} (h : OwnS T lo w F v l) (hlo : lo' ≤ lo) (hsz : w.heap.size ≤ w'.heap.size) (hF : ∀ b, F b → b < w.heap.size → w'.heap[b]? = w.heap[b]? ∧ F' b)
    (hrow : ∀ b, v.ownBlock = some b → b < w.heap.size → w'.heap[b]? = w.heap[b]? ∧ ¬ F' b) (hB : ∀ b, F' b → b < w'.heap.size ∧ (lo' ≤ b → Soft w' b)) : OwnS T lo' w' F' v l := by
  obtain ⟨css, h1, h2⟩ := h.css
  refine ⟨⟨css, h1.mono hF, h2.1, ?_⟩, fun b hb => (hrow b hb (h2.lt b hb).2).2, hB, h.small⟩
  rcases h2.2 with hn | ⟨g, cap, cur, rfl, hg, hgg, r⟩
  · exact .inl hn
  · exact .inr ⟨g, cap, cur, rfl, Nat.le_trans hlo hg, by rw [(hrow g rfl (h2.lt g rfl).2).1]; exact hgg, r⟩
theorem OwnS.ext {T : TypeId} {lo : Nat} {w w' : World} {F : Nat → Prop} {v : Value} {l : List α} (h : OwnS T lo w F v l) (hx : Ext w w') : OwnS T lo w' F v l :=
  h.mono (Nat.le_refl _) hx.size (fun b hb hlt => ⟨hx.block b hlt (fun h => h), hb⟩) (fun b hb hlt => ⟨hx.block b hlt (fun h => h), h.apart b hb⟩) (fun b hb => ⟨Nat.lt_of_lt_of_le (h.bound b hb).1 hx.size, fun hl => hx.soft b ((h.bound b hb).2 hl)⟩)
/-- More blocks may be reached from the elements. -/
theorem OwnS.weak {T : TypeId} {lo : Nat} {w : World} {F F' : Nat → Prop} {v : Value} {l : List α} (h : OwnS T lo w F v l) (hF : ∀ b, F b → F' b) (ha : ∀ b, v.ownBlock = some b → ¬ F' b) (hB : ∀ b, F' b → b < w.heap.size ∧ (lo ≤ b → Soft w b)) : OwnS T lo w F' v l :=
  h.mono (Nat.le_refl _) (Nat.le_refl _) (fun b hb _ => ⟨rfl, hF b hb⟩) (fun b hb _ => ⟨rfl, ha b hb⟩) hB

section
variable {P : Program}
theorem ownsRow_low {w : World} {B B' : Nat} {e : TypeId} {size : Nat} {v : Value} {n : Nat} {xs : List Value} (h : w.ownsRow B e size v n xs) (hB : B' ≤ B) : w.ownsRow B' e size v n xs := by
  refine ⟨h.1, ?_⟩
  rcases h.2 with hn | ⟨g, cap, cur, rfl, hg, r⟩
  · exact .inl hn
  · exact .inr ⟨g, cap, cur, rfl, Nat.le_trans hB hg, r⟩

/-- append, told of which row is written. -/
theorem run_append_row (w : World) (base : Nat) (t ty e : TypeId) (i : TypeInfo) (z : Value) (size bytes : Nat) (ht : P.underlying t = some (.slice e)) (hi : P.info? e = some i) (hz : i.zero = some z)
    (hsize : i.size = size) (hby : i.bytes = bytes) (hzs : z.cells.size = size) (_hsz : 0 < size)
    (v : Value) (n : Nat) (xs : List Value) (hown : w.ownsRow base e size v n xs)
    (a : Addr) (m c : Nat) (news : List Value) (hl : news.length = m * size) (hnews : ∀ j u, news[j]? = some u → w.cell? (a.add j) = some u) (h1 : ∀ u ∈ news, u.oneCell' = true)
    (h63 : n + m ≤ maxLen) (hbytes : (n + m) * bytes ≤ 140737488355328) (hbase : base ≤ w.heap.size) :
    ∃ v' w', (Builtin.append_ #[t, t] ty #[v, .slice (some a) m c]).run P w = .ok v' w' ∧ w'.ownsRow base e size v' (n + m) (xs ++ news) ∧ w.grownBy w' v.ownBlock ∧
      (v'.ownBlock = v.ownBlock ∨ ∀ g, v'.ownBlock = some g → w.heap.size ≤ g) ∧ SoftStep w w' ∧ w.drawn ≤ w'.drawn := by
  rcases hown.2 with ⟨rfl, rfl⟩ | ⟨g, cap, cur, rfl, hbg, hg, hnc, hcm, hcs, htake⟩
  · have hx : xs = [] := List.eq_nil_of_length_eq_zero (by simpa using hown.1)
    subst hx
    obtain ⟨v', w', h1', h2, h3, _⟩ := run_append_own (P := P) w w.heap.size t ty e i z size bytes ht hi hz hsize hby hzs _hsz (.slice none 0 0) 0 [] (World.ownsRow_nil w _ e size) a m c news hl hnews h1 h63 hbytes (Nat.le_refl _)
    refine ⟨v', w', h1', ownsRow_low h2 hbase, h3, .inr fun g hg => (h2.lt g hg).1, ?_⟩
    subst hsize
    subst hby
    by_cases hm : m = 0
    · subst hm
      have e : (Builtin.append_ #[t, t] ty #[.slice none 0 0, .slice (some a) 0 c]).run P w = .ok (.slice none 0 0) w := by
        simp [Builtin.append_, run_underlying ht, sizeOf, typeInfo, hi, Builtin.lenOf, Builtin.firstCells, loadCells, loadCellsFrom, storeCells, go_sem]
      rw [e] at h1'
      cases h1'
      exact ⟨SoftStep.refl _, Nat.le_refl _⟩
    · have hr := run_append_nil (P := P) w t ty e i z ht hi hz a m c news hl hnews (by omega) (by simp only [maxLen] at h63; omega) (by have hb := hbytes; simp only [Nat.zero_add] at hb; omega)
      rw [hr] at h1'
      cases h1'
      exact ⟨SoftStep.push (w := w) rfl, Nat.le_succ _⟩
  · obtain ⟨v', w', h1', h2, h3, _⟩ := run_append_own (P := P) w base t ty e i z size bytes ht hi hz hsize hby hzs _hsz _ n xs hown a m c news hl hnews h1 h63 hbytes hbase
    suffices key : (v'.ownBlock = (Value.slice (some ⟨g, 0, none⟩) n cap).ownBlock ∨ ∀ g, v'.ownBlock = some g → w.heap.size ≤ g) ∧ SoftStep w w' ∧ w.drawn ≤ w'.drawn from ⟨v', w', h1', h2, h3, key.1, key.2⟩
    subst hsize
    subst hby
    by_cases hroom : n + m ≤ cap
    · have hfit : n * i.size + news.length ≤ cur.size := by rw [hl, hcs, ← Nat.add_mul]; exact Nat.mul_le_mul_right _ hroom
      have hr := run_append_room (P := P) w t ty e i ht hi g n cap cur hg a m c news hl hnews h1 hroom hfit
      rw [hr] at h1'
      cases h1'
      exact ⟨.inl rfl, SoftStep.setRow, Nat.le_refl _⟩
    · have holds : ∀ j u, xs[j]? = some u → w.cell? ((⟨g, 0, none⟩ : Addr).add j) = some u := hown.cells (g := g) rfl
      have h63' : n + m ≤ 9223372036854775807 := by simp only [maxLen] at h63; omega
      have hr := run_append_grow (P := P) w t ty e i z ht hi hz ⟨g, 0, none⟩ n cap xs hown.1 holds a m c news hl hnews (by omega) (by omega) (growslice_fits (by omega) hbytes)
      rw [hr] at h1'
      cases h1'
      exact ⟨.inr fun g' hg' => by simp [Value.ownBlock] at hg'; omega, SoftStep.push (w := w) rfl, Nat.le_succ _⟩

theorem run_append_none (w : World) (t ty e : TypeId) (i : TypeInfo) (ht : P.underlying t = some (.slice e)) (hi : P.info? e = some i) (b : Option Addr) (n cap cap2 : Nat) (hn : n ≤ cap) :
    (Builtin.append_ #[t, t] ty #[.slice b n cap, .slice none 0 cap2]).run P w = .ok (.slice b n cap) w := by
  cases b <;> simp [Builtin.append_, run_underlying ht, sizeOf, typeInfo, hi, Builtin.lenOf, Builtin.firstCells, hn, storeCells, go_sem]

/-- The facts on an element's type that an append asks. -/
structure Elem (P : Program) (t T : TypeId) (k bytes : Nat) : Prop where
  und : P.underlying t = some (.slice T)
  info : ∃ i z, P.info? T = some i ∧ i.zero = some z ∧ i.size = k ∧ i.bytes = bytes ∧ z.cells.size = k

variable {d : Option Tmp} {ty : TypeId} {pos : String} {af : Array Edge} {gd : Option (Nat × Bool)} {σ : Env} {w : World} {K : Value → World → Prop}

theorem run_append_call {t : TypeId} {s x : Operand} {v v2 v' : Value} {w' : World} (hs : ev σ s = v) (hx : ev σ x = v2) (hr : (Builtin.append_ #[t, t] ty #[v, v2]).run P w = .ok v' w') :
    (execOp (ev σ) ⟨d, .call ⟨.builtin .append, #[s, x], #[t, t]⟩, ty, pos, af, gd⟩).run P w = .ok (.value v') w' := by
  unfold execOp
  simp only [resolve, invoke, builtin, Sem.run_bind, Sem.run_pure, Result.andThen_ok, List.map_toArray, List.map_cons, List.map_nil, hs, hx, hr]

/-- append(a, b...): b's elements may lie anywhere. -/
theorem ov_appendB {t T : TypeId} {bytes lo : Nat} {s x : Operand} {v v2 : Value} {l l2 : List α} {F F' G : Nat → Prop} (E : Elem P t T (Rep.k α) bytes) (hs : ev σ s = v) (ho : OwnS T lo w F v l) (hx : ev σ x = v2) (h2 : RdS w G v2 l2)
    (hF : ∀ b, F b → F' b) (hG : ∀ cs (x : α), Rep.rd w G cs x → Rep.rd w F' cs x) (hrow : ∀ b, v.ownBlock = some b → ¬ F' b) (hB : ∀ b, F' b → b < w.heap.size ∧ (lo ≤ b → Soft w b)) (hlo : lo ≤ w.heap.size) (hb : (l.length + l2.length) * bytes ≤ 140737488355328) (hby0 : bytes = Rep.bytes α)
    (h : ∀ v' w', OwnS T lo w' F' v' (l ++ l2) → Chg (fun b => v.ownBlock = some b) w w' → (v'.ownBlock = v.ownBlock ∨ ∀ g, v'.ownBlock = some g → w.heap.size ≤ g) → K v' w') : opV P ⟨d, .call ⟨.builtin .append, #[s, x], #[t, t]⟩, ty, pos, af, gd⟩ σ w K := by
  obtain ⟨i, z, hi, hz, hsize, hby, hzs⟩ := E.info
  have hsmall := small_lt (α := α) (by rw [← hby0]; exact hb)
  have ho' := ho.weak hF hrow hB
  obtain ⟨css, hE, hown⟩ := ho'.css
  obtain ⟨css2, hE2', hc2⟩ := h2.els
  have hE2 := hE2'.map hG
  obtain ⟨a2, cap2, hv2, hle2, hpos2⟩ := h2.sl
  cases a2 with
  | none =>
    have h0 : l2.length = 0 := by
      rcases Nat.eq_zero_or_pos l2.length with h | h
      · exact h
      · obtain ⟨b, o, hbo⟩ := hpos2 h; cases hbo
    have hl2 : l2 = [] := List.length_eq_zero_iff.1 h0
    obtain ⟨a1, cap1, hv1, hle1, _⟩ := ho.isSl
    rw [hv1] at hs
    rw [hv2, h0] at hx
    refine ov_run (run_append_call hs hx (run_append_none w t ty T i E.und hi a1 l.length cap1 cap2 hle1)) ?_
    subst hl2
    rw [← hv1]
    exact h v w (by simpa using ho') (Chg.refl _ _) (.inl rfl)
  | some a2 =>
    have ha : ∀ j u, css2.flatten[j]? = some u → w.cell? (a2.add j) = some u := by
      intro j u hu
      have hne : 0 < l2.length := by
        rcases Nat.eq_zero_or_pos l2.length with h0 | h0
        · have := hE2.flat; rw [h0, Nat.zero_mul] at this
          rw [List.length_eq_zero_iff.1 this] at hu; simp at hu
        · exact h0
      obtain ⟨b, o, hbo⟩ := hpos2 hne
      have hu' := hc2 j u hu
      rw [hv2] at hu'
      cases hbo
      rw [show (⟨b, o, none⟩ : Addr).add j = ⟨b, o + j, none⟩ from Addr.add_lit b o j]
      exact hu'
    have hl := hE2.flat
    obtain ⟨v', w', hr, hown', hg, hrow', hsoft, hdrawn⟩ := run_append_row (P := P) w lo t ty T i z (Rep.k α) bytes E.und hi hz hsize hby hzs Rep.kpos v l.length css.flatten hown a2 l2.length cap2 css2.flatten hl ha hE2.one (by unfold maxLen; omega) hb hlo
    rw [hv2] at hx
    refine ov_run (run_append_call hs hx hr) (h v' w' ?_ ?_ hrow')
    · have hmono : ∀ b, F' b → b < w.heap.size → w'.heap[b]? = w.heap[b]? ∧ F' b := fun b hb hlt => ⟨hg.block b hlt (fun e => hrow b e.symm hb), hb⟩
      refine ⟨⟨css ++ css2, (hE.mono hmono).append (hE2.mono hmono), ?_⟩, fun b hb => ?_, fun b hb => ⟨Nat.lt_of_lt_of_le (hB b hb).1 hg.size, fun hl => hsoft b ((hB b hb).2 hl)⟩, by subst hby0; simpa using hb⟩
      · rw [List.flatten_append, List.length_append]; exact hown'
      · rcases hrow' with h' | h'
        · rw [h'] at hb; exact hrow b hb
        · intro hf; have := h' b hb; have := (hB b hf).1; omega
    · exact ⟨hg.os, hg.tape, hg.output, hg.size, fun b hlt hne => hg.block b hlt (fun e => hne e.symm), hsoft, hdrawn⟩

theorem ov_append {t T : TypeId} {bytes lo : Nat} {s x : Operand} {v v2 : Value} {l l2 : List α} {F F' G : Nat → Prop} (E : Elem P t T (Rep.k α) bytes) (hs : ev σ s = v) (ho : OwnS T lo w F v l) (hx : ev σ x = v2) (h2 : RdS w G v2 l2)
    (hF : ∀ b, F b → F' b) (hG : ∀ cs (x : α), Rep.rd w G cs x → Rep.rd w F' cs x) (hrow : ∀ b, v.ownBlock = some b → ¬ F' b) (hB : ∀ b, F' b → b < w.heap.size ∧ (lo ≤ b → Soft w b)) (hlo : lo ≤ w.heap.size) (hb : (l.length + l2.length) * bytes ≤ 140737488355328) (hby0 : bytes = Rep.bytes α)
    (h : ∀ v' w', OwnS T lo w' F' v' (l ++ l2) → Chg (fun b => v.ownBlock = some b) w w' → K v' w') : opV P ⟨d, .call ⟨.builtin .append, #[s, x], #[t, t]⟩, ty, pos, af, gd⟩ σ w K :=
  ov_appendB E hs ho hx h2 hF hG hrow hB hlo hb hby0 (fun v' w' a b _ => h v' w' a b)

/-- A block of one element reads as a slice of one. -/
theorem RdS.single (hb1 : Rep.bytes α ≤ 140737488355328) {T : TypeId} {b : Nat} {c : Array Value} {F : Nat → Prop} {x : α} (hb : w.heap[b]? = some (.cells c T)) (hx : Rep.rd w F c.toList x) : RdS w (fun i => F i ∨ i = b) (.slice (some ⟨b, 0, none⟩) 1 1) [x] := by
  refine ⟨⟨_, 1, rfl, by simp, fun _ => ⟨b, 0, rfl⟩⟩, fun _ => .inr rfl, by simpa using hb1, fun i hi => ?_⟩
  have : i = 0 := by simpa using hi
  subst this
  refine ⟨c.toList, ?_, Rep.mono hx (fun b hb _ => ⟨rfl, .inl hb⟩)⟩
  simp only [sb, so, Nat.zero_mul, Nat.add_zero]
  exact CellsAt.all hb
/-- append(a, x): x lies in a block of its own. -/
theorem ov_append1B {t T : TypeId} {bytes lo b : Nat} {s x : Operand} {v : Value} {l : List α} {x1 : α} {c : Array Value} {F F' G : Nat → Prop} (E : Elem P t T (Rep.k α) bytes) (hs : ev σ s = v) (ho : OwnS T lo w F v l) (hx : ev σ x = .slice (some ⟨b, 0, none⟩) 1 1)
    (hbk : w.heap[b]? = some (.cells c T)) (h2 : Rep.rd w G c.toList x1)
    (hF : ∀ b, F b → F' b) (hG : ∀ b, b < w.heap.size → G b → F' b) (hrow : ∀ b, v.ownBlock = some b → ¬ F' b) (hB : ∀ b, F' b → b < w.heap.size ∧ (lo ≤ b → Soft w b)) (hlo : lo ≤ w.heap.size) (hb : (l.length + 1) * bytes ≤ 140737488355328) (hby0 : bytes = Rep.bytes α)
    (h : ∀ v' w', OwnS T lo w' F' v' (l ++ [x1]) → Chg (fun b => v.ownBlock = some b) w w' → (v'.ownBlock = v.ownBlock ∨ ∀ g, v'.ownBlock = some g → w.heap.size ≤ g) → K v' w') : opV P ⟨d, .call ⟨.builtin .append, #[s, x], #[t, t]⟩, ty, pos, af, gd⟩ σ w K := by
  obtain ⟨i, z, hi, hz, hsize, hby, hzs⟩ := E.info
  have hsmall := small_lt (α := α) (by rw [← hby0]; exact hb)
  have ho' := ho.weak hF hrow hB
  obtain ⟨css, hE, hown⟩ := ho'.css
  have h2' : Rep.rd w F' c.toList x1 := Rep.mono h2 (fun b hb hlt => ⟨rfl, hG b hlt hb⟩)
  have hE2 : Els w F' [c.toList] [x1] := ⟨h2', trivial⟩
  have ha : ∀ j u, [c.toList].flatten[j]? = some u → w.cell? ((⟨b, 0, none⟩ : Addr).add j) = some u := by
    intro j u hu
    rw [Addr.add_lit, Nat.zero_add]
    exact blk_cell hbk (by simpa using hu)
  have hl := hE2.flat
  obtain ⟨v', w', hr, hown', hg, hrow', hsoft, hdrawn⟩ := run_append_row (P := P) w lo t ty T i z (Rep.k α) bytes E.und hi hz hsize hby hzs Rep.kpos v l.length css.flatten hown ⟨b, 0, none⟩ 1 1 [c.toList].flatten hl ha hE2.one (by unfold maxLen; omega) hb hlo
  refine ov_run (run_append_call hs hx hr) (h v' w' ?_ ?_ hrow')
  · have hmono : ∀ b, F' b → b < w.heap.size → w'.heap[b]? = w.heap[b]? ∧ F' b := fun b hb hlt => ⟨hg.block b hlt (fun e => hrow b e.symm hb), hb⟩
    refine ⟨⟨css ++ [c.toList], (hE.mono hmono).append (hE2.mono hmono), ?_⟩, fun b hb => ?_, fun b hb => ⟨Nat.lt_of_lt_of_le (hB b hb).1 hg.size, fun hl => hsoft b ((hB b hb).2 hl)⟩, by subst hby0; simpa using hb⟩
    · rw [List.flatten_append, List.length_append]; exact hown'
    · rcases hrow' with h' | h'
      · rw [h'] at hb; exact hrow b hb
      · intro hf; have := h' b hb; have := (hB b hf).1; omega
  · exact ⟨hg.os, hg.tape, hg.output, hg.size, fun b hlt hne => hg.block b hlt (fun e => hne e.symm), hsoft, hdrawn⟩

theorem ov_append1 {t T : TypeId} {bytes lo b : Nat} {s x : Operand} {v : Value} {l : List α} {x1 : α} {c : Array Value} {F F' G : Nat → Prop} (E : Elem P t T (Rep.k α) bytes) (hs : ev σ s = v) (ho : OwnS T lo w F v l) (hx : ev σ x = .slice (some ⟨b, 0, none⟩) 1 1)
    (hbk : w.heap[b]? = some (.cells c T)) (h2 : Rep.rd w G c.toList x1)
    (hF : ∀ b, F b → F' b) (hG : ∀ b, b < w.heap.size → G b → F' b) (hrow : ∀ b, v.ownBlock = some b → ¬ F' b) (hB : ∀ b, F' b → b < w.heap.size ∧ (lo ≤ b → Soft w b)) (hlo : lo ≤ w.heap.size) (hb : (l.length + 1) * bytes ≤ 140737488355328) (hby0 : bytes = Rep.bytes α)
    (h : ∀ v' w', OwnS T lo w' F' v' (l ++ [x1]) → Chg (fun b => v.ownBlock = some b) w w' → K v' w') : opV P ⟨d, .call ⟨.builtin .append, #[s, x], #[t, t]⟩, ty, pos, af, gd⟩ σ w K :=
  ov_append1B E hs ho hx hbk h2 hF hG hrow hB hlo hb hby0 (fun v' w' a b _ => h v' w' a b)

theorem Els.set {F : Nat → Prop} : ∀ {css : List (List Value)} {l : List α}, Els w F css l → ∀ (i : Nat) {cs : List Value} {x : α}, Rep.rd w F cs x → Els w F (css.set i cs) (l.set i x)
  | [], [], _, _, _, _, _ => trivial
  | _ :: _, _ :: _, h, 0, _, _, hx => ⟨hx, h.2⟩
  | _ :: _, _ :: _, h, _ + 1, _, _, hx => ⟨h.1, Els.set h.2 _ hx⟩
  | [], _ :: _, h, _, _, _, _ => h.elim
  | _ :: _, [], h, _, _, _, _ => h.elim
theorem Els.setFlat {F : Nat → Prop} : ∀ {css : List (List Value)} {l : List α}, Els w F css l → ∀ (i : Nat) (_ : i < l.length) {cs : List Value}, cs.length = Rep.k α →
    (css.set i cs).flatten = css.flatten.take (i * Rep.k α) ++ cs ++ css.flatten.drop (i * Rep.k α + Rep.k α)
  | [], [], _, i, hi, _, _ => absurd hi (Nat.not_lt_zero i)
  | c :: css, x :: l, h, 0, _, cs, hcs => by
    have hl := Rep.len h.1
    simp only [List.set_cons_zero, List.flatten_cons, Nat.zero_mul, List.take_zero, List.nil_append, Nat.zero_add]
    rw [← hl, List.drop_left]
  | c :: css, x :: l, h, i + 1, hi, cs, hcs => by
    have hl := Rep.len h.1
    have ih := Els.setFlat h.2 i (by simpa using hi) hcs
    have e1 : (i + 1) * Rep.k α = c.length + i * Rep.k α := by rw [hl, Nat.add_mul]; omega
    have e2 : (i + 1) * Rep.k α + Rep.k α = c.length + (i * Rep.k α + Rep.k α) := by rw [e1]; omega
    rw [List.set_cons_succ, List.flatten_cons, List.flatten_cons, ih, e2, e1, List.take_length_add_append, List.drop_length_add_append]
    simp only [List.append_assoc]
  | [], _ :: _, h, _, _, _, _ => h.elim
  | _ :: _, [], h, _, _, _, _ => h.elim

/-- v[i] = x, v a slice of the function's own. -/
theorem ov_storeOwn {t T : TypeId} {lo i : Nat} {x y : Operand} {v u : Value} {l : List α} {F : Nat → Prop} {x1 : α} {cs : List Value} (hS : ∀ w, (sizeOf t).run P w = .ok (Rep.k α) w) (ho : OwnS T lo w F v l) (hi : i < l.length)
    (hx : ev σ x = .pointer (some ⟨sb v, so v + i * Rep.k α, none⟩)) (hy : ev σ y = u) (hu : u.cells.toList = cs) (hr : Rep.rd w F cs x1)
    (h : ∀ w1, OwnS T lo w1 F v (l.set i x1) → Chg (fun b => v.ownBlock = some b) w w1 → K undef w1) : opV P ⟨d, .store t x y, ty, pos, af, gd⟩ σ w K := by
  obtain ⟨css, hE, hown⟩ := ho.css
  rcases hown.2 with ⟨rfl, h0⟩ | ⟨g, cap, cur, rfl, hg, hb, hn, hm, hs, ht⟩
  · omega
  · have hlen := Rep.len hr
    have hcl : css.flatten.length = l.length * Rep.k α := hE.flat
    have hle : i * Rep.k α + Rep.k α ≤ l.length * Rep.k α := by rw [← Nat.succ_mul]; exact Nat.mul_le_mul_right _ hi
    have hle2 : l.length * Rep.k α ≤ cap * Rep.k α := Nat.mul_le_mul_right _ hn
    have hx' : ev σ x = .pointer (some ⟨g, i * Rep.k α, none⟩) := by rw [hx]; simp [sb, so]
    refine ov_store (v := u) (c := cur) (T := T) (by intro w; rw [hS, ← hlen, ← hu]; simp) hx' hy hb (by rw [hu]; exact Rep.one hr) (by rw [hu, hlen, hs]; omega) rfl (fun w1 hp => ?_)
    have hmono : ∀ b, F b → b < w.heap.size → w1.heap[b]? = w.heap[b]? ∧ F b := fun b' hb' hlt => ⟨hp.chg.block b' hlt (fun e => ho.apart b' (by rw [e]; rfl) hb'), hb'⟩
    have hgo : (fun b => (Value.slice (some ⟨g, 0, none⟩) l.length cap).ownBlock = some b) = fun b => b = g := by funext b; simp [Value.ownBlock, eq_comm]
    refine h w1 ⟨⟨css.set i cs, (hE.set i hr).mono hmono, ?_⟩, ho.apart, fun b hb => ⟨Nat.lt_of_lt_of_le (ho.bound b hb).1 hp.chg.size, fun hl => hp.chg.soft b ((ho.bound b hb).2 hl)⟩, by simpa using ho.small⟩ (by rw [hgo]; exact hp.chg)
    have hfl := hE.setFlat i hi hlen
    have hlen2 : (css.set i cs).flatten.length = l.length * Rep.k α := by
      have := (hE.set i hr).flat; simpa using this
    refine ⟨by rw [List.length_set]; exact hlen2, .inr ⟨g, cap, _, by rw [List.length_set], hg, hp.at_, by rw [List.length_set]; exact hn, hm, ?_, ?_⟩⟩
    · simp only [putAt, hu, List.size_toArray, List.length_append, List.length_take, List.length_drop, Array.length_toList, hlen]
      rw [hs]; omega
    · rw [List.length_set, hfl]
      simp only [putAt, hu, hlen]
      have hcs : cur.toList.length = cap * Rep.k α := by simpa using hs
      have e1 : css.flatten.take (i * Rep.k α) = cur.toList.take (i * Rep.k α) := by rw [← ht, List.take_take, Nat.min_eq_left (by omega)]
      have e2 : css.flatten.drop (i * Rep.k α + Rep.k α) = (cur.toList.drop (i * Rep.k α + Rep.k α)).take (l.length * Rep.k α - (i * Rep.k α + Rep.k α)) := by rw [← ht, List.drop_take]
      have hA : (cur.toList.take (i * Rep.k α) ++ cs).length = i * Rep.k α + Rep.k α := by rw [List.length_append, List.length_take, hlen, hcs]; omega
      rw [e1, e2, List.take_append, hA, List.take_of_length_le (by rw [hA]; exact hle)]
end
end
end Go.Proofs.Ytgjgmojjeehieaa
