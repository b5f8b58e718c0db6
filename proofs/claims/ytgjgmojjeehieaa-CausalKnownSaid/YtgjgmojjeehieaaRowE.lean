/- Rows of one's own, whose elements are shared, or own too. -/
import Derived.Test.YtgjgmojjeehieaaSep
set_option linter.unusedSimpArgs false
set_option linter.unusedVariables false
namespace Go.Proofs.Ytgjgmojjeehieaa
open Go.RowKit

theorem Soft.keep {w w' : World} {b : Nat} (h : Soft w b) (e : w'.heap[b]? = w.heap[b]?) : Soft w' b := by obtain ⟨c, T, hc⟩ := h; exact ⟨c, T, e.trans hc⟩
/-- Where elements' memory lies. -/
structure Src (α : Type) [Rep α] where
  el : List Value → α → HP
  len : ∀ {w f cs x}, (el cs x).p w f → cs.length = Rep.k α
  one : ∀ {w f cs x}, (el cs x).p w f → ∀ u ∈ cs, u.oneCell' = true
def shr {α : Type} [Rep α] (G : Nat → Prop) (W : World) : Src α := ⟨fun cs x => ⟨fun _ _ => Rep.rd W G cs x, fun h _ => h⟩, fun h => Rep.len h, fun h => Rep.one h⟩
def own {α : Type} [Rep α] : Src α :=
  ⟨fun cs x => ⟨fun w f => Rep.rd w (fun b => f b ∧ Soft w b) cs x, fun h hf => Rep.mono h (fun b hb hlt => ⟨(hf b hb.1 hlt).1, (hf b hb.1 hlt).2, hb.2.keep (hf b hb.1 hlt).1⟩)⟩, fun h => Rep.len h, fun h => Rep.one h⟩
/-- Data without memory of its own. -/
class Flat (α : Type) [Rep α] : Prop where
  flat : ∀ {w w' : World} {F F' : Nat → Prop} {cs : List Value} {x : α}, Rep.rd w F cs x → Rep.rd w' F' cs x
instance : Flat Int := ⟨fun h => h⟩
instance : Flat Bool := ⟨fun h => h⟩
instance : Flat (Int × Int) := ⟨fun h => h⟩
theorem own_flat {α : Type} [Rep α] [Flat α] {w w' : World} {F f : Nat → Prop} {cs : List Value} {x : α} (h : Rep.rd w F cs x) : ((own (α := α)).el cs x).p w' f := Flat.flat h

section
variable {α : Type}
def EP (q : List Value → α → Prop) : List (List Value) → List α → Prop
  | [], [] => True
  | cs :: css, x :: l => q cs x ∧ EP q css l
  | _, _ => False
theorem EP.mono {q q' : List Value → α → Prop} (hq : ∀ cs x, q cs x → q' cs x) : ∀ {css : List (List Value)} {l : List α}, EP q css l → EP q' css l
  | [], [], _ => trivial
  | _ :: _, _ :: _, h => ⟨hq _ _ h.1, EP.mono hq h.2⟩
  | [], _ :: _, h => h.elim
  | _ :: _, [], h => h.elim
theorem EP.append {q : List Value → α → Prop} : ∀ {css css2 : List (List Value)} {l l2 : List α}, EP q css l → EP q css2 l2 → EP q (css ++ css2) (l ++ l2)
  | [], _, [], _, _, h2 => h2
  | _ :: _, _, _ :: _, _, h, h2 => ⟨h.1, EP.append h.2 h2⟩
  | [], _, _ :: _, _, h, _ => h.elim
  | _ :: _, _, [], _, h, _ => h.elim
theorem EP.one {q : List Value → α → Prop} (hq : ∀ cs x, q cs x → ∀ u ∈ cs, u.oneCell' = true) : ∀ {css : List (List Value)} {l : List α}, EP q css l → ∀ u ∈ css.flatten, u.oneCell' = true
  | [], [], _ => by simp
  | _ :: _, _ :: _, h => by
    intro u hu
    simp only [List.flatten_cons, List.mem_append] at hu
    rcases hu with hu | hu
    · exact hq _ _ h.1 u hu
    · exact EP.one hq h.2 u hu
  | [], _ :: _, h => h.elim
  | _ :: _, [], h => h.elim
theorem EP.set {q : List Value → α → Prop} : ∀ {css : List (List Value)} {l : List α}, EP q css l → ∀ (i : Nat) {cs : List Value} {x : α}, q cs x → EP q (css.set i cs) (l.set i x)
  | [], [], _, _, _, _, _ => trivial
  | _ :: _, _ :: _, h, 0, _, _, hx => ⟨hx, h.2⟩
  | _ :: _, _ :: _, h, _ + 1, _, _, hx => ⟨h.1, EP.set h.2 _ hx⟩
  | [], _ :: _, h, _, _, _, _ => h.elim
  | _ :: _, [], h, _, _, _, _ => h.elim
theorem EP.take {q : List Value → α → Prop} (n : Nat) : ∀ {css : List (List Value)} {l : List α}, EP q css l → EP q (css.take n) (l.take n) := by
  induction n with
  | zero => intro css l _; exact trivial
  | succ n ih =>
    intro css l h
    match css, l, h with
    | [], [], _ => exact trivial
    | _ :: _, _ :: _, h => exact ⟨h.1, ih h.2⟩
theorem EP.length {q : List Value → α → Prop} : ∀ {css : List (List Value)} {l : List α}, EP q css l → css.length = l.length
  | [], [], _ => rfl
  | _ :: _, _ :: _, h => congrArg (· + 1) (EP.length h.2)
  | [], _ :: _, h => h.elim
  | _ :: _, [], h => h.elim

end
section
variable {α : Type} [Rep α]
theorem EP.els {w : World} {F : Nat → Prop} : ∀ {css : List (List Value)} {l : List α}, EP (Rep.rd w F) css l → Els w F css l
  | [], [], _ => trivial
  | _ :: _, _ :: _, h => ⟨h.1, EP.els h.2⟩
  | [], _ :: _, h => h.elim
  | _ :: _, [], h => h.elim
theorem Els.ep {w : World} {F : Nat → Prop} : ∀ {css : List (List Value)} {l : List α}, Els w F css l → EP (Rep.rd w F) css l
  | [], [], _ => trivial
  | _ :: _, _ :: _, h => ⟨h.1, Els.ep h.2⟩
  | [], _ :: _, h => h.elim
  | _ :: _, [], h => h.elim
theorem EP.flat {q : List Value → α → Prop} (hl : ∀ cs x, q cs x → cs.length = Rep.k α) : ∀ {css : List (List Value)} {l : List α}, EP q css l → css.flatten.length = l.length * Rep.k α
  | [], [], _ => by simp
  | _ :: _, _ :: _, h => by simp only [List.flatten_cons, List.length_append, List.length_cons, EP.flat hl h.2, hl _ _ h.1]; rw [Nat.add_mul]; omega
  | [], _ :: _, h => h.elim
  | _ :: _, [], h => h.elim
theorem EP.at_ {q : List Value → α → Prop} (hl : ∀ cs x, q cs x → cs.length = Rep.k α) : ∀ {css : List (List Value)} {l : List α}, EP q css l → ∀ i (h : i < l.length), ∃ cs, css[i]? = some cs ∧ q cs l[i] ∧ ∀ j (hj : j < cs.length), css.flatten[i * Rep.k α + j]? = some cs[j]
  | [], [], _, i, h => absurd h (Nat.not_lt_zero i)
  | cs :: css, x :: l, h, 0, _ => ⟨cs, rfl, h.1, fun j hj => by simp [List.getElem?_append, hj]⟩
  | cs :: css, x :: l, h, i + 1, hi => by
    obtain ⟨c, h0, h1, h2⟩ := EP.at_ hl h.2 i (by simpa using hi)
    refine ⟨c, by simpa using h0, by simpa using h1, fun j hj => ?_⟩
    have hl := hl _ _ h.1
    rw [List.flatten_cons, List.getElem?_append_right (by rw [hl, Nat.add_mul]; omega), hl, show (i + 1) * Rep.k α + j - Rep.k α = i * Rep.k α + j by rw [Nat.add_mul]; omega]
    exact h2 j hj
  | [], _ :: _, h, _, _ => h.elim
  | _ :: _, [], h, _, _ => h.elim
theorem EP.setFlat {q : List Value → α → Prop} (hl : ∀ cs x, q cs x → cs.length = Rep.k α) : ∀ {css : List (List Value)} {l : List α}, EP q css l → ∀ (i : Nat) (_ : i < l.length) {cs : List Value}, cs.length = Rep.k α →
    (css.set i cs).flatten = css.flatten.take (i * Rep.k α) ++ cs ++ css.flatten.drop (i * Rep.k α + Rep.k α)
  | [], [], _, i, hi, _, _ => absurd hi (Nat.not_lt_zero i)
  | c :: css, x :: l, h, 0, _, cs, hcs => by
    have hl := hl _ _ h.1
    simp only [List.set_cons_zero, List.flatten_cons, Nat.zero_mul, List.take_zero, List.nil_append, Nat.zero_add]
    rw [← hl, List.drop_left]
  | c :: css, x :: l, h, i + 1, hi, cs, hcs => by
    have ih := EP.setFlat hl h.2 i (by simpa using hi) hcs
    have hl := hl _ _ h.1
    have e1 : (i + 1) * Rep.k α = c.length + i * Rep.k α := by rw [hl, Nat.add_mul]; omega
    have e2 : (i + 1) * Rep.k α + Rep.k α = c.length + (i * Rep.k α + Rep.k α) := by rw [e1]; omega
    rw [List.set_cons_succ, List.flatten_cons, List.flatten_cons, ih, e2, e1, List.take_length_add_append, List.drop_length_add_append]
    simp only [List.append_assoc]
  | [], _ :: _, h, _, _, _, _ => h.elim
  | _ :: _, [], h, _, _, _, _ => h.elim
theorem ownsRow_keep {w w' : World} {T : TypeId} {k n : Nat} {v : Value} {xs : List Value} (h : w.ownsRow 0 T k v n xs) (hv : ∀ b, v.ownBlock = some b → b < w.heap.size → w'.heap[b]? = w.heap[b]?) : w'.ownsRow 0 T k v n xs := by
  refine ⟨h.1, ?_⟩
  rcases h.2 with hn | ⟨g, cap, cur, rfl, hg, hgg, r⟩
  · exact .inl hn
  · exact .inr ⟨g, cap, cur, rfl, hg, by rw [hv g rfl (blk_lt hgg)]; exact hgg, r⟩

/-- A row of one's own. -/
def RowE (src : Src α) (T : TypeId) (v : Value) (l : List α) : HP where
  p w f := ∃ css, EP (fun cs x => (src.el cs x).p w (fun b => f b ∧ v.ownBlock ≠ some b)) css l ∧ w.ownsRow 0 T (Rep.k α) v l.length css.flatten ∧ (∀ b, v.ownBlock = some b → f b) ∧ l.length * Rep.bytes α ≤ 140737488355328
  loc := by
    rintro w w' f f' ⟨css, h1, h2, h3, h4⟩ hf
    exact ⟨css, h1.mono (fun cs x h => (src.el cs x).loc h (fun b hb hlt => ⟨(hf b hb.1 hlt).1, (hf b hb.1 hlt).2, hb.2⟩)), ownsRow_keep h2 (fun b hb hlt => (hf b (h3 b hb) hlt).1), fun b hb => (hf b (h3 b hb) (h2.lt b hb).2).2, h4⟩

variable {src : Src α} {T : TypeId} {v : Value} {l : List α} {w : World} {f : Nat → Prop}
theorem RowE.nil (src : Src α) (T : TypeId) (w : World) (f : Nat → Prop) : (RowE src T (.slice none 0 0) []).p w f := ⟨[], trivial, World.ownsRow_nil w 0 T _, fun b h => by simp [Value.ownBlock] at h, by simp⟩
theorem RowE.isSl (h : (RowE src T v l).p w f) : IsSl v l.length := by
  obtain ⟨css, h1, h2, _⟩ := h
  rcases h2.2 with ⟨rfl, h0⟩ | ⟨g, cap, cur, rfl, _, _, hn, _⟩
  · exact ⟨none, 0, by rw [h0], by omega, fun h => by omega⟩
  · exact ⟨_, cap, rfl, hn, fun _ => ⟨g, 0, rfl⟩⟩
theorem RowE.small (h : (RowE src T v l).p w f) : l.length * Rep.bytes α ≤ 140737488355328 := by obtain ⟨css, _, _, _, h⟩ := h; exact h
theorem RowE.elem (h : (RowE src T v l).p w f) {i : Nat} (hi : i < l.length) : ∃ cs, CellsAt w (sb v) (so v + i * Rep.k α) cs ∧ (src.el cs l[i]).p w f := by
  obtain ⟨css, h1, h2, h3, h4⟩ := h
  rcases h2.2 with ⟨rfl, h0⟩ | ⟨g, cap, cur, rfl, hg, hb, hn, hm, hs, ht⟩
  · omega
  · obtain ⟨cs, _, hr, hc⟩ := h1.at_ (fun cs x h => src.len h) i hi
    refine ⟨cs, ?_, (src.el cs _).weak hr (fun b hb _ => hb.1)⟩
    intro j hj
    have h3 := hc j hj
    rw [← ht, List.getElem?_take] at h3
    split at h3
    · show w.cell? ⟨g, 0 + i * Rep.k α + j, none⟩ = _
      rw [Nat.zero_add]
      exact blk_cell hb (by simpa using h3)
    · cases h3
theorem RowE.rdG {F : Nat → Prop} (h : (RowE src T v l).p w f) (hf : ∀ b, f b → F b) (hr : ∀ cs x, (src.el cs x).p w f → Rep.rd w F cs x) : RdS w F v l := by
  refine ⟨RowE.isSl h, fun hne => ?_, RowE.small h, fun i hi => ?_⟩
  · obtain ⟨css, h1, h2, h3, h4⟩ := h
    rcases h2.2 with ⟨rfl, h0⟩ | ⟨g, cap, cur, rfl, _⟩
    · exact (hne (List.length_eq_zero_iff.1 h0)).elim
    · exact hf _ (h3 g rfl)
  · obtain ⟨cs, hc, he⟩ := RowE.elem h hi
    exact ⟨cs, hc, hr cs _ he⟩
/-- Read: a row whose elements are own too; one whose elements are shared. -/
theorem RowE.rd (h : (RowE own T v l).p w f) : RdS w f v l := RowE.rdG h (fun _ h => h) (fun cs x h => Rep.mono h (fun b hb _ => ⟨rfl, hb.1⟩))
theorem RowE.rdB {G : Nat → Prop} {W : World} (h : (RowE (shr G W) T v l).p w f) (hb : Base G W f w) : RdS w f v l := RowE.rdG h (fun _ h => h) (fun cs x h => Rep.mono h hb)
theorem RowE.soft (h : (RowE own T v l).p w f) : RdS w (fun b => f b ∧ Soft w b) v l := by
  have h' : (RowE own T v l).p w (fun b => f b ∧ Soft w b) := by
    obtain ⟨css, h1, h2, h3, h4⟩ := h
    refine ⟨css, h1.mono (fun cs x h => Rep.mono h (fun b hb _ => ⟨rfl, ⟨⟨hb.1.1, hb.2⟩, hb.1.2⟩, hb.2⟩)), h2, fun b hb => ⟨h3 b hb, ?_⟩, h4⟩
    rcases h2.2 with ⟨rfl, h0⟩ | ⟨g, cap, cur, rfl, hg, hbk, _⟩
    · simp [Value.ownBlock] at hb
    · simp only [Value.ownBlock, Option.some.injEq] at hb; subst hb; exact ⟨cur, T, hbk⟩
  exact RowE.rd h'
theorem RowE.rebase {G G' : Nat → Prop} {W W' : World} (h : (RowE (shr G W) T v l).p w f) (hb : Base G W G' W') : (RowE (shr G' W') T v l).p w f := by
  obtain ⟨css, h1, h2, h3, h4⟩ := h
  exact ⟨css, h1.mono (fun cs x h => Rep.mono h hb), h2, h3, h4⟩
theorem RowE.ofFresh {lo : Nat} (h : Fresh T lo w v l) : (RowE own T v l).p w (fun b => lo ≤ b) := by
  obtain ⟨F, ⟨⟨css, h1, h2⟩, ha, hB, hs⟩, hF⟩ := h
  exact ⟨css, h1.ep.mono (fun cs x h => Rep.mono h (fun b hb _ => ⟨rfl, ⟨hF b hb, fun e => ha b e hb⟩, (hB b hb).2 (hF b hb)⟩)), ownsRow_low h2 (Nat.zero_le _), fun b hb => (h2.lt b hb).1, hs⟩
theorem RowE.toOwn (h : (RowE own T v l).p w f) : OwnS T 0 w (fun b => (f b ∧ v.ownBlock ≠ some b) ∧ Soft w b) v l := by
  obtain ⟨css, h1, h2, h3, h4⟩ := h
  exact ⟨⟨css, EP.els h1, h2⟩, fun b hb hf => hf.1.2 hb, fun b hb => ⟨by obtain ⟨c, t, hc⟩ := hb.2; exact blk_lt hc, fun _ => hb.2⟩, h4⟩
theorem RowE.ofOwn {lo : Nat} {F : Nat → Prop} (h : OwnS T lo w F v l) (hF : ∀ b, F b → f b ∧ Soft w b) (hv : ∀ b, v.ownBlock = some b → f b) : (RowE own T v l).p w f := by
  obtain ⟨⟨css, h1, h2⟩, ha, hB, hs⟩ := h
  exact ⟨css, h1.ep.mono (fun cs x h => Rep.mono h (fun b hb _ => ⟨rfl, ⟨(hF b hb).1, fun e => ha b e hb⟩, (hF b hb).2⟩)), ownsRow_low h2 (Nat.zero_le _), hv, hs⟩

variable {G : Nat → Prop} {W w' : World} {As : List HP}
theorem Sep.rowNil (h : Sep G W As w) (src : Src α) (T : TypeId) : Sep G W (RowE src T (.slice none 0 0) [] :: As) w := h.push (Chg.refl _ _) (f := fun _ => False) (RowE.nil _ _ _ _) (fun _ h => h.elim)
theorem Sep.row (h : Sep G W As w) {i : Nat} (hi : As[i]? = some (RowE src T v l)) : IsSl v l.length ∧ l.length * Rep.bytes α ≤ 140737488355328 := by
  obtain ⟨f, h1, _⟩ := h.get hi; exact ⟨RowE.isSl h1, RowE.small h1⟩
theorem Sep.rowAt (h : Sep G W As w) {i j : Nat} (hi : As[i]? = some (RowE src T v l)) (hj : j < l.length) : ∃ cs f, CellsAt w (sb v) (so v + j * Rep.k α) cs ∧ (src.el cs l[j]).p w f := by
  obtain ⟨f, h1, _⟩ := h.get hi
  obtain ⟨cs, h2, h3⟩ := RowE.elem h1 hj
  exact ⟨cs, f, h2, h3⟩
theorem Sep.rebase {G' : Nat → Prop} {W' : World} (h : Sep G W As w) {i : Nat} {G0 : Nat → Prop} {W0 : World} (hi : As[i]? = some (RowE (α := α) (shr G0 W0) T v l)) (hb : Base G0 W0 G' W') : Sep G W (As.set i (RowE (shr G' W') T v l)) w := h.impl hi (fun _ h => RowE.rebase h hb)
theorem Sep.made (h : Sep G W As w) (hx : Ext w w') (ho : OwnS T w.heap.size w' (fun _ => False) v l) : Sep G W (RowE own T v l :: As) w' :=
  h.push hx (f := fun b => w.heap.size ≤ b) (RowE.ofOwn ho (fun _ h => h.elim) (fun b hb => (ho.lt b hb).1)) (fun _ h => h)
/-- A block becomes a row. -/
theorem Sep.blkRow {b : Nat} {c : Array Value} (h : Sep G W (Blk b c T :: As) w) {css : List (List Value)} (hc : css.flatten = c.toList) (hE : EP (fun cs x => ∀ w f, (src.el cs x).p w f) css l) (hs : l.length * Rep.bytes α ≤ 140737488355328) (hm : l.length ≤ maxLen := by decide) :
    Sep G W (RowE src T (.slice (some ⟨b, 0, none⟩) l.length l.length) l :: As) w := by
  refine h.impl (i := 0) rfl (fun f hA => ⟨css, hE.mono (fun cs x h => h _ _), ?_, fun b' hb' => ?_, hs⟩)
  · have hl := hE.flat (fun cs x h => src.len (h w f))
    refine ⟨hl, .inr ⟨b, l.length, c, rfl, Nat.zero_le _, hA.1, Nat.le_refl _, hm, ?_, ?_⟩⟩
    · rw [← hl, hc]; simp
    · rw [← hl, hc]; exact List.take_of_length_le (Nat.le_refl _)
  · simp only [Value.ownBlock, Option.some.injEq] at hb'; subst hb'; exact hA.2
end

section
variable {P : Program} {d : Option Tmp} {ty : TypeId} {pos : String} {af : Array Edge} {gd : Option (Nat × Bool)} {σ : Env} {w : World} {K : Value → World → Prop}
/-- append, of cells, to a row. -/
theorem ov_appendRow {t T : TypeId} {k bytes n m c : Nat} {s x : Operand} {v : Value} {a : Addr} {xs news : List Value} (E : Elem P t T k bytes) (hk : 0 < k) (hs : ev σ s = v) (hown : w.ownsRow 0 T k v n xs) (hx : ev σ x = .slice (some a) m c)
    (hl : news.length = m * k) (ha : ∀ j u, news[j]? = some u → w.cell? (a.add j) = some u) (h1 : ∀ u ∈ news, u.oneCell' = true) (hb : (n + m) * bytes ≤ 140737488355328) (hm : n + m ≤ maxLen)
    (h : ∀ v' w', w'.ownsRow 0 T k v' (n + m) (xs ++ news) → Chg (fun b => v.ownBlock = some b) w w' → (v'.ownBlock = v.ownBlock ∨ ∀ g, v'.ownBlock = some g → w.heap.size ≤ g) → K v' w') : opV P ⟨d, .call ⟨.builtin .append, #[s, x], #[t, t]⟩, ty, pos, af, gd⟩ σ w K := by
  obtain ⟨i, z, hi, hz, hsize, hby, hzs⟩ := E.info
  obtain ⟨v', w', hr, hown', hg, hrow', hsoft, hdrawn⟩ := run_append_row (P := P) w 0 t ty T i z k bytes E.und hi hz hsize hby hzs hk v n xs hown a m c news hl ha h1 hm hb (Nat.zero_le _)
  exact ov_run (run_append_call hs hx hr) (h v' w' hown' ⟨hg.os, hg.tape, hg.output, hg.size, fun b hlt hne => hg.block b hlt (fun e => hne e.symm), hsoft, hdrawn⟩ hrow')

variable {α : Type} [Rep α] {src : Src α} {T : TypeId} {v : Value} {l : List α} {G : Nat → Prop} {W : World} {As : List HP} {N : HP}
theorem ownsRow_unique {w : World} {T : TypeId} {k n : Nat} {v : Value} {xs ys : List Value} (h : w.ownsRow 0 T k v n xs) (h2 : w.ownsRow 0 T k v n ys) : xs = ys := by
  rcases h.2 with ⟨rfl, h0⟩ | ⟨g, cap, cur, rfl, hg, hb, hn, hm, hs, ht⟩
  · have e1 := h.1; have e2 := h2.1
    rw [h0, Nat.zero_mul] at e1 e2
    rw [List.length_eq_zero_iff.1 e1, List.length_eq_zero_iff.1 e2]
  · rcases h2.2 with ⟨h3, _⟩ | ⟨g', cap', cur', he, hg', hb', hn', hm', hs', ht'⟩
    · cases h3
    · cases he
      rw [hb] at hb'
      cases hb'
      rw [← ht, ← ht']
/-- append(s, x): the element's memory N goes with it. -/
theorem ov_append1S {t : TypeId} {bytes b : Nat} {s x : Operand} {c : Array Value} {x1 : α} {T' : TypeId} (h : Sep G W (RowE src T v l :: N :: As) w) (E : Elem P t T (Rep.k α) bytes) (hs : ev σ s = v) (hx : ev σ x = .slice (some ⟨b, 0, none⟩) 1 1)
    (hbk : w.heap[b]? = some (.cells c T')) (hN : ∀ w f, N.p w f → (src.el c.toList x1).p w f) (hb : (l.length + 1) * bytes ≤ 140737488355328) (hby0 : bytes = Rep.bytes α)
    (hK : ∀ v' w', Sep G W (RowE src T v' (l ++ [x1]) :: As) w' → K v' w') : opV P ⟨d, .call ⟨.builtin .append, #[s, x], #[t, t]⟩, ty, pos, af, gd⟩ σ w K := by
  subst hby0
  have hst := h.closeStar (Bs := [RowE src T v l, N])
  obtain ⟨f0, hf0, hl0⟩ := hst.get (i := 0) rfl
  obtain ⟨fs, q1, q2⟩ := hf0
  obtain ⟨⟨css, hE, hown, hrow, hsm⟩, _⟩ := q1 0 _ rfl
  obtain ⟨hNp, _⟩ := q1 1 _ rfl
  have hc := src.len (hN _ _ hNp)
  have h1 := src.one (hN _ _ hNp)
  have hlen := small_lt (α := α) hb
  refine ov_appendRow E Rep.kpos hs hown hx (by rw [Nat.one_mul]; exact hc) (fun j u hu => by rw [addr_add, Nat.zero_add]; exact blk_cell hbk (by simpa using hu)) h1 hb (by unfold maxLen; omega) (fun v' w' hown' hchg hv' => hK v' w' ?_)
  have := hst.upd (i := 0) (w' := w') (B := RowE src T v' (l ++ [x1])) rfl (fun f hA hl => ?_)
  · exact this
  obtain ⟨gs, r1, r2⟩ := hA
  obtain ⟨⟨css, hE, hown2, hrow, hsm⟩, hf0⟩ := r1 0 _ rfl
  obtain ⟨hNp, hf1⟩ := r1 1 _ rfl
  have r2' := r2 0 1 (by simp) (by simp) (by simp)
  refine ⟨hchg.weak (fun b _ hb => (hf0 b (hrow b hb)).1), fun b => f b ∨ w.heap.size ≤ b, ?_, fun b hb => hb⟩
  have hcss : css.flatten = _ := rfl
  have nb : ∀ b, (gs 0 b ∧ v.ownBlock ≠ some b) ∨ gs 1 b → b < w.heap.size → w'.heap[b]? = w.heap[b]? := fun b hb hlt => hchg.block b hlt (fun e => by
    rcases hb with hb | hb
    · exact hb.2 e
    · exact r2' b (hrow b e) hb)
  have nv : ∀ b, (gs 0 b ∧ v.ownBlock ≠ some b) ∨ gs 1 b → v'.ownBlock ≠ some b := fun b hb e => by
    rcases hv' with h3 | h3
    · rw [h3] at e
      rcases hb with hb | hb
      · exact hb.2 e
      · exact r2' b (hrow b e) hb
    · have h4 := h3 b e
      rcases hb with hb | hb
      · have := (hf0 b hb.1).2; omega
      · have := (hf1 b hb).2; omega
  refine ⟨css ++ [c.toList], EP.append (hE.mono (fun cs x h => (src.el cs x).loc h (fun b hb hlt => ⟨nb b (.inl hb) hlt, .inl (hf0 b hb.1).1, nv b (.inl hb)⟩))) ⟨(src.el _ _).loc (hN _ _ hNp) (fun b hb hlt => ⟨nb b (.inr hb) hlt, .inl (hf1 b hb).1, nv b (.inr hb)⟩), trivial⟩, ?_, fun b hb => ?_, by simpa using hb⟩
  · have hw : css.flatten = css.flatten := rfl
    rw [List.length_append, List.flatten_append]
    have hu : w.ownsRow 0 T (Rep.k α) v l.length css.flatten := hown2
    have hxs := ownsRow_unique hown hown2
    rw [← hxs]
    simpa using hown'
  · rcases hv' with h3 | h3
    · rw [h3] at hb; exact .inl (hf0 b (hrow b hb)).1
    · exact .inr (h3 b hb)
end
end Go.Proofs.Ytgjgmojjeehieaa
