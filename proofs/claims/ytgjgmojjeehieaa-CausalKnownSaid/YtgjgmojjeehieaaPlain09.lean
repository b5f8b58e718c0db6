/- Plain laws of sets of events: what is known is there; parts of a set. -/
import Derived.Test.YtgjgmojjeehieaaA17
set_option linter.unusedSimpArgs false
set_option linter.unusedVariables false
namespace Go.Proofs.Ytgjgmojjeehieaa

theorem lt_cmp {a b : Ev} : ltE a b = true ↔ cmpE a b < 0 := by
  rw [cmpE_neg]
  unfold ltE
  by_cases h1 : a.lam = b.lam
  · by_cases h2 : a.origin = b.origin
    · simp [h1, h2]
    · simp [h1, h2]
  · simp [h1]
theorem cmp_trans {a b c : Ev} (h1 : cmpE a b < 0) (h2 : cmpE b c < 0) : cmpE a c < 0 := by rw [cmpE_neg] at *; omega
theorem cmp_asym {a b : Ev} (h1 : cmpE a b < 0) : ¬ cmpE b a < 0 := by rw [cmpE_neg] at *; omega
theorem cmp_total {a b : Ev} (h : idE a ≠ idE b) : cmpE a b < 0 ∨ cmpE b a < 0 := by
  rw [cmpE_neg, cmpE_neg]
  have h' : ¬ (a.origin = b.origin ∧ a.seq = b.seq) := fun e => h (by unfold idE; rw [e.1, e.2])
  omega
theorem cmp_lam {a b : Ev} (h : a.lam < b.lam) : cmpE a b < 0 := by rw [cmpE_neg]; omega

section
variable {n : Nat} {L T : List Ev} {e x y : Ev}
theorem insE_mem : x ∈ insE e L ↔ x = e ∨ x ∈ L := by rw [insE_perm.mem_iff, List.mem_cons]
theorem insE_srt (hs : Srt L) (hn : idE e ∉ L.map idE) : Srt (insE e L) := by
  induction L with
  | nil => exact List.pairwise_singleton _ _
  | cons x l ih =>
    unfold Srt at hs ⊢
    rw [List.pairwise_cons] at hs
    have hne : idE e ≠ idE x := fun h => hn (by rw [h]; exact List.mem_map.2 ⟨x, List.mem_cons_self .., rfl⟩)
    simp only [insE]
    split
    · rename_i hlt
      have h1 := lt_cmp.1 hlt
      rw [List.pairwise_cons, List.pairwise_cons]
      refine ⟨fun y hy => ?_, hs.1, hs.2⟩
      rcases List.mem_cons.1 hy with rfl | hy
      · exact h1
      · exact cmp_trans h1 (hs.1 y hy)
    · rename_i hlt
      rw [List.pairwise_cons]
      refine ⟨fun y hy => ?_, ih hs.2 (fun h => hn (List.mem_cons_of_mem _ h))⟩
      rcases insE_mem.1 hy with rfl | hy
      · rcases cmp_total hne with h | h
        · exact absurd (lt_cmp.2 h) hlt
        · exact h
      · exact hs.1 y hy

/-- A set of events as it may be. -/
structure Good (n : Nat) (L : List Ev) : Prop where
  chk : ∀ e ∈ L, checkE e n = 0
  ids : (L.map idE).Nodup
  srt : Srt L
  knw : ∀ e ∈ L, ∀ o, o < n → knewE L e o = true
  seqle : ∀ e ∈ L, e.seq ≤ ((cntE L e.origin.toNat : Nat) : Int)
  fill : ∀ (o : Nat) (q : Int), 1 ≤ q → q ≤ ((cntE L o : Nat) : Int) → (getE L ((o : Int), q)).isSome = true
theorem Good.nil : Good n [] := by
  refine ⟨fun _ h => by simp at h, List.nodup_nil, List.Pairwise.nil, fun _ h => by simp at h, fun _ h => by simp at h, fun o q h1 h2 => ?_⟩
  have h3 : cntE [] o = 0 := rfl
  omega
theorem Good.nodup (h : Good n L) : L.Nodup := (List.pairwise_map.1 h.ids).imp fun hab e => hab (congrArg idE e)
theorem Good.len (h : Good n L) : ∀ y ∈ L, y.deps.length = n := fun y hy => (check_ok (h.chk y hy)).2.2.1
theorem Good.org (h : Good n L) (hx : x ∈ L) : ((x.origin.toNat : Nat) : Int) = x.origin := by
  have := (check_ok (h.chk x hx)).1.1; omega
theorem Good.uniq (h : Good n L) (hx : x ∈ L) (hy : y ∈ L) (he : idE x = idE y) : x = y := by
  have h1 := getE_self h.ids hx
  have h2 := getE_self h.ids hy
  rw [he, h2] at h1
  exact (Option.some.inj h1).symm
theorem Good.get (h : Good n L) (hx : x ∈ L) : getE L (x.origin, x.seq) = some x := getE_self h.ids hx
theorem getE_some {k : Int × Int} (h : (getE L k).isSome = true) : ∃ x, getE L k = some x ∧ x ∈ L ∧ idE x = k := by
  obtain ⟨x, hx⟩ := Option.isSome_iff_exists.1 h
  obtain ⟨h1, h2, h3⟩ := getE_mem hx
  exact ⟨x, hx, h1, by unfold idE; rw [h2, h3]⟩
theorem knew_iff {o : Nat} : knewE L e o = true ↔ e.deps.getD o 0 = 0 ∨ ∃ x, getE L ((o : Int), e.deps.getD o 0) = some x ∧ x.lam < e.lam ∧ ∀ i, i < x.deps.length → x.deps.getD i 0 ≤ e.deps.getD i 0 := by
  unfold knewE
  by_cases h : e.deps.getD o 0 = 0
  · rw [decide_eq_true h, Bool.true_or]; exact ⟨fun _ => .inl h, fun _ => rfl⟩
  · rw [decide_eq_false h, Bool.false_or]
    constructor
    · intro h1
      cases hg : getE L ((o : Int), e.deps.getD o 0) with
      | none => rw [hg] at h1; cases h1
      | some x =>
        rw [hg] at h1
        simp only [Bool.and_eq_true, decide_eq_true_eq, List.all_eq_true, List.mem_range] at h1
        exact .inr ⟨x, rfl, h1.1, fun i hi => h1.2 i hi⟩
    · rintro (h1 | ⟨x, hg, h1, h2⟩)
      · exact absurd h1 h
      · rw [hg]
        simp only [Bool.and_eq_true, decide_eq_true_eq, List.all_eq_true, List.mem_range]
        exact ⟨h1, fun i hi => h2 i hi⟩
/-- What an event knew of its own replica: the one ahead of it. -/
theorem Good.pred (h : Good n L) (hx : x ∈ L) (h1 : 1 < x.seq) : ∃ z ∈ L, z.origin = x.origin ∧ z.seq = x.seq - 1 ∧ z.lam < x.lam := by
  obtain ⟨⟨ho, ho'⟩, _, _, hd⟩ := check_ok (h.chk x hx)
  have hk := h.knw x hx x.origin.toNat (by omega)
  rw [knew_iff, hd] at hk
  rcases hk with hk | ⟨z, hz, hl, _⟩
  · omega
  · obtain ⟨h2, h3, h4⟩ := getE_mem hz
    exact ⟨z, h2, by rw [h3]; exact h.org hx, h4, hl⟩
theorem Good.order (h : Good n L) : ∀ (k : Nat) {x y : Ev}, x ∈ L → y ∈ L → x.origin = y.origin → y.seq = x.seq + (k : Int) + 1 → x.lam < y.lam
  | k, x, y, hx, hy, ho, hk => by
    have h1 : 1 < y.seq := by have := (check_ok (h.chk x hx)).2.1.1; omega
    obtain ⟨z, hz, hzo, hzs, hzl⟩ := h.pred hy h1
    cases k with
    | zero =>
      have : x = z := h.uniq hx hz (by unfold idE; rw [ho, hzo, hzs]; congr 1; omega)
      rw [this]; exact hzl
    | succ k =>
      have := Good.order h k hx hz (ho.trans hzo.symm) (by rw [hzs, hk]; omega)
      omega
theorem Good.ahead (h : Good n L) (hx : x ∈ L) (hy : y ∈ L) (ho : x.origin = y.origin) (hs : x.seq < y.seq) : cmpE x y < 0 :=
  cmp_lam (h.order (y.seq - x.seq - 1).toNat hx hy ho (by omega))

theorem add_zero (h : addE n L e = 0) : checkE e n = 0 ∧ (getE L (e.origin, e.seq)).isSome = false ∧ e.seq = ((cntE L e.origin.toNat : Nat) : Int) + 1 ∧ ∀ o, o < n → knewE L e o = true := by
  unfold addE at h
  split at h
  · rename_i h1; exact absurd h h1
  · rename_i h1
    split at h
    · cases h
    · rename_i h2
      split at h
      · cases h
      · rename_i h3
        split at h
        · rename_i h4
          refine ⟨by simpa using h1, by simpa using h2, by simpa using h3, fun o ho => ?_⟩
          exact (List.all_eq_true.1 h4) o (List.mem_range.2 ho)
        · cases h
theorem getE_insE {k : Int × Int} (h : (getE L (e.origin, e.seq)).isSome = false) : getE (insE e L) k = if (e.origin, e.seq) = k then some e else getE L k := by
  rw [← getE_ins h]; rfl
theorem Good.add (h : Good n L) (h0 : addE n L e = 0) : Good n (insE e L) := by
  obtain ⟨hc, hg, hs, hk⟩ := add_zero h0
  obtain ⟨⟨ho, ho'⟩, ⟨hs1, _⟩, hdl, hdq⟩ := check_ok hc
  have hid : idE e ∉ L.map idE := fun hm => by
    have := getE_iff.2 hm
    unfold idE at this
    rw [hg] at this; cases this
  have hkn : ∀ {x : Ev} {o : Nat}, knewE L x o = true → knewE (insE e L) x o = true := fun {x o} hx => by
    rw [knew_iff] at hx ⊢
    rcases hx with hx | ⟨z, hz, h1, h2⟩
    · exact .inl hx
    · refine .inr ⟨z, ?_, h1, h2⟩
      rw [getE_insE hg, if_neg, hz]
      intro he
      rw [he, hz] at hg; cases hg
  refine ⟨fun x hx => ?_, ?_, insE_srt h.srt hid, fun x hx o hlt => ?_, fun x hx => ?_, fun o q h1 h2 => ?_⟩
  · rcases insE_mem.1 hx with rfl | hx
    · exact hc
    · exact h.chk x hx
  · have hp : ((insE e L).map idE).Perm (idE e :: L.map idE) := insE_perm.map idE
    exact hp.nodup_iff.2 (List.nodup_cons.2 ⟨hid, h.ids⟩)
  · rcases insE_mem.1 hx with rfl | hx
    · exact hkn (hk o hlt)
    · exact hkn (h.knw x hx o hlt)
  · rw [cnt_ins]
    rcases insE_mem.1 hx with rfl | hx
    · rw [if_pos (by omega)]; omega
    · have := h.seqle x hx; omega
  · rw [cnt_ins] at h2
    rw [getE_insE hg]
    by_cases he : (e.origin, e.seq) = ((o : Int), q)
    · rw [if_pos he]; rfl
    · rw [if_neg he]
      refine h.fill o q h1 ?_
      by_cases hoe : e.origin = (o : Int)
      · rw [if_pos hoe] at h2
        have : e.seq ≠ q := fun hq => he (by rw [hoe, hq])
        have h3 : e.origin.toNat = o := by omega
        rw [h3] at hs
        omega
      · rw [if_neg hoe] at h2; simpa using h2
theorem Good.addL (h : Good n L) : Good n (addL n L e) := by
  unfold Go.Proofs.Ytgjgmojjeehieaa.addL
  split
  · rename_i h0; exact h.add h0
  · exact h
def laidL (n : Nat) (l : List Ev) : List Ev := l.foldl (addL n) []
theorem laidL_snoc {l : List Ev} : laidL n (l ++ [e]) = addL n (laidL n l) e := by unfold laidL; rw [List.foldl_append]; rfl
theorem foldl_good : ∀ {l : List Ev} {L : List Ev}, Good n L → Good n (l.foldl (addL n) L)
  | [], _, h => h
  | _ :: l, _, h => foldl_good (l := l) h.addL
theorem laidL_good {l : List Ev} : Good n (laidL n l) := foldl_good Good.nil
theorem addL_len : (addL n L e).length ≤ L.length + 1 := by
  unfold addL
  split
  · rw [insE_len]; omega
  · omega
theorem foldl_len : ∀ {l : List Ev} {L : List Ev}, (l.foldl (addL n) L).length ≤ L.length + l.length
  | [], _ => Nat.le_refl _
  | x :: l, L => by
    have := foldl_len (l := l) (L := addL n L x)
    have h2 := addL_len (n := n) (L := L) (e := x)
    simp only [List.foldl_cons, List.length_cons]
    omega
theorem laidL_len {l : List Ev} : (laidL n l).length ≤ l.length := by have := foldl_len (n := n) (l := l) (L := []); simpa [laidL] using this

/-- An event of a set can be added to a part of it that has all that stands ahead of the event. -/
theorem Good.sub_add (h : Good n L) (ht : Good n T) (hsub : ∀ x ∈ T, x ∈ L) (he : e ∈ L) (hne : e ∉ T) (hall : ∀ x ∈ L, cmpE x e < 0 → x ∈ T) : addE n T e = 0 := by
  have hc := h.chk e he
  obtain ⟨⟨ho, ho'⟩, ⟨hs1, _⟩, _, _⟩ := check_ok hc
  have hg : (getE T (e.origin, e.seq)).isSome = false := by
    cases hb : (getE T (e.origin, e.seq)).isSome with
    | false => rfl
    | true =>
      obtain ⟨x, _, hx, hid⟩ := getE_some hb
      exact absurd (h.uniq (hsub x hx) he hid ▸ hx) hne
  have horg := h.org he
  have hseq : e.seq = ((cntE T e.origin.toNat : Nat) : Int) + 1 := by
    rcases Int.lt_trichotomy e.seq (((cntE T e.origin.toNat : Nat) : Int) + 1) with h1 | h1 | h1
    · have := ht.fill e.origin.toNat e.seq hs1 (by omega)
      rw [horg, hg] at this; cases this
    · exact h1
    · exfalso
      have h2 := h.seqle e he
      have h3 := h.fill e.origin.toNat (((cntE T e.origin.toNat : Nat) : Int) + 1) (by omega) (by omega)
      obtain ⟨y, _, hy, hid⟩ := getE_some h3
      have hyo : y.origin = e.origin := by have := congrArg Prod.fst hid; simpa [idE, horg] using this
      have hys : y.seq = ((cntE T e.origin.toNat : Nat) : Int) + 1 := congrArg Prod.snd hid
      have hyt := hall y hy (h.ahead hy he hyo (by omega))
      have := ht.seqle y hyt
      rw [hyo] at this
      omega
  refine add_0 hc hg hseq fun o hlt => ?_
  have hk := h.knw e he o hlt
  rw [knew_iff] at hk ⊢
  rcases hk with hk | ⟨x, hx, hl, hd⟩
  · exact .inl hk
  · obtain ⟨hx1, hx2, hx3⟩ := getE_mem hx
    have hxt := hall x hx1 (cmp_lam hl)
    refine .inr ⟨x, ?_, hl, hd⟩
    have := ht.get hxt
    rw [hx2, hx3] at this
    exact this
theorem Good.of_mem (h : Good n L) (ht : Good n T) (hsub : ∀ x, x ∈ T ↔ x ∈ L) : T = L := by
  have hp : T.Perm L := (List.perm_ext_iff_of_nodup ht.nodup h.nodup).2 hsub
  exact pairwise_uniq hp h.srt (ht.srt.imp fun hab => cmp_asym hab)
end
end Go.Proofs.Ytgjgmojjeehieaa
