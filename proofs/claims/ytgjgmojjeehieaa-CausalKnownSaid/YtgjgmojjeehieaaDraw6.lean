/- A region that draws its order: what has effects may stand apart; a stage is told by which of them are done. -/
import Derived.Test.YtgjgmojjeehieaaDraw4
namespace Go.Proofs.Ytgjgmojjeehieaa

section
variable {P : Program} {n : Nat} {Q : Post} {σ : Env} {w : World} {ops : List Oper} {pre : List (List Nat)}

/-- Which of some operations are done, as a number. -/
def maskN : List Nat → (Nat → Bool) → Nat
  | [], _ => 0
  | s :: r, d => (if d s = true then 1 else 0) + 2 * maskN r d
theorem maskN_lt : ∀ (ss : List Nat) (d : Nat → Bool), maskN ss d < 2 ^ ss.length
  | [], _ => Nat.one_pos
  | s :: r, d => by
    have := maskN_lt r d
    simp only [maskN, List.length_cons, Nat.pow_succ]
    split <;> omega
theorem maskN_bit : ∀ (ss : List Nat) (d : Nat → Bool) (p s : Nat), ss[p]? = some s → (maskN ss d).testBit p = d s
  | [], _, _, _, h => by simp at h
  | x :: r, d, 0, s, h => by
    simp only [List.getElem?_cons_zero, Option.some.injEq] at h
    subst h
    rw [Nat.testBit_zero, maskN]
    cases h : d x <;> simp <;> omega
  | x :: r, d, p + 1, s, h => by
    have := maskN_bit r d p s (by simpa using h)
    rw [Nat.testBit_succ, maskN, show ((if d x = true then 1 else 0) + 2 * maskN r d) / 2 = maskN r d by split <;> omega]
    exact this
theorem maskN_not {ss : List Nat} {d : Nat → Bool} {i : Nat} (h : i ∉ ss) : maskN ss (fun j => d j || j == i) = maskN ss d := by
  induction ss with
  | nil => rfl
  | cons s r ih =>
    have hs : ¬ s = i := fun e => h (e ▸ List.mem_cons_self)
    simp only [maskN]
    rw [ih (fun hm => h (List.mem_cons_of_mem _ hm))]
    simp [hs]
theorem maskN_add {ss : List Nat} {d : Nat → Bool} {i : Nat} (hnd : ss.Nodup) (h : i ∈ ss) (hd : d i = false) : maskN ss (fun j => d j || j == i) = maskN ss d + 2 ^ ss.idxOf i := by
  induction ss with
  | nil => cases h
  | cons s r ih =>
    obtain ⟨h1, h2⟩ := List.nodup_cons.1 hnd
    by_cases e : s = i
    · subst e
      simp only [maskN, List.idxOf_cons_self]
      rw [maskN_not h1]
      simp [hd]
      omega
    · have hm : i ∈ r := by
        rcases List.mem_cons.1 h with e2 | hm
        · exact absurd e2.symm e
        · exact hm
      simp only [maskN]
      rw [ih h2 hm, show (s :: r).idxOf i = r.idxOf i + 1 by rw [List.idxOf_cons, show (s == i) = false from beq_eq_false_iff_ne.2 e]; rfl, Nat.pow_succ]
      simp [e]
      omega
theorem maskN_all : ∀ {ss : List Nat} {d : Nat → Bool}, (∀ s ∈ ss, d s = true) → maskN ss d = 2 ^ ss.length - 1
  | [], _, _ => rfl
  | s :: r, d, h => by
    have := maskN_all (ss := r) (d := d) (fun q hq => h q (List.mem_cons_of_mem _ hq))
    have h2 : 0 < 2 ^ r.length := Nat.two_pow_pos _
    simp only [maskN, List.length_cons, Nat.pow_succ, h s List.mem_cons_self, if_true, this]
    omega
theorem maskN_none : ∀ {ss : List Nat} {d : Nat → Bool}, (∀ s ∈ ss, d s = false) → maskN ss d = 0
  | [], _, _ => rfl
  | s :: r, d, h => by
    have := maskN_none (ss := r) (d := d) (fun q hq => h q (List.mem_cons_of_mem _ hq))
    simp [maskN, h s List.mem_cons_self, this]
/-- Whether an operation may come at a stage. -/
def consB (pre : List (List Nat)) (ss : List Nat) (m i : Nat) : Bool := (List.range ss.length).all fun p => match ss.getD p 0 with
  | s => (!(pre.getD i []).contains s || m.testBit p) && (!(Nat.beq s i || (pre.getD s []).contains i) || !m.testBit p) && (!m.testBit p || (List.range ss.length).all fun r => !(pre.getD s []).contains (ss.getD r 0) || m.testBit r)
def maskOk (pre : List (List Nat)) (ss : List Nat) (sees : List (List Nat)) : Bool := (List.range sees.length).all fun i => (List.range (2 ^ ss.length)).all fun m => !consB pre ss m i || (sees.getD i []).contains m
theorem maskOk.mem {ss : List Nat} {sees : List (List Nat)} (h : maskOk pre ss sees = true) {i : Nat} (hi : i < sees.length) {done : Nat → Bool} (hc : closed pre done) (hd : done i = false) (hp : ∀ j ∈ pre.getD i [], done j = true) : maskN ss done ∈ sees.getD i [] := by
  simp only [maskOk, List.all_eq_true, List.mem_range] at h
  have h1 := h i hi (maskN ss done) (maskN_lt _ _)
  have hcons : consB pre ss (maskN ss done) i = true := by
    simp only [consB, List.all_eq_true, List.mem_range]
    intro p hp'
    have hb : ∀ r, r < ss.length → (maskN ss done).testBit r = done (ss.getD r 0) := fun r hr => maskN_bit ss done r _ (by rw [List.getD_eq_getElem?_getD, List.getElem?_eq_getElem hr]; rfl)
    simp only [Bool.and_eq_true, Bool.or_eq_true, Bool.not_eq_true', List.all_eq_true, List.mem_range]
    rw [hb p hp']
    refine ⟨⟨?_, ?_⟩, ?_⟩
    · cases hk : (pre.getD i []).contains (ss.getD p 0) with
      | false => exact .inl rfl
      | true => exact .inr (hp _ (List.contains_iff_mem.1 hk))
    · cases hk : (Nat.beq (ss.getD p 0) i || (pre.getD (ss.getD p 0) []).contains i) with
      | false => exact .inl rfl
      | true =>
        right
        rcases Bool.or_eq_true _ _ ▸ hk with h2 | h2
        · rw [Nat.eq_of_beq_eq_true h2]; exact hd
        · cases hds : done (ss.getD p 0) with
          | false => rfl
          | true => have := hc _ hds i (List.contains_iff_mem.1 h2); rw [hd] at this; cases this
    · cases hds : done (ss.getD p 0) with
      | false => exact .inl rfl
      | true =>
        right
        intro r hr
        rw [hb r hr]
        cases hk : (pre.getD (ss.getD p 0) []).contains (ss.getD r 0) with
        | false => exact .inl rfl
        | true => exact .inr (hc _ hds _ (List.contains_iff_mem.1 hk))
  rw [hcons] at h1
  simpa using h1

def Obls6 (P : Program) (ops : List Oper) (pre : List (List Nat)) (ss : List Nat) (sees : List (List Nat)) (W : Nat → (Nat → Value) → World → Prop) (A : Nat → (Nat → Value) → Prop) (σ : Env) : Nat → List Oper → Prop
  | _, [] => True
  | i, o :: rest => (∀ k vals w, k ∈ sees.getD i [] → W k vals w → (∀ j, j ∈ pre.getD i [] → A j vals) →
      if Region.wanted o (yl ops.toArray (view ops (pre.getD i []) σ vals)) then opV P o (view ops (pre.getD i []) σ vals) w (fun v w' => ∀ vals', vals' i = v → (∀ j, j ≠ i → vals' j = vals j) → (if ss.contains i then W (k + 2 ^ ss.idxOf i) vals' w' else w' = w) ∧ A i vals')
      else ∀ vals', vals' i = undef → (∀ j, j ≠ i → vals' j = vals j) → (if ss.contains i then W (k + 2 ^ ss.idxOf i) vals' w else True) ∧ A i vals') ∧
    Obls6 P ops pre ss sees W A σ (i + 1) rest

theorem Obls6_at {ss : List Nat} {sees : List (List Nat)} {W : Nat → (Nat → Value) → World → Prop} {A : Nat → (Nat → Value) → Prop} {i0 : Nat} : ∀ {l : List Oper}, Obls6 P ops pre ss sees W A σ i0 l → ∀ i o, l[i]? = some o → ∀ k vals w, k ∈ sees.getD (i0 + i) [] → W k vals w → (∀ j, j ∈ pre.getD (i0 + i) [] → A j vals) →
      if Region.wanted o (yl ops.toArray (view ops (pre.getD (i0 + i) []) σ vals)) then opV P o (view ops (pre.getD (i0 + i) []) σ vals) w (fun v w' => ∀ vals', vals' (i0 + i) = v → (∀ j, j ≠ i0 + i → vals' j = vals j) → (if ss.contains (i0 + i) then W (k + 2 ^ ss.idxOf (i0 + i)) vals' w' else w' = w) ∧ A (i0 + i) vals')
      else ∀ vals', vals' (i0 + i) = undef → (∀ j, j ≠ i0 + i → vals' j = vals j) → (if ss.contains (i0 + i) then W (k + 2 ^ ss.idxOf (i0 + i)) vals' w else True) ∧ A (i0 + i) vals' := by
  intro l
  induction l generalizing i0 with
  | nil => intro _ i o h; simp at h
  | cons x l ih =>
    intro h i o ho
    obtain ⟨h1, h2⟩ := h
    cases i with
    | zero => simp only [List.getElem?_cons_zero, Option.some.injEq] at ho; subst ho; exact h1
    | succ i =>
      have := ih h2 i o (by simpa using ho)
      rw [show i0 + 1 + i = i0 + (i + 1) by omega] at this
      exact this

theorem phase6 {ss : List Nat} {sees : List (List Nat)} {W : Nat → (Nat → Value) → World → Prop} {A : Nat → (Nat → Value) → Prop} (hf : Fit ops pre ops.length) (hd : dstsOk n ops = true) (hkl : sees.length = ops.length) (hk : maskOk pre ss sees = true) (hsl : ∀ s ∈ ss, s < ops.length) (hnd : ss.Nodup)
    (hloc : ∀ k vals vals' w, (∀ s ∈ ss, vals' s = vals s) → W k vals w → W k vals' w)
    (hlocA : ∀ i vals vals', (∀ j, j = i ∨ j ∈ pre.getD i [] → vals' j = vals j) → A i vals → A i vals') (hob : Obls6 P ops pre ss sees W A σ 0 ops)
    (hfin : ∀ vals w', W (2 ^ ss.length - 1) vals w' → (∀ j, j < ops.length → A j vals) → Q .normal (behind ops vals σ ops.length) w') :
    ∀ (fuel : Nat) (listed : Array Bool) (a : Act) (vals : Nat → Value) (w : World), listed.size = ops.length → closed pre (dn listed) → (∀ j, dn listed j = true → j < ops.length) →
    ops.length ≤ cnt (dn listed) ops.length + fuel → Sim n (mixed ops (dn listed) vals σ) a → W (maskN ss (dn listed)) vals w → (∀ j, dn listed j = true → A j vals) →
    wpAny P .any ops.toArray (fun e a' w' => ∃ σ'', Sim n σ'' a' ∧ Q e σ'' w') fuel listed a w := by
  have hend : ∀ (listed : Array Bool) (a : Act) (vals : Nat → Value) (w : World), (∀ j, j < ops.length → dn listed j = true) → (∀ j, dn listed j = true → j < ops.length) → Sim n (mixed ops (dn listed) vals σ) a → W (maskN ss (dn listed)) vals w → (∀ j, dn listed j = true → A j vals) →
      ∃ σ'', Sim n σ'' a ∧ Q .normal σ'' w := by
    intro listed a vals w hall hlt hsim hW hA
    have hdn : dn listed = fun j => decide (j < ops.length) := by
      funext j
      rw [Bool.eq_iff_iff, decide_eq_true_eq]
      exact ⟨hlt j, hall j⟩
    have hst : maskN ss (dn listed) = 2 ^ ss.length - 1 := maskN_all fun s hs => hall s (hsl s hs)
    rw [hdn, ← behind_mixed hf ops.length (Nat.le_refl _)] at hsim
    exact ⟨_, hsim, hfin vals w (hst ▸ hW) fun j hj => hA j (hall j hj)⟩
  intro fuel
  induction fuel with
  | zero =>
    intro listed a vals w hs hc hlt hfu hsim hW hA
    have hall := cnt_full (done := dn listed) (m := ops.length) (by omega)
    refine ⟨?_, hend listed a vals w hall hlt hsim hW hA⟩
    cases hr : Region.ready .any ops.toArray listed with
    | nil => rfl
    | cons i r =>
      have hi : i ∈ Region.ready .any ops.toArray listed := by rw [hr]; exact List.mem_cons_self
      obtain ⟨h1, o, ho, _⟩ := (ready_iff hs).1 hi
      have := hall i (List.getElem?_eq_some_iff.1 ho).1
      rw [h1] at this; cases this
  | succ fuel ih =>
    intro listed a vals w hs hc hlt hfu hsim hW hA
    refine ⟨fun hr => hend listed a vals w (ready_nil hf hs hr) hlt hsim hW hA, fun i hi => ?_⟩
    obtain ⟨o, ho, hni, hpre⟩ := ready_pre hf hs hc hi
    have hilen := (List.getElem?_eq_some_iff.1 ho).1
    have hdst : ∀ d, o.dst = some d → d < n := by
      intro d hd'
      simp only [dstsOk, List.all_eq_true] at hd
      have := hd o (List.mem_of_getElem? ho)
      rw [hd'] at this
      simpa [Nat.blt_eq] using this
    have hv := view_mixed (σ := σ) (vals := vals) hf ho hc hni hpre
    have hbd := maskOk.mem hk (i := i) (by omega) hc hni hpre
    have hO := Obls6_at hob i o ho (maskN ss (dn listed)) vals w
    simp only [Nat.zero_add] at hO
    have hO' := hO hbd hW (fun j hj => hA j (hpre j hj))
    have hset := dn_set hs ho
    have hnext : ∀ v a' w', (∀ vals', vals' i = v → (∀ j, j ≠ i → vals' j = vals j) → (if ss.contains i then W (maskN ss (dn listed) + 2 ^ ss.idxOf i) vals' w' else W (maskN ss (dn listed)) vals w') ∧ A i vals') → Sim n (updO (mixed ops (dn listed) vals σ) o.dst v) a' →
        wpAny P .any ops.toArray (fun e a' w' => ∃ σ'', Sim n σ'' a' ∧ Q e σ'' w') fuel (listed.setIfInBounds i true) a' w' := by
      intro v a' w' hn hs'
      rw [putMixed hf ho hni v] at hs'
      obtain ⟨hWn, hAn⟩ := hn (fun j => if j = i then v else vals j) (if_pos rfl) (fun j hj => if_neg hj)
      refine ih _ a' (fun j => if j = i then v else vals j) w' (by simpa using hs) ?_ ?_ ?_ ?_ ?_ ?_
      · intro j hj j' hj'
        rw [hset] at hj ⊢
        simp only [Bool.or_eq_true, beq_iff_eq] at hj ⊢
        rcases hj with hj | rfl
        · exact .inl (hc j hj j' hj')
        · exact .inl (hpre j' hj')
      · intro j hj
        rw [hset] at hj
        simp only [Bool.or_eq_true, beq_iff_eq] at hj
        rcases hj with hj | rfl
        · exact hlt j hj
        · exact hilen
      · rw [hset, cnt_add hni, if_pos hilen]; omega
      · rw [hset]; exact hs'
      · rw [hset]
        by_cases hm : i ∈ ss
        · rw [if_pos (List.contains_iff_mem.2 hm)] at hWn
          rw [maskN_add hnd hm hni]
          exact hWn
        · rw [if_neg (fun h => hm (List.contains_iff_mem.1 h))] at hWn
          rw [maskN_not hm]
          exact hloc _ _ _ _ (fun s hs => if_neg (fun e : s = i => hm (e ▸ hs))) hWn
      · intro j hj
        rw [hset] at hj
        simp only [Bool.or_eq_true, beq_iff_eq] at hj
        by_cases hji : j = i
        · subst hji; exact hAn
        · rcases hj with hj | hj
          · refine hlocA j vals _ (fun q hq => if_neg (fun e : q = i => ?_)) (hA j hj)
            subst e
            rcases hq with hq | hq
            · exact hji hq.symm
            · have := hc j hj q hq; rw [hni] at this; cases this
          · exact (hji hj).elim
    unfold wpOp
    simp only [List.getElem?_toArray, ho]
    rw [hsim.yielded, wanted_congr (σ := view ops (pre.getD i []) σ vals) hv]
    split
    · rename_i hw
      rw [if_pos hw] at hO'
      refine .inl (opP_wp hsim (K := fun σ'' w' => ∃ v, (∀ vals', vals' i = v → (∀ j, j ≠ i → vals' j = vals j) → (if ss.contains i then W (maskN ss (dn listed) + 2 ^ ss.idxOf i) vals' w' else W (maskN ss (dn listed)) vals w') ∧ A i vals') ∧ σ'' = updO (mixed ops (dn listed) vals σ) o.dst v) ?_ hdst ?_)
      · rintro a' σ'' w' hs' ⟨v, h1, rfl⟩
        exact hnext v a' w' h1 hs'
      · unfold opP
        rw [opV_congr (hf.sel i o ho) hv]
        refine opV_mono (fun v w' h => ⟨v, fun vals' h1 h2 => ?_, rfl⟩) hO'
        obtain ⟨h3, h4⟩ := h vals' h1 h2
        refine ⟨?_, h4⟩
        split
        · rename_i hm; rw [if_pos hm] at h3; exact h3
        · rename_i hm; rw [if_neg hm] at h3; subst h3; exact hW
    · rename_i hw
      rw [if_neg hw] at hO'
      refine hnext undef _ w (fun vals' h1 h2 => ?_) (hsim.put hdst undef)
      obtain ⟨h3, h4⟩ := hO' vals' h1 h2
      refine ⟨?_, h4⟩
      split
      · rename_i hm; rw [if_pos hm] at h3; exact h3
      · exact hW

/-- A region that draws its order. -/
theorem WP_draw6 {id : Nat} (W : Nat → (Nat → Value) → World → Prop) (A : Nat → (Nat → Value) → Prop) (pre : List (List Nat)) (ss : List Nat) (sees : List (List Nat)) (hm : P.follows .mixedOrders = true) (hd : dstsOk n ops = true) (hok : drawOk ops pre ops.length = true)
    (hkl : sees.length = ops.length) (hk : maskOk pre ss sees = true) (hsl : (ss.all fun s => Nat.blt s ops.length) = true) (hnd : ss.Nodup)
    (hW : ∀ w0 : World, w0.heap = w.heap → w0.os = w.os → w0.tape = w.tape → w0.output = w.output ∧ w.drawn ≤ w0.drawn → ∀ vals, W 0 vals w0)
    (hloc : ∀ k vals vals' w, (∀ s ∈ ss, vals' s = vals s) → W k vals w → W k vals' w)
    (hlocA : ∀ i vals vals', (∀ j, j = i ∨ j ∈ pre.getD i [] → vals' j = vals j) → A i vals → A i vals')
    (hob : Obls6 P ops pre ss sees W A σ 0 ops)
    (hfin : ∀ vals w', W (2 ^ ss.length - 1) vals w' → (∀ j, j < ops.length → A j vals) → WPs P ops.toArray (Q .normal) [] (behind ops vals σ ops.length) w') :
    WP P n (.region id ops.toArray true) Q σ w := by
  intro a hs
  have hf := drawOk.fit hok
  have hz : dn (Array.replicate ops.toArray.size false) = fun _ => false := by
    funext i
    simp [dn, Array.getElem?_replicate]
    split <;> rfl
  refine wp_region_any hm ?_
  refine phase6 (ss := ss) (vals := fun _ => undef) hf hd hkl hk (fun s hs => by
    have := (List.all_eq_true.1 hsl) s hs; simpa [Nat.blt_eq] using this) hnd hloc hlocA hob hfin _ _ a _ (by simp) ?_ ?_ ?_ ?_ ?_ ?_
  · intro i hi; rw [hz] at hi; cases hi
  · intro i hi; rw [hz] at hi; cases hi
  · simp
  · have : mixed ops (dn (Array.replicate ops.toArray.size false)) (fun _ => undef) σ = σ := by
      funext t
      exact mixed_none fun j _ => by rw [hz]
    rw [this]; exact hs
  · have : maskN ss (dn (Array.replicate ops.toArray.size false)) = 0 := maskN_none fun s _ => by rw [hz]
    rw [this]; exact hW { w with drawn := w.drawn + 1 } rfl rfl rfl ⟨rfl, Nat.le_succ _⟩ _
  · intro i hi; rw [hz] at hi; cases hi
end
end Go.Proofs.Ytgjgmojjeehieaa
