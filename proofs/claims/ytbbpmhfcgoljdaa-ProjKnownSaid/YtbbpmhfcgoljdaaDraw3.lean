/- A region that draws its order, whose operations with effects stand in one chain: what is said of a stage may speak of the chain's values. -/
import Derived.Test.YtbbpmhfcgoljdaaDraw2
namespace Go.Proofs.Ytbbpmhfcgoljdaa

def WV (l : List ((Nat → Value) → World → Prop)) : Nat → (Nat → Value) → World → Prop := fun i vals w => match l[i]? with
  | some p => p vals w
  | none => True

section
variable {P : Program} {n : Nat} {Q : Post} {σ : Env} {w : World} {ops : List Oper} {pre : List (List Nat)}

def Obls3 (P : Program) (ops : List Oper) (pre : List (List Nat)) (ss : List Nat) (kinds : List (Option (Nat × Nat))) (W : Nat → (Nat → Value) → World → Prop) (A : Nat → Value → Prop) (σ : Env) : Nat → List Oper → Prop
  | _, [] => True
  | i, o :: rest => (∀ vals w, (match kinds.getD i none with | some (a, _) => W a vals w | none => ∃ k, k ≤ ss.length ∧ W k vals w) → (∀ j, j ∈ pre.getD i [] → A j (vals j)) →
      o.guard = none ∧ opV P o (view ops (pre.getD i []) σ vals) w (fun v w' => (match kinds.getD i none with | some (_, b) => ∀ vals', vals' i = v → (∀ j, j ≠ i → vals' j = vals j) → W b vals' w' | none => w' = w) ∧ A i v)) ∧
    Obls3 P ops pre ss kinds W A σ (i + 1) rest

theorem Obls3_at {ss : List Nat} {kinds : List (Option (Nat × Nat))} {W : Nat → (Nat → Value) → World → Prop} {A : Nat → Value → Prop} {i0 : Nat} : ∀ {l : List Oper}, Obls3 P ops pre ss kinds W A σ i0 l → ∀ i o, l[i]? = some o → ∀ vals w, (match kinds.getD (i0 + i) none with | some (a, _) => W a vals w | none => ∃ k, k ≤ ss.length ∧ W k vals w) → (∀ j, j ∈ pre.getD (i0 + i) [] → A j (vals j)) →
      o.guard = none ∧ opV P o (view ops (pre.getD (i0 + i) []) σ vals) w (fun v w' => (match kinds.getD (i0 + i) none with | some (_, b) => ∀ vals', vals' (i0 + i) = v → (∀ j, j ≠ i0 + i → vals' j = vals j) → W b vals' w' | none => w' = w) ∧ A (i0 + i) v) := by
  intro l
  induction l generalizing i0 with
  | nil => intro _ i o h; simp at h
  | cons x l ih =>
    intro h i o ho
    obtain ⟨h1, h2⟩ := h
    cases i with
    | zero => simp only [List.getElem?_cons_zero, Option.some.injEq] at ho; subst ho; exact h1
    | succ i =>
      have := ih h2 i o (by simpa using ho)
      rw [show i0 + 1 + i = i0 + (i + 1) by omega] at this
      exact this

theorem phase3v {ss : List Nat} {kinds : List (Option (Nat × Nat))} {W : Nat → (Nat → Value) → World → Prop} {A : Nat → Value → Prop} (hf : Fit ops pre ops.length) (hd : dstsOk n ops = true) (hkl : kinds.length = ops.length) (hk : kindOk pre ss kinds = true) (hsl : ∀ s ∈ ss, s < ops.length)
    (hloc : ∀ k vals vals' w, (∀ s ∈ ss, vals' s = vals s) → W k vals w → W k vals' w) (hob : Obls3 P ops pre ss kinds W A σ 0 ops)
    (hfin : ∀ vals w', W ss.length vals w' → (∀ j, j < ops.length → A j (vals j)) → Q .normal (behind ops vals σ ops.length) w') :
    ∀ (fuel : Nat) (listed : Array Bool) (a : Act) (vals : Nat → Value) (w : World), listed.size = ops.length → closed pre (dn listed) → (∀ j, dn listed j = true → j < ops.length) →
    ops.length ≤ cnt (dn listed) ops.length + fuel → Sim n (mixed ops (dn listed) vals σ) a → W (stage ss (dn listed)) vals w → (∀ j, dn listed j = true → A j (vals j)) →
    wpAny P .any ops.toArray (fun e a' w' => ∃ σ'', Sim n σ'' a' ∧ Q e σ'' w') fuel listed a w := by
  have hend : ∀ (listed : Array Bool) (a : Act) (vals : Nat → Value) (w : World), (∀ j, j < ops.length → dn listed j = true) → (∀ j, dn listed j = true → j < ops.length) → Sim n (mixed ops (dn listed) vals σ) a → W (stage ss (dn listed)) vals w → (∀ j, dn listed j = true → A j (vals j)) →
      ∃ σ'', Sim n σ'' a ∧ Q .normal σ'' w := by
    intro listed a vals w hall hlt hsim hW hA
    have hdn : dn listed = fun j => decide (j < ops.length) := by
      funext j
      rw [Bool.eq_iff_iff, decide_eq_true_eq]
      exact ⟨hlt j, hall j⟩
    have hst : stage ss (dn listed) = ss.length := List.countP_eq_length.2 fun s hs => hall s (hsl s hs)
    rw [hdn, ← behind_mixed hf ops.length (Nat.le_refl _)] at hsim
    exact ⟨_, hsim, hfin vals w (hst ▸ hW) fun j hj => hA j (hall j hj)⟩
  intro fuel
  induction fuel with
  | zero =>
    intro listed a vals w hs hc hlt hfu hsim hW hA
    have hall := cnt_full (done := dn listed) (m := ops.length) (by omega)
    refine ⟨?_, hend listed a vals w hall hlt hsim hW hA⟩
    cases hr : Region.ready .any ops.toArray listed with
    | nil => rfl
    | cons i r =>
      have hi : i ∈ Region.ready .any ops.toArray listed := by rw [hr]; exact List.mem_cons_self
      obtain ⟨h1, o, ho, _⟩ := (ready_iff hs).1 hi
      have := hall i (List.getElem?_eq_some_iff.1 ho).1
      rw [h1] at this; cases this
  | succ fuel ih =>
    intro listed a vals w hs hc hlt hfu hsim hW hA
    refine ⟨fun hr => hend listed a vals w (ready_nil hf hs hr) hlt hsim hW hA, fun i hi => ?_⟩
    obtain ⟨o, ho, hni, hpre⟩ := ready_pre hf hs hc hi
    have hilen := (List.getElem?_eq_some_iff.1 ho).1
    have hdst : ∀ d, o.dst = some d → d < n := by
      intro d hd'
      simp only [dstsOk, List.all_eq_true] at hd
      have := hd o (List.mem_of_getElem? ho)
      rw [hd'] at this
      simpa [Nat.blt_eq] using this
    have hv := view_mixed (σ := σ) (vals := vals) hf ho hc hni hpre
    have hO := Obls3_at hob i o ho vals w
    simp only [Nat.zero_add] at hO
    have hset := dn_set hs ho
    have hnext : ∀ v a' w', W (stage ss (dn (listed.setIfInBounds i true))) (fun j => if j = i then v else vals j) w' → A i v → Sim n (updO (mixed ops (dn listed) vals σ) o.dst v) a' →
        wpAny P .any ops.toArray (fun e a' w' => ∃ σ'', Sim n σ'' a' ∧ Q e σ'' w') fuel (listed.setIfInBounds i true) a' w' := by
      intro v a' w' hWn hAv hs'
      rw [putMixed hf ho hni v] at hs'
      refine ih _ a' (fun j => if j = i then v else vals j) w' (by simpa using hs) ?_ ?_ ?_ ?_ hWn ?_
      · intro j hj j' hj'
        rw [hset] at hj ⊢
        simp only [Bool.or_eq_true, beq_iff_eq] at hj ⊢
        rcases hj with hj | rfl
        · exact .inl (hc j hj j' hj')
        · exact .inl (hpre j' hj')
      · intro j hj
        rw [hset] at hj
        simp only [Bool.or_eq_true, beq_iff_eq] at hj
        rcases hj with hj | rfl
        · exact hlt j hj
        · exact hilen
      · rw [hset, cnt_add hni, if_pos hilen]; omega
      · rw [hset]; exact hs'
      · intro j hj
        rw [hset] at hj
        simp only [Bool.or_eq_true, beq_iff_eq] at hj
        by_cases hji : j = i
        · subst hji; simpa using hAv
        · rcases hj with hj | hj
          · simp only [hji, if_false]; exact hA j hj
          · exact (hji hj).elim
    have hstage : ∀ v w', (match kinds.getD i none with | some (_, b) => ∀ vals', vals' i = v → (∀ j, j ≠ i → vals' j = vals j) → W b vals' w' | none => w' = w) → W (stage ss (dn (listed.setIfInBounds i true))) (fun j => if j = i then v else vals j) w' := by
      intro v w' hw'
      cases hki : kinds.getD i none with
      | none =>
        rw [hki] at hw'
        simp only at hw'
        subst hw'
        have hn : i ∉ ss := by
          simp only [kindOk, List.all_eq_true, List.mem_range] at hk
          have := hk i (by omega)
          rw [hki] at this
          simpa using this
        rw [hset, stage, countP_not hn]
        exact hloc _ _ _ _ (fun s hs => if_neg (fun e : s = i => hn (e ▸ hs))) hW
      | some ab =>
        obtain ⟨x, y⟩ := ab
        rw [hki] at hw'
        rw [hset, (kindOk.stg hk (by omega) hki).next _ hc hni hpre]
        exact hw' _ (if_pos rfl) (fun j hj => if_neg hj)
    have hO' := hO (by
      cases hki : kinds.getD i none with
      | none => exact ⟨_, List.countP_le_length, hW⟩
      | some ab =>
        obtain ⟨x, y⟩ := ab
        have := (kindOk.stg hk (by omega) hki).now _ hc hni hpre
        show W x vals w
        rw [← this]; exact hW) (fun j hj => hA j (hpre j hj))
    obtain ⟨hgu, hO'⟩ := hO'
    unfold wpOp
    simp only [List.getElem?_toArray, ho]
    rw [hsim.yielded]
    rw [if_pos (by simp [Region.wanted, hgu])]
    refine .inl (opP_wp hsim (K := fun σ'' w' => ∃ v, W (stage ss (dn (listed.setIfInBounds i true))) (fun j => if j = i then v else vals j) w' ∧ A i v ∧ σ'' = updO (mixed ops (dn listed) vals σ) o.dst v) ?_ hdst ?_)
    · rintro a' σ'' w' hs' ⟨v, h1, h2, rfl⟩
      exact hnext v a' w' h1 h2 hs'
    · unfold opP
      rw [opV_congr (hf.sel i o ho) hv]
      exact opV_mono (fun v w' ⟨h1, h2⟩ => ⟨v, hstage v w' h1, h2, rfl⟩) hO'

/-- A region that draws its order and keeps a chain. -/
theorem WP_draw3 {id : Nat} (W : Nat → (Nat → Value) → World → Prop) (A : Nat → Value → Prop) (pre : List (List Nat)) (ss : List Nat) (kinds : List (Option (Nat × Nat))) (hm : P.follows .mixedOrders = true) (hd : dstsOk n ops = true) (hok : drawOk ops pre ops.length = true)
    (hkl : kinds.length = ops.length) (hk : kindOk pre ss kinds = true) (hsl : (ss.all fun s => Nat.blt s ops.length) = true)
    (hW : ∀ w0 : World, w0.heap = w.heap → w0.os = w.os → w0.tape = w.tape → w0.output = w.output ∧ w.drawn ≤ w0.drawn → ∀ vals, W 0 vals w0)
    (hloc : ∀ k vals vals' w, (∀ s ∈ ss, vals' s = vals s) → W k vals w → W k vals' w)
    (hob : Obls3 P ops pre ss kinds W A σ 0 ops)
    (hfin : ∀ vals w', W ss.length vals w' → (∀ j, j < ops.length → A j (vals j)) → WPs P ops.toArray (Q .normal) [] (behind ops vals σ ops.length) w') :
    WP P n (.region id ops.toArray true) Q σ w := by
  intro a hs
  have hf := drawOk.fit hok
  have hz : dn (Array.replicate ops.toArray.size false) = fun _ => false := by
    funext i
    simp [dn, Array.getElem?_replicate]
    split <;> rfl
  refine wp_region_any hm ?_
  refine phase3v (ss := ss) (vals := fun _ => undef) hf hd hkl hk (fun s hs => by
    have := (List.all_eq_true.1 hsl) s hs; simpa [Nat.blt_eq] using this) hloc hob hfin _ _ a _ (by simp) ?_ ?_ ?_ ?_ ?_ ?_
  · intro i hi; rw [hz] at hi; cases hi
  · intro i hi; rw [hz] at hi; cases hi
  · simp
  · have : mixed ops (dn (Array.replicate ops.toArray.size false)) (fun _ => undef) σ = σ := by
      funext t
      exact mixed_none fun j _ => by rw [hz]
    rw [this]; exact hs
  · have : stage ss (dn (Array.replicate ops.toArray.size false)) = 0 := countP_none fun s _ => by rw [hz]
    rw [this]; exact hW { w with drawn := w.drawn + 1 } rfl rfl rfl ⟨rfl, Nat.le_succ _⟩ _
  · intro i hi; rw [hz] at hi; cases hi
end
end Go.Proofs.Ytbbpmhfcgoljdaa
