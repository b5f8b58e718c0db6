/- A region that draws its order and stores: readers ahead of the first store, what is pure anywhere, the stores one behind the other. -/
import Derived.Test.YtgjgmojjeehieaaRegion
namespace Go.Proofs.Ytgjgmojjeehieaa

/-- Assertions on values alone, one an operation. -/
def AV (l : List (Value → Prop)) : Nat → Value → Prop := fun i v => match l[i]? with
  | some p => p v
  | none => True
def WL (l : List (World → Prop)) : Nat → World → Prop := fun i w => match l[i]? with
  | some p => p w
  | none => True

section
variable {P : Program} {n : Nat} {Q : Post} {σ : Env} {w : World} {ops : List Oper} {pre : List (List Nat)}

/-- Of an operation: nothing (it may stand anywhere), or the stage that it asks and the stage that it leaves. -/
def kindOk (pre : List (List Nat)) (ss : List Nat) (kinds : List (Option (Nat × Nat))) : Bool :=
  (List.range kinds.length).all fun i => match kinds.getD i none with
    | none => !ss.contains i
    | some (a, b) => (Nat.beq a 0 && Nat.beq b 0 && !ss.contains i && ss.all fun s => (pre.getD s []).contains i) ||
        (Nat.beq b (a + 1) && ss[a]? == some i && (ss.take a).all (fun s => (pre.getD i []).contains s) && (ss.drop (a + 1)).all (fun s => (pre.getD s []).contains i && !Nat.beq s i))
def stage (ss : List Nat) (done : Nat → Bool) : Nat := ss.countP done

structure Stg (pre : List (List Nat)) (ss : List Nat) (i : Nat) (a b : Nat) : Prop where
  now : ∀ done, closed pre done → done i = false → (∀ j ∈ pre.getD i [], done j = true) → stage ss done = a
  next : ∀ done, closed pre done → done i = false → (∀ j ∈ pre.getD i [], done j = true) → stage ss (fun j => done j || j == i) = b

theorem countP_none {ss : List Nat} {d : Nat → Bool} (h : ∀ s ∈ ss, d s = false) : ss.countP d = 0 := List.countP_eq_zero.2 fun s hs => by simp [h s hs]
theorem countP_not {ss : List Nat} {d : Nat → Bool} {i : Nat} (h : i ∉ ss) : ss.countP (fun j => d j || j == i) = ss.countP d := by
  refine List.countP_congr fun s hs => ?_
  have : s ≠ i := fun e => h (e ▸ hs)
  simp [this]

theorem kindOk.stg {ss : List Nat} {kinds : List (Option (Nat × Nat))} (h : kindOk pre ss kinds = true) {i : Nat} (hi : i < kinds.length) {a b : Nat} (hk : kinds.getD i none = some (a, b)) : Stg pre ss i a b := by
  simp only [kindOk, List.all_eq_true, List.mem_range] at h
  have h1 := h i hi
  rw [hk] at h1
  simp only [Bool.or_eq_true, Bool.and_eq_true, nbeq, List.all_eq_true, List.contains_iff_mem, Bool.not_eq_true', beq_iff_eq] at h1
  rcases h1 with ⟨⟨⟨rfl, rfl⟩, hn⟩, hall⟩ | ⟨⟨⟨rfl, hs⟩, hb⟩, ha⟩
  · have hni : i ∉ ss := by simpa using hn
    have key : ∀ done, closed pre done → done i = false → stage ss done = 0 := fun done hc hd => countP_none fun s hs => by
      cases hds : done s with
      | false => rfl
      | true => have := hc s hds i (hall s hs); rw [hd] at this; cases this
    exact ⟨fun done hc hd _ => key done hc hd, fun done hc hd _ => by rw [stage, countP_not hni]; exact key done hc hd⟩
  · obtain ⟨hlt, hget⟩ := List.getElem?_eq_some_iff.1 hs
    have hsplit : ss = ss.take a ++ i :: ss.drop (a + 1) := by
      rw [← hget, ← List.drop_eq_getElem_cons hlt, List.take_append_drop]
    have hta : (ss.take a).length = a := by rw [List.length_take]; omega
    have e1 : ∀ done, (∀ j ∈ pre.getD i [], done j = true) → (ss.take a).countP done = a := fun done hp => by
      rw [List.countP_eq_length.2 (fun s hs => hp s (hb s hs)), hta]
    have e2 : ∀ done, closed pre done → done i = false → ∀ s ∈ ss.drop (a + 1), done s = false := fun done hc hd s hs => by
      cases hds : done s with
      | false => rfl
      | true => have := hc s hds i (ha s hs).1; rw [hd] at this; cases this
    refine ⟨fun done hc hd hp => ?_, fun done hc hd hp => ?_⟩
    · rw [stage, hsplit, List.countP_append, List.countP_cons, e1 done hp, countP_none (e2 done hc hd)]
      simp [hd]
    · have e3 : (ss.take a).countP (fun j => done j || j == i) = a := by
        rw [List.countP_eq_length.2 (fun s hs => by simp [hp s (hb s hs)]), hta]
      have e4 : (ss.drop (a + 1)).countP (fun j => done j || j == i) = 0 := countP_none fun s hs => by
        have h1 := e2 done hc hd s hs
        have h2 : s ≠ i := by have := (ha s hs).2; intro e; subst e; simp at this
        simp [h1, h2]
      rw [stage, hsplit, List.countP_append, List.countP_cons, e3, e4]
      simp

def Obls2 (P : Program) (ops : List Oper) (pre : List (List Nat)) (kinds : List (Option (Nat × Nat))) (W : Nat → World → Prop) (A : Nat → Value → Prop) (σ : Env) : Nat → List Oper → Prop
  | _, [] => True
  | i, o :: rest => (∀ vals w, (match kinds.getD i none with | some (a, _) => W a w | none => True) → (∀ j, j ∈ pre.getD i [] → A j (vals j)) →
      if Region.wanted o (yl ops.toArray (view ops (pre.getD i []) σ vals)) then opV P o (view ops (pre.getD i []) σ vals) w (fun v w' => (match kinds.getD i none with | some (_, b) => W b w' | none => w' = w) ∧ A i v)
      else (match kinds.getD i none with | some (a, b) => a = b | none => True) ∧ A i undef) ∧
    Obls2 P ops pre kinds W A σ (i + 1) rest

theorem Obls2_at {kinds : List (Option (Nat × Nat))} {W : Nat → World → Prop} {A : Nat → Value → Prop} {i0 : Nat} : ∀ {l : List Oper}, Obls2 P ops pre kinds W A σ i0 l → ∀ i o, l[i]? = some o → ∀ vals w, (match kinds.getD (i0 + i) none with | some (a, _) => W a w | none => True) → (∀ j, j ∈ pre.getD (i0 + i) [] → A j (vals j)) →
      if Region.wanted o (yl ops.toArray (view ops (pre.getD (i0 + i) []) σ vals)) then opV P o (view ops (pre.getD (i0 + i) []) σ vals) w (fun v w' => (match kinds.getD (i0 + i) none with | some (_, b) => W b w' | none => w' = w) ∧ A (i0 + i) v)
      else (match kinds.getD (i0 + i) none with | some (a, b) => a = b | none => True) ∧ A (i0 + i) undef := by
  intro l
  induction l generalizing i0 with
  | nil => intro _ i o h; simp at h
  | cons x l ih =>
    intro h i o ho
    obtain ⟨h1, h2⟩ := h
    cases i with
    | zero => simp only [List.getElem?_cons_zero, Option.some.injEq] at ho; subst ho; exact h1
    | succ i =>
      have := ih h2 i o (by simpa using ho)
      rw [show i0 + 1 + i = i0 + (i + 1) by omega] at this
      exact this

theorem phase3 {ss : List Nat} {kinds : List (Option (Nat × Nat))} {W : Nat → World → Prop} {A : Nat → Value → Prop} (hf : Fit ops pre ops.length) (hd : dstsOk n ops = true) (hkl : kinds.length = ops.length) (hk : kindOk pre ss kinds = true) (hsl : ∀ s ∈ ss, s < ops.length)
    (hob : Obls2 P ops pre kinds W A σ 0 ops)
    (hfin : ∀ vals w', W ss.length w' → (∀ j, j < ops.length → A j (vals j)) → Q .normal (behind ops vals σ ops.length) w') :
    ∀ (fuel : Nat) (listed : Array Bool) (a : Act) (vals : Nat → Value) (w : World), listed.size = ops.length → closed pre (dn listed) → (∀ j, dn listed j = true → j < ops.length) →
    ops.length ≤ cnt (dn listed) ops.length + fuel → Sim n (mixed ops (dn listed) vals σ) a → W (stage ss (dn listed)) w → (∀ j, dn listed j = true → A j (vals j)) →
    wpAny P .any ops.toArray (fun e a' w' => ∃ σ'', Sim n σ'' a' ∧ Q e σ'' w') fuel listed a w := by
  have hend : ∀ (listed : Array Bool) (a : Act) (vals : Nat → Value) (w : World), (∀ j, j < ops.length → dn listed j = true) → (∀ j, dn listed j = true → j < ops.length) → Sim n (mixed ops (dn listed) vals σ) a → W (stage ss (dn listed)) w → (∀ j, dn listed j = true → A j (vals j)) →
      ∃ σ'', Sim n σ'' a ∧ Q .normal σ'' w := by
    intro listed a vals w hall hlt hsim hW hA
    have hdn : dn listed = fun j => decide (j < ops.length) := by
      funext j
      rw [Bool.eq_iff_iff, decide_eq_true_eq]
      exact ⟨hlt j, hall j⟩
    have hst : stage ss (dn listed) = ss.length := List.countP_eq_length.2 fun s hs => hall s (hsl s hs)
    rw [hdn, ← behind_mixed hf ops.length (Nat.le_refl _)] at hsim
    exact ⟨_, hsim, hfin vals w (hst ▸ hW) fun j hj => hA j (hall j hj)⟩
  intro fuel
  induction fuel with
  | zero =>
    intro listed a vals w hs hc hlt hfu hsim hW hA
    have hall := cnt_full (done := dn listed) (m := ops.length) (by omega)
    refine ⟨?_, hend listed a vals w hall hlt hsim hW hA⟩
    cases hr : Region.ready .any ops.toArray listed with
    | nil => rfl
    | cons i r =>
      have hi : i ∈ Region.ready .any ops.toArray listed := by rw [hr]; exact List.mem_cons_self
      obtain ⟨h1, o, ho, _⟩ := (ready_iff hs).1 hi
      have := hall i (List.getElem?_eq_some_iff.1 ho).1
      rw [h1] at this; cases this
  | succ fuel ih =>
    intro listed a vals w hs hc hlt hfu hsim hW hA
    refine ⟨fun hr => hend listed a vals w (ready_nil hf hs hr) hlt hsim hW hA, fun i hi => ?_⟩
    obtain ⟨o, ho, hni, hpre⟩ := ready_pre hf hs hc hi
    have hilen := (List.getElem?_eq_some_iff.1 ho).1
    have hdst : ∀ d, o.dst = some d → d < n := by
      intro d hd'
      simp only [dstsOk, List.all_eq_true] at hd
      have := hd o (List.mem_of_getElem? ho)
      rw [hd'] at this
      simpa [Nat.blt_eq] using this
    have hv := view_mixed (σ := σ) (vals := vals) hf ho hc hni hpre
    have hO := Obls2_at hob i o ho vals w
    simp only [Nat.zero_add] at hO
    have hset := dn_set hs ho
    have hnext : ∀ v a' w', W (stage ss (dn (listed.setIfInBounds i true))) w' → A i v → Sim n (updO (mixed ops (dn listed) vals σ) o.dst v) a' →
        wpAny P .any ops.toArray (fun e a' w' => ∃ σ'', Sim n σ'' a' ∧ Q e σ'' w') fuel (listed.setIfInBounds i true) a' w' := by
      intro v a' w' hWn hAv hs'
      rw [putMixed hf ho hni v] at hs'
      refine ih _ a' (fun j => if j = i then v else vals j) w' (by simpa using hs) ?_ ?_ ?_ ?_ hWn ?_
      · intro j hj j' hj'
        rw [hset] at hj ⊢
        simp only [Bool.or_eq_true, beq_iff_eq] at hj ⊢
        rcases hj with hj | rfl
        · exact .inl (hc j hj j' hj')
        · exact .inl (hpre j' hj')
      · intro j hj
        rw [hset] at hj
        simp only [Bool.or_eq_true, beq_iff_eq] at hj
        rcases hj with hj | rfl
        · exact hlt j hj
        · exact hilen
      · rw [hset, cnt_add hni, if_pos hilen]; omega
      · rw [hset]; exact hs'
      · intro j hj
        rw [hset] at hj
        simp only [Bool.or_eq_true, beq_iff_eq] at hj
        by_cases hji : j = i
        · subst hji; simpa using hAv
        · rcases hj with hj | hj
          · simp only [hji, if_false]; exact hA j hj
          · exact (hji hj).elim
    have hstage : ∀ w', (match kinds.getD i none with | some (_, b) => W b w' | none => w' = w) → W (stage ss (dn (listed.setIfInBounds i true))) w' := by
      intro w' hw'
      cases hki : kinds.getD i none with
      | none =>
        rw [hki] at hw'
        simp only at hw'
        subst hw'
        have hn : i ∉ ss := by
          simp only [kindOk, List.all_eq_true, List.mem_range] at hk
          have := hk i (by omega)
          rw [hki] at this
          simpa using this
        rw [hset, stage, countP_not hn]
        exact hW
      | some ab =>
        obtain ⟨x, y⟩ := ab
        rw [hki] at hw'
        rw [hset, (kindOk.stg hk (by omega) hki).next _ hc hni hpre]
        exact hw'
    have hO' := hO (by
      cases hki : kinds.getD i none with
      | none => trivial
      | some ab =>
        obtain ⟨x, y⟩ := ab
        have := (kindOk.stg hk (by omega) hki).now _ hc hni hpre
        show W x w
        rw [← this]; exact hW) (fun j hj => hA j (hpre j hj))
    rw [← wanted_congr hv] at hO'
    unfold wpOp
    simp only [List.getElem?_toArray, ho]
    rw [hsim.yielded]
    split <;> rename_i hw
    · rw [if_pos hw] at hO'
      refine .inl (opP_wp hsim (K := fun σ'' w' => ∃ v, W (stage ss (dn (listed.setIfInBounds i true))) w' ∧ A i v ∧ σ'' = updO (mixed ops (dn listed) vals σ) o.dst v) ?_ hdst ?_)
      · rintro a' σ'' w' hs' ⟨v, h1, h2, rfl⟩
        exact hnext v a' w' h1 h2 hs'
      · unfold opP
        rw [opV_congr (hf.sel i o ho) hv]
        exact opV_mono (fun v w' ⟨h1, h2⟩ => ⟨v, hstage w' h1, h2, rfl⟩) hO'
    · rw [if_neg hw] at hO'
      refine hnext undef _ w (hstage w ?_) hO'.2 (hsim.put hdst undef)
      have h1 := hO'.1
      cases hki : kinds.getD i none with
      | none => rfl
      | some ab =>
        obtain ⟨x, y⟩ := ab
        rw [hki] at h1
        simp only at h1
        subst h1
        have := (kindOk.stg hk (by omega) hki).now _ hc hni hpre
        show W x w
        rw [← this]; exact hW

/-- A region that draws its order and stores. -/
theorem WP_draw2 {id : Nat} (W : Nat → World → Prop) (A : Nat → Value → Prop) (pre : List (List Nat)) (ss : List Nat) (kinds : List (Option (Nat × Nat))) (hm : P.follows .mixedOrders = true) (hd : dstsOk n ops = true) (hok : drawOk ops pre ops.length = true)
    (hkl : kinds.length = ops.length) (hk : kindOk pre ss kinds = true) (hsl : (ss.all fun s => Nat.blt s ops.length) = true)
    (hW : ∀ w0 : World, w0.heap = w.heap → w0.os = w.os → w0.tape = w.tape → w0.output = w.output ∧ w.drawn ≤ w0.drawn → W 0 w0)
    (hob : Obls2 P ops pre kinds W A σ 0 ops)
    (hfin : ∀ vals w', W ss.length w' → (∀ j, j < ops.length → A j (vals j)) → WPs P ops.toArray (Q .normal) [] (behind ops vals σ ops.length) w') :
    WP P n (.region id ops.toArray true) Q σ w := by
  intro a hs
  have hf := drawOk.fit hok
  have hz : dn (Array.replicate ops.toArray.size false) = fun _ => false := by
    funext i
    simp [dn, Array.getElem?_replicate]
    split <;> rfl
  refine wp_region_any hm ?_
  refine phase3 (ss := ss) (vals := fun _ => undef) hf hd hkl hk (fun s hs => by
    have := (List.all_eq_true.1 hsl) s hs; simpa [Nat.blt_eq] using this) hob hfin _ _ a _ (by simp) ?_ ?_ ?_ ?_ ?_ ?_
  · intro i hi; rw [hz] at hi; cases hi
  · intro i hi; rw [hz] at hi; cases hi
  · simp
  · have : mixed ops (dn (Array.replicate ops.toArray.size false)) (fun _ => undef) σ = σ := by
      funext t
      exact mixed_none fun j _ => by rw [hz]
    rw [this]; exact hs
  · have : stage ss (dn (Array.replicate ops.toArray.size false)) = 0 := countP_none fun s _ => by rw [hz]
    rw [this]; exact hW _ rfl rfl rfl ⟨rfl, Nat.le_succ _⟩
  · intro i hi; rw [hz] at hi; cases hi
end
end Go.Proofs.Ytgjgmojjeehieaa
