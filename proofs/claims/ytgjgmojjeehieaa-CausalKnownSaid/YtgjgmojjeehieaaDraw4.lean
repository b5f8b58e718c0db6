/- A region that draws its order: what has effects stands in one chain; what is pure may be guarded, sees some of the chain's stages, and what is said of it may speak of what it looks at. -/
import Derived.Test.YtgjgmojjeehieaaDraw2
namespace Go.Proofs.Ytgjgmojjeehieaa

def WF (l : List ((Nat → Value) → World → Prop)) : Nat → (Nat → Value) → World → Prop := fun i vals w => match l[i]? with
  | some p => p vals w
  | none => True
def AF (l : List ((Nat → Value) → Prop)) : Nat → (Nat → Value) → Prop := fun i vals => match l[i]? with
  | some p => p vals
  | none => True

/-- An operation's value. -/
abbrev Vl (n : Nat) (X : Value) : (Nat → Value) → Prop := fun v => v n = X
def AFs (pre : List (List Nat)) : Nat → List ((Nat → Value) → Prop) → Prop
  | _, [] => True
  | n, A :: l => (∀ v v' : Nat → Value, (∀ j, j = n ∨ j ∈ pre.getD n [] → v' j = v j) → A v → A v') ∧ AFs pre (n + 1) l
theorem AFs.at_ {pre : List (List Nat)} : ∀ {l : List ((Nat → Value) → Prop)} {n : Nat}, AFs pre n l → ∀ i v v', (∀ j, j = n + i ∨ j ∈ pre.getD (n + i) [] → v' j = v j) → AF l i v → AF l i v'
  | [], _, _, _, _, _, _, h => h
  | _ :: _, _, h, 0, v, v', hv, ha => h.1 v v' hv ha
  | A :: l, n, h, i + 1, v, v', hv, ha => AFs.at_ (l := l) (n := n + 1) h.2 i v v' (by rw [show n + 1 + i = n + (i + 1) by omega]; exact hv) ha
theorem AF_loc {pre : List (List Nat)} {l : List ((Nat → Value) → Prop)} (h : AFs pre 0 l) : ∀ i v v', (∀ j, j = i ∨ j ∈ pre.getD i [] → v' j = v j) → AF l i v → AF l i v' := fun i v v' hv ha => h.at_ i v v' (by rw [Nat.zero_add]; exact hv) ha
theorem dA {p : List Nat} {n : Nat} {X : Value} (v v' : Nat → Value) (h : ∀ j, j = n ∨ j ∈ p → v' j = v j) (e : v n = X) : v' n = X := (h n (.inl rfl)).trans e
theorem dT {Q : (Nat → Value) → (Nat → Value) → Prop} (v v' : Nat → Value) (_ : Q v v') (_ : True) : True := trivial

section
variable {P : Program} {n : Nat} {Q : Post} {σ : Env} {w : World} {ops : List Oper} {pre : List (List Nat)}

/-- Which stages an operation sees: one of the chain just its place. -/
def seesOk (pre : List (List Nat)) (ss : List Nat) (sees : List (Nat × Nat)) : Bool :=
  (List.range sees.length).all fun i => match sees.getD i (0, 0) with
    | (a, b) => ((ss.take a).all fun s => (pre.getD i []).contains s) && ((ss.drop b).all fun s => Nat.beq s i || (pre.getD s []).contains i) && Nat.ble a ss.length &&
        (!ss.contains i || (Nat.beq a b && ss[a]? == some i && (ss.take a).all (fun s => !Nat.beq s i) && (ss.drop (a + 1)).all fun s => !Nat.beq s i && (pre.getD s []).contains i))

theorem seesOk.bounds {ss : List Nat} {sees : List (Nat × Nat)} (h : seesOk pre ss sees = true) {i a b : Nat} (hi : i < sees.length) (hk : sees.getD i (0, 0) = (a, b)) {done : Nat → Bool} (hc : closed pre done) (hd : done i = false) (hp : ∀ j ∈ pre.getD i [], done j = true) : a ≤ stage ss done ∧ stage ss done ≤ b := by
  simp only [seesOk, List.all_eq_true, List.mem_range] at h
  have h1 := h i hi
  rw [hk] at h1
  simp only [Bool.or_eq_true, Bool.and_eq_true, nbeq, List.all_eq_true, List.contains_iff_mem, Bool.not_eq_true', beq_iff_eq] at h1
  obtain ⟨⟨⟨ha, hb⟩, hal⟩, hs⟩ := h1
  have hal' : a ≤ ss.length := Nat.le_of_ble_eq_true hal
  have e2 : ∀ s ∈ ss.drop b, done s = false := fun s hs' => by
    rcases hb s hs' with rfl | h2
    · exact hd
    · cases hds : done s with
      | false => rfl
      | true => have := hc s hds i h2; rw [hd] at this; cases this
  constructor
  · have h3 : stage ss done = (ss.take a).countP done + (ss.drop a).countP done := by rw [stage, ← List.countP_append, List.take_append_drop]
    have h4 : (ss.take a).countP done = (ss.take a).length := List.countP_eq_length.2 fun s hs => hp s (ha s hs)
    rw [h3, h4, List.length_take]; omega
  · have : stage ss done = (ss.take b).countP done + (ss.drop b).countP done := by rw [stage, ← List.countP_append, List.take_append_drop]
    rw [this, countP_none e2]
    exact Nat.le_trans List.countP_le_length (by rw [List.length_take]; omega)
theorem seesOk.next {ss : List Nat} {sees : List (Nat × Nat)} (h : seesOk pre ss sees = true) {i : Nat} (hi : i < sees.length) (hm : i ∈ ss) {done : Nat → Bool} (hc : closed pre done) (hd : done i = false) (hp : ∀ j ∈ pre.getD i [], done j = true) : stage ss (fun j => done j || j == i) = stage ss done + 1 := by
  simp only [seesOk, List.all_eq_true, List.mem_range] at h
  have h1 := h i hi
  generalize hk : sees.getD i (0, 0) = ab at h1
  obtain ⟨a, b⟩ := ab
  simp only [Bool.or_eq_true, Bool.and_eq_true, nbeq, List.all_eq_true, List.contains_iff_mem, Bool.not_eq_true', beq_iff_eq] at h1
  obtain ⟨⟨⟨ha, hb⟩, hal⟩, hs⟩ := h1
  rcases hs with hs | ⟨⟨⟨hab, hat⟩, hta⟩, htd⟩
  · rw [show ss.contains i = true from List.contains_iff_mem.2 hm] at hs; cases hs
  · obtain ⟨hlt, hget⟩ := List.getElem?_eq_some_iff.1 hat
    have hsplit : ss = ss.take a ++ i :: ss.drop (a + 1) := by rw [← hget, ← List.drop_eq_getElem_cons hlt, List.take_append_drop]
    have k1 : ∀ d : Nat → Bool, stage ss d = (ss.take a).countP d + ((ss.drop (a + 1)).countP d + if d i = true then 1 else 0) := fun d => by
      conv => lhs; rw [stage, hsplit]
      rw [List.countP_append, List.countP_cons]
    have k2 : i ∉ ss.take a := fun h => by have := hta i h; simp at this
    have k3 : i ∉ ss.drop (a + 1) := fun h => by have := (htd i h).1; simp at this
    rw [k1, k1, countP_not k2, countP_not k3]
    simp [hd]
    omega

def Obls4 (P : Program) (ops : List Oper) (pre : List (List Nat)) (ss : List Nat) (sees : List (Nat × Nat)) (W : Nat → (Nat → Value) → World → Prop) (A : Nat → (Nat → Value) → Prop) (σ : Env) : Nat → List Oper → Prop
  | _, [] => True
  | i, o :: rest => (∀ k vals w, (sees.getD i (0, 0)).1 ≤ k → k ≤ (sees.getD i (0, 0)).2 → W k vals w → (∀ j, j ∈ pre.getD i [] → A j vals) →
      if Region.wanted o (yl ops.toArray (view ops (pre.getD i []) σ vals)) then opV P o (view ops (pre.getD i []) σ vals) w (fun v w' => ∀ vals', vals' i = v → (∀ j, j ≠ i → vals' j = vals j) → (if ss.contains i then W (k + 1) vals' w' else w' = w) ∧ A i vals')
      else ∀ vals', vals' i = undef → (∀ j, j ≠ i → vals' j = vals j) → (if ss.contains i then W (k + 1) vals' w else True) ∧ A i vals') ∧
    Obls4 P ops pre ss sees W A σ (i + 1) rest

theorem Obls4_at {ss : List Nat} {sees : List (Nat × Nat)} {W : Nat → (Nat → Value) → World → Prop} {A : Nat → (Nat → Value) → Prop} {i0 : Nat} : ∀ {l : List Oper}, Obls4 P ops pre ss sees W A σ i0 l → ∀ i o, l[i]? = some o → ∀ k vals w, (sees.getD (i0 + i) (0, 0)).1 ≤ k → k ≤ (sees.getD (i0 + i) (0, 0)).2 → W k vals w → (∀ j, j ∈ pre.getD (i0 + i) [] → A j vals) →
      if Region.wanted o (yl ops.toArray (view ops (pre.getD (i0 + i) []) σ vals)) then opV P o (view ops (pre.getD (i0 + i) []) σ vals) w (fun v w' => ∀ vals', vals' (i0 + i) = v → (∀ j, j ≠ i0 + i → vals' j = vals j) → (if ss.contains (i0 + i) then W (k + 1) vals' w' else w' = w) ∧ A (i0 + i) vals')
      else ∀ vals', vals' (i0 + i) = undef → (∀ j, j ≠ i0 + i → vals' j = vals j) → (if ss.contains (i0 + i) then W (k + 1) vals' w else True) ∧ A (i0 + i) vals' := by
  intro l
  induction l generalizing i0 with
  | nil => intro _ i o h; simp at h
  | cons x l ih =>
    intro h i o ho
    obtain ⟨h1, h2⟩ := h
    cases i with
    | zero => simp only [List.getElem?_cons_zero, Option.some.injEq] at ho; subst ho; exact h1
    | succ i =>
      have := ih h2 i o (by simpa using ho)
      rw [show i0 + 1 + i = i0 + (i + 1) by omega] at this
      exact this

theorem phase4 {ss : List Nat} {sees : List (Nat × Nat)} {W : Nat → (Nat → Value) → World → Prop} {A : Nat → (Nat → Value) → Prop} (hf : Fit ops pre ops.length) (hd : dstsOk n ops = true) (hkl : sees.length = ops.length) (hk : seesOk pre ss sees = true) (hsl : ∀ s ∈ ss, s < ops.length)
    (hloc : ∀ k vals vals' w, (∀ s ∈ ss, vals' s = vals s) → W k vals w → W k vals' w)
    (hlocA : ∀ i vals vals', (∀ j, j = i ∨ j ∈ pre.getD i [] → vals' j = vals j) → A i vals → A i vals') (hob : Obls4 P ops pre ss sees W A σ 0 ops)
    (hfin : ∀ vals w', W ss.length vals w' → (∀ j, j < ops.length → A j vals) → Q .normal (behind ops vals σ ops.length) w') :
    ∀ (fuel : Nat) (listed : Array Bool) (a : Act) (vals : Nat → Value) (w : World), listed.size = ops.length → closed pre (dn listed) → (∀ j, dn listed j = true → j < ops.length) →
    ops.length ≤ cnt (dn listed) ops.length + fuel → Sim n (mixed ops (dn listed) vals σ) a → W (stage ss (dn listed)) vals w → (∀ j, dn listed j = true → A j vals) →
    wpAny P .any ops.toArray (fun e a' w' => ∃ σ'', Sim n σ'' a' ∧ Q e σ'' w') fuel listed a w := by
  have hend : ∀ (listed : Array Bool) (a : Act) (vals : Nat → Value) (w : World), (∀ j, j < ops.length → dn listed j = true) → (∀ j, dn listed j = true → j < ops.length) → Sim n (mixed ops (dn listed) vals σ) a → W (stage ss (dn listed)) vals w → (∀ j, dn listed j = true → A j vals) →
      ∃ σ'', Sim n σ'' a ∧ Q .normal σ'' w := by
    intro listed a vals w hall hlt hsim hW hA
    have hdn : dn listed = fun j => decide (j < ops.length) := by
      funext j
      rw [Bool.eq_iff_iff, decide_eq_true_eq]
      exact ⟨hlt j, hall j⟩
    have hst : stage ss (dn listed) = ss.length := List.countP_eq_length.2 fun s hs => hall s (hsl s hs)
    rw [hdn, ← behind_mixed hf ops.length (Nat.le_refl _)] at hsim
    exact ⟨_, hsim, hfin vals w (hst ▸ hW) fun j hj => hA j (hall j hj)⟩
  intro fuel
  induction fuel with
  | zero =>
    intro listed a vals w hs hc hlt hfu hsim hW hA
    have hall := cnt_full (done := dn listed) (m := ops.length) (by omega)
    refine ⟨?_, hend listed a vals w hall hlt hsim hW hA⟩
    cases hr : Region.ready .any ops.toArray listed with
    | nil => rfl
    | cons i r =>
      have hi : i ∈ Region.ready .any ops.toArray listed := by rw [hr]; exact List.mem_cons_self
      obtain ⟨h1, o, ho, _⟩ := (ready_iff hs).1 hi
      have := hall i (List.getElem?_eq_some_iff.1 ho).1
      rw [h1] at this; cases this
  | succ fuel ih =>
    intro listed a vals w hs hc hlt hfu hsim hW hA
    refine ⟨fun hr => hend listed a vals w (ready_nil hf hs hr) hlt hsim hW hA, fun i hi => ?_⟩
    obtain ⟨o, ho, hni, hpre⟩ := ready_pre hf hs hc hi
    have hilen := (List.getElem?_eq_some_iff.1 ho).1
    have hdst : ∀ d, o.dst = some d → d < n := by
      intro d hd'
      simp only [dstsOk, List.all_eq_true] at hd
      have := hd o (List.mem_of_getElem? ho)
      rw [hd'] at this
      simpa [Nat.blt_eq] using this
    have hv := view_mixed (σ := σ) (vals := vals) hf ho hc hni hpre
    have hbd := seesOk.bounds hk (i := i) (a := (sees.getD i (0, 0)).1) (b := (sees.getD i (0, 0)).2) (by omega) rfl hc hni hpre
    have hO := Obls4_at hob i o ho (stage ss (dn listed)) vals w
    simp only [Nat.zero_add] at hO
    have hO' := hO hbd.1 hbd.2 hW (fun j hj => hA j (hpre j hj))
    have hset := dn_set hs ho
    have hnext : ∀ v a' w', (∀ vals', vals' i = v → (∀ j, j ≠ i → vals' j = vals j) → (if ss.contains i then W (stage ss (dn listed) + 1) vals' w' else W (stage ss (dn listed)) vals w') ∧ A i vals') → Sim n (updO (mixed ops (dn listed) vals σ) o.dst v) a' →
        wpAny P .any ops.toArray (fun e a' w' => ∃ σ'', Sim n σ'' a' ∧ Q e σ'' w') fuel (listed.setIfInBounds i true) a' w' := by
      intro v a' w' hn hs'
      rw [putMixed hf ho hni v] at hs'
      obtain ⟨hWn, hAn⟩ := hn (fun j => if j = i then v else vals j) (if_pos rfl) (fun j hj => if_neg hj)
      refine ih _ a' (fun j => if j = i then v else vals j) w' (by simpa using hs) ?_ ?_ ?_ ?_ ?_ ?_
      · intro j hj j' hj'
        rw [hset] at hj ⊢
        simp only [Bool.or_eq_true, beq_iff_eq] at hj ⊢
        rcases hj with hj | rfl
        · exact .inl (hc j hj j' hj')
        · exact .inl (hpre j' hj')
      · intro j hj
        rw [hset] at hj
        simp only [Bool.or_eq_true, beq_iff_eq] at hj
        rcases hj with hj | rfl
        · exact hlt j hj
        · exact hilen
      · rw [hset, cnt_add hni, if_pos hilen]; omega
      · rw [hset]; exact hs'
      · rw [hset]
        by_cases hm : i ∈ ss
        · rw [if_pos (List.contains_iff_mem.2 hm)] at hWn
          rw [seesOk.next hk (by omega) hm hc hni hpre]
          exact hWn
        · rw [if_neg (fun h => hm (List.contains_iff_mem.1 h))] at hWn
          rw [stage, countP_not hm]
          exact hloc _ _ _ _ (fun s hs => if_neg (fun e : s = i => hm (e ▸ hs))) hWn
      · intro j hj
        rw [hset] at hj
        simp only [Bool.or_eq_true, beq_iff_eq] at hj
        by_cases hji : j = i
        · subst hji; exact hAn
        · rcases hj with hj | hj
          · refine hlocA j vals _ (fun q hq => if_neg (fun e : q = i => ?_)) (hA j hj)
            subst e
            rcases hq with hq | hq
            · exact hji hq.symm
            · have := hc j hj q hq; rw [hni] at this; cases this
          · exact (hji hj).elim
    unfold wpOp
    simp only [List.getElem?_toArray, ho]
    rw [hsim.yielded, wanted_congr (σ := view ops (pre.getD i []) σ vals) hv]
    split
    · rename_i hw
      rw [if_pos hw] at hO'
      refine .inl (opP_wp hsim (K := fun σ'' w' => ∃ v, (∀ vals', vals' i = v → (∀ j, j ≠ i → vals' j = vals j) → (if ss.contains i then W (stage ss (dn listed) + 1) vals' w' else W (stage ss (dn listed)) vals w') ∧ A i vals') ∧ σ'' = updO (mixed ops (dn listed) vals σ) o.dst v) ?_ hdst ?_)
      · rintro a' σ'' w' hs' ⟨v, h1, rfl⟩
        exact hnext v a' w' h1 hs'
      · unfold opP
        rw [opV_congr (hf.sel i o ho) hv]
        refine opV_mono (fun v w' h => ⟨v, fun vals' h1 h2 => ?_, rfl⟩) hO'
        obtain ⟨h3, h4⟩ := h vals' h1 h2
        refine ⟨?_, h4⟩
        split
        · rename_i hm; rw [if_pos hm] at h3; exact h3
        · rename_i hm; rw [if_neg hm] at h3; subst h3; exact hW
    · rename_i hw
      rw [if_neg hw] at hO'
      refine hnext undef _ w (fun vals' h1 h2 => ?_) (hsim.put hdst undef)
      obtain ⟨h3, h4⟩ := hO' vals' h1 h2
      refine ⟨?_, h4⟩
      split
      · rename_i hm; rw [if_pos hm] at h3; exact h3
      · exact hW

/-- A region that draws its order. -/
theorem WP_draw4 {id : Nat} (W : Nat → (Nat → Value) → World → Prop) (A : Nat → (Nat → Value) → Prop) (pre : List (List Nat)) (ss : List Nat) (sees : List (Nat × Nat)) (hm : P.follows .mixedOrders = true) (hd : dstsOk n ops = true) (hok : drawOk ops pre ops.length = true)
    (hkl : sees.length = ops.length) (hk : seesOk pre ss sees = true) (hsl : (ss.all fun s => Nat.blt s ops.length) = true)
    (hW : ∀ w0 : World, w0.heap = w.heap → w0.os = w.os → w0.tape = w.tape → w0.output = w.output ∧ w.drawn ≤ w0.drawn → ∀ vals, W 0 vals w0)
    (hloc : ∀ k vals vals' w, (∀ s ∈ ss, vals' s = vals s) → W k vals w → W k vals' w)
    (hlocA : ∀ i vals vals', (∀ j, j = i ∨ j ∈ pre.getD i [] → vals' j = vals j) → A i vals → A i vals')
    (hob : Obls4 P ops pre ss sees W A σ 0 ops)
    (hfin : ∀ vals w', W ss.length vals w' → (∀ j, j < ops.length → A j vals) → WPs P ops.toArray (Q .normal) [] (behind ops vals σ ops.length) w') :
    WP P n (.region id ops.toArray true) Q σ w := by
  intro a hs
  have hf := drawOk.fit hok
  have hz : dn (Array.replicate ops.toArray.size false) = fun _ => false := by
    funext i
    simp [dn, Array.getElem?_replicate]
    split <;> rfl
  refine wp_region_any hm ?_
  refine phase4 (ss := ss) (vals := fun _ => undef) hf hd hkl hk (fun s hs => by
    have := (List.all_eq_true.1 hsl) s hs; simpa [Nat.blt_eq] using this) hloc hlocA hob hfin _ _ a _ (by simp) ?_ ?_ ?_ ?_ ?_ ?_
  · intro i hi; rw [hz] at hi; cases hi
  · intro i hi; rw [hz] at hi; cases hi
  · simp
  · have : mixed ops (dn (Array.replicate ops.toArray.size false)) (fun _ => undef) σ = σ := by
      funext t
      exact mixed_none fun j _ => by rw [hz]
    rw [this]; exact hs
  · have : stage ss (dn (Array.replicate ops.toArray.size false)) = 0 := countP_none fun s _ => by rw [hz]
    rw [this]; exact hW { w with drawn := w.drawn + 1 } rfl rfl rfl ⟨rfl, Nat.le_succ _⟩ _
  · intro i hi; rw [hz] at hi; cases hi
end
end Go.Proofs.Ytgjgmojjeehieaa
