import Derived.Test.YtlblilbmpdejgaaDoorT2
import Derived.Test.YtlblilbmpdejgaaDoorT5
set_option linter.unusedSimpArgs false
set_option linter.unusedVariables false
set_option linter.unusedSectionVars false
set_option linter.deprecated false
/- A region that draws its order: what has effects may stand apart; a xf is told by which of them are done. -/
namespace Go.Proofs.YtlblilbmpdejgaaDoor

section
variable {P : Program} {n : Nat} {Q : ZV} {σ : Env} {w : World} {ops : List Oper} {pre : List (List Nat)}

def yH : List Nat → (Nat → Bool) → Nat
  | [], _ => 0
  | s :: r, d => (if d s = true then 1 else 0) + 2 * yH r d
theorem WQ : ∀ (ss : List Nat) (d : Nat → Bool), yH ss d < 2 ^ ss.length
  | [], _ => Nat.one_pos
  | s :: r, d => by
    have := WQ r d
    simp only [yH, List.length_cons, Nat.pow_succ]
    split <;> omega
theorem XE : ∀ (ss : List Nat) (d : Nat → Bool) (p s : Nat), ss[p]? = some s → (yH ss d).testBit p = d s
  | [], _, _, _, h => by simp at h
  | x :: r, d, 0, s, h => by
    simp only [List.getElem?_cons_zero, Option.some.injEq] at h
    subst h
    rw [Nat.testBit_zero, yH]
    cases h : d x <;> simp <;> omega
  | x :: r, d, p + 1, s, h => by
    have := XE r d p s (by simpa using h)
    rw [Nat.testBit_succ, yH, show ((if d x = true then 1 else 0) + 2 * yH r d) / 2 = yH r d by split <;> omega]
    exact this
theorem XA {ss : List Nat} {d : Nat → Bool} {i : Nat} (h : i ∉ ss) : yH ss (fun j => d j || j == i) = yH ss d := by
  induction ss with
  | nil => rfl
  | cons s r ih =>
    have hs : ¬ s = i := fun e => h (e ▸ List.mem_cons_self)
    simp only [yH]
    rw [ih (fun hm => h (List.mem_cons_of_mem _ hm))]
    simp [hs]
theorem Uv {ss : List Nat} {d : Nat → Bool} {i : Nat} (hnd : ss.Nodup) (h : i ∈ ss) (hd : d i = false) : yH ss (fun j => d j || j == i) = yH ss d + 2 ^ ss.idxOf i := by
  induction ss with
  | nil => cases h
  | cons s r ih =>
    obtain ⟨h1, h2⟩ := List.nodup_cons.1 hnd
    by_cases e : s = i
    · subst e
      simp only [yH, List.idxOf_cons_self]
      rw [XA h1]
      simp [hd]
      omega
    · have hm : i ∈ r := by
        rcases List.mem_cons.1 h with e2 | hm
        · exact absurd e2.symm e
        · exact hm
      simp only [yH]
      rw [ih h2 hm, show (s :: r).idxOf i = r.idxOf i + 1 by rw [List.idxOf_cons, show (s == i) = false from beq_eq_false_iff_ne.2 e]; rfl, Nat.pow_succ]
      simp [e]
      omega
theorem XH : ∀ {ss : List Nat} {d : Nat → Bool}, (∀ s ∈ ss, d s = true) → yH ss d = 2 ^ ss.length - 1
  | [], _, _ => rfl
  | s :: r, d, h => by
    have := XH (ss := r) (d := d) (fun q hq => h q (List.mem_cons_of_mem _ hq))
    have h2 : 0 < 2 ^ r.length := Nat.two_pow_pos _
    simp only [yH, List.length_cons, Nat.pow_succ, h s List.mem_cons_self, if_true, this]
    omega
theorem YM : ∀ {ss : List Nat} {d : Nat → Bool}, (∀ s ∈ ss, d s = false) → yH ss d = 0
  | [], _, _ => rfl
  | s :: r, d, h => by
    have := YM (ss := r) (d := d) (fun q hq => h q (List.mem_cons_of_mem _ hq))
    simp [yH, h s List.mem_cons_self, this]
def UP (pre : List (List Nat)) (ss : List Nat) (m i : Nat) : Bool := (List.range ss.length).all fun p => match ss.getD p 0 with
  | s => (!(pre.getD i []).contains s || m.testBit p) && (!(Nat.beq s i || (pre.getD s []).contains i) || !m.testBit p) && (!m.testBit p || (List.range ss.length).all fun r => !(pre.getD s []).contains (ss.getD r 0) || m.testBit r)
def maskOk (pre : List (List Nat)) (ss : List Nat) (sees : List (List Nat)) : Bool := (List.range sees.length).all fun i => (List.range (2 ^ ss.length)).all fun m => !UP pre ss m i || (sees.getD i []).contains m
theorem maskOk.mem {ss : List Nat} {sees : List (List Nat)} (h : maskOk pre ss sees = true) {i : Nat} (hi : i < sees.length) {done : Nat → Bool} (hc : closed pre done) (hd : done i = false) (hp : ∀ j ∈ pre.getD i [], done j = true) : yH ss done ∈ sees.getD i [] := by
  simp only [maskOk, List.all_eq_true, List.mem_range] at h
  have h1 := h i hi (yH ss done) (WQ _ _)
  have hcons : UP pre ss (yH ss done) i = true := by
    simp only [UP, List.all_eq_true, List.mem_range]
    intro p hp'
    have hb : ∀ r, r < ss.length → (yH ss done).testBit r = done (ss.getD r 0) := fun r hr => XE ss done r _ (by rw [List.getD_eq_getElem?_getD, List.getElem?_eq_getElem hr]; rfl)
    simp only [Bool.and_eq_true, Bool.or_eq_true, Bool.not_eq_true', List.all_eq_true, List.mem_range]
    rw [hb p hp']
    refine ⟨⟨?_, ?_⟩, ?_⟩
    · cases hk : (pre.getD i []).contains (ss.getD p 0) with
      | false => exact .inl rfl
      | true => exact .inr (hp _ (List.contains_iff_mem.1 hk))
    · cases hk : (Nat.beq (ss.getD p 0) i || (pre.getD (ss.getD p 0) []).contains i) with
      | false => exact .inl rfl
      | true =>
        right
        rcases Bool.or_eq_true _ _ ▸ hk with h2 | h2
        · rw [Nat.eq_of_beq_eq_true h2]; exact hd
        · cases hds : done (ss.getD p 0) with
          | false => rfl
          | true => have := hc _ hds i (List.contains_iff_mem.1 h2); rw [hd] at this; cases this
    · cases hds : done (ss.getD p 0) with
      | false => exact .inl rfl
      | true =>
        right
        intro r hr
        rw [hb r hr]
        cases hk : (pre.getD (ss.getD p 0) []).contains (ss.getD r 0) with
        | false => exact .inl rfl
        | true => exact .inr (hc _ hds _ (List.contains_iff_mem.1 hk))
  rw [hcons] at h1
  simpa using h1

def Wq (P : Program) (ops : List Oper) (pre : List (List Nat)) (ss : List Nat) (sees : List (List Nat)) (W : Nat → (Nat → Value) → World → Prop) (A : Nat → (Nat → Value) → Prop) (σ : Env) : Nat → List Oper → Prop
  | _, [] => True
  | i, o :: rest => (∀ k vals w, k ∈ sees.getD i [] → W k vals w → (∀ j, j ∈ pre.getD i [] → A j vals) →
      if Region.wanted o (yl ops.toArray (YB ops (pre.getD i []) σ vals)) then opV P o (YB ops (pre.getD i []) σ vals) w (fun v w' => ∀ vals', vals' i = v → (∀ j, j ≠ i → vals' j = vals j) → (if ss.contains i then W (k + 2 ^ ss.idxOf i) vals' w' else w' = w) ∧ A i vals')
      else ∀ vals', vals' i = undef → (∀ j, j ≠ i → vals' j = vals j) → (if ss.contains i then W (k + 2 ^ ss.idxOf i) vals' w else True) ∧ A i vals') ∧
    Wq P ops pre ss sees W A σ (i + 1) rest

theorem Qs {ss : List Nat} {sees : List (List Nat)} {W : Nat → (Nat → Value) → World → Prop} {A : Nat → (Nat → Value) → Prop} {i0 : Nat} : ∀ {l : List Oper}, Wq P ops pre ss sees W A σ i0 l → ∀ i o, l[i]? = some o → ∀ k vals w, k ∈ sees.getD (i0 + i) [] → W k vals w → (∀ j, j ∈ pre.getD (i0 + i) [] → A j vals) →
      if Region.wanted o (yl ops.toArray (YB ops (pre.getD (i0 + i) []) σ vals)) then opV P o (YB ops (pre.getD (i0 + i) []) σ vals) w (fun v w' => ∀ vals', vals' (i0 + i) = v → (∀ j, j ≠ i0 + i → vals' j = vals j) → (if ss.contains (i0 + i) then W (k + 2 ^ ss.idxOf (i0 + i)) vals' w' else w' = w) ∧ A (i0 + i) vals')
      else ∀ vals', vals' (i0 + i) = undef → (∀ j, j ≠ i0 + i → vals' j = vals j) → (if ss.contains (i0 + i) then W (k + 2 ^ ss.idxOf (i0 + i)) vals' w else True) ∧ A (i0 + i) vals' := by
  intro l
  induction l generalizing i0 with
  | nil => intro _ i o h; simp at h
  | cons x l ih =>
    intro h i o ho
    obtain ⟨h1, h2⟩ := h
    cases i with
    | zero => simp only [List.getElem?_cons_zero, Option.some.injEq] at ho; subst ho; exact h1
    | succ i =>
      have := ih h2 i o (by simpa using ho)
      rw [show i0 + 1 + i = i0 + (i + 1) by omega] at this
      exact this

theorem KO {ss : List Nat} {sees : List (List Nat)} {W : Nat → (Nat → Value) → World → Prop} {A : Nat → (Nat → Value) → Prop} (hf : Fit ops pre ops.length) (hd : xA n ops = true) (hkl : sees.length = ops.length) (hk : maskOk pre ss sees = true) (hsl : ∀ s ∈ ss, s < ops.length) (hnd : ss.Nodup)
    (hloc : ∀ k vals vals' w, (∀ s ∈ ss, vals' s = vals s) → W k vals w → W k vals' w)
    (hlocA : ∀ i vals vals', (∀ j, j = i ∨ j ∈ pre.getD i [] → vals' j = vals j) → A i vals → A i vals') (hob : Wq P ops pre ss sees W A σ 0 ops)
    (hfin : ∀ vals w', W (2 ^ ss.length - 1) vals w' → (∀ j, j < ops.length → A j vals) → Q .normal (behind ops vals σ ops.length) w') :
    ∀ (fuel : Nat) (listed : Array Bool) (a : Act) (vals : Nat → Value) (w : World), listed.size = ops.length → closed pre (dn listed) → (∀ j, dn listed j = true → j < ops.length) →
    ops.length ≤ cnt (dn listed) ops.length + fuel → Sim n (mixed ops (dn listed) vals σ) a → W (yH ss (dn listed)) vals w → (∀ j, dn listed j = true → A j vals) →
    wpAny P .any ops.toArray (fun e a' w' => ∃ σ'', Sim n σ'' a' ∧ Q e σ'' w') fuel listed a w := by
  have hend : ∀ (listed : Array Bool) (a : Act) (vals : Nat → Value) (w : World), (∀ j, j < ops.length → dn listed j = true) → (∀ j, dn listed j = true → j < ops.length) → Sim n (mixed ops (dn listed) vals σ) a → W (yH ss (dn listed)) vals w → (∀ j, dn listed j = true → A j vals) →
      ∃ σ'', Sim n σ'' a ∧ Q .normal σ'' w := by
    intro listed a vals w hall hlt hsim hW hA
    have hdn : dn listed = fun j => decide (j < ops.length) := by
      funext j
      rw [Bool.eq_iff_iff, decide_eq_true_eq]
      exact ⟨hlt j, hall j⟩
    have hst : yH ss (dn listed) = 2 ^ ss.length - 1 := XH fun s hs => hall s (hsl s hs)
    rw [hdn, ← Zn hf ops.length (Nat.le_refl _)] at hsim
    exact ⟨_, hsim, hfin vals w (hst ▸ hW) fun j hj => hA j (hall j hj)⟩
  intro fuel
  induction fuel with
  | zero =>
    intro listed a vals w hs hc hlt hfu hsim hW hA
    have hall := Xb (done := dn listed) (m := ops.length) (by omega)
    refine ⟨?_, hend listed a vals w hall hlt hsim hW hA⟩
    cases hr : Region.ready .any ops.toArray listed with
    | nil => rfl
    | cons i r =>
      have hi : i ∈ Region.ready .any ops.toArray listed := by rw [hr]; exact List.mem_cons_self
      obtain ⟨h1, o, ho, _⟩ := (ZC hs).1 hi
      have := hall i (List.getElem?_eq_some_iff.1 ho).1
      rw [h1] at this; cases this
  | succ fuel ih =>
    intro listed a vals w hs hc hlt hfu hsim hW hA
    refine ⟨fun hr => hend listed a vals w (XK hf hs hr) hlt hsim hW hA, fun i hi => ?_⟩
    obtain ⟨o, ho, hni, hpre⟩ := XJ hf hs hc hi
    have hilen := (List.getElem?_eq_some_iff.1 ho).1
    have hdst : ∀ d, o.dst = some d → d < n := by
      intro d hd'
      simp only [xA, List.all_eq_true] at hd
      have := hd o (List.mem_of_getElem? ho)
      rw [hd'] at this
      simpa [Nat.blt_eq] using this
    have hv := YX (σ := σ) (vals := vals) hf ho hc hni hpre
    have hbd := maskOk.mem hk (i := i) (by omega) hc hni hpre
    have hO := Qs hob i o ho (yH ss (dn listed)) vals w
    simp only [Nat.zero_add] at hO
    have hO' := hO hbd hW (fun j hj => hA j (hpre j hj))
    have hset := Qz hs ho
    have hnext : ∀ v a' w', (∀ vals', vals' i = v → (∀ j, j ≠ i → vals' j = vals j) → (if ss.contains i then W (yH ss (dn listed) + 2 ^ ss.idxOf i) vals' w' else W (yH ss (dn listed)) vals w') ∧ A i vals') → Sim n (ZM (mixed ops (dn listed) vals σ) o.dst v) a' →
        wpAny P .any ops.toArray (fun e a' w' => ∃ σ'', Sim n σ'' a' ∧ Q e σ'' w') fuel (listed.setIfInBounds i true) a' w' := by
      intro v a' w' hn hs'
      rw [YU hf ho hni v] at hs'
      obtain ⟨hWn, hAn⟩ := hn (fun j => if j = i then v else vals j) (if_pos rfl) (fun j hj => if_neg hj)
      refine ih _ a' (fun j => if j = i then v else vals j) w' (by simpa using hs) ?_ ?_ ?_ ?_ ?_ ?_
      · intro j hj j' hj'
        rw [hset] at hj ⊢
        simp only [Bool.or_eq_true, beq_iff_eq] at hj ⊢
        rcases hj with hj | rfl
        · exact .inl (hc j hj j' hj')
        · exact .inl (hpre j' hj')
      · intro j hj
        rw [hset] at hj
        simp only [Bool.or_eq_true, beq_iff_eq] at hj
        rcases hj with hj | rfl
        · exact hlt j hj
        · exact hilen
      · rw [hset, Wh hni, if_pos hilen]; omega
      · rw [hset]; exact hs'
      · rw [hset]
        by_cases hm : i ∈ ss
        · rw [if_pos (List.contains_iff_mem.2 hm)] at hWn
          rw [Uv hnd hm hni]
          exact hWn
        · rw [if_neg (fun h => hm (List.contains_iff_mem.1 h))] at hWn
          rw [XA hm]
          exact hloc _ _ _ _ (fun s hs => if_neg (fun e : s = i => hm (e ▸ hs))) hWn
      · intro j hj
        rw [hset] at hj
        simp only [Bool.or_eq_true, beq_iff_eq] at hj
        by_cases hji : j = i
        · subst hji; exact hAn
        · rcases hj with hj | hj
          · refine hlocA j vals _ (fun q hq => if_neg (fun e : q = i => ?_)) (hA j hj)
            subst e
            rcases hq with hq | hq
            · exact hji hq.symm
            · have := hc j hj q hq; rw [hni] at this; cases this
          · exact (hji hj).elim
    unfold wpOp
    simp only [List.getElem?_toArray, ho]
    rw [hsim.yielded, ZX (σ := YB ops (pre.getD i []) σ vals) hv]
    split
    · rename_i hw
      rw [if_pos hw] at hO'
      refine .inl (Vy hsim (K := fun σ'' w' => ∃ v, (∀ vals', vals' i = v → (∀ j, j ≠ i → vals' j = vals j) → (if ss.contains i then W (yH ss (dn listed) + 2 ^ ss.idxOf i) vals' w' else W (yH ss (dn listed)) vals w') ∧ A i vals') ∧ σ'' = ZM (mixed ops (dn listed) vals σ) o.dst v) ?_ hdst ?_)
      · rintro a' σ'' w' hs' ⟨v, h1, rfl⟩
        exact hnext v a' w' h1 hs'
      · unfold opP
        rw [XP (hf.sel i o ho) hv]
        refine WI (fun v w' h => ⟨v, fun vals' h1 h2 => ?_, rfl⟩) hO'
        obtain ⟨h3, h4⟩ := h vals' h1 h2
        refine ⟨?_, h4⟩
        split
        · rename_i hm; rw [if_pos hm] at h3; exact h3
        · rename_i hm; rw [if_neg hm] at h3; subst h3; exact hW
    · rename_i hw
      rw [if_neg hw] at hO'
      refine hnext undef _ w (fun vals' h1 h2 => ?_) (hsim.put hdst undef)
      obtain ⟨h3, h4⟩ := hO' vals' h1 h2
      refine ⟨?_, h4⟩
      split
      · rename_i hm; rw [if_pos hm] at h3; exact h3
      · exact hW

theorem UC {id : Nat} (W : Nat → (Nat → Value) → World → Prop) (A : Nat → (Nat → Value) → Prop) (pre : List (List Nat)) (ss : List Nat) (sees : List (List Nat)) (hm : P.follows .mixedOrders = true) (hd : xA n ops = true) (hok : drawOk ops pre ops.length = true)
    (hkl : sees.length = ops.length) (hk : maskOk pre ss sees = true) (hsl : (ss.all fun s => Nat.blt s ops.length) = true) (hnd : ss.Nodup)
    (hW : ∀ w0 : World, w0.heap = w.heap → w0.os = w.os → w0.tape = w.tape → w0.output = w.output ∧ w.drawn ≤ w0.drawn → ∀ vals, W 0 vals w0)
    (hloc : ∀ k vals vals' w, (∀ s ∈ ss, vals' s = vals s) → W k vals w → W k vals' w)
    (hlocA : ∀ i vals vals', (∀ j, j = i ∨ j ∈ pre.getD i [] → vals' j = vals j) → A i vals → A i vals')
    (hob : Wq P ops pre ss sees W A σ 0 ops)
    (hfin : ∀ vals w', W (2 ^ ss.length - 1) vals w' → (∀ j, j < ops.length → A j vals) → WPs P ops.toArray (Q .normal) [] (behind ops vals σ ops.length) w') :
    WP P n (.region id ops.toArray true) Q σ w := by
  intro a hs
  have hf := drawOk.fit hok
  have hz : dn (Array.replicate ops.toArray.size false) = fun _ => false := by
    funext i
    simp [dn, Array.getElem?_replicate]
    split <;> rfl
  refine wp_region_any hm ?_
  refine KO (ss := ss) (vals := fun _ => undef) hf hd hkl hk (fun s hs => by
    have := (List.all_eq_true.1 hsl) s hs; simpa [Nat.blt_eq] using this) hnd hloc hlocA hob hfin _ _ a _ (by simp) ?_ ?_ ?_ ?_ ?_ ?_
  · intro i hi; rw [hz] at hi; cases hi
  · intro i hi; rw [hz] at hi; cases hi
  · simp
  · have : mixed ops (dn (Array.replicate ops.toArray.size false)) (fun _ => undef) σ = σ := by
      funext t
      exact xz fun j _ => by rw [hz]
    rw [this]; exact hs
  · have : yH ss (dn (Array.replicate ops.toArray.size false)) = 0 := YM fun s _ => by rw [hz]
    rw [this]; exact hW { w with drawn := w.drawn + 1 } rfl rfl rfl ⟨rfl, Nat.le_succ _⟩ _
  · intro i hi; rw [hz] at hi; cases hi
end
theorem WD6 {P : Program} {n : Nat} {Q : ZV} {σ : Env} {w W0 : World} {G0 : Nat → Prop} {As : List HP} {ops : List Oper} {id : Nat} (W : Nat → (Nat → Value) → World → Prop) (A : Nat → (Nat → Value) → Prop) (pre : List (List Nat)) (ss : List Nat) (sees : List (List Nat)) (hS : Sep G0 W0 As w)
    (hob : Wq P ops pre ss sees W A σ 0 ops)
    (hfin : ∀ vals w', W (2 ^ ss.length - 1) vals w' → (∀ j, j < ops.length → A j vals) → WPs P ops.toArray (Q .normal) [] (behind ops vals σ ops.length) w')
    (hlocA : ∀ i vals vals', (∀ j, j = i ∨ j ∈ pre.getD i [] → vals' j = vals j) → A i vals → A i vals' := by exact yZ (by repeat first | exact trivial | refine ⟨dA, ?_⟩ | refine ⟨dT, ?_⟩))
    (hm : P.follows .mixedOrders = true := by kernel_rfl) (hd : xA n ops = true := by kernel_rfl) (hok : drawOk ops pre ops.length = true := by kernel_rfl) (hkl : sees.length = ops.length := by rfl) (hk : maskOk pre ss sees = true := by kernel_rfl) (hsl : (ss.all fun s => Nat.blt s ops.length) = true := by kernel_rfl) (hnd : ss.Nodup := by decide)
    (h0 : ∀ vals w, Sep G0 W0 As w → W 0 vals w := by exact fun _ _ h => h)
    (hloc : ∀ k vals vals' w, (∀ s ∈ ss, vals' s = vals s) → W k vals w → W k vals' w := by
      intro k vals u w H h
      try simp only [List.mem_cons, List.not_mem_nil, forall_eq_or_imp, or_false, forall_eq] at H
      rcases k with _ | _ | _ | _ | _ | _ | _ | _ | _ | _ | _ | _ | _ | _ | _ | _ | _ | _
      all_goals first | exact h | exact trivial | (simp only [WF, List.getElem?_cons_zero, List.getElem?_cons_succ, H] at h ⊢; exact h)) :
    WP P n (.region id ops.toArray true) Q σ w := UC W A pre ss sees hm hd hok hkl hk hsl hnd (fun _ h1 h2 h3 h4 _ => h0 _ _ (hS.same h1 h2 h3 h4)) hloc hlocA hob hfin
end Go.Proofs.YtlblilbmpdejgaaDoor
/- Steps of the proofs of this seat: part F0. -/
set_option maxRecDepth 8000
set_option maxHeartbeats 4000000
namespace Go.Proofs.YtlblilbmpdejgaaDoor
open Go.Proofs Go.RowKit

theorem WD (a b c d : Int) : (decide (a = c ∧ b = d)) = (a == c && b == d) := by
  by_cases h1 : a = c <;> by_cases h2 : b = d <;> simp [h1, h2]
theorem ck3 (w : World) (e : Bool) (n : Nat) (a : Int) : (Instr.checkKey e (n + 1) 3 (.int .i64 a)).run Tryd.prog w = .ok () w := MapKept.run_checkKey Tryd.underlying3 (show MapKept.IsKey (.int .i64) (.int .i64 a) from rfl) e n
def yR (k : Int × Int) : Value := .agg #[.int .i64 k.1, .int .i64 k.2]
def xd (k : Int × Int × Int) : Value := .agg #[.int .i64 k.1, .int .i64 k.2.1, .int .i64 k.2.2]
theorem K2 : KLaw Tryd.prog 120 yR where
  inj := by
    rintro ⟨a, b⟩ ⟨c, d⟩ h
    simp only [yR, Value.agg.injEq, Array.mk.injEq, List.cons.injEq, Value.int.injEq, true_and, and_true] at h
    rw [h.1, h.2]
  desc := ⟨_, Tryd.underlying120, fun _ _ => rfl⟩
  check := by
    intro w e k
    show (Instr.checkKey e 10000 120 (.agg #[.int .i64 k.1, .int .i64 k.2])).run Tryd.prog w = .ok () w
    rw [show (10000 : Nat) = 9998 + 1 + 1 from rfl, Instr.checkKey]
    simp [go_sem, ck3]
  eql := by
    rintro w ⟨a, b⟩ ⟨c, d⟩
    rw [show decide ((a, b) = (c, d)) = (a == c && b == d) by rw [← WD]; simp]
    unfold Op.equal Op.maxDepth yR
    simp [go_sem]
    by_cases h1 : a = c <;> by_cases h2 : b = d <;> simp [h1, h2]
  stays := by intro k; simp [Instr.sameBits, yR]
theorem K3 : KLaw Tryd.prog 133 xd where
  inj := by
    rintro ⟨a, b, c⟩ ⟨d, e, f⟩ h
    simp only [xd, Value.agg.injEq, Array.mk.injEq, List.cons.injEq, Value.int.injEq, true_and, and_true] at h
    rw [h.1, h.2.1, h.2.2]
  desc := ⟨_, Tryd.underlying133, fun _ _ => rfl⟩
  check := by
    intro w e k
    show (Instr.checkKey e 10000 133 (.agg #[.int .i64 k.1, .int .i64 k.2.1, .int .i64 k.2.2])).run Tryd.prog w = .ok () w
    rw [show (10000 : Nat) = 9997 + 1 + 1 + 1 from rfl, Instr.checkKey]
    simp [go_sem, ck3]
    rw [Instr.checkKey]
    simp [go_sem, ck3]
  eql := by
    rintro w ⟨a, b, c⟩ ⟨d, e, f⟩
    rw [show decide ((a, b, c) = (d, e, f)) = (a == d && b == e && c == f) by by_cases h1 : a = d <;> by_cases h2 : b = e <;> by_cases h3 : c = f <;> simp [h1, h2, h3]]
    unfold Op.equal Op.maxDepth xd
    simp [go_sem]
    by_cases h1 : a = d <;> by_cases h2 : b = e <;> by_cases h3 : c = f <;> simp [h1, h2, h3]
  stays := by intro k; simp [Instr.sameBits, xd]

def E1 (v : Value) (x : Nat × List Cel) : HP := ⟨fun w f => ∃ vc, v = .agg #[.int .i64 ((x.1 : Nat) : Int), vc] ∧ (RowE (α := Cel) own 42 vc x.2).p w f, fun h hf => by
  obtain ⟨vc, h1, h2⟩ := h
  exact ⟨vc, h1, HP.loc _ h2 hf⟩⟩
def E2 (v : Value) (l : List Ev) : HP := RowE (α := Ev) own 59 v l
def XI : Value := .agg #[.int .i64 0, .slice none 0 0]
def ViewO (b : Nat) (d : Dcl) (L M : List Ent) : HP := Ex1 fun vt => Ex1 fun vp => Ex1 fun ve => Ex1 fun m1 => Ex1 fun m2 => Star [Blk b #[vt, vp, ve, .map (some m1), .map (some m2)] 111, RowE (α := Typ) own 33 vt d.types, RowE (α := Prj) own 107 vp d.projs, RowE (α := Ent) own 62 ve L, yw yR E1 m1 (zp d M), yw xd E2 m2 (yu M)]
section
variable {G : Nat → Prop} {W w : World} {As : List HP} {b : Nat} {d : Dcl} {L M : List Ent}
theorem ViewO.open (h : Sep G W (ViewO b d L M :: As) w) : ∃ vt vp ve m1 m2, Sep G W (Blk b #[vt, vp, ve, .map (some m1), .map (some m2)] 111 :: RowE (α := Typ) own 33 vt d.types :: RowE (α := Prj) own 107 vp d.projs :: RowE (α := Ent) own 62 ve L :: yw yR E1 m1 (zp d M) :: yw xd E2 m2 (yu M) :: As) w := by
  obtain ⟨vt, h⟩ := h.openEx
  obtain ⟨vp, h⟩ := h.openEx
  obtain ⟨ve, h⟩ := h.openEx
  obtain ⟨m1, h⟩ := h.openEx
  obtain ⟨m2, h⟩ := h.openEx
  exact ⟨vt, vp, ve, m1, m2, h.openStar⟩
theorem ViewO.close {vt vp ve : Value} {m1 m2 : Nat} (h : Sep G W (Blk b #[vt, vp, ve, .map (some m1), .map (some m2)] 111 :: RowE (α := Typ) own 33 vt d.types :: RowE (α := Prj) own 107 vp d.projs :: RowE (α := Ent) own 62 ve L :: yw yR E1 m1 (zp d M) :: yw xd E2 m2 (yu M) :: As) w) : Sep G W (ViewO b d L M :: As) w := by
  have h := Sep.closeStar (Bs := [Blk b #[vt, vp, ve, .map (some m1), .map (some m2)] 111, RowE (α := Typ) own 33 vt d.types, RowE (α := Prj) own 107 vp d.projs, RowE (α := Ent) own 62 ve L, yw yR E1 m1 (zp d M), yw xd E2 m2 (yu M)]) h
  exact Sep.closeEx (A := fun vt => Ex1 fun vp => Ex1 fun ve => Ex1 fun m1 => Ex1 fun m2 => Star [Blk b #[vt, vp, ve, .map (some m1), .map (some m2)] 111, RowE (α := Typ) own 33 vt d.types, RowE (α := Prj) own 107 vp d.projs, RowE (α := Ent) own 62 ve L, yw yR E1 m1 (zp d M), yw xd E2 m2 (yu M)]) vt (Sep.closeEx (A := fun vp => Ex1 fun ve => Ex1 fun m1 => Ex1 fun m2 => Star [Blk b #[vt, vp, ve, .map (some m1), .map (some m2)] 111, RowE (α := Typ) own 33 vt d.types, RowE (α := Prj) own 107 vp d.projs, RowE (α := Ent) own 62 ve L, yw yR E1 m1 (zp d M), yw xd E2 m2 (yu M)]) vp (Sep.closeEx (A := fun ve => Ex1 fun m1 => Ex1 fun m2 => Star [Blk b #[vt, vp, ve, .map (some m1), .map (some m2)] 111, RowE (α := Typ) own 33 vt d.types, RowE (α := Prj) own 107 vp d.projs, RowE (α := Ent) own 62 ve L, yw yR E1 m1 (zp d M), yw xd E2 m2 (yu M)]) ve (Sep.closeEx (A := fun m1 => Ex1 fun m2 => Star [Blk b #[vt, vp, ve, .map (some m1), .map (some m2)] 111, RowE (α := Typ) own 33 vt d.types, RowE (α := Prj) own 107 vp d.projs, RowE (α := Ent) own 62 ve L, yw yR E1 m1 (zp d M), yw xd E2 m2 (yu M)]) m1 (Sep.closeEx (A := fun m2 => Star [Blk b #[vt, vp, ve, .map (some m1), .map (some m2)] 111, RowE (α := Typ) own 33 vt d.types, RowE (α := Prj) own 107 vp d.projs, RowE (α := Ent) own 62 ve L, yw yR E1 m1 (zp d M), yw xd E2 m2 (yu M)]) m2 h))))
theorem Qk {v : Value} {k : Int × Int × Int} (h : Sep G W (Yp E2 v (yu M k) :: As) w) (hv : yu M k = none → v = .slice none 0 0) : Sep G W (RowE (α := Ev) own 59 v (zY k M) :: As) w := by
  refine h.impl (i := 0) rfl (fun f hA => ?_)
  unfold yu at hA hv
  split at hA
  · rename_i he
    rw [if_pos he] at hv
    rw [hv rfl, List.isEmpty_iff.1 he]
    exact RowE.nil _ _ _ _
  · exact hA
theorem XO {v : Value} {k : Int × Int × Int} (h : Sep G W (RowE (α := Ev) own 59 v (zY k M) :: As) w) : Sep G W (Yp E2 v (yu M k) :: As) w := by
  refine h.impl (i := 0) rfl (fun f hA => ?_)
  unfold yu
  split
  · exact trivial
  · exact hA
def stL (d : Dcl) (k : Int × Int) (M : List Ent) : List Cel := if zZ k M = 0 then [] else zW d k M
theorem XN {v : Value} {k : Int × Int} (h : Sep G W (Yp E1 v (zp d M k) :: As) w) (hv : zp d M k = none → v = XI) : ∃ vc, v = .agg #[.int .i64 ((zZ k M : Nat) : Int), vc] ∧ Sep G W (RowE (α := Cel) own 42 vc (stL d k M) :: As) w := by
  unfold zp at h hv
  unfold stL
  by_cases he : zZ k M = 0
  · rw [if_pos he] at hv h
    rw [if_pos he]
    refine ⟨.slice none 0 0, by rw [hv rfl, he]; rfl, h.impl (i := 0) rfl (fun f _ => RowE.nil _ _ _ _)⟩
  · rw [if_neg he] at h
    rw [if_neg he]
    obtain ⟨f, ⟨vc, h1, h2⟩, _⟩ := h.get (i := 0) rfl
    refine ⟨vc, h1, h.impl (i := 0) rfl (fun f hA => ?_)⟩
    obtain ⟨vc', h3, h4⟩ := hA
    rw [h1] at h3
    simp only [Value.agg.injEq, Array.mk.injEq, List.cons.injEq, and_true, true_and] at h3
    rw [h3]
    exact h4
theorem VC {vc : Value} {k : Int × Int} (h : Sep G W (RowE (α := Cel) own 42 vc (stL d k M) :: As) w) : Sep G W (Yp E1 (.agg #[.int .i64 ((zZ k M : Nat) : Int), vc]) (zp d M k) :: As) w := by
  refine h.impl (i := 0) rfl (fun f hA => ?_)
  unfold zp
  unfold stL at hA
  by_cases he : zZ k M = 0
  · rw [if_pos he]; exact trivial
  · rw [if_neg he] at hA ⊢; exact ⟨vc, rfl, hA⟩
theorem Uz {vc : Value} {n : Nat} {c : List Cel} (h : Sep G W (RowE (α := Cel) own 42 vc c :: As) w) : Sep G W (E1 (.agg #[.int .i64 ((n : Nat) : Int), vc]) (n, c) :: As) w := h.impl (i := 0) rfl (fun f hA => ⟨vc, rfl, hA⟩)
end

end Go.Proofs.YtlblilbmpdejgaaDoor
/- Steps of the proofs of this seat: part F1. -/
set_option maxRecDepth 8000
set_option maxHeartbeats 4000000
namespace Go.Proofs.YtlblilbmpdejgaaDoor
open Go.Proofs Go.RowKit

theorem Jn {G : Nat → Prop} {W w : World} {Rs : List HP} {vv : Value} {v : List Int} (hv : RdS W G vv v) {o : Int} (ho : InR o) (hS0 : Sep G W Rs w) : Ret Tryd.prog 100 [vv, .int .i64 (o)] w (fun r w' => r = (.int .i64 (xv v o) : Value) ∧ (InR (xv v o)) ∧ Sep G W Rs w') := by
 have hvs : _ * 8 ≤ _ := hv.small
 refine zr (args := [vv, Iv o]) Tryd.func100 rfl rfl ?_
 refine zd (za kr (fun _ => (st (ze (v := Iv 0) rfl (zf (zd (zd (zF kr (st (zb (v := Iv o) rfl (st (zL (k := .i64) (a := o) (b := 0) rfl rfl (st (zb (v := .bool (decide (o < 0))) rfl (stc (V := Iv o) rfl rfl (fun t => ?_) ?_)))))))))))))))
 have h := t
 have h := fD h
 exact zb (v := Iv o) rfl ⟨rfl, rfl⟩
 refine stc (V := vv) rfl rfl (fun u => ?_) ?_
 have l := u
 have l := fD l
 exact zb (v := vv) rfl ⟨rfl, rfl⟩
 refine stc (V := Iw v.length) rfl rfl (fun m => ?_) ?_
 have p := m
 have p := fD p
 exact zJ (n := v.length) Tryd.underlying40 (show _ = (vv : Value) from (if_pos m)) hv.sl ⟨rfl, rfl⟩
 refine stc (V := .bool (decide (((v.length : Nat) : Int) ≤ o))) rfl rfl (fun e => ?_) ?_
 have q := e
 have q := fD q
 exact yY (k := .i64) (a := o) (b := ((v.length : Nat) : Int)) (show _ = (Iv o : Value) from (if_pos e)) (show _ = (Iw v.length : Value) from (if_pos e)) ⟨rfl, rfl⟩
 refine st (zG (b := decide (o < 0)) (b' := decide (((v.length : Nat) : Int) ≤ o)) rfl (fun hbp => (show _ = (.bool (decide (((v.length : Nat) : Int) ≤ o)) : Value) from (if_pos hbp))) (zf ?_))
 cases s : (decide (o < 0)) || (decide (((v.length : Nat) : Int) ≤ o))
 try simp only [zj] at s
 refine zn rfl (zv (zd (za kr (fun _ => (st (zb (v := vv) rfl (st (zb (v := Iv o) rfl ?_))))))))
 have hi10 : o.toNat < v.length := bo
 refine st (zz (k := 1) (i := o) Tryd.underlying40 Tryd.sizeOf3 rfl hv.sl rfl ⟨by omega, by omega⟩ ?_)
 have c : o.toNat < v.length := bo
 obtain ⟨d, f⟩ := hv.int c
 rw [← zm 0 c] at d f
 have g := hS0.cells d (hv.foot (ne_of_lt c))
 refine st (zg (v := Iv ((v.getD o.toNat 0))) Tryd.isAgg3 rfl (g.get (j := 0) rfl) (st (KX (k := .i64) (a := (v.getD o.toNat 0)) (b := 0) rfl rfl (st (ze (v := Iv (max (v.getD o.toNat 0) 0)) rfl (zf (zt (zO Tryd.results100 (show _ = (Iv (max (v.getD o.toNat 0) 0) : Value) from rfl) ?_))))))))
 refine ⟨?_, ?_, hS0⟩
 unfold xv; rw [if_neg (by omega)]
 unfold xv; rw [if_neg (by omega)]; omega
 try simp only [zj] at s
 refine zo rfl (zd (za kr (fun _ => (st (ze (v := Iv 0) rfl (zf (zt (zO Tryd.results100 (show _ = (Iv 0 : Value) from rfl) ?_))))))))
 refine ⟨?_, ?_, hS0⟩
 unfold xv; rw [if_pos (by omega)]
 unfold xv; rw [if_pos (by omega)]; omega

theorem xm {d : Option Tmp} {ty : TypeId} {pos : String} {af : Array Edge} {g : Option (Nat × Bool)} {σ : Env} {w : World} {K : Value → World → Prop} {x : Operand} {b o : Nat} (hx : ev σ x = .pointer (some ⟨b, o, none⟩)) (h : K (.pointer (some ⟨b, o + 3, none⟩)) w) : opV Tryd.prog ⟨d, .fieldAddr 59 x 2, ty, pos, af, g⟩ σ w K := zA Tryd.underlying59 rfl rfl (fun w => ⟨0, Tryd.sizeOf40 w⟩) hx h
theorem yM {d : Option Tmp} {ty : TypeId} {pos : String} {af : Array Edge} {g : Option (Nat × Bool)} {σ : Env} {w : World} {K : Value → World → Prop} {x : Operand} {b o : Nat} (hx : ev σ x = .pointer (some ⟨b, o, none⟩)) (h : K (.pointer (some ⟨b, o + 0, none⟩)) w) : opV Tryd.prog ⟨d, .fieldAddr 59 x 0, ty, pos, af, g⟩ σ w K := zA Tryd.underlying59 rfl rfl (fun w => ⟨1, Tryd.sizeOf57 w⟩) hx h
theorem ZO {d : Option Tmp} {ty : TypeId} {pos : String} {af : Array Edge} {g : Option (Nat × Bool)} {σ : Env} {w : World} {K : Value → World → Prop} {x : Operand} {b o : Nat} (hx : ev σ x = .pointer (some ⟨b, o, none⟩)) (h : K (.pointer (some ⟨b, o + 0, none⟩)) w) : opV Tryd.prog ⟨d, .fieldAddr 57 x 0, ty, pos, af, g⟩ σ w K := zA Tryd.underlying57 rfl rfl (fun w => ⟨0, Tryd.sizeOf3 w⟩) hx h
theorem Yl {d : Option Tmp} {ty : TypeId} {pos : String} {af : Array Edge} {g : Option (Nat × Bool)} {σ : Env} {w : World} {K : Value → World → Prop} {x : Operand} {b o : Nat} (hx : ev σ x = .pointer (some ⟨b, o, none⟩)) (h : K (.pointer (some ⟨b, o + 1, none⟩)) w) : opV Tryd.prog ⟨d, .fieldAddr 57 x 1, ty, pos, af, g⟩ σ w K := zA Tryd.underlying57 rfl rfl (fun w => ⟨0, Tryd.sizeOf3 w⟩) hx h
theorem WY {G : Nat → Prop} {W w : World} {Rs : List HP} {a : Ev} {da0 : Value} (hda0 : RdS W G da0 a.deps) (oa : a.Ok) {b : Ev} {db0 : Value} (hdb0 : RdS W G db0 b.deps) (ob : b.Ok) (hS0 : Sep G W Rs w) : Ret Tryd.prog 92 [.agg (a.cells da0).toArray, .agg (b.cells db0).toArray] w (fun r w' => r = (.bool ((xX a b)) : Value) ∧ Sep G W Rs w') := by
 have hda0s : _ * 8 ≤ _ := hda0.small
 have hdb0s : _ * 8 ≤ _ := hdb0.small
 refine zr (args := [.agg (a.cells da0).toArray, .agg (b.cells db0).toArray]) Tryd.func92 rfl rfl ?_
 refine zd (za kr (fun _ => (st (zT (v := .agg (a.cells da0).toArray) rfl ?_))))
 intro w3 b2 N
 have O := hS0.new N
 refine st (zT (v := .agg (b.cells db0).toArray) rfl ?_)
 intro w7 F P
 have Q := O.new P
 refine st (ze (v := .bool false) rfl (zf (zd (WD4 ((fun TT E => WF [fun vals H => Sep G W (E :: TT) H, fun vals H => (vals 5 = (Iv (xv b.deps a.origin) : Value)) ∧ (InR (xv b.deps a.origin)) ∧ Sep G W (E :: TT) H]) ((Blk b2 (a.cells da0).toArray 59) :: Rs) (Blk F (b.cells db0).toArray 59)) (AF [Vl 0 (Ix F 3), Vl 1 (db0), Vl 2 (Ix b2 0), Vl 3 (Ix b2 0), Vl 4 (Iv (a.origin)), fun _ => True, Vl 6 (Ix b2 0), Vl 7 (Ix b2 1), Vl 8 (Iv (a.seq)), Vl 9 (.bool (decide (a.seq ≤ (xv b.deps a.origin)))), Vl 10 (.bool (decide (a.seq ≤ (xv b.deps a.origin))))]) [[], [0], [], [2], [2, 3], (rg 5), [], [6], [6, 7], (rg 9), (rg 10)] [5] [(0, 0), (0, 0), (0, 0), (0, 0), (0, 0), (0, 0), (0, 1), (0, 1), (0, 1), (1, 1), (1, 1)] Q ⟨?_, ?_, ?_, ?_, ?_, ?_, ?_, ?_, ?_, ?_, ?_, trivial⟩ ?_))))
 exact fun _ _ _ _ _ _ _ => obl rfl (xm rfl dR)
 exact ob1 0 fun _ _ (l : Sep _ _ _ _) m => obl rfl (zg (v := db0) Tryd.isAgg40 (m 0 dc) (zh (l.blk (i := 0) rfl) rfl) dR)
 exact fun _ _ _ _ _ _ _ => obl rfl (yM rfl dR)
 exact fun _ _ _ _ _ _ n => obl rfl (ZO (n 2 dc) dR)
 exact ob1 0 fun _ _ (p : Sep _ _ _ _) q => obl rfl (zg (v := Iv (a.origin)) Tryd.isAgg3 (q 3 dc) (zh (p.blk (i := 1) rfl) rfl) dR)
 refine ob1 0 fun vals _ (I : Sep _ _ _ _) j => (obl rfl ((zu (f := 100) (vals := [db0, Iv (a.origin)]) (cap := []) rfl (yP ⟨(j 1 dc), (j 4 dc), trivial⟩) Tryd.call100 (Jn (v := b.deps) (vv := db0) (o := a.origin) hdb0 oa.origin I) ?_)))
 rintro _ w54 ⟨rfl, c, J⟩
 exact fun vals' R hv' => ⟨(And.intro R (And.intro c J)), trivial⟩
 exact fun _ _ _ _ _ _ _ => obl rfl (yM rfl dR)
 exact fun _ _ _ _ _ _ s => obl rfl (Yl (s 6 dc) dR)
 refine fun d _ _ K L g h => ?_
 have hkk : d = 0 ∨ d = 1 := by have h1 : 0 ≤ d := K; have h2 : d ≤ 1 := L; omega
 rcases hkk with rfl | rfl
 have t : Sep _ _ _ _ := g
 exact obl rfl (zg (v := Iv (a.seq)) Tryd.isAgg3 (h 7 dc) (zh (t.blk (i := 1) rfl) rfl) dR)
 obtain ⟨e, c, u⟩ := g
 exact obl rfl (zg (v := Iv (a.seq)) Tryd.isAgg3 (h 7 dc) (zh (u.blk (i := 1) rfl) rfl) dR)
 refine ob1 1 fun _ _ x y => ?_
 obtain ⟨e, c, hS157⟩ := x
 exact obl rfl (yY (k := .i64) (a := xv b.deps a.origin) (b := a.seq) e (y 8 dc) dR)
 exact fun _ _ _ _ _ _ z => obl rfl (ze (v := .bool (decide (a.seq ≤ (xv b.deps a.origin)))) (z 9 dc) dR)
 intro vals w166 A B
 obtain ⟨e, c, C⟩ := A
 have M := B 10 dc
 refine yf (kv := [(0, .agg (a.cells da0).toArray), (1, .agg (b.cells db0).toArray), (2, Ix b2 0), (3, Ix F 0), (4, .bool (decide (a.seq ≤ (xv b.deps a.origin))))]) ⟨rfl, rfl, rfl, rfl, (by exact M), trivial⟩ (fun ρw166 => (zf (zt (zO Tryd.results92 (show _ = (.bool (decide (a.seq ≤ (xv b.deps a.origin))) : Value) from rfl) ?_))))
 have D := C.s2_
 refine ⟨rfl, D⟩

theorem VT {x y : Operand} {a0 a1 b0 b1 : Int} : ∀ w, (do eqGuard .eql 57 x y (.agg #[.int .i64 a0, .int .i64 a1]) (.agg #[.int .i64 b0, .int .i64 b1]); binOp .eql 57 (.agg #[.int .i64 a0, .int .i64 a1]) (.agg #[.int .i64 b0, .int .i64 b1]) : Sem Value).run Tryd.prog w = .ok (.bool (decide (a0 = b0 ∧ a1 = b1))) w := by
  intro w
  have h : ∀ w, (Op.equal 57 (.agg #[.int .i64 a0, .int .i64 a1]) (.agg #[.int .i64 b0, .int .i64 b1])).run Tryd.prog w = .ok (decide (a0 = b0 ∧ a1 = b1)) w := by
    intro w
    unfold Op.equal Op.maxDepth; rw [WD]; simp [go_sem]; (try (by_cases h1 : a0 = b0 <;> by_cases h2 : a1 = b1 <;> simp [h1, h2]))
  simp [eqGuard, binOp, h, go_sem]
theorem Qp {x y : Operand} {a0 a1 b0 b1 : Int} : ∀ w, (do eqGuard .neq 57 x y (.agg #[.int .i64 a0, .int .i64 a1]) (.agg #[.int .i64 b0, .int .i64 b1]); binOp .neq 57 (.agg #[.int .i64 a0, .int .i64 a1]) (.agg #[.int .i64 b0, .int .i64 b1]) : Sem Value).run Tryd.prog w = .ok (.bool (!decide (a0 = b0 ∧ a1 = b1))) w := by
  intro w
  have h : ∀ w, (Op.equal 57 (.agg #[.int .i64 a0, .int .i64 a1]) (.agg #[.int .i64 b0, .int .i64 b1])).run Tryd.prog w = .ok (decide (a0 = b0 ∧ a1 = b1)) w := by
    intro w
    unfold Op.equal Op.maxDepth; rw [WD]; simp [go_sem]; (try (by_cases h1 : a0 = b0 <;> by_cases h2 : a1 = b1 <;> simp [h1, h2]))
  simp [eqGuard, binOp, h, go_sem]
theorem QW {G : Nat → Prop} {W w : World} {Rs : List HP} {a : Ev} {da0 : Value} (hda0 : RdS W G da0 a.deps) (oa : a.Ok) {b : Ev} {db0 : Value} (hdb0 : RdS W G db0 b.deps) (ob : b.Ok) (hS0 : Sep G W Rs w) : Ret Tryd.prog 69 [.agg (a.cells da0).toArray, .agg (b.cells db0).toArray] w (fun r w' => r = (.bool ((xi a b)) : Value) ∧ Sep G W Rs w') := by
 have hda0s : _ * 8 ≤ _ := hda0.small
 have hdb0s : _ * 8 ≤ _ := hdb0.small
 refine zr (args := [.agg (a.cells da0).toArray, .agg (b.cells db0).toArray]) Tryd.func69 rfl rfl ?_
 refine zd (za kr (fun _ => (st (zT (v := .agg (a.cells da0).toArray) rfl ?_))))
 intro w3 b2 A
 have B := hS0.new A
 refine st (zT (v := .agg (b.cells db0).toArray) rfl ?_)
 intro w7 b6 C
 have g := B.new C
 refine st (ze (v := .bool false) rfl (zf (zd (zF kr (st (yM rfl (st (zl (k := 2) (cs := [Iv (a.origin), Iv (a.seq)]) Tryd.isAgg57 Tryd.sizeOf57 rfl rfl (CellsAt.sub (CellsAt.all (g.blk (i := 1) rfl)) 0 (cs2 := [Iv (a.origin), Iv (a.seq)]) rfl) (st (yM rfl (st (zl (k := 2) (cs := [Iv (b.origin), Iv (b.seq)]) Tryd.isAgg57 Tryd.sizeOf57 rfl rfl (CellsAt.sub (CellsAt.all (g.blk (i := 0) rfl)) 0 (cs2 := [Iv (b.origin), Iv (b.seq)]) rfl) (st (YI (e := decide (a.origin = b.origin ∧ a.seq = b.seq)) (xs := #[Iv (a.origin), Iv (a.seq)]) (ys := #[Iv (b.origin), Iv (b.seq)]) Qp rfl rfl (st (zb (v := .bool (!decide (a.origin = b.origin ∧ a.seq = b.seq))) rfl (stc (V := .agg (a.cells da0).toArray) rfl rfl (fun D => ?_) ?_)))))))))))))))))
 have m := D
 have m := zR m
 exact zl (k := 10) Tryd.isAgg59 Tryd.sizeOf59 rfl rfl (CellsAt.all (g.blk (i := 1) rfl)) ⟨rfl, rfl⟩
 refine stc (V := .agg (b.cells db0).toArray) rfl rfl (fun o => ?_) ?_
 have n := o
 have n := zR n
 exact zl (k := 10) Tryd.isAgg59 Tryd.sizeOf59 rfl rfl (CellsAt.all (g.blk (i := 0) rfl)) ⟨rfl, rfl⟩
 cases c : !decide (a.origin = b.origin ∧ a.seq = b.seq)
 have d := c
 have c := zC c
 refine stx rfl rfl (stx rfl rfl (st (yg (v := .bool false) rfl rfl (st (zb (v := .bool false) rfl (stx rfl rfl (stx rfl rfl (stx rfl rfl (stx rfl rfl (st (yg (v := .bool false) rfl rfl (st (ze (v := .bool false) rfl (zf (zt (zO Tryd.results69 (show _ = (.bool false : Value) from rfl) ?_))))))))))))))))
 have p := g.s2_
 refine ⟨?_, p⟩
 unfold xi
 first | rfl | simp only [d, Bool.not_true, Bool.not_false, Bool.false_and, Bool.true_and, Bool.and_false]
 have d := c
 have c := zR c
 refine sty rfl rfl (zu (f := 92) (vals := [.agg (a.cells da0).toArray, .agg (b.cells db0).toArray]) (cap := []) rfl rfl Tryd.call92 (WY (a := a) (b := b) hda0 oa hdb0 ob g) ?_)
 rintro _ w15 ⟨rfl, h⟩
 refine sty rfl rfl (yt (a := (xX a b)) rfl (st (zX (v := .bool (!(xX a b))) rfl rfl (st (zb (v := .bool (!(xX a b))) rfl (stc (V := .agg (b.cells db0).toArray) rfl rfl (fun q => ?_) ?_))))))
 have s := q
 try simp only [zj] at s
 exact zl (k := 10) Tryd.isAgg59 Tryd.sizeOf59 rfl rfl (CellsAt.all (h.blk (i := 0) rfl)) ⟨rfl, rfl⟩
 refine stc (V := .agg (a.cells da0).toArray) rfl rfl (fun t => ?_) ?_
 have u := t
 try simp only [zj] at u
 exact zl (k := 10) Tryd.isAgg59 Tryd.sizeOf59 rfl rfl (CellsAt.all (h.blk (i := 1) rfl)) ⟨rfl, rfl⟩
 cases j : !(xX a b)
 have l := j
 try simp only [zj] at j
 refine stx rfl rfl (stx rfl rfl (st (yg (v := .bool false) rfl rfl (st (ze (v := .bool false) rfl (zf (zt (zO Tryd.results69 (show _ = (.bool false : Value) from rfl) ?_))))))))
 have x := h.s2_
 refine ⟨?_, x⟩
 unfold xi
 first | rfl | simp only [d, l, Bool.not_true, Bool.not_false, Bool.false_and, Bool.true_and, Bool.and_false]
 have l := j
 try simp only [zj] at j
 refine sty rfl rfl (zu (f := 92) (vals := [.agg (b.cells db0).toArray, .agg (a.cells da0).toArray]) (cap := []) rfl rfl Tryd.call92 (WY (a := b) (b := a) hdb0 ob hda0 oa h) ?_)
 rintro _ w23 ⟨rfl, y⟩
 refine sty rfl rfl (yt (a := (xX b a)) rfl (st (zX (v := .bool (!(xX b a))) rfl rfl (st (ze (v := .bool (!(xX b a))) rfl (zf (zt (zO Tryd.results69 (show _ = (.bool (!(xX b a)) : Value) from rfl) ?_))))))))
 have z := y.s2_
 refine ⟨?_, z⟩
 unfold xi
 first | rfl | simp only [d, l, Bool.not_true, Bool.not_false, Bool.false_and, Bool.true_and, Bool.and_false]

theorem Wn {x y : Operand} {a0 a1 b0 b1 : Int} : ∀ w, (do eqGuard .eql 135 x y (.agg #[.int .i64 a0, .int .i64 a1]) (.agg #[.int .i64 b0, .int .i64 b1]); binOp .eql 135 (.agg #[.int .i64 a0, .int .i64 a1]) (.agg #[.int .i64 b0, .int .i64 b1]) : Sem Value).run Tryd.prog w = .ok (.bool (decide (a0 = b0 ∧ a1 = b1))) w := by
  intro w
  have h : ∀ w, (Op.equal 135 (.agg #[.int .i64 a0, .int .i64 a1]) (.agg #[.int .i64 b0, .int .i64 b1])).run Tryd.prog w = .ok (decide (a0 = b0 ∧ a1 = b1)) w := by
    intro w
    unfold Op.equal Op.maxDepth; rw [WD]; simp [go_sem]; (try (by_cases h1 : a0 = b0 <;> by_cases h2 : a1 = b1 <;> simp [h1, h2]))
  simp [eqGuard, binOp, h, go_sem]
theorem VQ {x y : Operand} {a0 a1 b0 b1 : Int} : ∀ w, (do eqGuard .neq 135 x y (.agg #[.int .i64 a0, .int .i64 a1]) (.agg #[.int .i64 b0, .int .i64 b1]); binOp .neq 135 (.agg #[.int .i64 a0, .int .i64 a1]) (.agg #[.int .i64 b0, .int .i64 b1]) : Sem Value).run Tryd.prog w = .ok (.bool (!decide (a0 = b0 ∧ a1 = b1))) w := by
  intro w
  have h : ∀ w, (Op.equal 135 (.agg #[.int .i64 a0, .int .i64 a1]) (.agg #[.int .i64 b0, .int .i64 b1])).run Tryd.prog w = .ok (decide (a0 = b0 ∧ a1 = b1)) w := by
    intro w
    unfold Op.equal Op.maxDepth; rw [WD]; simp [go_sem]; (try (by_cases h1 : a0 = b0 <;> by_cases h2 : a1 = b1 <;> simp [h1, h2]))
  simp [eqGuard, binOp, h, go_sem]
theorem YF {d : Option Tmp} {ty : TypeId} {pos : String} {af : Array Edge} {g : Option (Nat × Bool)} {σ : Env} {w : World} {K : Value → World → Prop} {x : Operand} {b o : Nat} (hx : ev σ x = .pointer (some ⟨b, o, none⟩)) (h : K (.pointer (some ⟨b, o + 0, none⟩)) w) : opV Tryd.prog ⟨d, .fieldAddr 135 x 0, ty, pos, af, g⟩ σ w K := zA Tryd.underlying135 rfl rfl (fun w => ⟨0, Tryd.sizeOf3 w⟩) hx h
theorem Ul {G : Nat → Prop} {W w : World} {Rs : List HP} {f : Fld} {df0 : Value} (hdf0 : RdS W G df0 f.moves) (of : f.Ok) {oA : Int} (hoA : InR oA) {aA : Int} (haA : InR aA) {oB : Int} (hoB : InR oB) {aB : Int} (haB : InR aB) (hS0 : Sep G W Rs w) : Ret Tryd.prog 68 [.agg (f.cells df0).toArray, .int .i64 (oA), .int .i64 (aA), .int .i64 (oB), .int .i64 (aB)] w (fun r w' => r = (.bool ((Zz f.kind oA aA oB aB)) : Value) ∧ Sep G W Rs w') := by
 have hdf0s : _ * 32 ≤ _ := hdf0.small
 refine zr (args := [.agg (f.cells df0).toArray, Iv oA, Iv aA, Iv oB, Iv aB]) Tryd.func68 rfl rfl ?_
 refine zd (za kr (fun _ => (st (zT (v := .agg (f.cells df0).toArray) rfl ?_))))
 intro w3 b2 aH
 have aI := hS0.new aH
 refine st (ze (v := .bool false) rfl (zf (zd (za (by kernel_rfl) (fun _ => (st (zb (v := Iv oA) rfl (st (zb (v := Iv aA) rfl (st (zQ (parts' := [(0, Iv oA), (1, Iv aA)]) (v := .agg #[Iv oA, Iv aA]) rfl (by simp [Instr.build, Instr.fill, Ev.cells, go_sem, Mv.cells, Fld.cells, Typ.cells, Prj.cells, Dcl.cells, Cel.cells, AskR.cells, Ask.cells, CelS.cells, Ev.cells, Ent.cells, Sta.cells]) (st (zb (v := Iv oB) rfl (st (zb (v := Iv aB) rfl (st (zQ (parts' := [(0, Iv oB), (1, Iv aB)]) (v := .agg #[Iv oB, Iv aB]) rfl (by simp [Instr.build, Instr.fill, Ev.cells, go_sem, Mv.cells, Fld.cells, Typ.cells, Prj.cells, Dcl.cells, Cel.cells, AskR.cells, Ask.cells, CelS.cells, Ev.cells, Ent.cells, Sta.cells]) (st (zB Tryd.zeroValue135 ?_)))))))))))))))))))
 intro w7 b6 aJ
 have aK := aI.new aJ
 refine st (zB Tryd.zeroValue135 ?_)
 intro w11 s aL
 have t := aK.new aL
 refine stn (zy (v := .agg #[Iv oA, Iv aA]) (c' := #[Iv oA, Iv aA]) Tryd.sizeOf135 rfl rfl (t.blk (i := 1) rfl) (ya ⟨rfl, rfl, trivial⟩) (Nat.le_of_ble_eq_true rfl) rfl ?_)
 intro w13 X
 have u := t.pt1 X
 refine stn (zy (v := .agg #[Iv oB, Iv aB]) (c' := #[Iv oB, Iv aB]) Tryd.sizeOf135 rfl rfl (u.blk (i := 0) rfl) (ya ⟨rfl, rfl, trivial⟩) (Nat.le_of_ble_eq_true rfl) rfl ?_)
 intro w16 Y
 have c := u.pt0 Y
 refine zf (zd (zd (za kr (fun _ => (st (xb rfl (st (zg (v := Iv (f.kind)) Tryd.isAgg3 rfl (zh (c.blk (i := 2) rfl) rfl) (zf (zw (zd (za kr (fun _ => (st (zP (k := .i64) (a := f.kind) (b := 2) rfl rfl (st (ze (v := .bool (decide (f.kind = 2))) rfl (zf ?_))))))))))))))))))
 cases g : decide (f.kind = 2)
 have hc19r := g
 have g := fD g
 refine zn rfl (zd (za kr (fun _ => (st (zP (k := .i64) (a := f.kind) (b := 4) rfl rfl (st (ze (v := .bool (decide (f.kind = 4))) rfl (zf ?_))))))))
 cases h : decide (f.kind = 4)
 have hc20r := h
 have h := fD h
 refine zn rfl (zd (za kr (fun _ => (st (zP (k := .i64) (a := f.kind) (b := 3) rfl rfl (st (ze (v := .bool (decide (f.kind = 3))) rfl (zf ?_))))))))
 cases j : decide (f.kind = 3)
 have hc21r := j
 have j := fD j
 refine zn rfl (zv (zd (za kr (fun _ => (st (ze (v := .bool false) rfl (zf (zt (zO Tryd.results68 (show _ = (.bool false : Value) from rfl) ?_)))))))))
 have Z := c.s3_
 refine ⟨?_, Z⟩
 unfold Zz
 (first | rw [if_pos (by omega)] | rw [if_neg (by omega), if_pos (by omega)] | rw [if_neg (by omega), if_neg (by omega), if_pos (by omega)] | rw [if_neg (by omega), if_neg (by omega), if_neg (by omega)]) <;> (first | rfl | simp_all)
 have j := tD j
 refine zo rfl (zd (zF (by kernel_rfl) (st (zl (k := 2) Tryd.isAgg135 Tryd.sizeOf135 rfl rfl (CellsAt.all (c.blk (i := 1) rfl)) (st (zb (v := Iv aB) rfl (st (zQ (parts' := [(0, Iv 3), (1, Iv aB)]) (v := .agg #[Iv 3, Iv aB]) rfl (by simp [Instr.build, Instr.fill, Ev.cells, go_sem, Mv.cells, Fld.cells, Typ.cells, Prj.cells, Dcl.cells, Cel.cells, AskR.cells, Ask.cells, CelS.cells, Ev.cells, Ent.cells, Sta.cells]) (st (xW (e := decide (oA = 3 ∧ aA = aB)) (xs := #[Iv oA, Iv aA]) (ys := #[Iv 3, Iv aB]) Wn rfl rfl (st (zb (v := .bool (decide (oA = 3 ∧ aA = aB))) rfl (stc (V := .agg #[Iv oB, Iv aB]) rfl rfl (fun aa => ?_) ?_)))))))))))))
 have x := aa
 have x := tD x
 exact zl (k := 2) Tryd.isAgg135 Tryd.sizeOf135 rfl rfl (CellsAt.all (c.blk (i := 0) rfl)) ⟨rfl, rfl⟩
 refine stc (V := Iv aA) rfl rfl (fun ab => ?_) ?_
 have y := ab
 have y := tD y
 exact zb (v := Iv aA) rfl ⟨rfl, rfl⟩
 refine stc (V := .agg #[Iv 4, Iv aA]) rfl rfl (fun z => ?_) ?_
 have A := z
 have A := tD A
 exact zQ (parts' := [(0, Iv 4), (1, Iv aA)]) (v := .agg #[Iv 4, Iv aA]) (xF ⟨rfl, rfl, rfl, (show _ = (Iv aA : Value) from (if_pos z)), trivial⟩) (by simp [Instr.build, Instr.fill, Ev.cells, go_sem, Mv.cells, Fld.cells, Typ.cells, Prj.cells, Dcl.cells, Cel.cells, AskR.cells, Ask.cells, CelS.cells, Ev.cells, Ent.cells, Sta.cells]) ⟨rfl, rfl⟩
 refine stc (V := .bool (decide (oB = 4 ∧ aB = aA))) rfl rfl (fun m => ?_) ?_
 have B := m
 have B := tD B
 exact xW (e := decide (oB = 4 ∧ aB = aA)) (xs := #[Iv oB, Iv aB]) (ys := #[Iv 4, Iv aA]) Wn (show _ = (.agg #[Iv oB, Iv aB] : Value) from (if_pos m)) (show _ = (.agg #[Iv 4, Iv aA] : Value) from (if_pos m)) ⟨rfl, rfl⟩
 refine st (zx (b := decide (oA = 3 ∧ aA = aB)) (b' := decide (oB = 4 ∧ aB = aA)) rfl (fun hbp => (show _ = (.bool (decide (oB = 4 ∧ aB = aA)) : Value) from (if_pos hbp))) (st (zb (v := .bool ((decide (oA = 3 ∧ aA = aB)) && (decide (oB = 4 ∧ aB = aA)))) rfl (stc (V := .agg #[Iv oA, Iv aA]) rfl rfl (fun ac => ?_) ?_))))
 have ad := ac
 try simp only [zj] at ad
 exact zl (k := 2) Tryd.isAgg135 Tryd.sizeOf135 rfl rfl (CellsAt.all (c.blk (i := 1) rfl)) ⟨rfl, rfl⟩
 refine stc (V := Iv aB) rfl rfl (fun ae => ?_) ?_
 have af := ae
 try simp only [zj] at af
 exact zb (v := Iv aB) rfl ⟨rfl, rfl⟩
 refine stc (V := .agg #[Iv 4, Iv aB]) rfl rfl (fun C => ?_) ?_
 have ag := C
 try simp only [zj] at ag
 exact zQ (parts' := [(0, Iv 4), (1, Iv aB)]) (v := .agg #[Iv 4, Iv aB]) (xF ⟨rfl, rfl, rfl, (show _ = (Iv aB : Value) from (if_pos C)), trivial⟩) (by simp [Instr.build, Instr.fill, Ev.cells, go_sem, Mv.cells, Fld.cells, Typ.cells, Prj.cells, Dcl.cells, Cel.cells, AskR.cells, Ask.cells, CelS.cells, Ev.cells, Ent.cells, Sta.cells]) ⟨rfl, rfl⟩
 refine stc (V := .bool (decide (oA = 4 ∧ aA = aB))) rfl rfl (fun n => ?_) ?_
 have ah := n
 try simp only [zj] at ah
 exact xW (e := decide (oA = 4 ∧ aA = aB)) (xs := #[Iv oA, Iv aA]) (ys := #[Iv 4, Iv aB]) Wn (show _ = (.agg #[Iv oA, Iv aA] : Value) from (if_pos n)) (show _ = (.agg #[Iv 4, Iv aB] : Value) from (if_pos n)) ⟨rfl, rfl⟩
 refine stc (V := .bool (decide (oA = 4 ∧ aA = aB))) rfl rfl (fun D => ?_) ?_
 have ai := D
 try simp only [zj] at ai
 exact zb (v := .bool (decide (oA = 4 ∧ aA = aB))) (show _ = (.bool (decide (oA = 4 ∧ aA = aB)) : Value) from (if_pos D)) ⟨rfl, rfl⟩
 refine yI (V := .agg #[Iv oB, Iv aB]) rfl rfl (fun E => ?_) ?_
 have aj := E.1
 try simp only [zj] at aj
 have F := E.2
 have F := tD F
 exact zl (k := 2) Tryd.isAgg135 Tryd.sizeOf135 rfl rfl (CellsAt.all (c.blk (i := 0) rfl)) ⟨rfl, rfl⟩
 refine yI (V := Iv aA) rfl rfl (fun H => ?_) ?_
 have ak := H.1
 try simp only [zj] at ak
 have I := H.2
 have I := tD I
 exact zb (v := Iv aA) rfl ⟨rfl, rfl⟩
 refine yI (V := .agg #[Iv 3, Iv aA]) rfl rfl (fun l => ?_) ?_
 have al := l.1
 try simp only [zj] at al
 have J := l.2
 have J := tD J
 exact zQ (parts' := [(0, Iv 3), (1, Iv aA)]) (v := .agg #[Iv 3, Iv aA]) (xF ⟨rfl, rfl, rfl, (show _ = (Iv aA : Value) from (if_pos ⟨l.1, l.2⟩)), trivial⟩) (by simp [Instr.build, Instr.fill, Ev.cells, go_sem, Mv.cells, Fld.cells, Typ.cells, Prj.cells, Dcl.cells, Cel.cells, AskR.cells, Ask.cells, CelS.cells, Ev.cells, Ent.cells, Sta.cells]) ⟨rfl, rfl⟩
 refine yI (V := .bool (decide (oB = 3 ∧ aB = aA))) rfl rfl (fun d => ?_) ?_
 have am := d.1
 try simp only [zj] at am
 have K := d.2
 have K := tD K
 exact xW (e := decide (oB = 3 ∧ aB = aA)) (xs := #[Iv oB, Iv aB]) (ys := #[Iv 3, Iv aA]) Wn (show _ = (.agg #[Iv oB, Iv aB] : Value) from (if_pos ⟨d.1, d.2⟩)) (show _ = (.agg #[Iv 3, Iv aA] : Value) from (if_pos ⟨d.1, d.2⟩)) ⟨rfl, rfl⟩
 refine stc (V := .bool ((decide (oA = 4 ∧ aA = aB)) && (decide (oB = 3 ∧ aB = aA)))) rfl rfl (fun o => ?_) ?_
 have an := o
 try simp only [zj] at an
 exact zx (b := decide (oA = 4 ∧ aA = aB)) (b' := decide (oB = 3 ∧ aB = aA)) (show _ = (.bool (decide (oA = 4 ∧ aA = aB)) : Value) from (if_pos o)) (fun hbp => (show _ = (.bool (decide (oB = 3 ∧ aB = aA)) : Value) from (if_pos ⟨o, hbp⟩))) ⟨rfl, rfl⟩
 refine st (zG (b := (decide (oA = 3 ∧ aA = aB)) && (decide (oB = 4 ∧ aB = aA))) (b' := (decide (oA = 4 ∧ aA = aB)) && (decide (oB = 3 ∧ aB = aA))) rfl (fun hbp => (show _ = (.bool ((decide (oA = 4 ∧ aA = aB)) && (decide (oB = 3 ∧ aB = aA))) : Value) from (if_pos hbp))) (st (ze (v := .bool (((decide (oA = 3 ∧ aA = aB)) && (decide (oB = 4 ∧ aB = aA))) || ((decide (oA = 4 ∧ aA = aB)) && (decide (oB = 3 ∧ aB = aA))))) rfl (zf (zt (zO Tryd.results68 (show _ = (.bool (((decide (oA = 3 ∧ aA = aB)) && (decide (oB = 4 ∧ aB = aA))) || ((decide (oA = 4 ∧ aA = aB)) && (decide (oB = 3 ∧ aB = aA)))) : Value) from rfl) ?_))))))
 have ao := c.s3_
 refine ⟨?_, ao⟩
 unfold Zz
 (first | rw [if_pos (by omega)] | rw [if_neg (by omega), if_pos (by omega)] | rw [if_neg (by omega), if_neg (by omega), if_pos (by omega)] | rw [if_neg (by omega), if_neg (by omega), if_neg (by omega)]) <;> (first | rfl | simp_all)
 have h := tD h
 refine zo rfl (zd (zF kr (st (YF rfl (st (zg (v := Iv oA) Tryd.isAgg3 rfl (zh (c.blk (i := 1) rfl) rfl) (st (zP (k := .i64) (a := oA) (b := 5) rfl rfl (st (zb (v := .bool (decide (oA = 5))) rfl (stc (V := Ix s 0) rfl rfl (fun ap => ?_) ?_)))))))))))
 have L := ap
 have L := tD L
 exact YF rfl ⟨rfl, rfl⟩
 refine stc (V := Iv oB) rfl rfl (fun M => ?_) ?_
 have N := M
 have N := tD N
 exact zg (v := Iv oB) Tryd.isAgg3 (show _ = (Ix s 0 : Value) from (if_pos M)) (zh (c.blk (i := 0) rfl) rfl) ⟨rfl, rfl⟩
 refine stc (V := .bool (decide (oB = 5))) rfl rfl (fun O => ?_) ?_
 have P := O
 have P := tD P
 exact zP (k := .i64) (a := oB) (b := 5) (show _ = (Iv oB : Value) from (if_pos O)) rfl ⟨rfl, rfl⟩
 refine st (zx (b := decide (oA = 5)) (b' := decide (oB = 5)) rfl (fun hbp => (show _ = (.bool (decide (oB = 5)) : Value) from (if_pos hbp))) (st (zb (v := .bool ((decide (oA = 5)) && (decide (oB = 5)))) rfl (stc (V := .agg #[Iv oA, Iv aA]) rfl rfl (fun aq => ?_) ?_))))
 have ar := aq
 try simp only [zj] at ar
 exact zl (k := 2) Tryd.isAgg135 Tryd.sizeOf135 rfl rfl (CellsAt.all (c.blk (i := 1) rfl)) ⟨rfl, rfl⟩
 refine stc (V := .agg #[Iv oB, Iv aB]) rfl rfl (fun au => ?_) ?_
 have av := au
 try simp only [zj] at av
 exact zl (k := 2) Tryd.isAgg135 Tryd.sizeOf135 rfl rfl (CellsAt.all (c.blk (i := 0) rfl)) ⟨rfl, rfl⟩
 refine stc (V := .bool (!decide (oA = oB ∧ aA = aB))) rfl rfl (fun p => ?_) ?_
 have aw := p
 try simp only [zj] at aw
 exact YI (e := decide (oA = oB ∧ aA = aB)) (xs := #[Iv oA, Iv aA]) (ys := #[Iv oB, Iv aB]) VQ (show _ = (.agg #[Iv oA, Iv aA] : Value) from (if_pos p)) (show _ = (.agg #[Iv oB, Iv aB] : Value) from (if_pos p)) ⟨rfl, rfl⟩
 refine st (zx (b := (decide (oA = 5)) && (decide (oB = 5))) (b' := !decide (oA = oB ∧ aA = aB)) rfl (fun hbp => (show _ = (.bool (!decide (oA = oB ∧ aA = aB)) : Value) from (if_pos hbp))) (st (ze (v := .bool (((decide (oA = 5)) && (decide (oB = 5))) && (!decide (oA = oB ∧ aA = aB)))) rfl (zf (zt (zO Tryd.results68 (show _ = (.bool (((decide (oA = 5)) && (decide (oB = 5))) && (!decide (oA = oB ∧ aA = aB))) : Value) from rfl) ?_))))))
 have ax := c.s3_
 refine ⟨?_, ax⟩
 unfold Zz
 (first | rw [if_pos (by omega)] | rw [if_neg (by omega), if_pos (by omega)] | rw [if_neg (by omega), if_neg (by omega), if_pos (by omega)] | rw [if_neg (by omega), if_neg (by omega), if_neg (by omega)]) <;> (first | rfl | simp_all)
 have g := tD g
 refine zo rfl (zd (zF kr (st (YF rfl (st (zg (v := Iv oA) Tryd.isAgg3 rfl (zh (c.blk (i := 1) rfl) rfl) (st (zP (k := .i64) (a := oA) (b := 2) rfl rfl (st (zb (v := .bool (decide (oA = 2))) rfl (stc (V := Ix s 0) rfl rfl (fun ay => ?_) ?_)))))))))))
 have Q := ay
 have Q := tD Q
 exact YF rfl ⟨rfl, rfl⟩
 refine stc (V := Iv oB) rfl rfl (fun R => ?_) ?_
 have S := R
 have S := tD S
 exact zg (v := Iv oB) Tryd.isAgg3 (show _ = (Ix s 0 : Value) from (if_pos R)) (zh (c.blk (i := 0) rfl) rfl) ⟨rfl, rfl⟩
 refine stc (V := .bool (decide (oB = 2))) rfl rfl (fun T => ?_) ?_
 have U := T
 have U := tD U
 exact zP (k := .i64) (a := oB) (b := 2) (show _ = (Iv oB : Value) from (if_pos T)) rfl ⟨rfl, rfl⟩
 refine st (zx (b := decide (oA = 2)) (b' := decide (oB = 2)) rfl (fun hbp => (show _ = (.bool (decide (oB = 2)) : Value) from (if_pos hbp))) (st (zb (v := .bool ((decide (oA = 2)) && (decide (oB = 2)))) rfl (stc (V := .agg #[Iv oA, Iv aA]) rfl rfl (fun az => ?_) ?_))))
 have aC := az
 try simp only [zj] at aC
 exact zl (k := 2) Tryd.isAgg135 Tryd.sizeOf135 rfl rfl (CellsAt.all (c.blk (i := 1) rfl)) ⟨rfl, rfl⟩
 refine stc (V := .agg #[Iv oB, Iv aB]) rfl rfl (fun aD => ?_) ?_
 have aE := aD
 try simp only [zj] at aE
 exact zl (k := 2) Tryd.isAgg135 Tryd.sizeOf135 rfl rfl (CellsAt.all (c.blk (i := 0) rfl)) ⟨rfl, rfl⟩
 refine stc (V := .bool (!decide (oA = oB ∧ aA = aB))) rfl rfl (fun q => ?_) ?_
 have aF := q
 try simp only [zj] at aF
 exact YI (e := decide (oA = oB ∧ aA = aB)) (xs := #[Iv oA, Iv aA]) (ys := #[Iv oB, Iv aB]) VQ (show _ = (.agg #[Iv oA, Iv aA] : Value) from (if_pos q)) (show _ = (.agg #[Iv oB, Iv aB] : Value) from (if_pos q)) ⟨rfl, rfl⟩
 refine st (zx (b := (decide (oA = 2)) && (decide (oB = 2))) (b' := !decide (oA = oB ∧ aA = aB)) rfl (fun hbp => (show _ = (.bool (!decide (oA = oB ∧ aA = aB)) : Value) from (if_pos hbp))) (st (ze (v := .bool (((decide (oA = 2)) && (decide (oB = 2))) && (!decide (oA = oB ∧ aA = aB)))) rfl (zf (zt (zO Tryd.results68 (show _ = (.bool (((decide (oA = 2)) && (decide (oB = 2))) && (!decide (oA = oB ∧ aA = aB))) : Value) from rfl) ?_))))))
 have aG := c.s3_
 refine ⟨?_, aG⟩
 unfold Zz
 (first | rw [if_pos (by omega)] | rw [if_neg (by omega), if_pos (by omega)] | rw [if_neg (by omega), if_neg (by omega), if_pos (by omega)] | rw [if_neg (by omega), if_neg (by omega), if_neg (by omega)]) <;> (first | rfl | simp_all)

theorem xe {d : Option Tmp} {ty : TypeId} {pos : String} {af : Array Edge} {g : Option (Nat × Bool)} {σ : Env} {w : World} {K : Value → World → Prop} {x : Operand} {b o : Nat} (hx : ev σ x = .pointer (some ⟨b, o, none⟩)) (h : K (.pointer (some ⟨b, o + 8, none⟩)) w) : opV Tryd.prog ⟨d, .fieldAddr 59 x 7, ty, pos, af, g⟩ σ w K := zA Tryd.underlying59 rfl rfl (fun w => ⟨0, Tryd.sizeOf3 w⟩) hx h
theorem xo {d : Option Tmp} {ty : TypeId} {pos : String} {af : Array Edge} {g : Option (Nat × Bool)} {σ : Env} {w : World} {K : Value → World → Prop} {x : Operand} {b o : Nat} (hx : ev σ x = .pointer (some ⟨b, o, none⟩)) (h : K (.pointer (some ⟨b, o + 7, none⟩)) w) : opV Tryd.prog ⟨d, .fieldAddr 59 x 6, ty, pos, af, g⟩ σ w K := zA Tryd.underlying59 rfl rfl (fun w => ⟨0, Tryd.sizeOf3 w⟩) hx h
theorem Ke {G : Nat → Prop} {W w : World} {Rs : List HP} {f : Fld} {df0 : Value} (hdf0 : RdS W G df0 f.moves) (of : f.Ok) {x : Ev} {dx0 : Value} (hdx0 : RdS W G dx0 x.deps) (ox : x.Ok) {e : Ev} {de0 : Value} (hde0 : RdS W G de0 e.deps) (oe : e.Ok) (hS0 : Sep G W Rs w) : Ret Tryd.prog 41 [.agg (f.cells df0).toArray, .agg (x.cells dx0).toArray, .agg (e.cells de0).toArray] w (fun r w' => r = (.bool ((yG f x e)) : Value) ∧ Sep G W Rs w') := by
 have hdf0s : _ * 32 ≤ _ := hdf0.small
 have hdx0s : _ * 8 ≤ _ := hdx0.small
 have hde0s : _ * 8 ≤ _ := hde0.small
 refine zr (args := [.agg (f.cells df0).toArray, .agg (x.cells dx0).toArray, .agg (e.cells de0).toArray]) Tryd.func41 rfl rfl ?_
 refine zd (za kr (fun _ => (st (zT (v := .agg (f.cells df0).toArray) rfl ?_))))
 intro w3 b2 aq
 have ar := hS0.new aq
 refine st (zT (v := .agg (x.cells dx0).toArray) rfl ?_)
 intro w7 q au
 have av := ar.new au
 refine st (zT (v := .agg (e.cells de0).toArray) rfl ?_)
 intro w11 h aw
 have c := av.new aw
 refine st (ze (v := .bool false) rfl (zf (zd (zF kr (st (ZP rfl (st (zg (v := Iv (f.policy)) Tryd.isAgg3 rfl (zh (c.blk (i := 2) rfl) rfl) (st (zP (k := .i64) (a := f.policy) (b := 2) rfl rfl (st (zb (v := .bool (decide (f.policy = 2))) rfl (stc (V := Ix b2 1) rfl rfl (fun X => ?_) ?_)))))))))))))
 have s := X
 have s := fD s
 exact ZP rfl ⟨rfl, rfl⟩
 refine stc (V := Iv (f.policy)) rfl rfl (fun t => ?_) ?_
 have u := t
 have u := fD u
 exact zg (v := Iv (f.policy)) Tryd.isAgg3 (show _ = (Ix b2 1 : Value) from (if_pos t)) (zh (c.blk (i := 2) rfl) rfl) ⟨rfl, rfl⟩
 refine stc (V := .bool (decide (f.policy = 3))) rfl rfl (fun y => ?_) ?_
 have z := y
 have z := fD z
 exact zP (k := .i64) (a := f.policy) (b := 3) (show _ = (Iv (f.policy) : Value) from (if_pos y)) rfl ⟨rfl, rfl⟩
 refine stc (V := .bool (decide (f.policy = 3))) rfl rfl (fun A => ?_) ?_
 have B := A
 have B := fD B
 exact zb (v := .bool (decide (f.policy = 3))) (show _ = (.bool (decide (f.policy = 3)) : Value) from (if_pos A)) ⟨rfl, rfl⟩
 refine yI (V := Ix q 8) rfl rfl (fun C => ?_) ?_
 have D := C.1
 have D := fD D
 have E := C.2
 have E := tD E
 exact xe rfl ⟨rfl, rfl⟩
 refine yI (V := Iv (x.arg)) rfl rfl (fun j => ?_) ?_
 have F := j.1
 have F := fD F
 have H := j.2
 have H := tD H
 exact zg (v := Iv (x.arg)) Tryd.isAgg3 (show _ = (Ix q 8 : Value) from (if_pos ⟨j.1, j.2⟩)) (zh (c.blk (i := 1) rfl) rfl) ⟨rfl, rfl⟩
 refine yI (V := Ix h 8) rfl rfl (fun I => ?_) ?_
 have J := I.1
 have J := fD J
 have K := I.2
 have K := tD K
 exact xe rfl ⟨rfl, rfl⟩
 refine yI (V := Iv (e.arg)) rfl rfl (fun l => ?_) ?_
 have L := l.1
 have L := fD L
 have M := l.2
 have M := tD M
 exact zg (v := Iv (e.arg)) Tryd.isAgg3 (show _ = (Ix h 8 : Value) from (if_pos ⟨l.1, l.2⟩)) (zh (c.blk (i := 0) rfl) rfl) ⟨rfl, rfl⟩
 refine yI (V := .bool (decide (e.arg < x.arg))) rfl rfl (fun d => ?_) ?_
 have N := d.1
 have N := fD N
 have O := d.2
 have O := tD O
 exact yT (k := .i64) (a := x.arg) (b := e.arg) (show _ = (Iv (x.arg) : Value) from (if_pos ⟨d.1, d.2⟩)) (show _ = (Iv (e.arg) : Value) from (if_pos ⟨d.1, d.2⟩)) ⟨rfl, rfl⟩
 refine stc (V := .bool ((decide (f.policy = 3)) && (decide (e.arg < x.arg)))) rfl rfl (fun p => ?_) ?_
 have P := p
 have P := fD P
 exact zx (b := decide (f.policy = 3)) (b' := decide (e.arg < x.arg)) (show _ = (.bool (decide (f.policy = 3)) : Value) from (if_pos p)) (fun hbp => (show _ = (.bool (decide (e.arg < x.arg)) : Value) from (if_pos ⟨p, hbp⟩))) ⟨rfl, rfl⟩
 refine st (zG (b := decide (f.policy = 2)) (b' := (decide (f.policy = 3)) && (decide (e.arg < x.arg))) rfl (fun hbp => (show _ = (.bool ((decide (f.policy = 3)) && (decide (e.arg < x.arg))) : Value) from (if_pos hbp))) (st (ze (v := .bool ((decide (f.policy = 2)) || ((decide (f.policy = 3)) && (decide (e.arg < x.arg))))) rfl (zf (zd (zF kr (st (zb (v := .bool ((decide (f.policy = 2)) || ((decide (f.policy = 3)) && (decide (e.arg < x.arg))))) rfl (st (zb (v := .bool ((decide (f.policy = 2)) || ((decide (f.policy = 3)) && (decide (e.arg < x.arg))))) rfl (stc (V := .agg (f.cells df0).toArray) rfl rfl (fun Y => ?_) ?_)))))))))))
 have Z := Y
 try simp only [zj] at Z
 exact zl (k := 4) Tryd.isAgg79 Tryd.sizeOf79 rfl rfl (CellsAt.all (c.blk (i := 2) rfl)) ⟨rfl, rfl⟩
 refine stc (V := Ix q 7) rfl rfl (fun aa => ?_) ?_
 have ab := aa
 try simp only [zj] at ab
 exact xo rfl ⟨rfl, rfl⟩
 refine stc (V := Iv (x.op)) rfl rfl (fun Q => ?_) ?_
 have ac := Q
 try simp only [zj] at ac
 exact zg (v := Iv (x.op)) Tryd.isAgg3 (show _ = (Ix q 7 : Value) from (if_pos Q)) (zh (c.blk (i := 1) rfl) rfl) ⟨rfl, rfl⟩
 refine stc (V := Ix q 8) rfl rfl (fun ad => ?_) ?_
 have ae := ad
 try simp only [zj] at ae
 exact xe rfl ⟨rfl, rfl⟩
 refine stc (V := Iv (x.arg)) rfl rfl (fun R => ?_) ?_
 have af := R
 try simp only [zj] at af
 exact zg (v := Iv (x.arg)) Tryd.isAgg3 (show _ = (Ix q 8 : Value) from (if_pos R)) (zh (c.blk (i := 1) rfl) rfl) ⟨rfl, rfl⟩
 refine stc (V := Ix h 7) rfl rfl (fun ag => ?_) ?_
 have ah := ag
 try simp only [zj] at ah
 exact xo rfl ⟨rfl, rfl⟩
 refine stc (V := Iv (e.op)) rfl rfl (fun S => ?_) ?_
 have ai := S
 try simp only [zj] at ai
 exact zg (v := Iv (e.op)) Tryd.isAgg3 (show _ = (Ix h 7 : Value) from (if_pos S)) (zh (c.blk (i := 0) rfl) rfl) ⟨rfl, rfl⟩
 refine stc (V := Ix h 8) rfl rfl (fun aj => ?_) ?_
 have ak := aj
 try simp only [zj] at ak
 exact xe rfl ⟨rfl, rfl⟩
 refine stc (V := Iv (e.arg)) rfl rfl (fun T => ?_) ?_
 have al := T
 try simp only [zj] at al
 exact zg (v := Iv (e.arg)) Tryd.isAgg3 (show _ = (Ix h 8 : Value) from (if_pos T)) (zh (c.blk (i := 0) rfl) rfl) ⟨rfl, rfl⟩
 cases m : (decide (f.policy = 2)) || ((decide (f.policy = 3)) && (decide (e.arg < x.arg)))
 have g := m
 try simp only [zj] at m
 refine stx rfl rfl (st (yg (v := .bool false) rfl rfl (st (zb (v := .bool false) rfl (stx rfl rfl (stx rfl rfl (stx rfl rfl (st (yg (v := .bool false) rfl rfl (st (ze (v := .bool false) rfl (zf (zt (zO Tryd.results41 (show _ = (.bool false : Value) from rfl) ?_))))))))))))))
 have am := c.s3_
 refine ⟨?_, am⟩
 unfold yG
 first | rfl | simp only [g, Bool.false_and, Bool.true_and, Bool.and_false, Bool.and_true, Bool.true_or, Bool.or_true]
 have g := m
 try simp only [zj] at m
 refine sty rfl rfl (zu (f := 68) (vals := [.agg (f.cells df0).toArray, Iv (x.op), Iv (x.arg), Iv (e.op), Iv (e.arg)]) (cap := []) rfl rfl Tryd.call68 (Ul (f := f) (oA := x.op) (aA := x.arg) (oB := e.op) (aB := e.arg) hdf0 of ox.op ox.arg oe.op oe.arg c) ?_)
 rintro _ w58 ⟨rfl, n⟩
 refine st (zX (v := .bool ((Zz f.kind x.op x.arg e.op e.arg))) rfl rfl (st (zb (v := .bool ((Zz f.kind x.op x.arg e.op e.arg))) rfl (stc (V := .agg (x.cells dx0).toArray) rfl rfl (fun hb60 => ?_) ?_))))
 exact zl (k := 10) Tryd.isAgg59 Tryd.sizeOf59 rfl rfl (CellsAt.all (n.blk (i := 1) rfl)) ⟨rfl, rfl⟩
 refine stc (V := .agg (e.cells de0).toArray) rfl rfl (fun hb62 => ?_) ?_
 exact zl (k := 10) Tryd.isAgg59 Tryd.sizeOf59 rfl rfl (CellsAt.all (n.blk (i := 0) rfl)) ⟨rfl, rfl⟩
 cases U : (Zz f.kind x.op x.arg e.op e.arg)
 have o := U
 refine stx rfl rfl (st (yg (v := .bool false) rfl rfl (st (ze (v := .bool false) rfl (zf (zt (zO Tryd.results41 (show _ = (.bool false : Value) from rfl) ?_)))))))
 have an := n.s3_
 refine ⟨?_, an⟩
 unfold yG
 first | rfl | simp only [g, o, Bool.false_and, Bool.true_and, Bool.and_false, Bool.and_true, Bool.true_or, Bool.or_true]
 have o := U
 refine sty rfl rfl (zu (f := 69) (vals := [.agg (x.cells dx0).toArray, .agg (e.cells de0).toArray]) (cap := []) rfl rfl Tryd.call69 (QW (a := x) (b := e) hdx0 ox hde0 oe n) ?_)
 rintro _ w66 ⟨rfl, ao⟩
 refine st (zX (v := .bool ((xi x e))) rfl rfl (st (ze (v := .bool ((xi x e))) rfl (zf (zt (zO Tryd.results41 (show _ = (.bool ((xi x e)) : Value) from rfl) ?_))))))
 have ap := ao.s3_
 refine ⟨?_, ap⟩
 unfold yG
 first | rfl | simp only [g, o, Bool.false_and, Bool.true_and, Bool.and_false, Bool.and_true, Bool.true_or, Bool.or_true]

end Go.Proofs.YtlblilbmpdejgaaDoor
/- Steps of the proofs of this seat: part F2. -/
set_option maxRecDepth 8000
set_option maxHeartbeats 4000000
namespace Go.Proofs.YtlblilbmpdejgaaDoor
open Go.Proofs Go.RowKit

theorem YD {G : Nat → Prop} {W w : World} {Rs : List HP} {e : Ev} {de0 : Value} (hde0 : RdS W G de0 e.deps) (oe : e.Ok) (hS0 : Sep G W Rs w) : Ret Tryd.prog 60 [.agg (e.cells de0).toArray] w (fun r w' => ∃ (v : Value), r = (.agg (e.cells v).toArray : Value) ∧ Sep G W ((RowE (α := Int) own 3 v e.deps) :: Rs) w') := by
 have hde0s : _ * 8 ≤ _ := hde0.small
 refine zr (args := [.agg (e.cells de0).toArray]) Tryd.func60 rfl rfl ?_
 refine zd (za kr (fun _ => (st (zT (v := .agg (e.cells de0).toArray) rfl ?_))))
 intro w3 b2 q
 have s := hS0.new q
 refine st (zB Tryd.zeroValue59 ?_)
 intro w7 u t
 have m := s.new t
 refine zf (zd (za kr (fun _ => (st (xm rfl (st (zg (v := de0) Tryd.isAgg40 rfl (zh (m.blk (i := 1) rfl) rfl) (st (zu (f := 54) (vals := [de0]) (cap := []) rfl rfl Tryd.call54 (ZS (l := e.deps) (vl := de0) hde0 m) ?_)))))))))
 rintro h w10 ⟨_, rfl, a⟩
 have d := a.row (i := 0) rfl
 have hr12s : _ * 8 ≤ _ := d.2
 refine st (xm rfl (stn (yv (v := h) (c := [Iv (e.origin), Iv (e.seq), Iv (e.lam), de0, Iv (e.typ), Iv (e.agg), Iv (e.field), Iv (e.op), Iv (e.arg), Iv (e.key)]) (c' := [Iv (e.origin), Iv (e.seq), Iv (e.lam), h, Iv (e.typ), Iv (e.agg), Iv (e.field), Iv (e.op), Iv (e.arg), Iv (e.key)]) Tryd.sizeOf40 rfl rfl (a.blk (i := 2) rfl) d.1.one rfl rfl ?_)))
 intro w13 n
 have ok15 : Ev.Ok e := ⟨(show InR (e.origin) from oe.origin), (show InR (e.seq) from oe.seq), (show InR (e.lam) from oe.lam), (show InR (e.typ) from oe.typ), (show InR (e.agg) from oe.agg), (show InR (e.field) from oe.field), (show InR (e.op) from oe.op), (show InR (e.arg) from oe.arg), (show InR (e.key) from oe.key)⟩
 have g := a.pt2 n
 refine zf (zd (za kr (fun _ => (st (zl (k := 10) Tryd.isAgg59 Tryd.sizeOf59 rfl rfl (CellsAt.all (g.blk (i := 2) rfl)) (stn (zy (v := .agg (e.cells h).toArray) (c' := (e.cells h).toArray) Tryd.sizeOf59 rfl rfl (g.blk (i := 1) rfl) (ya ⟨rfl, rfl, rfl, d.1.one, rfl, rfl, rfl, rfl, rfl, rfl, trivial⟩) (Nat.le_of_ble_eq_true rfl) rfl ?_)))))))
 intro w17 o
 have j := g.pt1 o
 refine zf (zt (Xt (b := u) Tryd.results60 Tryd.isAgg59 Tryd.sizeOf59 rfl rfl (CellsAt.all (j.blk (i := 1) rfl)) ?_))
 have p := j.s3_a
 refine ⟨h, rfl, p⟩

instance : Flat Prj := ⟨fun h => h⟩
theorem el23 : Elem Tryd.prog 23 107 5 40 := ⟨Tryd.underlying23, _, _, rfl, rfl, rfl, rfl, rfl⟩
theorem Vz {G : Nat → Prop} {W w : World} {Rs : List HP} {vl : Value} {l : List Prj} (hl : RdS W G vl l) (hS0 : Sep G W Rs w) : Ret Tryd.prog 87 [vl] w (fun r w' => ∃ (v : Value), r = (v : Value) ∧ Sep G W ((RowE (α := Prj) own 107 v l) :: Rs) w') := by
 have hls : _ * 40 ≤ _ := hl.small
 refine zr (args := [vl]) Tryd.func87 rfl rfl ?_
 refine zd (za kr (fun _ => (st (ze (v := (Iz)) rfl (zf (zd (zd (za kr (fun _ => (st (zb (v := vl) rfl (st (xL (v := vl) Tryd.underlying23 rfl hl.sl (zf ?_))))))))))))))
 cases j : xH vl
 refine zn rfl (zv (zd (za kr (fun _ => (st (zD (k := 5) (parts' := []) (c := #[]) Tryd.underlying23 Tryd.sizeOf107 Tryd.zeroValue107 dc rfl kr ?_))))))
 intro q s m
 have n := hS0.new m
 refine st (zb (v := vl) rfl ?_)
 have d : Sep G W ((RowE (α := Prj) own 107 (Iy s 0 0) ([] : List Prj)) :: Rs) q := Sep.blkRow (src := own) (l := ([] : List Prj)) (css := []) n rfl trivial (by first | decide | (simp only [List.length_cons, List.length_nil]; decide))
 have e := d.row (i := 0) rfl
 have hr10s : _ * 40 ≤ _ := e.2
 refine st (xx (src := own) (bytes := 40) d el23 rfl rfl hl (by first | omega | (simp only [List.length_append, List.length_cons, List.length_nil, List.length_take, List.length_drop]; omega)) rfl (hq' := fun _ _ h _ _ => Xc h) ?_)
 intro b t a
 have a : Sep G W ((RowE (α := Prj) own 107 b l) :: Rs) t := a
 have f := a.row (i := 0) rfl
 have hr11s : _ * 40 ≤ _ := f.2
 refine st (ze (v := b) rfl (zf (zt (zO Tryd.results87 (show _ = (b : Value) from rfl) ?_))))
 refine ⟨b, rfl, a⟩
 have o := ZB hl.sl j
 refine zo rfl (zd (za kr (fun _ => (st (ze (v := (Iz)) rfl (zf (zt (zO Tryd.results87 (show _ = ((Iz) : Value) from rfl) ?_))))))))
 have g : Sep G W ((RowE (α := Prj) own 107 (Iz) ([] : List Prj)) :: Rs) w := hS0.rowNil own 107
 have p : l = [] := List.length_eq_zero_iff.1 o
 subst p
 refine ⟨(Iz), rfl, g⟩

theorem el31 : Elem Tryd.prog 31 79 4 48 := ⟨Tryd.underlying31, _, _, rfl, rfl, rfl, rfl, rfl⟩
theorem Vq {G : Nat → Prop} {W w : World} {Rs : List HP} {vl : Value} {l : List Fld} (hl : RdS W G vl l) (hS0 : Sep G W Rs w) : Ret Tryd.prog 88 [vl] w (fun r w' => ∃ (v : Value), r = (v : Value) ∧ Sep G W ((RowE (α := Fld) (shr G W) 79 v l) :: Rs) w') := by
 have hls : _ * 48 ≤ _ := hl.small
 refine zr (args := [vl]) Tryd.func88 rfl rfl ?_
 refine zd (za kr (fun _ => (st (ze (v := (Iz)) rfl (zf (zd (zd (za kr (fun _ => (st (zb (v := vl) rfl (st (xL (v := vl) Tryd.underlying31 rfl hl.sl (zf ?_))))))))))))))
 cases j : xH vl
 refine zn rfl (zv (zd (za kr (fun _ => (st (zD (k := 4) (parts' := []) (c := #[]) Tryd.underlying31 Tryd.sizeOf79 Tryd.zeroValue79 dc rfl kr ?_))))))
 intro q s m
 have n := hS0.new m
 refine st (zb (v := vl) rfl ?_)
 have d : Sep G W ((RowE (α := Fld) (shr G W) 79 (Iy s 0 0) ([] : List Fld)) :: Rs) q := Sep.blkRow (src := (shr G W)) (l := ([] : List Fld)) (css := []) n rfl trivial (by first | decide | (simp only [List.length_cons, List.length_nil]; decide))
 have e := d.row (i := 0) rfl
 have hr10s : _ * 48 ≤ _ := e.2
 refine st (xx (src := (shr G W)) (bytes := 48) d el31 rfl rfl hl (by first | omega | (simp only [List.length_append, List.length_cons, List.length_nil, List.length_take, List.length_drop]; omega)) rfl (hq' := fun _ _ h _ _ => h) ?_)
 intro b t a
 have a : Sep G W ((RowE (α := Fld) (shr G W) 79 b l) :: Rs) t := a
 have f := a.row (i := 0) rfl
 have hr11s : _ * 48 ≤ _ := f.2
 refine st (ze (v := b) rfl (zf (zt (zO Tryd.results88 (show _ = (b : Value) from rfl) ?_))))
 refine ⟨b, rfl, a⟩
 have o := ZB hl.sl j
 refine zo rfl (zd (za kr (fun _ => (st (ze (v := (Iz)) rfl (zf (zt (zO Tryd.results88 (show _ = ((Iz) : Value) from rfl) ?_))))))))
 have g : Sep G W ((RowE (α := Fld) (shr G W) 79 (Iz) ([] : List Fld)) :: Rs) w := hS0.rowNil (shr G W) 79
 have p : l = [] := List.length_eq_zero_iff.1 o
 subst p
 refine ⟨(Iz), rfl, g⟩

theorem QR : Elem Tryd.prog 66 62 13 120 := ⟨Tryd.underlying66, _, _, rfl, rfl, rfl, rfl, rfl⟩
theorem Va {G : Nat → Prop} {W w : World} {Rs : List HP} {vl : Value} {l : List Ent} (hl : RdS W G vl l) (hS0 : Sep G W Rs w) : Ret Tryd.prog 65 [vl] w (fun r w' => ∃ (v : Value), r = (v : Value) ∧ Sep G W ((RowE (α := Ent) (shr G W) 62 v l) :: Rs) w') := by
 have hls : _ * 120 ≤ _ := hl.small
 refine zr (args := [vl]) Tryd.func65 rfl rfl ?_
 refine zd (za kr (fun _ => (st (ze (v := (Iz)) rfl (zf (zd (zd (za kr (fun _ => (st (zb (v := vl) rfl (st (xL (v := vl) Tryd.underlying66 rfl hl.sl (zf ?_))))))))))))))
 cases j : xH vl
 refine zn rfl (zv (zd (za kr (fun _ => (st (zD (k := 13) (parts' := []) (c := #[]) Tryd.underlying66 Tryd.sizeOf62 Tryd.zeroValue62 dc rfl kr ?_))))))
 intro q s m
 have n := hS0.new m
 refine st (zb (v := vl) rfl ?_)
 have d : Sep G W ((RowE (α := Ent) (shr G W) 62 (Iy s 0 0) ([] : List Ent)) :: Rs) q := Sep.blkRow (src := (shr G W)) (l := ([] : List Ent)) (css := []) n rfl trivial (by first | decide | (simp only [List.length_cons, List.length_nil]; decide))
 have e := d.row (i := 0) rfl
 have hr10s : _ * 120 ≤ _ := e.2
 refine st (xx (src := (shr G W)) (bytes := 120) d QR rfl rfl hl (by first | omega | (simp only [List.length_append, List.length_cons, List.length_nil, List.length_take, List.length_drop]; omega)) rfl (hq' := fun _ _ h _ _ => h) ?_)
 intro b t a
 have a : Sep G W ((RowE (α := Ent) (shr G W) 62 b l) :: Rs) t := a
 have f := a.row (i := 0) rfl
 have hr11s : _ * 120 ≤ _ := f.2
 refine st (ze (v := b) rfl (zf (zt (zO Tryd.results65 (show _ = (b : Value) from rfl) ?_))))
 refine ⟨b, rfl, a⟩
 have o := ZB hl.sl j
 refine zo rfl (zd (za kr (fun _ => (st (ze (v := (Iz)) rfl (zf (zt (zO Tryd.results65 (show _ = ((Iz) : Value) from rfl) ?_))))))))
 have g : Sep G W ((RowE (α := Ent) (shr G W) 62 (Iz) ([] : List Ent)) :: Rs) w := hS0.rowNil (shr G W) 62
 have p : l = [] := List.length_eq_zero_iff.1 o
 subst p
 refine ⟨(Iz), rfl, g⟩

theorem yF {d : Option Tmp} {ty : TypeId} {pos : String} {af : Array Edge} {g : Option (Nat × Bool)} {σ : Env} {w : World} {K : Value → World → Prop} {x : Operand} {b o : Nat} (hx : ev σ x = .pointer (some ⟨b, o, none⟩)) (h : K (.pointer (some ⟨b, o + 1, none⟩)) w) : opV Tryd.prog ⟨d, .fieldAddr 68 x 1, ty, pos, af, g⟩ σ w K := zA Tryd.underlying68 rfl rfl (fun w => ⟨0, Tryd.sizeOf26 w⟩) hx h
theorem UE {G : Nat → Prop} {W w : World} {Rs : List HP} {x : Sta} {dx0 : Value} (hdx0 : RdS W G dx0 x.cls) (ox : x.Ok) (hS0 : Sep G W Rs w) : Ret Tryd.prog 63 [.agg (x.cells dx0).toArray] w (fun r w' => ∃ (v : Value), r = (.agg (x.cells v).toArray : Value) ∧ Sep G W ((RowE (α := Cel) own 42 v x.cls) :: Rs) w') := by
 have hdx0s : _ * 32 ≤ _ := hdx0.small
 refine zr (args := [.agg (x.cells dx0).toArray]) Tryd.func63 rfl rfl ?_
 refine zd (za kr (fun _ => (st (zT (v := .agg (x.cells dx0).toArray) rfl ?_))))
 intro w3 b2 aE
 have aF := hS0.new aE
 refine st (zB Tryd.zeroValue68 ?_)
 intro w7 R aG
 have aw := aF.new aG
 refine zf (zd (za kr (fun _ => (st (yF rfl (st (zg (v := dx0) Tryd.isAgg26 rfl (zh (aw.blk (i := 1) rfl) rfl) (st (zu (f := 53) (vals := [dx0]) (cap := []) rfl rfl Tryd.call53 (YO (l := x.cls) (vl := dx0) hdx0 aw) ?_)))))))))
 rintro m w10 ⟨_, rfl, F⟩
 have H := F.row (i := 0) rfl
 have hr12s : _ * 32 ≤ _ := H.2
 refine st (yF rfl (stn (yv (v := m) (c := [Iv (x.ver), dx0]) (c' := [Iv (x.ver), m]) Tryd.sizeOf26 rfl rfl (F.blk (i := 2) rfl) H.1.one rfl rfl ?_)))
 intro w13 ax
 have ok15 : Sta.Ok x := ⟨(show InR (x.ver) from ox.ver)⟩
 have S := F.pt2 ax
 refine zf (zd (zd (za kr (fun _ => (st (yF rfl (st (zg (v := m) Tryd.isAgg26 rfl (zh (S.blk (i := 2) rfl) rfl) (st (zJ (n := x.cls.length) Tryd.underlying26 rfl H.1 (st (zb (v := Iv 0) rfl (zf (zw ?_))))))))))))))
 have ay := S.toMix
 refine yd (fun mq σ y => ∃ (k : Nat) (ρ : Env), mq = x.cls.length - k ∧ σ = yh ρ [(1, Ix b2 0), (2, Ix R 0), (10, Iw x.cls.length), (11, Iw k)] ∧ (k ≤ x.cls.length) ∧ Sep G W ((RowE (α := Bool × Cel) (mix (α := Cel) G W) 42 m (xO k x.cls)) :: (Blk R #[Iv 0, (Iz)] 68) :: (Blk b2 (x.cells m).toArray 68) :: Rs) y) ⟨0, _, rfl, zq ⟨rfl, rfl, rfl, rfl, trivial⟩, Nat.zero_le _, ay⟩ ?_
 rintro m19 σ20 aH ⟨k, ρl1, rfl, rfl, hkk, I⟩
 have J := I.row (i := 0) rfl
 rw [xw] at J
 refine zd (za kr (fun _ => (st (zL (k := .i64) (a := ((k : Nat) : Int)) (b := ((x.cls.length : Nat) : Int)) rfl rfl (zf (zd ?_))))))
 cases z : decide (((k : Nat) : Int) < ((x.cls.length : Nat) : Int))
 have z := fD z
 have A : Sep G W ((RowE (α := Cel) own 42 m x.cls) :: (Blk R #[Iv 0, (Iz)] 68) :: (Blk b2 (x.cells m).toArray 68) :: Rs) aH := I.ofMix om
 have T := A.row (i := 0) rfl
 have hr25s : _ * 32 ≤ _ := T.2
 refine zn rfl (yc (zU (zd (za kr (fun _ => (st (zl (k := 2) Tryd.isAgg68 Tryd.sizeOf68 rfl rfl (CellsAt.all (A.blk (i := 2) rfl)) (stn (zy (v := .agg (x.cells m).toArray) (c' := (x.cells m).toArray) Tryd.sizeOf68 rfl rfl (A.blk (i := 1) rfl) (ya ⟨rfl, T.1.one, trivial⟩) (Nat.le_of_ble_eq_true rfl) rfl ?_)))))))))
 intro w26 az
 have U := A.pt1 az
 refine zf (zt (Xt (b := R) Tryd.results63 Tryd.isAgg68 Tryd.sizeOf68 rfl rfl (CellsAt.all (U.blk (i := 1) rfl)) ?_))
 have aA := U.s3_a
 refine ⟨m, rfl, aA⟩
 have z := tD z
 refine zo rfl (zv (zd (zw (zd (za kr (fun _ => (st (zb (v := Iw k) rfl (st (ze (v := Iw k) rfl (zf ?_)))))))))))
 refine WD4 ((fun TT V => WF [fun vals y => Sep G W (V :: TT) y, fun vals y => ∃ (e : Value), (vals 8 = (e : Value)) ∧ (RdS W G e (x.cls.getD k default).set) ∧ (Cel.Ok (x.cls.getD k default)) ∧ Sep G W (V :: TT) y, fun vals y => ∃ (e : Value) (p : Value), (vals 8 = (e : Value)) ∧ (vals 9 = (p : Value)) ∧ (RdS W G e (x.cls.getD k default).set) ∧ (Cel.Ok (x.cls.getD k default)) ∧ Sep G W ((RowE (α := Int) own 3 p ((x.cls.getD k default).set)) :: V :: TT) y, fun vals y => ∃ (e : Value) (p : Value), (vals 8 = (e : Value)) ∧ (vals 9 = (p : Value)) ∧ (RdS W G e (x.cls.getD k default).set) ∧ (Cel.Ok (x.cls.getD k default)) ∧ Sep G W ((RowE (α := Bool × Cel) (mix (α := Cel) G W) 42 m (xO (k + 1) x.cls)) :: TT) y]) ((Blk R #[Iv 0, (Iz)] 68) :: (Blk b2 (x.cells m).toArray 68) :: Rs) (RowE (α := Bool × Cel) (mix (α := Cel) G W) 42 m (xO k x.cls))) (AF [Vl 0 (Ix b2 1), Vl 1 (m), Vl 2 (Iw k), Vl 3 (Ix b2 1), Vl 4 (m), Vl 5 (Iw k), Vl 6 (Ix (sb m) (so m + k * 2)), Vl 7 (Ix (sb m) (so m + k * 2 + 1)), fun _ => True, fun _ => True, Vl 10 (Ix (sb m) (so m + k * 2)), Vl 11 (Ix (sb m) (so m + k * 2 + 1)), fun _ => True]) [[], [0], [], [], [3], [], [3, 4, 5], [3, 4, 5, 6], [3, 4, 5, 6, 7], [3, 4, 5, 6, 7, 8], (rg 10), (rg 11), (rg 12)] [8, 9, 12] [(0, 2), (0, 2), (0, 2), (0, 0), (0, 0), (0, 0), (0, 0), (0, 0), (0, 0), (1, 1), (2, 2), (2, 2), (2, 2)] I ⟨?_, ?_, ?_, ?_, ?_, ?_, ?_, ?_, ?_, ?_, ?_, ?_, ?_, trivial⟩ ?_
 exact fun _ _ _ _ _ _ _ => obl rfl (yF rfl dR)
 refine fun t _ _ aB aC B C => ?_
 have hkk : t = 0 ∨ t = 1 ∨ t = 2 := by have h1 : 0 ≤ t := aB; have h2 : t ≤ 2 := aC; omega
 rcases hkk with rfl | rfl | rfl
 have Z : Sep _ _ _ _ := B
 exact obl rfl (zg (v := m) Tryd.isAgg26 (C 0 dc) (zh (Z.blk (i := 2) rfl) rfl) dR)
 obtain ⟨e, q, g, h, aa⟩ := B
 exact obl rfl (zg (v := m) Tryd.isAgg26 (C 0 dc) (zh (aa.blk (i := 2) rfl) rfl) dR)
 obtain ⟨e, p, q, s, g, h, ab⟩ := B
 exact obl rfl (zg (v := m) Tryd.isAgg26 (C 0 dc) (zh (ab.blk (i := 3) rfl) rfl) dR)
 exact fun _ _ _ _ _ _ _ => obl rfl (zb (v := Iw k) rfl dR)
 exact fun _ _ _ _ _ _ _ => obl rfl (yF rfl dR)
 exact ob1 0 fun _ _ (ac : Sep _ _ _ _) ad => obl rfl (zg (v := m) Tryd.isAgg26 (ad 3 dc) (zh (ac.blk (i := 2) rfl) rfl) dR)
 exact fun _ _ _ _ _ _ _ => obl rfl (zb (v := Iw k) rfl dR)
 refine ob1 0 fun _ _ _ K => (obl rfl ?_)
 have ae : k < x.cls.length := bo
 exact zk (k := 2) (i := k) Tryd.underlying26 Tryd.sizeOf42 (K 4 dc) J.1 (K 5 dc) ae dR
 exact fun _ _ _ _ _ _ af => obl rfl (yN (af 6 dc) dR)
 refine ob1 0 fun _ _ (X : Sep _ _ _ _) aD => (obl rfl ?_)
 have Y : k < x.cls.length := bo
 obtain ⟨_, L, e, rfl, g, h⟩ := X.mixAt (i := 0) (j := k) rfl (Nat.le_refl _) Y
 rw [← zm default Y] at L g h
 exact (zg (v := e) Tryd.isAgg40 (aD 7 dc) (L.get (j := 1) rfl) (fun M hv E => ⟨(Exists.intro e (And.intro hv (And.intro g (And.intro h X)))), trivial⟩))
 refine ob1 1 fun vals _ ah _ => ?_
 obtain ⟨e, q, g, h, ai⟩ := ah
 refine obl rfl ((zu (f := 54) (vals := [e]) (cap := []) rfl (yP ⟨q, trivial⟩) Tryd.call54 (ZS (l := (x.cls.getD k default).set) (vl := e) g ai) ?_))
 rintro p w106 ⟨_, rfl, N⟩
 have aj := N.row (i := 0) rfl
 have hr108s : _ * 8 ≤ _ := aj.2
 exact fun M hv E => ⟨(Exists.intro e (Exists.intro p (And.intro ((E 8 dc).trans q) (And.intro hv (And.intro g (And.intro h N)))))), trivial⟩
 refine ob1 2 fun _ _ ak O => ?_
 obtain ⟨e, p, q, s, g, h, hS208⟩ := ak
 refine obl rfl ?_
 have al : k < x.cls.length := bo
 exact zk (k := 2) (i := k) Tryd.underlying26 Tryd.sizeOf42 (O 1 dc) J.1 (O 2 dc) al dR
 exact fun _ _ _ _ _ _ am => obl rfl (yN (am 10 dc) dR)
 refine ob1 2 fun _ _ an ao => ?_
 obtain ⟨e, p, q, s, g, h, ap⟩ := an
 refine obl rfl ?_
 have P := ap.mv1
 have Q : k < x.cls.length := bo
 have D := P.row (i := 1) rfl
 have hr139s : _ * 8 ≤ _ := D.2
 refine (Yq (α := Cel) (j := k) (o := 1) (u := p) (us := [p]) P Tryd.sizeOf40 Q (ao 11 (by decide)) s (congrArg Array.toList (yX D.1.one)) (Nat.le_of_ble_eq_true rfl) (ya ⟨D.1.one, trivial⟩) (fun w f cs0 hr hN => (by obtain ⟨d, rfl, hd, hok⟩ := hr; exact ⟨_, rfl, (by rw [← zm default Q]; exact RowE.soft hN), hok⟩)) ?_)
 intro w135 aq
 exact fun M hv E => ⟨(Exists.intro e (Exists.intro p (And.intro ((E 8 dc).trans q) (And.intro ((E 9 dc).trans s) (And.intro g (And.intro h aq)))))), trivial⟩
 intro vals w219 ar hA221
 obtain ⟨e, p, q, s, g, h, au⟩ := ar
 refine yf (kv := [(1, Ix b2 0), (2, Ix R 0), (10, Iw x.cls.length), (11, Iw k), (12, .bool true), (13, Iw k), (3, Iw k)]) ⟨rfl, rfl, rfl, rfl, rfl, rfl, rfl, trivial⟩ (fun ρw219 => (zf (za kr (fun _ => ?_))))
 have av : InR ((k + 1 : Nat) : Int) := bo
 refine st (zV (r := ((k + 1 : Nat) : Int)) (k := .i64) (a := ((k : Nat) : Int)) (b := 1) rfl rfl (by rw [show (((k : Nat) : Int) + 1 : Int) = ((k + 1 : Nat) : Int) from bo]; exact zM av) (st (zb (v := Iw (k + 1)) rfl (zf ?_))))
 exact ⟨_, by omega, k + 1, _, rfl, zq ⟨rfl, rfl, rfl, rfl, trivial⟩, by omega, au⟩

end Go.Proofs.YtlblilbmpdejgaaDoor
/- Steps of the proofs of this seat: part F3. -/
set_option maxRecDepth 8000
set_option maxHeartbeats 4000000
namespace Go.Proofs.YtlblilbmpdejgaaDoor
open Go.Proofs Go.RowKit

theorem el22 : Elem Tryd.prog 22 33 1 24 := ⟨Tryd.underlying22, _, _, rfl, rfl, rfl, rfl, rfl⟩
theorem Vb {G : Nat → Prop} {W w : World} {Rs : List HP} {d : Dcl} {dd0 : Value} (hdd0 : RdS W G dd0 d.types) {dd1 : Value} (hdd1 : RdS W G dd1 d.projs) (od : d.Ok) (hS0 : Sep G W Rs w) : Ret Tryd.prog 57 [.agg (d.cells dd0 dd1).toArray] w (fun r w' => ∃ (v1 : Value) (v2 : Value), r = (.agg (d.cells v1 v2).toArray : Value) ∧ Sep G W ((RowE (α := Typ) own 33 v1 d.types) :: (RowE (α := Prj) own 107 v2 d.projs) :: Rs) w') := by
 have hdd0s : _ * 24 ≤ _ := hdd0.small
 have hdd1s : _ * 40 ≤ _ := hdd1.small
 refine zr (args := [.agg (d.cells dd0 dd1).toArray]) Tryd.func57 rfl rfl ?_
 refine zd (za kr (fun _ => (st (zT (v := .agg (d.cells dd0 dd1).toArray) rfl ?_))))
 intro w3 b2 aL
 have aM := hS0.new aL
 refine st (zB Tryd.zeroValue25 ?_)
 intro w7 B aN
 have ah := aM.new aN
 refine zf (zd (za kr (fun _ => (st (xS rfl (st (zg (v := dd1) Tryd.isAgg23 rfl (zh (ah.blk (i := 1) rfl) rfl) (st (zu (f := 87) (vals := [dd1]) (cap := []) rfl rfl Tryd.call87 (Vz (l := d.projs) (vl := dd1) hdd1 ah) ?_)))))))))
 rintro g w10 ⟨_, rfl, K⟩
 have x := K.row (i := 0) rfl
 have hr12s : _ * 40 ≤ _ := x.2
 have ok13 : Dcl.Ok (⟨[], d.projs⟩ : Dcl) := ⟨⟩
 refine st (zQ (parts' := [(1, g)]) (v := .agg ((⟨[], d.projs⟩ : Dcl).cells (Iz) g).toArray) rfl (by obtain ⟨_, _, aj, _⟩ := x.1; rw [show g = Value.slice _ _ _ from aj]; simp [Instr.build, Instr.fill, Ev.cells, go_sem, Mv.cells, Fld.cells, Typ.cells, Prj.cells, Dcl.cells, Cel.cells, AskR.cells, Ask.cells, CelS.cells, Ev.cells, Ent.cells, Sta.cells]) (st (zB Tryd.zeroValue25 ?_)))
 intro w17 s ak
 have L := K.new ak
 refine stn (zy (v := .agg ((⟨[], d.projs⟩ : Dcl).cells (Iz) g).toArray) (c' := ((⟨[], d.projs⟩ : Dcl).cells (Iz) g).toArray) Tryd.sizeOf25 rfl rfl (L.blk (i := 0) rfl) (ya ⟨rfl, x.1.one, trivial⟩) (Nat.le_of_ble_eq_true rfl) rfl ?_)
 intro aO al
 have M := L.pt0 al
 refine zf (zd (zd (za kr (fun _ => (st (yo rfl (st (zg (v := dd0) Tryd.isAgg22 rfl (zh (M.blk (i := 3) rfl) rfl) (st (zJ (n := d.types.length) Tryd.underlying22 rfl hdd0.sl (st (zb (v := Iv 0) rfl (zf (zw ?_))))))))))))))
 have am : Sep G W ((RowE (α := Typ) own 33 (Iz) ([] : List Typ)) :: (Blk s ((⟨[], d.projs⟩ : Dcl).cells (Iz) g).toArray 25) :: (RowE (α := Prj) own 107 g d.projs) :: (Blk B #[(Iz), (Iz)] 25) :: (Blk b2 (d.cells dd0 dd1).toArray 25) :: Rs) aO := M.rowNil own 33
 refine yd (fun mq σ wq => ∃ (k : Nat) (vo : Value) (ρ : Env), mq = d.types.length - k ∧ σ = yh ρ [(1, Ix b2 0), (2, Ix B 0), (3, Ix s 0), (13, dd0), (14, Iw d.types.length), (15, Iw k)] ∧ (k ≤ d.types.length) ∧ Sep G W ((RowE (α := Typ) own 33 vo (d.types.take k)) :: (Blk s #[vo, g] 25) :: (RowE (α := Prj) own 107 g d.projs) :: (Blk B #[(Iz), (Iz)] 25) :: (Blk b2 (d.cells dd0 dd1).toArray 25) :: Rs) wq) ⟨0, (Iz), _, rfl, zq ⟨rfl, rfl, rfl, rfl, rfl, rfl, trivial⟩, Nat.zero_le _, am⟩ ?_
 rintro m24 σ25 w23 ⟨k, vo, ρl1, rfl, rfl, hkk, h⟩
 have ao := h.row (i := 0) rfl
 have hr27s : _ * 24 ≤ _ := ao.2
 refine zd (za kr (fun _ => (st (zL (k := .i64) (a := ((k : Nat) : Int)) (b := ((d.types.length : Nat) : Int)) rfl rfl (zf (zd ?_))))))
 cases y : decide (((k : Nat) : Int) < ((d.types.length : Nat) : Int))
 have y := fD y
 have hkn : k = d.types.length := by omega
 rw [hkn, List.take_of_length_le (Nat.le_refl d.types.length)] at h
 have N := h.row (i := 0) rfl
 have hr29s : _ * 24 ≤ _ := N.2
 refine zn rfl (yc (zU (zd (za kr (fun _ => ?_)))))
 have ok30 : Dcl.Ok d := ⟨⟩
 refine st (zl (k := 2) Tryd.isAgg25 Tryd.sizeOf25 rfl rfl (CellsAt.all (h.blk (i := 1) rfl)) (stn (zy (v := .agg (d.cells vo g).toArray) (c' := (d.cells vo g).toArray) Tryd.sizeOf25 rfl rfl (h.blk (i := 3) rfl) (ya ⟨N.1.one, x.1.one, trivial⟩) (Nat.le_of_ble_eq_true rfl) rfl ?_)))
 intro aP ap
 have O := h.pt3 ap
 refine zf (zt (Xt (b := B) Tryd.results57 Tryd.isAgg25 Tryd.sizeOf25 rfl rfl (CellsAt.all (O.blk (i := 3) rfl)) ?_))
 have aq : Sep G W ((RowE (α := Typ) own 33 vo d.types) :: (RowE (α := Prj) own 107 g d.projs) :: Rs) aP := O.sel 5 [0, 2] (Nat.le_add_left _ _) rfl rfl
 refine ⟨vo, g, rfl, aq⟩
 have y := tD y
 refine zo rfl (zv (zd (zw (zd (za kr (fun _ => ?_))))))
 have ar : k < d.types.length := bo
 refine st (zk (k := 1) (i := k) Tryd.underlying22 Tryd.sizeOf33 rfl hdd0.sl rfl ar ?_)
 have C : k < d.types.length := bo
 obtain ⟨I, m, P⟩ := hdd0.typ C
 rw [← zm default C] at I m P
 have hsm38 : ((d.types.getD k default).fields).length * 48 ≤ 140737488355328 := m.small
 have af := h.cells I (hdd0.foot (ne_of_lt C))
 refine st (zl (k := 1) Tryd.isAgg33 Tryd.sizeOf33 rfl rfl af (st (zB Tryd.zeroValue33 ?_)))
 intro w42 Q au
 have R := h.new au
 refine stn (zy (v := .agg ((d.types.getD k default).cells (zi W (sb dd0) (so dd0 + k * 1 + 0))).toArray) (c' := ((d.types.getD k default).cells (zi W (sb dd0) (so dd0 + k * 1 + 0))).toArray) Tryd.sizeOf33 rfl rfl (R.blk (i := 0) rfl) (ya ⟨m.sl.one, trivial⟩) (Nat.le_of_ble_eq_true rfl) rfl ?_)
 intro w44 av
 have S := R.pt0 av
 refine zf (zd (za kr (fun _ => (st (yA rfl (st (zg (v := (zi W (sb dd0) (so dd0 + k * 1 + 0))) Tryd.isAgg31 rfl (zh (S.blk (i := 0) rfl) rfl) (st (zu (f := 88) (vals := [(zi W (sb dd0) (so dd0 + k * 1 + 0))]) (cap := []) rfl rfl Tryd.call88 (Vq (l := (d.types.getD k default).fields) (vl := (zi W (sb dd0) (so dd0 + k * 1 + 0))) m S) ?_)))))))))
 rintro e w48 ⟨_, rfl, T⟩
 have U := T.row (i := 0) rfl
 have hr50s : _ * 48 ≤ _ := U.2
 refine st (ze (v := e) rfl (zf (zd (zd (za kr (fun _ => (st (zb (v := e) rfl (st (zJ (n := ((d.types.getD k default).fields).length) Tryd.underlying31 rfl U.1 (st (zb (v := Iv 0) rfl (zf (zw ?_))))))))))))))
 have aw := T.toMix
 refine yd (fun mq σ wq => ∃ (q : Nat) (ρ : Env), mq = ((d.types.getD k default).fields).length - q ∧ σ = yh ρ [(1, Ix b2 0), (2, Ix B 0), (3, Ix s 0), (5, Ix Q 0), (6, e), (13, dd0), (14, Iw d.types.length), (15, Iw k), (23, Iw (((d.types.getD k default).fields).length)), (24, Iw q)] ∧ (q ≤ ((d.types.getD k default).fields).length) ∧ Sep G W ((RowE (α := Bool × Fld) (mix (α := Fld) G W) 79 e (xO q ((d.types.getD k default).fields))) :: (Blk Q ((d.types.getD k default).cells (zi W (sb dd0) (so dd0 + k * 1 + 0))).toArray 33) :: (RowE (α := Typ) own 33 vo (d.types.take k)) :: (Blk s #[vo, g] 25) :: (RowE (α := Prj) own 107 g d.projs) :: (Blk B #[(Iz), (Iz)] 25) :: (Blk b2 (d.cells dd0 dd1).toArray 25) :: Rs) wq) ⟨0, _, rfl, zq ⟨rfl, rfl, rfl, rfl, rfl, rfl, rfl, rfl, rfl, rfl, trivial⟩, Nat.zero_le _, aw⟩ ?_
 rintro m53 σ54 aQ ⟨q, ρl2, rfl, rfl, hkq, z⟩
 have D := z.row (i := 0) rfl
 rw [xw] at D
 refine zd (za kr (fun _ => (st (zL (k := .i64) (a := ((q : Nat) : Int)) (b := ((((d.types.getD k default).fields).length : Nat) : Int)) rfl rfl (zf (zd ?_))))))
 cases A : decide (((q : Nat) : Int) < ((((d.types.getD k default).fields).length : Nat) : Int))
 have A := fD A
 have E : Sep G W ((RowE (α := Fld) own 79 e ((d.types.getD k default).fields)) :: (Blk Q ((d.types.getD k default).cells (zi W (sb dd0) (so dd0 + k * 1 + 0))).toArray 33) :: (RowE (α := Typ) own 33 vo (d.types.take k)) :: (Blk s #[vo, g] 25) :: (RowE (α := Prj) own 107 g d.projs) :: (Blk B #[(Iz), (Iz)] 25) :: (Blk b2 (d.cells dd0 dd1).toArray 25) :: Rs) aQ := z.ofMix om
 have V := E.row (i := 0) rfl
 have hr59s : _ * 48 ≤ _ := V.2
 refine zn rfl (yc (zU (za kr (fun _ => (st (yo rfl (st (zg (v := vo) Tryd.isAgg22 rfl (zh (E.blk (i := 3) rfl) rfl) (st (zb (v := e) rfl ?_))))))))))
 have ax : Typ.Ok (d.types.getD k default) := ⟨⟩
 refine st (zQ (parts' := [(0, e)]) (v := .agg ((d.types.getD k default).cells e).toArray) rfl (by obtain ⟨_, _, ay, _⟩ := V.1; rw [show e = Value.slice _ _ _ from ay]; simp [Instr.build, Instr.fill, Ev.cells, go_sem, Mv.cells, Fld.cells, Typ.cells, Prj.cells, Dcl.cells, Cel.cells, AskR.cells, Ask.cells, CelS.cells, Ev.cells, Ent.cells, Sta.cells]) (st (zD (k := 1) (parts' := [(0, .agg ((d.types.getD k default).cells e).toArray)]) (c := ((d.types.getD k default).cells e).toArray) Tryd.underlying22 Tryd.sizeOf33 Tryd.zeroValue33 (by decide) rfl (by kernel_rfl) ?_)))
 intro w64 b63 az
 have X := E.new az
 have ag := X.blk (i := 0) rfl
 have aA := X.s8_dbcefgh
 refine st (yp (src := own) (bytes := 24) (x1 := (d.types.getD k default)) aA el22 rfl rfl ag (fun _ _ hN => ⟨_, rfl, RowE.soft hN, ax⟩) (by first | omega | (simp only [List.length_append, List.length_cons, List.length_nil, List.length_take, List.length_drop]; omega)) rfl ?_)
 intro Y w66 F
 have Z := F.row (i := 0) rfl
 have hr71s : _ * 24 ≤ _ := Z.2
 refine st (yo rfl (stn (yv (v := Y) (c := [vo, g]) (c' := [Y, g]) Tryd.sizeOf22 rfl rfl (F.blk (i := 2) rfl) Z.1.one rfl rfl ?_)))
 intro w72 aC
 have ok74 : Dcl.Ok (⟨(d.types.take k) ++ [(d.types.getD k default)], d.projs⟩ : Dcl) := ⟨⟩
 have aD := F.pt2 aC
 refine zf (za kr (fun _ => ?_))
 have aE : InR ((k + 1 : Nat) : Int) := bo
 refine st (zV (r := ((k + 1 : Nat) : Int)) (k := .i64) (a := ((k : Nat) : Int)) (b := 1) rfl rfl (by rw [show (((k : Nat) : Int) + 1 : Int) = ((k + 1 : Nat) : Int) from bo]; exact zM aE) (st (zb (v := Iw (k + 1)) rfl (zf ?_))))
 have aa := aD.s6_acdef
 have aF : (d.types.take (k + 1)) = (d.types.take k) ++ [(d.types.getD k default)] := (List.take_getD om)
 rw [← aF] at aa
 exact ⟨_, by omega, k + 1, Y, _, rfl, zq ⟨rfl, rfl, rfl, rfl, rfl, rfl, trivial⟩, by omega, aa⟩
 have A := tD A
 refine zo rfl (zv (zd (zw (zd (za kr (fun _ => (st (zb (v := Iw q) rfl (st (ze (v := Iw q) rfl (zf (za kr (fun _ => (st (zb (v := e) rfl (st (zb (v := Iw q) rfl (st (zb (v := e) rfl (st (zb (v := Iw q) rfl ?_)))))))))))))))))))))
 have aG : q < ((d.types.getD k default).fields).length := bo
 refine st (zk (k := 4) (i := q) Tryd.underlying31 Tryd.sizeOf79 rfl D.1 rfl aG (st (yz rfl ?_)))
 have ab : q < ((d.types.getD k default).fields).length := bo
 obtain ⟨_, J, p, rfl, t, ac⟩ := z.mixAt (i := 0) (j := q) rfl (Nat.le_refl _) ab
 rw [← zm default ab] at J t ac
 refine st (zg (v := p) Tryd.isAgg77 rfl (J.get (j := 3) rfl) (st (zu (f := 67) (vals := [p]) (cap := []) rfl rfl Tryd.call67 (XG (l := (((d.types.getD k default).fields).getD q default).moves) (vl := p) t z) ?_)))
 rintro ai w83 ⟨_, rfl, ad⟩
 have H := ad.row (i := 0) rfl
 have hr85s : _ * 32 ≤ _ := H.2
 have aH : q < ((d.types.getD k default).fields).length := bo
 refine st (zk (k := 4) (i := q) Tryd.underlying31 Tryd.sizeOf79 rfl D.1 rfl aH (st (yz rfl ?_)))
 have aI := ad.mv1
 have ae : q < ((d.types.getD k default).fields).length := bo
 refine stn (Yq (α := Fld) (j := q) (o := 3) (u := ai) (us := [ai]) aI Tryd.sizeOf77 ae rfl rfl (congrArg Array.toList (yX H.1.one)) (Nat.le_of_ble_eq_true rfl) (ya ⟨H.1.one, trivial⟩) (fun w f cs0 hr hN => (by obtain ⟨d, rfl, hd, hok⟩ := hr; exact ⟨_, rfl, (by rw [← zm default ae]; exact RowE.soft hN), hok⟩)) ?_)
 intro w87 aJ
 refine zf (za kr (fun _ => ?_))
 have aK : InR ((q + 1 : Nat) : Int) := bo
 refine st (zV (r := ((q + 1 : Nat) : Int)) (k := .i64) (a := ((q : Nat) : Int)) (b := 1) rfl rfl (by rw [show (((q : Nat) : Int) + 1 : Int) = ((q + 1 : Nat) : Int) from bo]; exact zM aK) (st (zb (v := Iw (q + 1)) rfl (zf ?_))))
 exact ⟨_, by omega, q + 1, _, rfl, zq ⟨rfl, rfl, rfl, rfl, rfl, rfl, rfl, rfl, rfl, rfl, trivial⟩, by omega, aJ⟩

theorem QD {G : Nat → Prop} {W w : World} {Rs : List HP} {d : Dcl} {dd0 : Value} (hdd0 : RdS W G dd0 d.types) {dd1 : Value} (hdd1 : RdS W G dd1 d.projs) (od : d.Ok) (hS0 : Sep G W Rs w) : Ret Tryd.prog 24 [.agg (d.cells dd0 dd1).toArray] w (fun r w' => ∃ (b : Nat), r = (.pointer (some ⟨b, 0, none⟩) : Value) ∧ Sep G W ((ViewO b d [] []) :: Rs) w') := by
 have hdd0s : _ * 24 ≤ _ := hdd0.small
 have hdd1s : _ * 40 ≤ _ := hdd1.small
 refine zr (args := [.agg (d.cells dd0 dd1).toArray]) Tryd.func24 rfl rfl ?_
 refine zd (za kr (fun _ => (st (zT (v := .agg (d.cells dd0 dd1).toArray) rfl ?_))))
 intro w3 b2 F
 have n := hS0.new F
 refine st (ze (v := .pointer none) rfl (zf (zd (za kr (fun _ => (st (zl (k := 2) Tryd.isAgg25 Tryd.sizeOf25 rfl rfl (CellsAt.all (n.blk (i := 0) rfl)) (st (zu (f := 57) (vals := [.agg (d.cells dd0 dd1).toArray]) (cap := []) rfl rfl Tryd.call57 (Vb (d := d) hdd0 hdd1 od n) ?_)))))))))
 rintro _ J ⟨a, c, rfl, j⟩
 have H := j.row (i := 0) rfl
 have hr9s : _ * 24 ≤ _ := H.2
 have q := j.row (i := 1) rfl
 have hr10s : _ * 40 ≤ _ := q.2
 refine st (ZR ?_)
 intro o s
 obtain ⟨e, l⟩ : ∃ z, z = J.heap.size := ⟨_, rfl⟩; rw [← l]
 have t : Sep G W ((yw yR E1 e (fun _ => none)) :: (RowE (α := Typ) own 33 a d.types) :: (RowE (α := Prj) own 107 c d.projs) :: (Blk b2 (d.cells dd0 dd1).toArray 25) :: Rs) o := (by rw [l]; exact j.mapoNew s)
 refine st (ZR ?_)
 intro I u
 obtain ⟨g, m⟩ : ∃ z, z = o.heap.size := ⟨_, rfl⟩; rw [← m]
 have x : Sep G W ((yw xd E2 g (fun _ => none)) :: (yw yR E1 e (fun _ => none)) :: (RowE (α := Typ) own 33 a d.types) :: (RowE (α := Prj) own 107 c d.projs) :: (Blk b2 (d.cells dd0 dd1).toArray 25) :: Rs) I := (by rw [m]; exact t.mapoNew u)
 refine st (zQ (parts' := [(0, .agg (d.cells a c).toArray), (2, .map (some e)), (3, .map (some g))]) (v := .agg #[a, c, (Iz), .map (some e), .map (some g)]) rfl (by simp [Instr.build, Instr.fill, go_sem, Dcl.cells]) (st (zT (v := .agg #[a, c, (Iz), .map (some e), .map (some g)]) rfl ?_)))
 intro p h y
 have A := x.new y
 refine st (ze (v := Ix h 0) rfl (zf (zt (zO Tryd.results24 (show _ = (Ix h 0 : Value) from rfl) ?_))))
 have B : Sep G W ((RowE (α := Ent) own 62 (Iz) ([] : List Ent)) :: (Blk h #[a, c, (Iz), .map (some e), .map (some g)] 111) :: (yw xd E2 g (fun _ => none)) :: (yw yR E1 e (fun _ => none)) :: (RowE (α := Typ) own 33 a d.types) :: (RowE (α := Prj) own 107 c d.projs) :: (Blk b2 (d.cells dd0 dd1).toArray 25) :: Rs) p := A.rowNil own 62
 have C := B.s7_befadcg
 have D : Sep G W ((ViewO h d [] []) :: (Blk b2 (d.cells dd0 dd1).toArray 25) :: Rs) p := ViewO.close (d := d) (L := []) (M := []) C
 have E := D.s2_a
 refine ⟨h, rfl, E⟩

end Go.Proofs.YtlblilbmpdejgaaDoor
