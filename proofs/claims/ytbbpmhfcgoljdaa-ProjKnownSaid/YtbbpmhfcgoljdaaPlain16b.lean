/- A projection's rows, in plain words: what each group comes to. -/
import Derived.Test.YtbbpmhfcgoljdaaPlain16
set_option linter.unusedSimpArgs false
set_option linter.unusedVariables false
namespace Go.Proofs.Ytbbpmhfcgoljdaa

abbrev PE := Ent × Int
def addsP (p : Prj) (q : List PE) : List (Int × Row) := q.foldl (fun L x => addM p L x.1 x.2) []
def pairs (l : List Ent) (g : List Int) : List PE := (List.range l.length).map fun i => (l.getD i default, regI g i)
theorem pairs_length (l : List Ent) (g : List Int) : (pairs l g).length = l.length := by simp [pairs]
theorem pairs_at {l : List Ent} {g : List Int} {i : Nat} (h : i < l.length) : (pairs l g)[i]? = some (l[i], regI g i) := by
  unfold pairs
  rw [List.getElem?_map, List.getElem?_range h]
  simp [List.getD_eq_getElem?_getD, h]
theorem pairs_take {l : List Ent} {g : List Int} {k : Nat} (h : k < l.length) : (pairs l g).take (k + 1) = (pairs l g).take k ++ [(l[k], regI g k)] := by
  have hk : k < (pairs l g).length := by rw [pairs_length]; exact h
  rw [List.take_succ_eq_append_getElem hk]
  have := pairs_at (g := g) h
  rw [List.getElem?_eq_getElem hk] at this
  rw [Option.some.inj this]
theorem addsM_eq (p : Prj) (l : List Ent) (g : List Int) : ∀ k, k ≤ l.length → addsM p l g k = addsP p ((pairs l g).take k)
  | 0, _ => rfl
  | k + 1, h => by
    rw [addsM, addsM_eq p l g k (by omega), pairs_take (by omega), getD_at _ (show k < l.length by omega), addsP, addsP, List.foldl_append]; rfl
def rowsP (p : Prj) (q : List PE) : List Row := srtR ((addsP p q).map (·.2))
theorem rowsL_eq (p : Prj) (l : List Ent) (g : List Int) : rowsL p l g = rowsP p (pairs l g) := by
  unfold rowsL rowsP
  rw [addsM_eq p l g l.length (Nat.le_refl _), List.take_of_length_le (by rw [pairs_length]; exact Nat.le_refl _)]
theorem good_adds (p : Prj) (q : List PE) : GoodM (addsP p q) q.length := by
  suffices key : ∀ (q : List PE) (L : List (Int × Row)) (k : Nat), GoodM L k → GoodM (q.foldl (fun L x => addM p L x.1 x.2) L) (k + q.length) by
    have := key q [] 0 good_nil
    rwa [Nat.zero_add] at this
  intro q
  induction q with
  | nil => intro L k h; exact h
  | cons x q ih =>
    intro L k h
    have := ih _ _ (h.add p x.1 x.2)
    rw [List.length_cons, show k + (q.length + 1) = k + 1 + q.length by omega]
    exact this

/-- Does an entry count. -/
def keepB (p : Prj) (e : Ent) : Bool := !e.void && (decide (e.ev.typ = p.ptyp) && decide (e.ev.field = p.pfield))
def cntB (p : Prj) (G : Int) (x : PE) : Bool := keepB p x.1 && decide (grpI p x.1.ev x.2 = some G)
def argsP (p : Prj) (G : Int) (q : List PE) : List Int := (q.filter (cntB p G)).map fun x => x.1.ev.arg
def stepV (p : Prj) (s : Int × Int) (a : Int) : Int × Int := (s.1 + 1, madeI p ⟨0, s.2, s.1 + 1⟩ a)
def stF (p : Prj) (args : List Int) : Int × Int := args.foldl (stepV p) (0, 0)
theorem stF_app (p : Prj) (l : List Int) (a : Int) : stF p (l ++ [a]) = stepV p (stF p l) a := by unfold stF; rw [List.foldl_append]; rfl
theorem fold_fst (p : Prj) : ∀ (l : List Int) (s : Int × Int), (l.foldl (stepV p) s).1 = s.1 + l.length
  | [], s => by simp
  | a :: l, s => by rw [List.foldl_cons, fold_fst p l]; simp [stepV]; omega
theorem stF_fst (p : Prj) (l : List Int) : (stF p l).1 = l.length := by unfold stF; rw [fold_fst]; simp
theorem madeI_grp (p : Prj) (a b v c x : Int) : madeI p ⟨a, v, c⟩ x = madeI p ⟨b, v, c⟩ x := rfl
def rowOf (p : Prj) (G : Int) (args : List Int) : Option Row := if args = [] then none else some ⟨G, (stF p args).2, args.length⟩
theorem look_adds (p : Prj) (G : Int) (q : List PE) : lookM (addsP p q) G = rowOf p G (argsP p G q) := by
  suffices key : ∀ n (q : List PE), q.length = n → lookM (addsP p q) G = rowOf p G (argsP p G q) from key _ q rfl
  intro n
  induction n with
  | zero => intro q h; rw [List.length_eq_zero_iff.1 h]; rfl
  | succ n ih =>
    intro q h
    obtain ⟨q', x, rfl⟩ : ∃ q' x, q = q' ++ [x] := ⟨q.dropLast, q.getLast (by intro h'; subst h'; simp at h), (List.dropLast_concat_getLast _).symm⟩
    have ih := ih q' (by simpa using h)
    have e1 : addsP p (q' ++ [x]) = addM p (addsP p q') x.1 x.2 := by unfold addsP; rw [List.foldl_append]; rfl
    have e2 : argsP p G (q' ++ [x]) = argsP p G q' ++ (if cntB p G x then [x.1.ev.arg] else []) := by
      unfold argsP
      rw [List.filter_append, List.map_append]
      by_cases hc : cntB p G x <;> simp [hc]
    rw [e1, e2]
    unfold addM
    cases hg : grpI p x.1.ev x.2 with
    | none =>
      have hc : cntB p G x = false := by unfold cntB; rw [hg]; simp
      simp only [hc, Bool.false_eq_true, if_false, List.append_nil]
      exact ih
    | some g' =>
      simp only []
      by_cases hk : keepB p x.1 = true
      · have hk' : ¬ (x.1.void = true ∨ x.1.ev.typ ≠ p.ptyp ∨ x.1.ev.field ≠ p.pfield) := by
          unfold keepB at hk
          simp at hk
          simp [hk]
        rw [if_neg hk', lookM_upd]
        by_cases hG : G = g'
        · subst hG
          have hc : cntB p G x = true := by unfold cntB; rw [hg, hk]; simp
          rw [if_pos rfl, hc, if_pos rfl, ih]
          have hr : rowOf p G (argsP p G q' ++ [x.1.ev.arg]) = some ⟨G, (stF p (argsP p G q' ++ [x.1.ev.arg])).2, ((argsP p G q' ++ [x.1.ev.arg]).length : Nat)⟩ := by
            unfold rowOf; rw [if_neg (by simp)]
          rw [hr, stF_app]
          unfold rowOf
          split
          · rename_i h0
            rw [h0]; rfl
          · simp only [Option.getD_some, stepV, stF_fst]
            simp [madeI_grp p G 0]
        · have hc : cntB p G x = false := by unfold cntB; rw [hg]; simp; intro _; exact fun e => hG e.symm
          rw [if_neg hG, hc]
          simpa using ih
      · have hk' : x.1.void = true ∨ x.1.ev.typ ≠ p.ptyp ∨ x.1.ev.field ≠ p.pfield := by
          unfold keepB at hk
          simp at hk
          by_cases h1 : x.1.void = true
          · exact .inl h1
          · by_cases h2 : x.1.ev.typ = p.ptyp
            · exact .inr (.inr (hk (by simpa using h1) h2))
            · exact .inr (.inl h2)
        have hc : cntB p G x = false := by unfold cntB; simp [hk]
        rw [if_pos hk', hc]
        simpa using ih

/-- Maps that say the same give the same rows. -/
theorem rows_ext {L1 L2 : List (Int × Row)} {k1 k2 : Nat} (h1 : GoodM L1 k1) (h2 : GoodM L2 k2) (h : ∀ G, lookM L1 G = lookM L2 G) : srtR (L1.map (·.2)) = srtR (L2.map (·.2)) := by
  have key : ∀ {A B : List (Int × Row)} {k k' : Nat}, GoodM A k → GoodM B k' → (∀ G, lookM A G = lookM B G) → ∀ x ∈ A, x ∈ B := by
    intro A B k k' ha hb h x hx
    have h3 := lookM_mem ha.nodup hx
    rw [h] at h3
    exact lookM_some h3
  have nd : ∀ {A : List (Int × Row)} {k : Nat}, GoodM A k → A.Nodup := fun ha => (List.pairwise_map.1 ha.nodup).imp (fun hne e => hne (by rw [e]))
  have hp : L1.Perm L2 := (List.perm_ext_iff_of_nodup (nd h1) (nd h2)).2 fun x => ⟨key h1 h2 h x, key h2 h1 (fun G => (h G).symm) x⟩
  exact srtR_unique h2.grp h2.nodup ((srtR_perm _).trans (hp.map _)) (srtR_sorted _)
theorem rowsP_ext {p : Prj} {q q' : List PE} (h : ∀ G, argsP p G q = argsP p G q') : rowsP p q = rowsP p q' :=
  rows_ext (good_adds p q) (good_adds p q') fun G => by rw [look_adds, look_adds, h]
theorem rowsP_ext2 {p : Prj} {q q' : List PE} (h : ∀ G, rowOf p G (argsP p G q) = rowOf p G (argsP p G q')) : rowsP p q = rowsP p q' :=
  rows_ext (good_adds p q) (good_adds p q') fun G => by rw [look_adds, look_adds, h]

/-- A row among all rows. -/
theorem row_mem {p : Prj} {q : List PE} {x : Row} : x ∈ rowsP p q ↔ rowOf p x.group (argsP p x.group q) = some x := by
  have hg := good_adds p q
  unfold rowsP
  rw [(srtR_perm _).mem_iff, List.mem_map]
  constructor
  · rintro ⟨y, hy, rfl⟩
    have := lookM_mem hg.nodup hy
    rw [hg.grp y hy, look_adds] at this
    exact this
  · intro h
    rw [← look_adds] at h
    exact ⟨_, lookM_some h, rfl⟩
theorem rows_strict (p : Prj) (q : List PE) : (rowsP p q).Pairwise fun a b => a.group < b.group := by
  have hg := good_adds p q
  have h1 := srtR_sorted ((addsP p q).map (·.2))
  have h2 : ((rowsP p q).map (·.group)).Nodup := (((srtR_perm _).map (·.group)).nodup_iff).2 (groups_nodup hg.grp hg.nodup)
  have h3 := List.pairwise_map.1 h2
  exact (h1.and h3).imp fun {a b} ⟨h, hne⟩ => by omega

/-- What is left out turns nothing. -/
theorem args_filter {p : Prj} {q : List PE} {G : Int} : argsP p G (q.filter fun x => keepB p x.1) = argsP p G q := by
  unfold argsP
  rw [List.filter_filter]
  congr 1
  refine List.filter_congr fun x _ => ?_
  unfold cntB
  cases keepB p x.1 <;> simp
theorem rows_filter (p : Prj) (q : List PE) : rowsP p (q.filter fun x => keepB p x.1) = rowsP p q := rowsP_ext fun G => args_filter

/-- But for the last ones, the order turns nothing. -/
theorem wrap_add (a b : Int) : IntKind.i64.wrap (IntKind.i64.wrap a + b) = IntKind.i64.wrap (a + b) := by
  rw [IntKind.wrap_i64, IntKind.wrap_i64, IntKind.wrap_i64]; omega
theorem stepV_comm {p : Prj} (hp : p.pmake ≠ 5) (s : Int × Int) (hs : 0 ≤ s.1) (a b : Int) : stepV p (stepV p s a) b = stepV p (stepV p s b) a := by
  unfold stepV
  refine Prod.ext rfl ?_
  unfold madeI
  simp only []
  by_cases h1 : p.pmake = 1
  · simp only [if_pos h1]
  · by_cases h2 : p.pmake = 2
    · simp only [if_neg h1, if_pos h2]
      rw [wrap_add, wrap_add, show s.2 + a + b = s.2 + b + a by omega]
    · have hb : ¬ (s.1 + 1 + 1 = 1) := by omega
      by_cases h3 : p.pmake = 3
      · by_cases h0 : s.1 = 0
        · simp [h1, h2, h3, h0]; omega
        · simp [h1, h2, h3, h0, hb]; omega
      · by_cases h4 : p.pmake = 4
        · by_cases h0 : s.1 = 0
          · simp [h1, h2, h3, h4, h0]; omega
          · simp [h1, h2, h3, h4, h0, hb]; omega
        · simp [h1, h2, h3, h4, hp]
theorem fold_perm {p : Prj} (hp : p.pmake ≠ 5) {a b : List Int} (h : a.Perm b) : ∀ (s : Int × Int), 0 ≤ s.1 → a.foldl (stepV p) s = b.foldl (stepV p) s := by
  induction h with
  | nil => intro s _; rfl
  | cons x _ ih => intro s hs; exact ih _ (by simp [stepV]; omega)
  | swap x y l => intro s hs; rw [List.foldl_cons, List.foldl_cons, List.foldl_cons, List.foldl_cons, stepV_comm hp s hs]
  | trans _ _ ih1 ih2 => intro s hs; rw [ih1 s hs, ih2 s hs]
theorem rows_perm {p : Prj} (hp : p.pmake ≠ 5) {q q' : List PE} (h : q.Perm q') : rowsP p q = rowsP p q' := by
  refine rowsP_ext2 fun G => ?_
  have h1 : (argsP p G q).Perm (argsP p G q') := (h.filter _).map _
  unfold rowOf stF
  rw [fold_perm hp h1 (0, 0) (Int.le_refl 0), h1.length_eq]
  by_cases h0 : argsP p G q = []
  · have : argsP p G q' = [] := by rw [h0] at h1; exact List.nil_perm.1 h1
    rw [if_pos h0, if_pos this]
  · have : argsP p G q' ≠ [] := fun e => h0 (by rw [e] at h1; exact List.perm_nil.1 h1)
    rw [if_neg h0, if_neg this]
end Go.Proofs.Ytbbpmhfcgoljdaa
