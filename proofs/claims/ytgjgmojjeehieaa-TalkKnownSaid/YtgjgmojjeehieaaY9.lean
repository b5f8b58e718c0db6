/- Texts of this claim, part 9. -/
import Derived.Test.YtgjgmojjeehieaaY8
set_option linter.unusedSimpArgs false
set_option linter.unusedVariables false
section
/- Plain laws of sets of events: what is known is there; parts of a set. -/
set_option linter.unusedSimpArgs false
set_option linter.unusedVariables false
namespace Go.Proofs.Ytgjgmojjeehieaa

theorem lt_cmp {a b : Ev} : ltE a b = true ↔ cmpE a b < 0 := by
  rw [cmpE_neg]
  unfold ltE
  by_cases h1 : a.lam = b.lam
  · by_cases h2 : a.origin = b.origin
    · simp [h1, h2]
    · simp [h1, h2]
  · simp [h1]
theorem cmp_trans {a b c : Ev} (h1 : cmpE a b < 0) (h2 : cmpE b c < 0) : cmpE a c < 0 := by rw [cmpE_neg] at *; omega
theorem cmp_asym {a b : Ev} (h1 : cmpE a b < 0) : ¬ cmpE b a < 0 := by rw [cmpE_neg] at *; omega
theorem cmp_total {a b : Ev} (h : idE a ≠ idE b) : cmpE a b < 0 ∨ cmpE b a < 0 := by
  rw [cmpE_neg, cmpE_neg]
  have h' : ¬ (a.origin = b.origin ∧ a.seq = b.seq) := fun e => h (by unfold idE; rw [e.1, e.2])
  omega
theorem cmp_lam {a b : Ev} (h : a.lam < b.lam) : cmpE a b < 0 := by rw [cmpE_neg]; omega

section
variable {n : Nat} {L T : List Ev} {e x y : Ev}
theorem insE_mem : x ∈ insE e L ↔ x = e ∨ x ∈ L := by rw [insE_perm.mem_iff, List.mem_cons]
theorem insE_srt (hs : Srt L) (hn : idE e ∉ L.map idE) : Srt (insE e L) := by
  induction L with
  | nil => exact List.pairwise_singleton _ _
  | cons x l ih =>
    unfold Srt at hs ⊢
    rw [List.pairwise_cons] at hs
    have hne : idE e ≠ idE x := fun h => hn (by rw [h]; exact List.mem_map.2 ⟨x, List.mem_cons_self .., rfl⟩)
    simp only [insE]
    split
    · rename_i hlt
      have h1 := lt_cmp.1 hlt
      rw [List.pairwise_cons, List.pairwise_cons]
      refine ⟨fun y hy => ?_, hs.1, hs.2⟩
      rcases List.mem_cons.1 hy with rfl | hy
      · exact h1
      · exact cmp_trans h1 (hs.1 y hy)
    · rename_i hlt
      rw [List.pairwise_cons]
      refine ⟨fun y hy => ?_, ih hs.2 (fun h => hn (List.mem_cons_of_mem _ h))⟩
      rcases insE_mem.1 hy with rfl | hy
      · rcases cmp_total hne with h | h
        · exact absurd (lt_cmp.2 h) hlt
        · exact h
      · exact hs.1 y hy

/-- A set of events as it may be. -/
structure Good (n : Nat) (L : List Ev) : Prop where
  chk : ∀ e ∈ L, checkE e n = 0
  ids : (L.map idE).Nodup
  srt : Srt L
  knw : ∀ e ∈ L, ∀ o, o < n → knewE L e o = true
  seqle : ∀ e ∈ L, e.seq ≤ ((cntE L e.origin.toNat : Nat) : Int)
  fill : ∀ (o : Nat) (q : Int), 1 ≤ q → q ≤ ((cntE L o : Nat) : Int) → (getE L ((o : Int), q)).isSome = true
theorem Good.nil : Good n [] := by
  refine ⟨fun _ h => by simp at h, List.nodup_nil, List.Pairwise.nil, fun _ h => by simp at h, fun _ h => by simp at h, fun o q h1 h2 => ?_⟩
  have h3 : cntE [] o = 0 := rfl
  omega
theorem Good.nodup (h : Good n L) : L.Nodup := (List.pairwise_map.1 h.ids).imp fun hab e => hab (congrArg idE e)
theorem Good.len (h : Good n L) : ∀ y ∈ L, y.deps.length = n := fun y hy => (check_ok (h.chk y hy)).2.2.1
theorem Good.org (h : Good n L) (hx : x ∈ L) : ((x.origin.toNat : Nat) : Int) = x.origin := by
  have := (check_ok (h.chk x hx)).1.1; omega
theorem Good.uniq (h : Good n L) (hx : x ∈ L) (hy : y ∈ L) (he : idE x = idE y) : x = y := by
  have h1 := getE_self h.ids hx
  have h2 := getE_self h.ids hy
  rw [he, h2] at h1
  exact (Option.some.inj h1).symm
theorem Good.get (h : Good n L) (hx : x ∈ L) : getE L (x.origin, x.seq) = some x := getE_self h.ids hx
theorem getE_some {k : Int × Int} (h : (getE L k).isSome = true) : ∃ x, getE L k = some x ∧ x ∈ L ∧ idE x = k := by
  obtain ⟨x, hx⟩ := Option.isSome_iff_exists.1 h
  obtain ⟨h1, h2, h3⟩ := getE_mem hx
  exact ⟨x, hx, h1, by unfold idE; rw [h2, h3]⟩
theorem knew_iff {o : Nat} : knewE L e o = true ↔ e.deps.getD o 0 = 0 ∨ ∃ x, getE L ((o : Int), e.deps.getD o 0) = some x ∧ x.lam < e.lam ∧ ∀ i, i < x.deps.length → x.deps.getD i 0 ≤ e.deps.getD i 0 := by
  unfold knewE
  by_cases h : e.deps.getD o 0 = 0
  · rw [decide_eq_true h, Bool.true_or]; exact ⟨fun _ => .inl h, fun _ => rfl⟩
  · rw [decide_eq_false h, Bool.false_or]
    constructor
    · intro h1
      cases hg : getE L ((o : Int), e.deps.getD o 0) with
      | none => rw [hg] at h1; cases h1
      | some x =>
        rw [hg] at h1
        simp only [Bool.and_eq_true, decide_eq_true_eq, List.all_eq_true, List.mem_range] at h1
        exact .inr ⟨x, rfl, h1.1, fun i hi => h1.2 i hi⟩
    · rintro (h1 | ⟨x, hg, h1, h2⟩)
      · exact absurd h1 h
      · rw [hg]
        simp only [Bool.and_eq_true, decide_eq_true_eq, List.all_eq_true, List.mem_range]
        exact ⟨h1, fun i hi => h2 i hi⟩
/-- What an event knew of its own replica: the one ahead of it. -/
theorem Good.pred (h : Good n L) (hx : x ∈ L) (h1 : 1 < x.seq) : ∃ z ∈ L, z.origin = x.origin ∧ z.seq = x.seq - 1 ∧ z.lam < x.lam := by
  obtain ⟨⟨ho, ho'⟩, _, _, hd⟩ := check_ok (h.chk x hx)
  have hk := h.knw x hx x.origin.toNat (by omega)
  rw [knew_iff, hd] at hk
  rcases hk with hk | ⟨z, hz, hl, _⟩
  · omega
  · obtain ⟨h2, h3, h4⟩ := getE_mem hz
    exact ⟨z, h2, by rw [h3]; exact h.org hx, h4, hl⟩
theorem Good.order (h : Good n L) : ∀ (k : Nat) {x y : Ev}, x ∈ L → y ∈ L → x.origin = y.origin → y.seq = x.seq + (k : Int) + 1 → x.lam < y.lam
  | k, x, y, hx, hy, ho, hk => by
    have h1 : 1 < y.seq := by have := (check_ok (h.chk x hx)).2.1.1; omega
    obtain ⟨z, hz, hzo, hzs, hzl⟩ := h.pred hy h1
    cases k with
    | zero =>
      have : x = z := h.uniq hx hz (by unfold idE; rw [ho, hzo, hzs]; congr 1; omega)
      rw [this]; exact hzl
    | succ k =>
      have := Good.order h k hx hz (ho.trans hzo.symm) (by rw [hzs, hk]; omega)
      omega
theorem Good.ahead (h : Good n L) (hx : x ∈ L) (hy : y ∈ L) (ho : x.origin = y.origin) (hs : x.seq < y.seq) : cmpE x y < 0 :=
  cmp_lam (h.order (y.seq - x.seq - 1).toNat hx hy ho (by omega))

theorem add_zero (h : addE n L e = 0) : checkE e n = 0 ∧ (getE L (e.origin, e.seq)).isSome = false ∧ e.seq = ((cntE L e.origin.toNat : Nat) : Int) + 1 ∧ ∀ o, o < n → knewE L e o = true := by
  unfold addE at h
  split at h
  · rename_i h1; exact absurd h h1
  · rename_i h1
    split at h
    · cases h
    · rename_i h2
      split at h
      · cases h
      · rename_i h3
        split at h
        · rename_i h4
          refine ⟨by simpa using h1, by simpa using h2, by simpa using h3, fun o ho => ?_⟩
          exact (List.all_eq_true.1 h4) o (List.mem_range.2 ho)
        · cases h
theorem getE_insE {k : Int × Int} (h : (getE L (e.origin, e.seq)).isSome = false) : getE (insE e L) k = if (e.origin, e.seq) = k then some e else getE L k := by
  rw [← getE_ins h]; rfl
theorem Good.add (h : Good n L) (h0 : addE n L e = 0) : Good n (insE e L) := by
  obtain ⟨hc, hg, hs, hk⟩ := add_zero h0
  obtain ⟨⟨ho, ho'⟩, ⟨hs1, _⟩, hdl, hdq⟩ := check_ok hc
  have hid : idE e ∉ L.map idE := fun hm => by
    have := getE_iff.2 hm
    unfold idE at this
    rw [hg] at this; cases this
  have hkn : ∀ {x : Ev} {o : Nat}, knewE L x o = true → knewE (insE e L) x o = true := fun {x o} hx => by
    rw [knew_iff] at hx ⊢
    rcases hx with hx | ⟨z, hz, h1, h2⟩
    · exact .inl hx
    · refine .inr ⟨z, ?_, h1, h2⟩
      rw [getE_insE hg, if_neg, hz]
      intro he
      rw [he, hz] at hg; cases hg
  refine ⟨fun x hx => ?_, ?_, insE_srt h.srt hid, fun x hx o hlt => ?_, fun x hx => ?_, fun o q h1 h2 => ?_⟩
  · rcases insE_mem.1 hx with rfl | hx
    · exact hc
    · exact h.chk x hx
  · have hp : ((insE e L).map idE).Perm (idE e :: L.map idE) := insE_perm.map idE
    exact hp.nodup_iff.2 (List.nodup_cons.2 ⟨hid, h.ids⟩)
  · rcases insE_mem.1 hx with rfl | hx
    · exact hkn (hk o hlt)
    · exact hkn (h.knw x hx o hlt)
  · rw [cnt_ins]
    rcases insE_mem.1 hx with rfl | hx
    · rw [if_pos (by omega)]; omega
    · have := h.seqle x hx; omega
  · rw [cnt_ins] at h2
    rw [getE_insE hg]
    by_cases he : (e.origin, e.seq) = ((o : Int), q)
    · rw [if_pos he]; rfl
    · rw [if_neg he]
      refine h.fill o q h1 ?_
      by_cases hoe : e.origin = (o : Int)
      · rw [if_pos hoe] at h2
        have : e.seq ≠ q := fun hq => he (by rw [hoe, hq])
        have h3 : e.origin.toNat = o := by omega
        rw [h3] at hs
        omega
      · rw [if_neg hoe] at h2; simpa using h2
theorem Good.addL (h : Good n L) : Good n (addL n L e) := by
  unfold Go.Proofs.Ytgjgmojjeehieaa.addL
  split
  · rename_i h0; exact h.add h0
  · exact h
def laidL (n : Nat) (l : List Ev) : List Ev := l.foldl (addL n) []
theorem laidL_snoc {l : List Ev} : laidL n (l ++ [e]) = addL n (laidL n l) e := by unfold laidL; rw [List.foldl_append]; rfl
theorem foldl_good : ∀ {l : List Ev} {L : List Ev}, Good n L → Good n (l.foldl (addL n) L)
  | [], _, h => h
  | _ :: l, _, h => foldl_good (l := l) h.addL
theorem laidL_good {l : List Ev} : Good n (laidL n l) := foldl_good Good.nil
theorem addL_len : (addL n L e).length ≤ L.length + 1 := by
  unfold addL
  split
  · rw [insE_len]; omega
  · omega
theorem foldl_len : ∀ {l : List Ev} {L : List Ev}, (l.foldl (addL n) L).length ≤ L.length + l.length
  | [], _ => Nat.le_refl _
  | x :: l, L => by
    have := foldl_len (l := l) (L := addL n L x)
    have h2 := addL_len (n := n) (L := L) (e := x)
    simp only [List.foldl_cons, List.length_cons]
    omega
theorem laidL_len {l : List Ev} : (laidL n l).length ≤ l.length := by have := foldl_len (n := n) (l := l) (L := []); simpa [laidL] using this

/-- An event of a set can be added to a part of it that has all that stands ahead of the event. -/
theorem Good.sub_add (h : Good n L) (ht : Good n T) (hsub : ∀ x ∈ T, x ∈ L) (he : e ∈ L) (hne : e ∉ T) (hall : ∀ x ∈ L, cmpE x e < 0 → x ∈ T) : addE n T e = 0 := by
  have hc := h.chk e he
  obtain ⟨⟨ho, ho'⟩, ⟨hs1, _⟩, _, _⟩ := check_ok hc
  have hg : (getE T (e.origin, e.seq)).isSome = false := by
    cases hb : (getE T (e.origin, e.seq)).isSome with
    | false => rfl
    | true =>
      obtain ⟨x, _, hx, hid⟩ := getE_some hb
      exact absurd (h.uniq (hsub x hx) he hid ▸ hx) hne
  have horg := h.org he
  have hseq : e.seq = ((cntE T e.origin.toNat : Nat) : Int) + 1 := by
    rcases Int.lt_trichotomy e.seq (((cntE T e.origin.toNat : Nat) : Int) + 1) with h1 | h1 | h1
    · have := ht.fill e.origin.toNat e.seq hs1 (by omega)
      rw [horg, hg] at this; cases this
    · exact h1
    · exfalso
      have h2 := h.seqle e he
      have h3 := h.fill e.origin.toNat (((cntE T e.origin.toNat : Nat) : Int) + 1) (by omega) (by omega)
      obtain ⟨y, _, hy, hid⟩ := getE_some h3
      have hyo : y.origin = e.origin := by have := congrArg Prod.fst hid; simpa [idE, horg] using this
      have hys : y.seq = ((cntE T e.origin.toNat : Nat) : Int) + 1 := congrArg Prod.snd hid
      have hyt := hall y hy (h.ahead hy he hyo (by omega))
      have := ht.seqle y hyt
      rw [hyo] at this
      omega
  refine add_0 hc hg hseq fun o hlt => ?_
  have hk := h.knw e he o hlt
  rw [knew_iff] at hk ⊢
  rcases hk with hk | ⟨x, hx, hl, hd⟩
  · exact .inl hk
  · obtain ⟨hx1, hx2, hx3⟩ := getE_mem hx
    have hxt := hall x hx1 (cmp_lam hl)
    refine .inr ⟨x, ?_, hl, hd⟩
    have := ht.get hxt
    rw [hx2, hx3] at this
    exact this
theorem Good.of_mem (h : Good n L) (ht : Good n T) (hsub : ∀ x, x ∈ T ↔ x ∈ L) : T = L := by
  have hp : T.Perm L := (List.perm_ext_iff_of_nodup ht.nodup h.nodup).2 hsub
  exact pairwise_uniq hp h.srt (ht.srt.imp fun hab => cmp_asym hab)
end
end Go.Proofs.Ytgjgmojjeehieaa
end

section
/- Steps of the proofs of this seat: part B1. -/
set_option linter.unusedSimpArgs false
set_option linter.unusedVariables false
set_option maxRecDepth 8000
set_option maxHeartbeats 4000000
namespace Go.Proofs.Ytgjgmojjeehieaa
open Go.Proofs Go.RowKit

theorem D_sameEvents {G : Nat → Prop} {W w : World} {Rs : List HP} {va : Value} {a : List Ev} (ha : RdS W G va a) {vb : Value} {b : List Ev} (hb : RdS W G vb b) (hS0 : Sep G W Rs w) : Ret Try.prog 22 [va, vb] w (fun r w' => r = (.bool (decide (a = b)) : Value) ∧ Sep G W Rs w') := by
 have has : a.length * 96 ≤ 140737488355328 := ha.small
 have hbs : b.length * 96 ≤ 140737488355328 := hb.small
 refine Calls_of_WP (args := [va, vb]) Try.func22 rfl rfl ?_
 refine WP_seq ?_
 refine WP_region0 (by kernel_rfl) (fun _ => ?_)
 refine st (ov_assign (v := .bool false) rfl ?_)
 refine st_nil ?_
 refine WP_seq ?_
 refine WP_seq ?_
 refine WP_region0 (by kernel_rfl) (fun _ => ?_)
 refine st (ov_move (v := va) rfl ?_)
 refine st (ov_len (n := a.length) Try.underlying22 rfl ha.sl ?_)
 refine st (ov_move (v := vb) rfl ?_)
 refine st (ov_len (n := b.length) Try.underlying22 rfl hb.sl ?_)
 refine st (ov_neq (k := .i64) (a := ((a.length : Nat) : Int)) (b := ((b.length : Nat) : Int)) rfl rfl ?_)
 refine st_nil ?_
 cases hc1 : !decide (((a.length : Nat) : Int) = ((b.length : Nat) : Int))
 ·skip
  have hc1 := ndec_false hc1
  refine WP_cond_f rfl ?_
  refine WP_skip ?_
  refine WP_seq ?_
  refine WP_seq ?_
  refine WP_region0 (by kernel_rfl) (fun _ => ?_)
  refine st (ov_assign (v := .int .i64 (0)) rfl ?_)
  refine st_nil ?_
  refine WP_block ?_
  refine WP_loop (fun mq σ wq => ∃ (k : Nat) (ρ : Env), mq = a.length - k ∧ σ = setAll ρ [(0, va), (1, vb), (5, .int .i64 ((k : Nat) : Int))] ∧ (k ≤ a.length) ∧ (∀ i, i < k → a.getD i default = b.getD i default) ∧ Sep G W Rs wq) ⟨0, _, rfl, setAll_self ⟨rfl, rfl, rfl, trivial⟩, Nat.zero_le _, (fun i h => absurd h (Nat.not_lt_zero i)), hS0⟩ ?_
  rintro m3 σ4 w2 ⟨k, ρl1, rfl, rfl, hkk, hm, hS5⟩
  refine WP_seq ?_
  refine WP_seq ?_
  refine WP_region0 (by kernel_rfl) (fun _ => ?_)
  refine st (ov_move (v := .int .i64 ((k : Nat) : Int)) rfl ?_)
  refine st (ov_move (v := va) rfl ?_)
  refine st (ov_len (n := a.length) Try.underlying22 rfl ha.sl ?_)
  refine st (ov_lss (k := .i64) (a := ((k : Nat) : Int)) (b := ((a.length : Nat) : Int)) rfl rfl ?_)
  refine st_nil ?_
  cases hc6 : decide (((k : Nat) : Int) < ((a.length : Nat) : Int))
  ·skip
   have hc6 := of_decide_eq_false hc6
   refine WP_cond_f rfl ?_
   refine WP_exit ?_
   refine blk_exit ?_
   refine WP_seq ?_
   refine WP_region0 (by kernel_rfl) (fun _ => ?_)
   refine st (ov_assign (v := .bool true) rfl ?_)
   refine st_nil ?_
   refine WP_ret ?_
   refine fin1 Try.results22 (show _ = (.bool true : Value) from rfl) ?_
   refine ⟨?_, hS5⟩
   rw [decide_eq_true (ext_getD (by omega) (fun i hi => hm i (by omega)))]
  ·skip
   have hc6 := of_decide_eq_true hc6
   refine WP_cond_t rfl ?_
   refine WP_skip ?_
   refine WP_seq ?_
   refine WP_block ?_
   refine WP_seq ?_
   refine WP_draw4 (WF [fun vals wq => Sep G W Rs wq, fun vals wq => (vals 8 = (.bool (decide ((a.getD k default) = (b.getD k default))) : Value)) ∧ Sep G W Rs wq]) (AF [Vl 0 (va), Vl 1 (.int .i64 ((k : Nat) : Int)), Vl 2 (.pointer (some ⟨sb va, so va + k * 10, none⟩)), Vl 3 (.agg ((a.getD k default).cells (cellV W (sb va) (so va + k * 10 + 3))).toArray), Vl 4 (vb), Vl 5 (.int .i64 ((k : Nat) : Int)), Vl 6 (.pointer (some ⟨sb vb, so vb + k * 10, none⟩)), Vl 7 (.agg ((b.getD k default).cells (cellV W (sb vb) (so vb + k * 10 + 3))).toArray), fun _ => True, Vl 9 (.bool (!(decide ((a.getD k default) = (b.getD k default)))))]) [[], [], [0, 1], [0, 1, 2], [], [], [4, 5], [4, 5, 6], [0, 1, 2, 3, 4, 5, 6, 7], [0, 1, 2, 3, 4, 5, 6, 7, 8]] [8] [(0, 0), (0, 0), (0, 0), (0, 0), (0, 0), (0, 0), (0, 0), (0, 0), (0, 0), (1, 1)] (by kernel_rfl) (by kernel_rfl) (by kernel_rfl) rfl (by kernel_rfl) (by kernel_rfl) (fun _ h1 h2 h3 h4 _ => hS5.same h1 h2 h3 h4) ?_ (AF_loc ⟨dA, dA, dA, dA, dA, dA, dA, dA, dT, dA, trivial⟩) ⟨?_, ?_, ?_, ?_, ?_, ?_, ?_, ?_, ?_, ?_, trivial⟩ ?_
   ·intro k vals vals' w hv h
    have e : ∀ j ∈ ([8] : List Nat), vals' j = vals j := hv
    match k, h with
    | 0, h => exact h
    | 1, h => exact (by simpa only [WF, List.getElem?_cons_zero, List.getElem?_cons_succ, e 8 (by decide)] using h)
    | _ + 2, _ => trivial
   ·intro k102 vals w103 h106 h107 hW105 hA104
    refine obl rfl ?_
    exact ov_move (v := va) rfl (fun vals' hv _ => ⟨rfl, hv⟩)
   ·intro k108 vals w109 h112 h113 hW111 hA110
    refine obl rfl ?_
    exact ov_move (v := .int .i64 ((k : Nat) : Int)) rfl (fun vals' hv _ => ⟨rfl, hv⟩)
   ·intro k114 vals w115 h118 h119 hW117 hA116
    obtain rfl : k114 = 0 := Nat.le_antisymm h119 h118
    have hS120 : Sep G W Rs w115 := hW117
    have e121 := hA116 0 (by decide)
    have e122 := hA116 1 (by decide)
    refine obl rfl ?_
    have hi123 : k < a.length := (by first | omega | (simp only [lens]; omega))
    exact ov_indexAddrN (k := 10) (i := k) Try.underlying22 Try.sizeOf36 e121 ha.sl e122 hi123 (fun vals' hv _ => ⟨rfl, hv⟩)
   ·intro k124 vals w125 h128 h129 hW127 hA126
    obtain rfl : k124 = 0 := Nat.le_antisymm h129 h128
    have hS130 : Sep G W Rs w125 := hW127
    have e131 := hA126 2 (by decide)
    refine obl rfl ?_
    have hi133 : k < a.length := (by first | omega | (simp only [lens]; omega))
    obtain ⟨hce132, hde132_0, hoke132⟩ := ha.ev hi133
    rw [← getD_at default hi133] at hce132 hde132_0 hoke132
    have hsm134 : ((a.getD k default).deps).length * 8 ≤ 140737488355328 := hde132_0.small
    have hcw135 := hS130.cells hce132 (ha.foot (ne_of_lt hi133))
    exact ov_loadk (k := 10) Try.isAgg36 Try.sizeOf36 rfl e131 hcw135 (fun vals' hv _ => ⟨rfl, hv⟩)
   ·intro k136 vals w137 h140 h141 hW139 hA138
    refine obl rfl ?_
    exact ov_move (v := vb) rfl (fun vals' hv _ => ⟨rfl, hv⟩)
   ·intro k142 vals w143 h146 h147 hW145 hA144
    refine obl rfl ?_
    exact ov_move (v := .int .i64 ((k : Nat) : Int)) rfl (fun vals' hv _ => ⟨rfl, hv⟩)
   ·intro k148 vals w149 h152 h153 hW151 hA150
    obtain rfl : k148 = 0 := Nat.le_antisymm h153 h152
    have hS154 : Sep G W Rs w149 := hW151
    have e155 := hA150 4 (by decide)
    have e156 := hA150 5 (by decide)
    refine obl rfl ?_
    have hi157 : k < b.length := (by first | omega | (simp only [lens]; omega))
    exact ov_indexAddrN (k := 10) (i := k) Try.underlying22 Try.sizeOf36 e155 hb.sl e156 hi157 (fun vals' hv _ => ⟨rfl, hv⟩)
   ·intro k158 vals w159 h162 h163 hW161 hA160
    obtain rfl : k158 = 0 := Nat.le_antisymm h163 h162
    have hS164 : Sep G W Rs w159 := hW161
    have e165 := hA160 6 (by decide)
    refine obl rfl ?_
    have hi167 : k < b.length := (by first | omega | (simp only [lens]; omega))
    obtain ⟨hce166, hde166_0, hoke166⟩ := hb.ev hi167
    rw [← getD_at default hi167] at hce166 hde166_0 hoke166
    have hsm168 : ((b.getD k default).deps).length * 8 ≤ 140737488355328 := hde166_0.small
    have hcw169 := hS164.cells hce166 (hb.foot (ne_of_lt hi167))
    exact ov_loadk (k := 10) Try.isAgg36 Try.sizeOf36 rfl e165 hcw169 (fun vals' hv _ => ⟨rfl, hv⟩)
   ·intro k75 vals w76 h79 h80 hW78 hA77
    obtain rfl : k75 = 0 := Nat.le_antisymm h80 h79
    have hS81 : Sep G W Rs w76 := hW78
    have e82 := hA77 3 (by decide)
    have e83 := hA77 7 (by decide)
    refine obl rfl ?_
    have hi85 : k < a.length := (by first | omega | (simp only [lens]; omega))
    obtain ⟨hce84, hde84_0, hoke84⟩ := ha.ev hi85
    rw [← getD_at default hi85] at hce84 hde84_0 hoke84
    have hsm86 : ((a.getD k default).deps).length * 8 ≤ 140737488355328 := hde84_0.small
    have hcw87 := hS81.cells hce84 (ha.foot (ne_of_lt hi85))
    have hi89 : k < b.length := (by first | omega | (simp only [lens]; omega))
    obtain ⟨hce88, hde88_0, hoke88⟩ := hb.ev hi89
    rw [← getD_at default hi89] at hce88 hde88_0 hoke88
    have hsm90 : ((b.getD k default).deps).length * 8 ≤ 140737488355328 := hde88_0.small
    have hcw91 := hS81.cells hce88 (hb.foot (ne_of_lt hi89))
    refine (ov_call (f := 30) (vals := [.agg ((a.getD k default).cells (cellV W (sb va) (so va + k * 10 + 3))).toArray, .agg ((b.getD k default).cells (cellV W (sb vb) (so vb + k * 10 + 3))).toArray]) (cap := []) (show _ = (.func (.func 30) #[] #[] : Value) from rfl) (mapL ⟨e82, e83, trivial⟩) Try.call30 (D_sameEvent (a := (a.getD k default)) (b := (b.getD k default)) hde84_0 hoke84 hde88_0 hoke88 hS81) ?_)
    rintro _ w92 ⟨rfl, hS93⟩
    intro vals' hv hv'
    refine ⟨?_, trivial⟩
    show (vals' 8 = (.bool (decide ((a.getD k default) = (b.getD k default))) : Value)) ∧ Sep G W Rs w92
    exact ⟨hv, hS93⟩
   ·intro k170 vals w171 h174 h175 hW173 hA172
    obtain rfl : k170 = 1 := Nat.le_antisymm h175 h174
    obtain ⟨he94, hS176⟩ := hW173
    refine obl rfl ?_
    exact ov_not (a := decide ((a.getD k default) = (b.getD k default))) he94 (fun vals' hv _ => ⟨rfl, hv⟩)
   intro vals w177 hW178 hA179
   obtain ⟨he94, hS180⟩ := hW178
   have e181 := hA179 9 (by decide)
   refine st_env (kv := [(0, va), (1, vb), (5, .int .i64 ((k : Nat) : Int)), (11, .int .i64 ((k : Nat) : Int)), (12, va), (13, .int .i64 ((a.length : Nat) : Int)), (14, .bool true), (26, .bool (!(decide ((a.getD k default) = (b.getD k default)))))]) ⟨rfl, rfl, rfl, rfl, rfl, rfl, rfl, (by exact e181), trivial⟩ (fun ρw177 => ?_)
   refine st_nil ?_
   cases hc182 : !(decide ((a.getD k default) = (b.getD k default)))
   ·skip
    have hc182 := ndec_false hc182
    refine WP_cond_f rfl ?_
    refine WP_skip ?_
    refine WP_region0 (by kernel_rfl) (fun _ => ?_)
    refine st (ov_move (v := .int .i64 ((k : Nat) : Int)) rfl ?_)
    have hr183 : InR ((k + 1 : Nat) : Int) := by first | omega | (simp only [lens]; omega)
    refine st (ov_add (r := ((k + 1 : Nat) : Int)) (k := .i64) (a := ((k : Nat) : Int)) (b := 1) rfl rfl (by rw [show (((k : Nat) : Int) + 1 : Int) = ((k + 1 : Nat) : Int) by first | omega | (simp only [lens]; omega)]; exact wrap_in hr183) ?_)
    refine st (ov_assign (v := .int .i64 ((k + 1 : Nat) : Int)) rfl ?_)
    refine st_nil ?_
    exact ⟨_, by omega, k + 1, _, rfl, setAll_self ⟨rfl, rfl, rfl, trivial⟩, by omega, (all_step hm (by simpa using hc182)), hS180⟩
   ·skip
    have hc182 := ndec_true hc182
    refine WP_cond_t rfl ?_
    refine WP_seq ?_
    refine WP_region0 (by kernel_rfl) (fun _ => ?_)
    refine st (ov_assign (v := .bool false) rfl ?_)
    refine st_nil ?_
    refine WP_ret ?_
    refine fin1 Try.results22 (show _ = (.bool false : Value) from rfl) ?_
    refine ⟨?_, hS180⟩
    rw [decide_eq_false (fun e => by subst e; first | omega | (simp at hc182))]
 ·skip
  have hc1 := ndec_true hc1
  refine WP_cond_t rfl ?_
  refine WP_seq ?_
  refine WP_region0 (by kernel_rfl) (fun _ => ?_)
  refine st (ov_assign (v := .bool false) rfl ?_)
  refine st_nil ?_
  refine WP_ret ?_
  refine fin1 Try.results22 (show _ = (.bool false : Value) from rfl) ?_
  refine ⟨?_, hS0⟩
  rw [decide_eq_false (fun e => by subst e; first | omega | (simp at hc1))]

theorem laid_step {n : Nat} {l : List Ev} {k : Nat} (hk : k < l.length) : addL n (laidL n (l.take k)) (l.getD k default) = laidL n (l.take (k + 1)) := by
  rw [List.take_succ_eq_append_getElem hk, laidL_snoc, getD_at _ hk]
theorem laid_take {n : Nat} {l : List Ev} {k : Nat} : (laidL n (l.take k)).length ≤ l.length := Nat.le_trans laidL_len (List.length_take_le' ..)
def evB : Ev := ⟨1, 1, 2, [1, 0], 0, 0, 0, 1, 1, 0⟩
end Go.Proofs.Ytgjgmojjeehieaa
end

section
/- Steps of the proofs of this seat: part B2. -/
set_option linter.unusedSimpArgs false
set_option linter.unusedVariables false
set_option maxRecDepth 8000
set_option maxHeartbeats 4000000
namespace Go.Proofs.Ytgjgmojjeehieaa
open Go.Proofs Go.RowKit

end Go.Proofs.Ytgjgmojjeehieaa
end

section
/- Steps of the proofs of this seat: part B6. -/
set_option linter.unusedSimpArgs false
set_option linter.unusedVariables false
set_option maxRecDepth 8000
set_option maxHeartbeats 4000000
namespace Go.Proofs.Ytgjgmojjeehieaa
open Go.Proofs Go.RowKit

section
variable {n : Nat} {L T : List Ev} {e x : Ev}
theorem ins_end : ∀ {T : List Ev}, (∀ x ∈ T, cmpE x e < 0) → insE e T = T ++ [e]
  | [], _ => rfl
  | x :: l, h => by
    have h1 := h x (List.mem_cons_self ..)
    have h2 : ¬ ltE e x = true := fun h3 => cmp_asym h1 (lt_cmp.1 h3)
    simp only [insE]
    rw [if_neg h2, ins_end fun y hy => h y (List.mem_cons_of_mem _ hy)]; rfl
theorem Good.at_lt (h : Good n L) {i j : Nat} (hij : i < j) (hj : j < L.length) : cmpE (L.getD i default) (L.getD j default) < 0 := by
  rw [getD_at _ (by omega), getD_at _ hj]
  exact List.pairwise_iff_getElem.1 h.srt i j (by omega) hj hij
theorem mem_take {i : Nat} (hx : x ∈ L.take i) : ∃ j, j < i ∧ j < L.length ∧ x = L.getD j default := by
  obtain ⟨j, hj, rfl⟩ := List.getElem_of_mem hx
  rw [List.length_take] at hj
  refine ⟨j, by omega, by omega, ?_⟩
  rw [getD_at _ (by omega), List.getElem_take]
theorem getD_mem {i : Nat} (hi : i < L.length) : L.getD i default ∈ L := by rw [getD_at _ hi]; exact List.getElem_mem hi
theorem take_mem {i j : Nat} (hi : i < j) (hj : i < L.length) : L.getD i default ∈ L.take j := by
  rw [getD_at _ hj]
  exact List.mem_take_iff_getElem.2 ⟨i, by omega, rfl⟩
theorem Good.step (h : Good n L) {i : Nat} (hi : i < L.length) (ht : Good n (L.take i)) : addE n (L.take i) (L.getD i default) = 0 := by
  refine h.sub_add ht (fun x hx => List.mem_of_mem_take hx) (getD_mem hi) (fun hm => ?_) (fun x hx hlt => ?_)
  · obtain ⟨j, h1, h2, h3⟩ := mem_take hm
    have := h.at_lt h1 hi
    rw [← h3] at this
    rw [cmpE_neg] at this; omega
  · obtain ⟨j, hj, rfl⟩ := List.getElem_of_mem hx
    rw [← getD_at default hj] at hlt ⊢
    rcases Nat.lt_trichotomy j i with h1 | h1 | h1
    · exact take_mem h1 hj
    · subst h1; rw [cmpE_neg] at hlt; omega
    · exact absurd (h.at_lt h1 hj) (cmp_asym hlt)
theorem take_snoc {i : Nat} (hi : i < L.length) : L.take (i + 1) = L.take i ++ [L.getD i default] := by
  rw [List.take_succ_eq_append_getElem hi, getD_at _ hi]
theorem Good.ins_take (h : Good n L) {i : Nat} (hi : i < L.length) : insE (L.getD i default) (L.take i) = L.take (i + 1) := by
  rw [take_snoc hi]
  refine ins_end fun x hx => ?_
  obtain ⟨j, h1, h2, rfl⟩ := mem_take hx
  exact h.at_lt h1 hi
theorem Good.prefix (h : Good n L) : ∀ (i : Nat), i ≤ L.length → Good n (L.take i)
  | 0, _ => Good.nil
  | i + 1, hi => by
    have ht := h.prefix i (by omega)
    rw [← h.ins_take hi]
    exact ht.add (h.step hi ht)
theorem Good.seq_at (h : Good n L) {i : Nat} (hi : i < L.length) : (L.getD i default).seq = ((cntE (L.take i) (L.getD i default).origin.toNat : Nat) : Int) + 1 := (add_zero (h.step hi (h.prefix i (Nat.le_of_lt hi)))).2.2.1
end
end Go.Proofs.Ytgjgmojjeehieaa
end

section
/- Steps of the proofs of this seat: part B7. -/
set_option linter.unusedSimpArgs false
set_option linter.unusedVariables false
set_option maxRecDepth 8000
set_option maxHeartbeats 4000000
namespace Go.Proofs.Ytgjgmojjeehieaa
open Go.Proofs Go.RowKit

/-- What Pick gives. -/
def pickI (x : Int) (n : Nat) : Nat := if x.tmod n < 0 then (x.tmod n + n).toNat else (x.tmod n).toNat
theorem pick_eq {q n : Nat} {x : Int} (h : (q : Int) = if x.tmod n < 0 then x.tmod n + n else x.tmod n) : q = pickI x n := by
  unfold pickI
  split <;> rename_i h1
  · rw [if_pos h1] at h; omega
  · rw [if_neg h1] at h; omega
theorem D_PickF {G : Nat → Prop} {W w : World} {Rs : List HP} {x : Int} (hx : InR x) {n : Nat} (hn : 1 ≤ n ∧ n ≤ 281474976710656) (hS0 : Sep G W Rs w) : Ret Try.prog 17 [.int .i64 (x), .int .i64 ((n : Nat) : Int)] w (fun r w' => ∃ (q : Nat), r = (.int .i64 ((q : Nat) : Int) : Value) ∧ (q < n) ∧ (q = pickI x n) ∧ Sep G W Rs w') := by
 refine Calls_of_WP (args := [.int .i64 (x), .int .i64 ((n : Nat) : Int)]) Try.func17 rfl rfl ?_
 refine WP_seq ?_
 refine WP_region0 (by kernel_rfl) (fun _ => ?_)
 refine st (ov_assign (v := .int .i64 (0)) rfl ?_)
 refine st_nil ?_
 refine WP_seq ?_
 refine WP_seq ?_
 refine WP_region0 (by kernel_rfl) (fun _ => ?_)
 refine st (ov_move (v := .int .i64 ((n : Nat) : Int)) rfl ?_)
 refine st (ov_lss (k := .i64) (a := ((n : Nat) : Int)) (b := 1) rfl rfl ?_)
 refine st_nil ?_
 cases hc1 : decide (((n : Nat) : Int) < 1)
 ·skip
  have hc1 := of_decide_eq_false hc1
  refine WP_cond_f rfl ?_
  refine WP_skip ?_
  refine WP_seq ?_
  refine WP_region0 (by kernel_rfl) (fun _ => ?_)
  refine st (ov_move (v := .int .i64 (x)) rfl ?_)
  refine st (ov_move (v := .int .i64 ((n : Nat) : Int)) rfl ?_)
  have h03 : (0 : Int) < ((n : Nat) : Int) := by omega
  have hr4 := Int.tmod_lt_of_pos x h03; have hr5 := Int.lt_tmod_of_pos x h03
  obtain ⟨rm2, hr6⟩ : ∃ z, Int.tmod x ((n : Nat) : Int) = z := ⟨_, rfl⟩; rw [hr6] at hr4 hr5
  refine st (ov_rem (r := rm2) rfl rfl h03 hr6 ?_)
  refine st (ov_assign (v := .int .i64 (rm2)) rfl ?_)
  refine st_nil ?_
  refine WP_seq ?_
  refine WP_seq ?_
  refine WP_region0 (by kernel_rfl) (fun _ => ?_)
  refine st (ov_move (v := .int .i64 (rm2)) rfl ?_)
  refine st (ov_lss (k := .i64) (a := rm2) (b := 0) rfl rfl ?_)
  refine st_nil ?_
  cases hc7 : decide (rm2 < 0)
  ·skip
   have hc7 := of_decide_eq_false hc7
   refine WP_cond_f rfl ?_
   refine WP_skip ?_
   refine WP_seq ?_
   refine WP_region0 (by kernel_rfl) (fun _ => ?_)
   refine st (ov_move (v := .int .i64 (rm2)) rfl ?_)
   refine st (ov_assign (v := .int .i64 (rm2)) rfl ?_)
   refine st_nil ?_
   refine WP_ret ?_
   refine fin1 Try.results17 (show _ = (.int .i64 (rm2) : Value) from rfl) ?_
   refine ⟨(rm2).toNat, ?_, ?_, ?_, hS0⟩
   · rw [Int.toNat_of_nonneg (by omega)]
   · omega
   · refine pick_eq ?_
     first | (rw [if_pos (by omega)]; omega) | (rw [if_neg (by omega)]; omega)
  ·skip
   have hc7 := of_decide_eq_true hc7
   refine WP_cond_t rfl ?_
   refine WP_region0 (by kernel_rfl) (fun _ => ?_)
   refine st (ov_move (v := .int .i64 (rm2)) rfl ?_)
   refine st (ov_move (v := .int .i64 ((n : Nat) : Int)) rfl ?_)
   have hr8 : InR (rm2 + ((n : Nat) : Int)) := by omega
   refine st (ov_add (r := rm2 + ((n : Nat) : Int)) (k := .i64) (a := rm2) (b := ((n : Nat) : Int)) rfl rfl (wrap_in hr8) ?_)
   refine st (ov_assign (v := .int .i64 (rm2 + ((n : Nat) : Int))) rfl ?_)
   refine st_nil ?_
   refine WP_seq ?_
   refine WP_region0 (by kernel_rfl) (fun _ => ?_)
   refine st (ov_move (v := .int .i64 (rm2 + ((n : Nat) : Int))) rfl ?_)
   refine st (ov_assign (v := .int .i64 (rm2 + ((n : Nat) : Int))) rfl ?_)
   refine st_nil ?_
   refine WP_ret ?_
   refine fin1 Try.results17 (show _ = (.int .i64 (rm2 + ((n : Nat) : Int)) : Value) from rfl) ?_
   refine ⟨(rm2 + ((n : Nat) : Int)).toNat, ?_, ?_, ?_, hS0⟩
   · rw [Int.toNat_of_nonneg (by omega)]
   · omega
   · refine pick_eq ?_
     first | (rw [if_pos (by omega)]; omega) | (rw [if_neg (by omega)]; omega)
 ·skip
  have hc1 := of_decide_eq_true hc1
  refine WP_cond_t rfl ?_
  refine WP_seq ?_
  refine WP_region0 (by kernel_rfl) (fun _ => ?_)
  refine st (ov_assign (v := .int .i64 (0)) rfl ?_)
  refine st_nil ?_
  refine WP_ret ?_
  refine fin1 Try.results17 (show _ = (.int .i64 (0) : Value) from rfl) ?_
  refine ⟨0, ?_, ?_, ?_, hS0⟩
  · exfalso; omega
  · exfalso; omega
  · exfalso; omega

/-- A part of a set. -/
def Part (n : Nat) (S T : List Ev) : Prop := Good n T ∧ ∀ x ∈ T, x ∈ S
section
variable {n : Nat} {S T : List Ev} {e x : Ev} {i k f len : Nat}
theorem Part.nil : Part n S [] := ⟨Good.nil, fun _ h => by simp at h⟩
theorem addL_mem : x ∈ addL n T e → x = e ∨ x ∈ T := by
  unfold addL
  split
  · exact insE_mem.1
  · exact .inr
theorem addL_keep (h : x ∈ T) : x ∈ addL n T e := by
  unfold addL
  split
  · exact insE_mem.2 (.inr h)
  · exact h
theorem Part.add (h : Part n S T) (he : e ∈ S) : Part n S (addL n T e) := ⟨h.1.addL, fun x hx => by
  rcases addL_mem hx with rfl | hx
  · exact he
  · exact h.2 x hx⟩
theorem Part.has (hG : Good n S) (h : Part n S T) (hk : k < S.length) (hK : ∀ x ∈ S.take k, x ∈ T) : S.getD k default ∈ addL n T (S.getD k default) := by
  by_cases hm : S.getD k default ∈ T
  · exact addL_keep hm
  · have h0 : addE n T (S.getD k default) = 0 := by
      refine hG.sub_add h.1 h.2 (getD_mem hk) hm (fun x hx hlt => ?_)
      obtain ⟨j, hj, rfl⟩ := List.getElem_of_mem hx
      rw [← getD_at default hj] at hlt ⊢
      rcases Nat.lt_trichotomy j k with h1 | h1 | h1
      · exact hK _ (take_mem h1 hj)
      · subst h1; rw [cmpE_neg] at hlt; omega
      · exact absurd (hG.at_lt h1 hj) (cmp_asym hlt)
    rw [addL_yes h0]
    exact insE_mem.2 (.inl rfl)
end
theorem nodup_len : ∀ {S T : List Ev}, T.Nodup → (∀ x ∈ T, x ∈ S) → T.length ≤ S.length
  | _, [], _, _ => Nat.zero_le _
  | S, x :: T, hn, hs => by
    have hn2 := List.nodup_cons.1 hn
    have h1 := nodup_len (S := S.erase x) (T := T) hn2.2 (fun y hy => (List.mem_erase_of_ne (fun e => hn2.1 (by rw [← e]; exact hy))).2 (hs y (List.mem_cons_of_mem _ hy)))
    have hx := hs x (List.mem_cons_self ..)
    rw [List.length_erase_of_mem hx] at h1
    have := List.length_pos_of_mem hx
    simp only [List.length_cons]; omega
theorem part_len {n : Nat} {S T : List Ev} (h : Part n S T) : T.length ≤ S.length := nodup_len h.1.nodup h.2
end Go.Proofs.Ytgjgmojjeehieaa
end

section
/- Steps of the proofs of this seat: part T1. -/
set_option linter.unusedSimpArgs false
set_option linter.unusedVariables false
set_option maxRecDepth 8000
set_option maxHeartbeats 4000000
namespace Go.Proofs.Ytgjgmojjeehieaa
open Go.Proofs Go.RowKit

def fl (a b : Bool) : Int := (if a then 1 else 0) + (if b then 2 else 0)
/-- Whether an entry of a is less than b's, up to m. -/
def anyL (a b : List Int) (m : Nat) : Bool := (List.range m).any fun i => decide (vget a (i : Int) < vget b (i : Int))
theorem anyL_succ {a b : List Int} {m : Nat} : anyL a b (m + 1) = (anyL a b m || decide (vget a (m : Int) < vget b (m : Int))) := by
  unfold anyL
  rw [List.range_succ, List.any_append]; simp
theorem fl_in {a b : Bool} : InR (fl a b) := by cases a <;> cases b <;> decide
theorem ov_or1 {P : Program} {d : Option Tmp} {ty : TypeId} {pos : String} {af : Array Edge} {g : Option (Nat × Bool)} {σ : Env} {w : World} {K : Value → World → Prop} {x : Operand} {t t2 : TypeId} {a b : Bool} (hx : ev σ x = .int .i64 (fl a b)) (h : K (.int .i64 (fl true b)) w) : opV P ⟨d, .binOp .or t x (.const (.int .i64 1)) t2, ty, pos, af, g⟩ σ w K := by
  have hc : ev σ (.const (.int .i64 1)) = .int .i64 1 := rfl
  refine ov_run (v := .int .i64 (fl true b)) (w' := w) ?_ h
  cases a <;> cases b <;> (simp [execOp, hx, hc, fl, go_sem]; try rfl)
theorem ov_or2 {P : Program} {d : Option Tmp} {ty : TypeId} {pos : String} {af : Array Edge} {g : Option (Nat × Bool)} {σ : Env} {w : World} {K : Value → World → Prop} {x : Operand} {t t2 : TypeId} {a b : Bool} (hx : ev σ x = .int .i64 (fl a b)) (h : K (.int .i64 (fl a true)) w) : opV P ⟨d, .binOp .or t x (.const (.int .i64 2)) t2, ty, pos, af, g⟩ σ w K := by
  have hc : ev σ (.const (.int .i64 2)) = .int .i64 2 := rfl
  refine ov_run (v := .int .i64 (fl a true)) (w' := w) ?_ h
  cases a <;> cases b <;> (simp [execOp, hx, hc, fl, go_sem]; try rfl)
theorem cmp_lt {a b : List Int} {k : Nat} (h : vget a (k : Int) < vget b (k : Int)) : fl true (anyL b a k) = fl (anyL a b (k + 1)) (anyL b a (k + 1)) := by
  rw [anyL_succ, anyL_succ, decide_eq_true h, decide_eq_false (show ¬ vget b (k : Int) < vget a (k : Int) by omega)]; simp
theorem cmp_gt {a b : List Int} {k : Nat} (h : vget b (k : Int) < vget a (k : Int)) : fl (anyL a b k) true = fl (anyL a b (k + 1)) (anyL b a (k + 1)) := by
  rw [anyL_succ, anyL_succ, decide_eq_true h, decide_eq_false (show ¬ vget a (k : Int) < vget b (k : Int) by omega)]; simp
theorem cmp_eq {a b : List Int} {k : Nat} (h1 : ¬ vget a (k : Int) < vget b (k : Int)) (h2 : ¬ vget b (k : Int) < vget a (k : Int)) : fl (anyL a b k) (anyL b a k) = fl (anyL a b (k + 1)) (anyL b a (k + 1)) := by
  rw [anyL_succ, anyL_succ, decide_eq_false h1, decide_eq_false h2]; simp
def cmpV (a b : List Int) : Int := fl (anyL a b (max a.length b.length)) (anyL b a (max a.length b.length))
theorem D_vcmp {G : Nat → Prop} {W w : World} {Rs : List HP} {va : Value} {a : List Int} (ha : RdS W G va a) {vb : Value} {b : List Int} (hb : RdS W G vb b) (hS0 : Sep G W Rs w) : Ret Try.prog 73 [va, vb] w (fun r w' => r = (.int .i64 ((cmpV a b)) : Value) ∧ (InR (cmpV a b)) ∧ Sep G W Rs w') := by
 have has : a.length * 8 ≤ 140737488355328 := ha.small
 have hbs : b.length * 8 ≤ 140737488355328 := hb.small
 refine Calls_of_WP (args := [va, vb]) Try.func73 rfl rfl ?_
 refine WP_seq ?_
 refine WP_region0 (by kernel_rfl) (fun _ => ?_)
 refine st (ov_assign (v := .int .i64 (0)) rfl ?_)
 refine st_nil ?_
 refine WP_seq ?_
 refine WP_region0 (by kernel_rfl) (fun _ => ?_)
 refine st (ov_assign (v := .int .i64 (0)) rfl ?_)
 refine st_nil ?_
 refine WP_seq ?_
 refine WP_seq ?_
 refine WP_region0 (by kernel_rfl) (fun _ => ?_)
 refine st (ov_move (v := va) rfl ?_)
 refine st (ov_len (n := a.length) Try.underlying34 rfl ha.sl ?_)
 refine st (ov_move (v := vb) rfl ?_)
 refine st (ov_len (n := b.length) Try.underlying34 rfl hb.sl ?_)
 refine st (ov_max (k := .i64) (a := ((a.length : Nat) : Int)) (b := ((b.length : Nat) : Int)) rfl rfl ?_)
 rw [show max ((a.length : Nat) : Int) ((b.length : Nat) : Int) = ((max a.length b.length : Nat) : Int) by omega]
 refine st (ov_move (v := .int .i64 (0)) rfl ?_)
 refine st_nil ?_
 refine WP_block ?_
 refine WP_loop (fun mq σ wq => ∃ (k : Nat) (ρ : Env), mq = max a.length b.length - k ∧ σ = setAll ρ [(0, va), (1, vb), (5, .int .i64 (fl (anyL a b k) (anyL b a k))), (13, .int .i64 (((max a.length b.length) : Nat) : Int)), (14, .int .i64 ((k : Nat) : Int))] ∧ (k ≤ max a.length b.length) ∧ Sep G W Rs wq) ⟨0, _, rfl, setAll_self ⟨rfl, rfl, rfl, rfl, rfl, trivial⟩, Nat.zero_le _, hS0⟩ ?_
 rintro m2 σ3 w1 ⟨k, ρl1, rfl, rfl, hk, hS4⟩
 refine WP_seq ?_
 refine WP_region0 (by kernel_rfl) (fun _ => ?_)
 refine st (ov_lss (k := .i64) (a := ((k : Nat) : Int)) (b := (((max a.length b.length) : Nat) : Int)) rfl rfl ?_)
 refine st_nil ?_
 refine WP_seq ?_
 cases hc5 : decide (((k : Nat) : Int) < (((max a.length b.length) : Nat) : Int))
 ·skip
  have hc5 := of_decide_eq_false hc5
  refine WP_cond_f rfl ?_
  refine WP_exit ?_
  refine blk_exit ?_
  refine WP_seq ?_
  refine WP_region0 (by kernel_rfl) (fun _ => ?_)
  refine st (ov_move (v := .int .i64 (fl (anyL a b k) (anyL b a k))) rfl ?_)
  refine st (ov_assign (v := .int .i64 (fl (anyL a b k) (anyL b a k))) rfl ?_)
  refine st_nil ?_
  refine WP_ret ?_
  refine fin1 Try.results73 (show _ = (.int .i64 (fl (anyL a b k) (anyL b a k)) : Value) from rfl) ?_
  refine ⟨?_, ?_, hS4⟩
  · rw [show k = max a.length b.length by omega]; rfl
  · exact fl_in
 ·skip
  have hc5 := of_decide_eq_true hc5
  refine WP_cond_t rfl ?_
  refine WP_skip ?_
  refine WP_seq ?_
  refine WP_block ?_
  refine WP_seq ?_
  refine WP_region0 (by kernel_rfl) (fun _ => ?_)
  refine st (ov_move (v := .int .i64 ((k : Nat) : Int)) rfl ?_)
  refine st (ov_assign (v := .int .i64 ((k : Nat) : Int)) rfl ?_)
  refine st_nil ?_
  refine WP_seq ?_
  refine WP_region0 (by kernel_rfl) (fun _ => ?_)
  refine st (ov_move (v := va) rfl ?_)
  refine st (ov_move (v := .int .i64 ((k : Nat) : Int)) rfl ?_)
  refine st (ov_call (f := 59) (vals := [va, .int .i64 ((k : Nat) : Int)]) (cap := []) (show _ = (.func (.func 59) #[] #[] : Value) from rfl) rfl Try.call59 (D_vget (v := a) (vv := va) (o := ((k : Nat) : Int)) ha (by omega) hS4) ?_)
  rintro _ w7 ⟨rfl, hg6, hS8⟩
  refine st (ov_move (v := vb) rfl ?_)
  refine st (ov_move (v := .int .i64 ((k : Nat) : Int)) rfl ?_)
  refine st (ov_call (f := 59) (vals := [vb, .int .i64 ((k : Nat) : Int)]) (cap := []) (show _ = (.func (.func 59) #[] #[] : Value) from rfl) rfl Try.call59 (D_vget (v := b) (vv := vb) (o := ((k : Nat) : Int)) hb (by omega) hS8) ?_)
  rintro _ w10 ⟨rfl, hg9, hS11⟩
  refine st (ov_assign (v := .int .i64 (vget a ((k : Nat) : Int))) rfl ?_)
  refine st (ov_assign (v := .int .i64 (vget b ((k : Nat) : Int))) rfl ?_)
  refine st_nil ?_
  refine WP_block ?_
  refine WP_seq ?_
  refine WP_region0 (by kernel_rfl) (fun _ => ?_)
  refine st (ov_move (v := .int .i64 (vget a ((k : Nat) : Int))) rfl ?_)
  refine st (ov_move (v := .int .i64 (vget b ((k : Nat) : Int))) rfl ?_)
  refine st (ov_lss (k := .i64) (a := vget a ((k : Nat) : Int)) (b := vget b ((k : Nat) : Int)) rfl rfl ?_)
  refine st (ov_assign (v := .bool (decide ((vget a ((k : Nat) : Int)) < (vget b ((k : Nat) : Int))))) rfl ?_)
  refine st_nil ?_
  cases hc12 : decide ((vget a ((k : Nat) : Int)) < (vget b ((k : Nat) : Int)))
  ·skip
   have hc12 := of_decide_eq_false hc12
   refine WP_cond_f rfl ?_
   refine WP_seq ?_
   refine WP_region0 (by kernel_rfl) (fun _ => ?_)
   refine st (ov_move (v := .int .i64 (vget a ((k : Nat) : Int))) rfl ?_)
   refine st (ov_move (v := .int .i64 (vget b ((k : Nat) : Int))) rfl ?_)
   refine st (ov_gtr (k := .i64) (a := vget a ((k : Nat) : Int)) (b := vget b ((k : Nat) : Int)) rfl rfl ?_)
   refine st (ov_assign (v := .bool (decide ((vget b ((k : Nat) : Int)) < (vget a ((k : Nat) : Int))))) rfl ?_)
   refine st_nil ?_
   cases hc13 : decide ((vget b ((k : Nat) : Int)) < (vget a ((k : Nat) : Int)))
   ·skip
    have hc13 := of_decide_eq_false hc13
    refine WP_cond_f rfl ?_
    refine WP_skip ?_
    refine WP_region0 (by kernel_rfl) (fun _ => ?_)
    have hr14 : InR ((k + 1 : Nat) : Int) := by first | omega | (simp only [lens]; omega)
    refine st (ov_add (r := ((k + 1 : Nat) : Int)) (k := .i64) (a := ((k : Nat) : Int)) (b := 1) rfl rfl (by rw [show (((k : Nat) : Int) + 1 : Int) = ((k + 1 : Nat) : Int) by first | omega | (simp only [lens]; omega)]; exact wrap_in hr14) ?_)
    refine st (ov_move (v := .int .i64 ((k + 1 : Nat) : Int)) rfl ?_)
    refine st_nil ?_
    exact ⟨_, by omega, k + 1, _, rfl, setAll_self ⟨rfl, rfl, (show _ = (.int .i64 (fl (anyL a b (k + 1)) (anyL b a (k + 1))) : Value) from congrArg _ (cmp_eq hc12 hc13)), rfl, rfl, trivial⟩, by omega, hS11⟩
   ·skip
    have hc13 := of_decide_eq_true hc13
    refine WP_cond_t rfl ?_
    refine WP_region0 (by kernel_rfl) (fun _ => ?_)
    refine st (ov_move (v := .int .i64 (fl (anyL a b k) (anyL b a k))) rfl ?_)
    refine st (ov_or2 (a := (anyL a b k)) (b := (anyL b a k)) rfl ?_)
    refine st (ov_assign (v := .int .i64 (fl (anyL a b k) true)) rfl ?_)
    refine st_nil ?_
    refine WP_region0 (by kernel_rfl) (fun _ => ?_)
    have hr15 : InR ((k + 1 : Nat) : Int) := by first | omega | (simp only [lens]; omega)
    refine st (ov_add (r := ((k + 1 : Nat) : Int)) (k := .i64) (a := ((k : Nat) : Int)) (b := 1) rfl rfl (by rw [show (((k : Nat) : Int) + 1 : Int) = ((k + 1 : Nat) : Int) by first | omega | (simp only [lens]; omega)]; exact wrap_in hr15) ?_)
    refine st (ov_move (v := .int .i64 ((k + 1 : Nat) : Int)) rfl ?_)
    refine st_nil ?_
    exact ⟨_, by omega, k + 1, _, rfl, setAll_self ⟨rfl, rfl, (show _ = (.int .i64 (fl (anyL a b (k + 1)) (anyL b a (k + 1))) : Value) from congrArg _ (cmp_gt hc13)), rfl, rfl, trivial⟩, by omega, hS11⟩
  ·skip
   have hc12 := of_decide_eq_true hc12
   refine WP_cond_t rfl ?_
   refine WP_region0 (by kernel_rfl) (fun _ => ?_)
   refine st (ov_move (v := .int .i64 (fl (anyL a b k) (anyL b a k))) rfl ?_)
   refine st (ov_or1 (a := (anyL a b k)) (b := (anyL b a k)) rfl ?_)
   refine st (ov_assign (v := .int .i64 (fl true (anyL b a k))) rfl ?_)
   refine st_nil ?_
   refine WP_region0 (by kernel_rfl) (fun _ => ?_)
   have hr16 : InR ((k + 1 : Nat) : Int) := by first | omega | (simp only [lens]; omega)
   refine st (ov_add (r := ((k + 1 : Nat) : Int)) (k := .i64) (a := ((k : Nat) : Int)) (b := 1) rfl rfl (by rw [show (((k : Nat) : Int) + 1 : Int) = ((k + 1 : Nat) : Int) by first | omega | (simp only [lens]; omega)]; exact wrap_in hr16) ?_)
   refine st (ov_move (v := .int .i64 ((k + 1 : Nat) : Int)) rfl ?_)
   refine st_nil ?_
   exact ⟨_, by omega, k + 1, _, rfl, setAll_self ⟨rfl, rfl, (show _ = (.int .i64 (fl (anyL a b (k + 1)) (anyL b a (k + 1))) : Value) from congrArg _ (cmp_lt hc12)), rfl, rfl, trivial⟩, by omega, hS11⟩

theorem D_Digest {G : Nat → Prop} {W w : World} {Rs : List HP} {b : Nat} {n : Nat} {L : List Ev} (hb : (SetO b n L).p W G) {fr : Int} (hfr : InR fr) {tt : Int} (htt : InR tt) (hS0 : Sep G W Rs w) : Ret Try.prog 46 [.pointer (some ⟨b, 0, none⟩), .int .i64 (fr), .int .i64 (tt)] w (fun r w' => ∃ (v : Value), r = (.agg ((⟨1, fr, tt, vecE n L, []⟩ : Msg).cells v (.slice none 0 0)).toArray : Value) ∧ ((⟨1, fr, tt, vecE n L, []⟩ : Msg).Ok) ∧ Sep G W ((RowE (α := Int) own 3 v (vecE n L)) :: Rs) w') := by
 refine Calls_of_WP (args := [.pointer (some ⟨b, 0, none⟩), .int .i64 (fr), .int .i64 (tt)]) Try.func46 rfl rfl ?_
 obtain ⟨vv1, m2, R3, hb4, hv5, hr6⟩ := SetO.sh hb
 have hsm7 : (vecE n L).length * 8 ≤ 140737488355328 := hv5.small
 refine WP_seq ?_
 refine WP_region0 (by kernel_rfl) (fun _ => ?_)
 refine st (ov_alloc Try.zeroValue57 ?_)
 intro w10 b9 hn8
 have hS11 : Sep G W ((Blk b9 #[.int .i64 (0), .int .i64 (0), .int .i64 (0), (.slice none 0 0), (.slice none 0 0)] 57) :: Rs) w10 := hS0.new hn8
 refine st_nil ?_
 refine WP_seq ?_
 refine WP_region0 (by kernel_rfl) (fun _ => ?_)
 refine st (ov_move (v := .int .i64 (fr)) rfl ?_)
 refine st (ov_move (v := .int .i64 (tt)) rfl ?_)
 refine st (ov_move (v := .pointer (some ⟨b, 0, none⟩)) rfl ?_)
 refine st (ov_call (f := 26) (vals := [.pointer (some ⟨b, 0, none⟩)]) (cap := []) (show _ = (.func (.func 26) #[] #[] : Value) from rfl) rfl Try.call26 (D_Vec  hb hS11) ?_)
 rintro v12 w13 ⟨_, rfl, hS14⟩
 have hr15 := hS14.row (i := 0) rfl
 have hr15s : (vecE n L).length * 8 ≤ 140737488355328 := hr15.2
 have ok16 : Msg.Ok (⟨1, fr, tt, vecE n L, []⟩ : Msg) := ⟨(show InR (1) from (by decide)), (show InR (fr) from hfr), (show InR (tt) from htt)⟩
 refine st (ov_build (parts' := [(0, .int .i64 (1)), (1, .int .i64 (fr)), (2, .int .i64 (tt)), (3, v12)]) (v := .agg ((⟨1, fr, tt, vecE n L, []⟩ : Msg).cells v12 (.slice none 0 0)).toArray) rfl (by obtain ⟨_, _, hv17, _⟩ := hr15.1; rw [show v12 = Value.slice _ _ _ from hv17]; simp [Instr.build, Instr.fill, go_sem, Msg.cells]) ?_)
 refine stn (ov_store (v := .agg ((⟨1, fr, tt, vecE n L, []⟩ : Msg).cells v12 (.slice none 0 0)).toArray) (c' := ((⟨1, fr, tt, vecE n L, []⟩ : Msg).cells v12 (.slice none 0 0)).toArray) Try.sizeOf57 rfl rfl (hS14.blk (i := 1) rfl) (all1 ⟨rfl, rfl, rfl, hr15.1.one, rfl, trivial⟩) (Nat.le_of_ble_eq_true rfl) rfl ?_)
 intro w18 hp19
 have hS20 : Sep G W ((RowE (α := Int) own 3 v12 (vecE n L)) :: (Blk b9 ((⟨1, fr, tt, vecE n L, []⟩ : Msg).cells v12 (.slice none 0 0)).toArray 57) :: Rs) w18 := hS14.put (i := 1) rfl hp19
 refine st_nil ?_
 refine WP_ret ?_
 refine finc (b := b9) Try.results46 Try.isAgg57 Try.sizeOf57 rfl rfl (CellsAt.all (hS20.blk (i := 1) rfl)) ?_
 have hS21 : Sep G W ((RowE (α := Int) own 3 v12 (vecE n L)) :: Rs) w18 := hS20.sel 2 [0] (Nat.le_add_left _ _) rfl rfl
 refine ⟨v12, rfl, ?_, hS21⟩
 assumption

theorem D_Ack {G : Nat → Prop} {W w : World} {Rs : List HP} {b : Nat} {n : Nat} {L : List Ev} (hb : (SetO b n L).p W G) {fr : Int} (hfr : InR fr) {tt : Int} (htt : InR tt) (hS0 : Sep G W Rs w) : Ret Try.prog 47 [.pointer (some ⟨b, 0, none⟩), .int .i64 (fr), .int .i64 (tt)] w (fun r w' => ∃ (v : Value), r = (.agg ((⟨4, fr, tt, vecE n L, []⟩ : Msg).cells v (.slice none 0 0)).toArray : Value) ∧ ((⟨4, fr, tt, vecE n L, []⟩ : Msg).Ok) ∧ Sep G W ((RowE (α := Int) own 3 v (vecE n L)) :: Rs) w') := by
 refine Calls_of_WP (args := [.pointer (some ⟨b, 0, none⟩), .int .i64 (fr), .int .i64 (tt)]) Try.func47 rfl rfl ?_
 obtain ⟨vv1, m2, R3, hb4, hv5, hr6⟩ := SetO.sh hb
 have hsm7 : (vecE n L).length * 8 ≤ 140737488355328 := hv5.small
 refine WP_seq ?_
 refine WP_region0 (by kernel_rfl) (fun _ => ?_)
 refine st (ov_alloc Try.zeroValue57 ?_)
 intro w10 b9 hn8
 have hS11 : Sep G W ((Blk b9 #[.int .i64 (0), .int .i64 (0), .int .i64 (0), (.slice none 0 0), (.slice none 0 0)] 57) :: Rs) w10 := hS0.new hn8
 refine st_nil ?_
 refine WP_seq ?_
 refine WP_region0 (by kernel_rfl) (fun _ => ?_)
 refine st (ov_move (v := .int .i64 (fr)) rfl ?_)
 refine st (ov_move (v := .int .i64 (tt)) rfl ?_)
 refine st (ov_move (v := .pointer (some ⟨b, 0, none⟩)) rfl ?_)
 refine st (ov_call (f := 26) (vals := [.pointer (some ⟨b, 0, none⟩)]) (cap := []) (show _ = (.func (.func 26) #[] #[] : Value) from rfl) rfl Try.call26 (D_Vec  hb hS11) ?_)
 rintro v12 w13 ⟨_, rfl, hS14⟩
 have hr15 := hS14.row (i := 0) rfl
 have hr15s : (vecE n L).length * 8 ≤ 140737488355328 := hr15.2
 have ok16 : Msg.Ok (⟨4, fr, tt, vecE n L, []⟩ : Msg) := ⟨(show InR (4) from (by decide)), (show InR (fr) from hfr), (show InR (tt) from htt)⟩
 refine st (ov_build (parts' := [(0, .int .i64 (4)), (1, .int .i64 (fr)), (2, .int .i64 (tt)), (3, v12)]) (v := .agg ((⟨4, fr, tt, vecE n L, []⟩ : Msg).cells v12 (.slice none 0 0)).toArray) rfl (by obtain ⟨_, _, hv17, _⟩ := hr15.1; rw [show v12 = Value.slice _ _ _ from hv17]; simp [Instr.build, Instr.fill, go_sem, Msg.cells]) ?_)
 refine stn (ov_store (v := .agg ((⟨4, fr, tt, vecE n L, []⟩ : Msg).cells v12 (.slice none 0 0)).toArray) (c' := ((⟨4, fr, tt, vecE n L, []⟩ : Msg).cells v12 (.slice none 0 0)).toArray) Try.sizeOf57 rfl rfl (hS14.blk (i := 1) rfl) (all1 ⟨rfl, rfl, rfl, hr15.1.one, rfl, trivial⟩) (Nat.le_of_ble_eq_true rfl) rfl ?_)
 intro w18 hp19
 have hS20 : Sep G W ((RowE (α := Int) own 3 v12 (vecE n L)) :: (Blk b9 ((⟨4, fr, tt, vecE n L, []⟩ : Msg).cells v12 (.slice none 0 0)).toArray 57) :: Rs) w18 := hS14.put (i := 1) rfl hp19
 refine st_nil ?_
 refine WP_ret ?_
 refine finc (b := b9) Try.results47 Try.isAgg57 Try.sizeOf57 rfl rfl (CellsAt.all (hS20.blk (i := 1) rfl)) ?_
 have hS21 : Sep G W ((RowE (α := Int) own 3 v12 (vecE n L)) :: Rs) w18 := hS20.sel 2 [0] (Nat.le_add_left _ _) rfl rfl
 refine ⟨v12, rfl, ?_, hS21⟩
 assumption

end Go.Proofs.Ytgjgmojjeehieaa
end

section
/- Steps of the proofs of this seat: part T2. -/
set_option linter.unusedSimpArgs false
set_option linter.unusedVariables false
set_option maxRecDepth 8000
set_option maxHeartbeats 4000000
namespace Go.Proofs.Ytgjgmojjeehieaa
open Go.Proofs Go.RowKit

def toM (f t : Int) (m : Msg) : Msg := { m with frm := f, dst := t }
def toK (f t : Int) (k : Nat) (l : List Msg) : List Msg := (l.take k).map (toM f t) ++ l.drop k
def toL (f t : Int) (l : List Msg) : List Msg := l.map (toM f t)
theorem toK_len {f t : Int} {k : Nat} {l : List Msg} : (toK f t k l).length = l.length := by unfold toK; simp; omega
theorem toK_end {f t : Int} {k : Nat} {l : List Msg} (h : k = l.length) : toK f t k l = toL f t l := by subst h; unfold toK toL; simp
theorem toK_at {f t : Int} {k : Nat} {l : List Msg} (h : k < l.length) : (toK f t k l).getD k default = l.getD k default := by
  rw [getD_at _ (by rw [toK_len]; exact h), getD_at _ h]
  unfold toK
  rw [List.getElem_append_right (by simp; omega)]
  simp only [List.length_map, List.length_take, List.getElem_drop]
  congr 1; omega
theorem toK_set {f t : Int} {k : Nat} {l : List Msg} (h : k < l.length) {x : Msg} (hx : x = toM f t (l.getD k default)) : (toK f t k l).set k x = toK f t (k + 1) l := by
  subst hx
  unfold toK
  rw [List.take_succ_eq_append_getElem h, List.map_append, List.append_assoc, List.set_append_right _ _ (by simp only [List.length_map, List.length_take]; omega), List.drop_eq_getElem_cons h]
  simp only [List.length_map, List.length_take, List.map_cons, List.map_nil, List.singleton_append]
  rw [show k - min k l.length = 0 by omega, List.set_cons_zero, getD_at _ h]
theorem to_step {f t : Int} {k : Nat} {l : List Msg} (h : k < l.length) :
    (((toK f t k l).set k { (toK f t k l).getD k default with frm := f }).set k { ((toK f t k l).set k { (toK f t k l).getD k default with frm := f }).getD k default with dst := t }) = toK f t (k + 1) l := by
  rw [List.set_set]
  refine toK_set h ?_
  rw [getD_at _ (by rw [List.length_set, toK_len]; exact h), List.getElem_set_self, toK_at h]; rfl
def chunkL (L : List Ev) (m : Msg) (c : Int) : List Ev := missL L m.vec (max 1 (min c 32))
def askQ (n : Nat) (L : List Ev) (m : Msg) : Bool := decide (m.kind = 1) && (decide (cmpV m.vec (vecE n L) = 2) || decide (cmpV m.vec (vecE n L) = 3))
def outL (n : Nat) (L : List Ev) (m : Msg) (c : Int) : List Msg := (if 0 < (chunkL L m c).length then [⟨3, 0, 0, [], chunkL L m c⟩] else []) ++ (if askQ n L m = true then [⟨2, 0, 0, vecE n L, []⟩] else [])
def ansL (n : Nat) (L : List Ev) (self : Int) (m : Msg) (c : Int) : List Msg :=
  if ((!decide (m.kind = 1)) && (!decide (m.kind = 2))) = true then [] else toL self m.frm (if (outL n L m c).length = 0 then [⟨4, self, m.frm, vecE n L, []⟩] else outL n L m c)
theorem fd57_1 {d : Option Tmp} {ty : TypeId} {pos : String} {af : Array Edge} {g : Option (Nat × Bool)} {σ : Env} {w : World} {K : Value → World → Prop} {x : Operand} {b o : Nat} (hx : ev σ x = .pointer (some ⟨b, o, none⟩)) (h : K (.pointer (some ⟨b, o + 1, none⟩)) w) : opV Try.prog ⟨d, .fieldAddr 57 x 1, ty, pos, af, g⟩ σ w K := ov_fieldAddr Try.underlying57 rfl rfl (fun w => ⟨0, Try.sizeOf3 w⟩) hx h
theorem fd57_2 {d : Option Tmp} {ty : TypeId} {pos : String} {af : Array Edge} {g : Option (Nat × Bool)} {σ : Env} {w : World} {K : Value → World → Prop} {x : Operand} {b o : Nat} (hx : ev σ x = .pointer (some ⟨b, o, none⟩)) (h : K (.pointer (some ⟨b, o + 2, none⟩)) w) : opV Try.prog ⟨d, .fieldAddr 57 x 2, ty, pos, af, g⟩ σ w K := ov_fieldAddr Try.underlying57 rfl rfl (fun w => ⟨0, Try.sizeOf3 w⟩) hx h
theorem D_to {G : Nat → Prop} {W w : World} {Rs : List HP} {f : Int} (hf : InR f) {t : Int} (ht : InR t) {vl : Value} {l : List Msg} (hS0 : Sep G W ((RowE (α := Msg) own 57 vl l) :: Rs) w) : Ret Try.prog 74 [.int .i64 (f), .int .i64 (t), vl] w (fun r w' => ∃ (v : Value), r = (v : Value) ∧ Sep G W ((RowE (α := Msg) own 57 v (toL f t l)) :: Rs) w') := by
 refine Calls_of_WP (args := [.int .i64 (f), .int .i64 (t), vl]) Try.func74 rfl rfl ?_
 have hr1 := hS0.row (i := 0) rfl
 have hr1s : l.length * 72 ≤ 140737488355328 := hr1.2
 refine WP_seq ?_
 refine WP_region0 (by kernel_rfl) (fun _ => ?_)
 refine st (ov_assign (v := (.slice none 0 0)) rfl ?_)
 refine st_nil ?_
 refine WP_seq ?_
 refine WP_seq ?_
 refine WP_region0 (by kernel_rfl) (fun _ => ?_)
 refine st (ov_move (v := vl) rfl ?_)
 refine st (ov_len (n := l.length) Try.underlying58 rfl hr1.1 ?_)
 refine st (ov_move (v := .int .i64 (0)) rfl ?_)
 refine st_nil ?_
 refine WP_block ?_
 refine WP_loop (fun mq σ wq => ∃ (k : Nat) (ρ : Env), mq = l.length - k ∧ σ = setAll ρ [(0, .int .i64 (f)), (1, .int .i64 (t)), (2, vl), (9, .int .i64 ((l.length : Nat) : Int)), (10, .int .i64 ((k : Nat) : Int))] ∧ (k ≤ l.length) ∧ Sep G W ((RowE (α := Msg) own 57 vl (toK f t k l)) :: Rs) wq) ⟨0, _, rfl, setAll_self ⟨rfl, rfl, rfl, rfl, rfl, trivial⟩, Nat.zero_le _, hS0⟩ ?_
 rintro m3 σ4 w2 ⟨k, ρl1, rfl, rfl, hk, hS5⟩
 have hr6 := hS5.row (i := 0) rfl
 have hr6s : (toK f t k l).length * 72 ≤ 140737488355328 := hr6.2
 have hln9 : (toK f t k l).length = l.length := toK_len
 refine WP_seq ?_
 refine WP_region0 (by kernel_rfl) (fun _ => ?_)
 refine st (ov_lss (k := .i64) (a := ((k : Nat) : Int)) (b := ((l.length : Nat) : Int)) rfl rfl ?_)
 refine st_nil ?_
 refine WP_seq ?_
 cases hc7 : decide (((k : Nat) : Int) < ((l.length : Nat) : Int))
 ·skip
  have hc7 := of_decide_eq_false hc7
  refine WP_cond_f rfl ?_
  refine WP_exit ?_
  refine blk_exit ?_
  refine WP_seq ?_
  refine WP_region0 (by kernel_rfl) (fun _ => ?_)
  refine st (ov_move (v := vl) rfl ?_)
  refine st (ov_assign (v := vl) rfl ?_)
  refine st_nil ?_
  refine WP_ret ?_
  refine fin1 Try.results74 (show _ = (vl : Value) from rfl) ?_
  rw [toK_end (by omega)] at hS5
  refine ⟨vl, rfl, hS5⟩
 ·skip
  have hc7 := of_decide_eq_true hc7
  refine WP_cond_t rfl ?_
  refine WP_skip ?_
  refine WP_seq ?_
  refine WP_block ?_
  refine WP_seq ?_
  refine WP_region0 (by kernel_rfl) (fun _ => ?_)
  refine st (ov_move (v := .int .i64 ((k : Nat) : Int)) rfl ?_)
  refine st (ov_assign (v := .int .i64 ((k : Nat) : Int)) rfl ?_)
  refine st_nil ?_
  refine WP_region0 (by kernel_rfl) (fun _ => ?_)
  refine st (ov_move (v := vl) rfl ?_)
  refine st (ov_move (v := .int .i64 ((k : Nat) : Int)) rfl ?_)
  refine st (ov_move (v := vl) rfl ?_)
  refine st (ov_move (v := .int .i64 ((k : Nat) : Int)) rfl ?_)
  refine st (ov_move (v := .int .i64 (f)) rfl ?_)
  refine st (ov_move (v := .int .i64 (t)) rfl ?_)
  have hi8 : k < (toK f t k l).length := (by first | omega | (simp only [lens]; omega))
  refine st (ov_indexAddrN (k := 5) (i := k) Try.underlying58 Try.sizeOf57 rfl hr6.1 rfl hi8 ?_)
  refine st (fd57_1 rfl ?_)
  have hS10 : Sep G W ((RowE (α := Msg) own 57 vl (toK f t k l)) :: Emp :: Rs) w2 := hS5.emp1
  refine stn (ov_storeS (α := Msg) (j := k) (o := 1) (u := .int .i64 (f)) (us := [.int .i64 (f)]) (x1 := ({ ((toK f t k l).getD k default) with frm := f } : Msg)) hS10 Try.sizeOf3 (by first | omega | (simp only [lens]; omega)) rfl rfl rfl (Nat.le_of_ble_eq_true rfl) (all1 ⟨rfl, trivial⟩) (fun _ _ _ hel _ => (by rw [← getD_at default (by omega)] at hel; obtain ⟨d0, d1, rfl, h0, h1, hok⟩ := hel; exact ⟨_, _, rfl, h0, h1, ⟨hok.kind, (show InR (f) from hf), hok.dst⟩⟩)) ?_)
  intro w9 hS11
  have hr12 := hS11.row (i := 0) rfl
  have hr12s : ((toK f t k l).set k ({ ((toK f t k l).getD k default) with frm := f } : Msg)).length * 72 ≤ 140737488355328 := hr12.2
  have hi13 : k < ((toK f t k l).set k ({ ((toK f t k l).getD k default) with frm := f } : Msg)).length := (by first | omega | (simp only [lens]; omega))
  refine st (ov_indexAddrN (k := 5) (i := k) Try.underlying58 Try.sizeOf57 rfl hr12.1 rfl hi13 ?_)
  refine st (fd57_2 rfl ?_)
  have hS15 : Sep G W ((RowE (α := Msg) own 57 vl ((toK f t k l).set k ({ ((toK f t k l).getD k default) with frm := f } : Msg))) :: Emp :: Rs) w9 := hS11.emp1
  refine stn (ov_storeS (α := Msg) (j := k) (o := 2) (u := .int .i64 (t)) (us := [.int .i64 (t)]) (x1 := ({ (((toK f t k l).set k ({ ((toK f t k l).getD k default) with frm := f } : Msg)).getD k default) with dst := t } : Msg)) hS15 Try.sizeOf3 (by first | omega | (simp only [lens]; omega)) rfl rfl rfl (Nat.le_of_ble_eq_true rfl) (all1 ⟨rfl, trivial⟩) (fun _ _ _ hel _ => (by rw [← getD_at default (by omega)] at hel; obtain ⟨d0, d1, rfl, h0, h1, hok⟩ := hel; exact ⟨_, _, rfl, h0, h1, ⟨hok.kind, hok.frm, (show InR (t) from ht)⟩⟩)) ?_)
  intro w14 hS16
  have hr17 := hS16.row (i := 0) rfl
  have hr17s : (((toK f t k l).set k ({ ((toK f t k l).getD k default) with frm := f } : Msg)).set k ({ (((toK f t k l).set k ({ ((toK f t k l).getD k default) with frm := f } : Msg)).getD k default) with dst := t } : Msg)).length * 72 ≤ 140737488355328 := hr17.2
  refine st_nil ?_
  refine WP_region0 (by kernel_rfl) (fun _ => ?_)
  have hr18 : InR ((k + 1 : Nat) : Int) := by first | omega | (simp only [lens]; omega)
  refine st (ov_add (r := ((k + 1 : Nat) : Int)) (k := .i64) (a := ((k : Nat) : Int)) (b := 1) rfl rfl (by rw [show (((k : Nat) : Int) + 1 : Int) = ((k + 1 : Nat) : Int) by first | omega | (simp only [lens]; omega)]; exact wrap_in hr18) ?_)
  refine st (ov_move (v := .int .i64 ((k + 1 : Nat) : Int)) rfl ?_)
  refine st_nil ?_
  rw [to_step (by omega)] at hS16
  exact ⟨_, by omega, k + 1, _, rfl, setAll_self ⟨rfl, rfl, rfl, rfl, rfl, trivial⟩, by omega, hS16⟩

section
variable {n : Nat} {L : List Ev} {self : Int} {m : Msg} {c : Int}
theorem ans_0 (hk : ((!decide (m.kind = 1)) && (!decide (m.kind = 2))) = true) : ([] : List Msg) = ansL n L self m c := by unfold ansL; rw [if_pos hk]
theorem chunk_0 (hc : ¬ (0 : Int) < (((missL L m.vec (max 1 (min c 32))).length : Nat) : Int)) : ¬ 0 < (chunkL L m c).length := by unfold chunkL; omega
theorem chunk_1 (hc : (0 : Int) < (((missL L m.vec (max 1 (min c 32))).length : Nat) : Int)) : 0 < (chunkL L m c).length := by unfold chunkL; omega
theorem ansL_k (hk : ((!decide (m.kind = 1)) && (!decide (m.kind = 2))) = false) : ansL n L self m c = toL self m.frm (if (outL n L m c).length = 0 then [⟨4, self, m.frm, vecE n L, []⟩] else outL n L m c) := by
  unfold ansL; rw [if_neg (by rw [hk]; decide)]
theorem ans_1 (hk : ((!decide (m.kind = 1)) && (!decide (m.kind = 2))) = false) (hc : ¬ (0 : Int) < (((missL L m.vec (max 1 (min c 32))).length : Nat) : Int)) (ha : askQ n L m = false) : toL self m.frm [⟨4, self, m.frm, vecE n L, []⟩] = ansL n L self m c := by
  have o : outL n L m c = [] := by unfold outL; rw [if_neg (chunk_0 hc), ha]; rfl
  rw [ansL_k hk, o]; rfl
theorem ans_2 (hk : ((!decide (m.kind = 1)) && (!decide (m.kind = 2))) = false) (hc : ¬ (0 : Int) < (((missL L m.vec (max 1 (min c 32))).length : Nat) : Int)) (ha : askQ n L m = true) : toL self m.frm [⟨2, 0, 0, vecE n L, []⟩] = ansL n L self m c := by
  have o : outL n L m c = [⟨2, 0, 0, vecE n L, []⟩] := by unfold outL; rw [if_neg (chunk_0 hc), ha]; rfl
  rw [ansL_k hk, o]; rfl
theorem ans_3 (hk : ((!decide (m.kind = 1)) && (!decide (m.kind = 2))) = false) (hc : (0 : Int) < (((missL L m.vec (max 1 (min c 32))).length : Nat) : Int)) (ha : askQ n L m = false) : toL self m.frm [⟨3, 0, 0, [], missL L m.vec (max 1 (min c 32))⟩] = ansL n L self m c := by
  have o : outL n L m c = [⟨3, 0, 0, [], missL L m.vec (max 1 (min c 32))⟩] := by unfold outL; rw [if_pos (chunk_1 hc), ha]; rfl
  rw [ansL_k hk, o]; rfl
theorem ans_4 (hk : ((!decide (m.kind = 1)) && (!decide (m.kind = 2))) = false) (hc : (0 : Int) < (((missL L m.vec (max 1 (min c 32))).length : Nat) : Int)) (ha : askQ n L m = true) : toL self m.frm ([⟨3, 0, 0, [], missL L m.vec (max 1 (min c 32))⟩] ++ [⟨2, 0, 0, vecE n L, []⟩]) = ansL n L self m c := by
  have o : outL n L m c = [⟨3, 0, 0, [], missL L m.vec (max 1 (min c 32))⟩] ++ [⟨2, 0, 0, vecE n L, []⟩] := by unfold outL; rw [if_pos (chunk_1 hc), ha]; rfl
  rw [ansL_k hk, o]; rfl
end
theorem fd57_0 {d : Option Tmp} {ty : TypeId} {pos : String} {af : Array Edge} {g : Option (Nat × Bool)} {σ : Env} {w : World} {K : Value → World → Prop} {x : Operand} {b o : Nat} (hx : ev σ x = .pointer (some ⟨b, o, none⟩)) (h : K (.pointer (some ⟨b, o + 0, none⟩)) w) : opV Try.prog ⟨d, .fieldAddr 57 x 0, ty, pos, af, g⟩ σ w K := ov_fieldAddr Try.underlying57 rfl rfl (fun w => ⟨0, Try.sizeOf3 w⟩) hx h
theorem fd57_3 {d : Option Tmp} {ty : TypeId} {pos : String} {af : Array Edge} {g : Option (Nat × Bool)} {σ : Env} {w : World} {K : Value → World → Prop} {x : Operand} {b o : Nat} (hx : ev σ x = .pointer (some ⟨b, o, none⟩)) (h : K (.pointer (some ⟨b, o + 3, none⟩)) w) : opV Try.prog ⟨d, .fieldAddr 57 x 3, ty, pos, af, g⟩ σ w K := ov_fieldAddr Try.underlying57 rfl rfl (fun w => ⟨0, Try.sizeOf34 w⟩) hx h
theorem el58 : Elem Try.prog 58 57 5 72 := ⟨Try.underlying58, _, _, rfl, rfl, rfl, rfl, rfl⟩
theorem D_Answer {G : Nat → Prop} {W w : World} {Rs : List HP} {b : Nat} {n : Nat} {L : List Ev} (hb : (SetO b n L).p W G) {self : Int} (hself : InR self) {m : Msg} {dm0 : Value} (hdm0 : RdS W G dm0 m.vec) {dm1 : Value} (hdm1 : RdS W G dm1 m.evs) (om : m.Ok) {chunk : Int} (hchunk : InR chunk) (hS0 : Sep G W Rs w) (hid : (L.map idE).Nodup) (hsr : Srt L) (hL : L.length ≤ 1000000) : Ret Try.prog 41 [.pointer (some ⟨b, 0, none⟩), .int .i64 (self), .agg (m.cells dm0 dm1).toArray, .int .i64 (chunk)] w (fun r w' => ∃ (v : Value), r = (v : Value) ∧ Sep G W ((RowE (α := Msg) own 57 v (ansL n L self m chunk)) :: Rs) w') := by
 have hdm0s : m.vec.length * 8 ≤ 140737488355328 := hdm0.small
 have hdm1s : m.evs.length * 96 ≤ 140737488355328 := hdm1.small
 refine Calls_of_WP (args := [.pointer (some ⟨b, 0, none⟩), .int .i64 (self), .agg (m.cells dm0 dm1).toArray, .int .i64 (chunk)]) Try.func41 rfl rfl ?_
 obtain ⟨vv1, m2, R3, hb4, hv5, hr6⟩ := SetO.sh hb
 have hsm7 : (vecE n L).length * 8 ≤ 140737488355328 := hv5.small
 refine WP_seq ?_
 refine WP_region0 (by kernel_rfl) (fun _ => ?_)
 refine st (ov_box (v := .agg (m.cells dm0 dm1).toArray) rfl ?_)
 intro w10 b9 hn8
 have hS11 : Sep G W ((Blk b9 (m.cells dm0 dm1).toArray 57) :: Rs) w10 := hS0.new hn8
 refine st (ov_assign (v := (.slice none 0 0)) rfl ?_)
 refine st_nil ?_
 refine WP_seq ?_
 refine WP_seq ?_
 refine WP_region (by kernel_rfl) ?_
 refine st (fd57_0 rfl ?_)
 refine st (ov_load1 (v := .int .i64 (m.kind)) Try.isAgg3 rfl (blk_cellL (hS11.blk (i := 0) rfl) rfl) ?_)
 refine st (ov_neq (k := .i64) (a := m.kind) (b := 1) rfl rfl ?_)
 refine st (ov_move (v := .bool (!decide (m.kind = 1))) rfl ?_)
 refine stc (V := .pointer (some ⟨b9, 0, none⟩)) rfl rfl (fun hb12 => ?_) ?_
 ·have hl13 := hb12
  have hl13 := ndec_true hl13
  exact fd57_0 rfl ⟨rfl, rfl⟩
 refine stc (V := .int .i64 (m.kind)) rfl rfl (fun hb14 => ?_) ?_
 ·have hl15 := hb14
  have hl15 := ndec_true hl15
  exact ov_load1 (v := .int .i64 (m.kind)) Try.isAgg3 (show _ = (.pointer (some ⟨b9, 0, none⟩) : Value) from (if_pos hb14)) (blk_cellL (hS11.blk (i := 0) rfl) rfl) ⟨rfl, rfl⟩
 refine stc (V := .bool (!decide (m.kind = 2))) rfl rfl (fun hb16 => ?_) ?_
 ·have hl17 := hb16
  have hl17 := ndec_true hl17
  exact ov_neq (k := .i64) (a := m.kind) (b := 2) (show _ = (.int .i64 (m.kind) : Value) from (if_pos hb16)) rfl ⟨rfl, rfl⟩
 refine st (ov_pick_and (b := !decide (m.kind = 1)) (b' := !decide (m.kind = 2)) rfl (fun hbp => (show _ = (.bool (!decide (m.kind = 2)) : Value) from (if_pos hbp))) ?_)
 refine st_nil ?_
 cases hc18 : (!decide (m.kind = 1)) && (!decide (m.kind = 2))
 ·skip
  have hc18r := hc18
  try simp only [bools] at hc18
  refine WP_cond_f rfl ?_
  refine WP_skip ?_
  refine WP_seq ?_
  refine WP_region0 (by kernel_rfl) (fun _ => ?_)
  refine st (ov_assign (v := (.slice none 0 0)) rfl ?_)
  refine st_nil ?_
  refine WP_seq ?_
  refine WP_seq ?_
  refine WP_region0 (by kernel_rfl) (fun _ => ?_)
  refine st (ov_move (v := .pointer (some ⟨b, 0, none⟩)) rfl ?_)
  refine st (fd57_3 rfl ?_)
  refine st (ov_load1 (v := dm0) Try.isAgg34 rfl (blk_cellL (hS11.blk (i := 0) rfl) rfl) ?_)
  refine st (ov_move (v := .int .i64 (chunk)) rfl ?_)
  refine st (ov_min (k := .i64) (a := chunk) (b := 32) rfl rfl ?_)
  refine st (ov_max (k := .i64) (a := 1) (b := min chunk 32) rfl rfl ?_)
  refine st (ov_call (f := 25) (vals := [.pointer (some ⟨b, 0, none⟩), dm0, .int .i64 (max 1 (min chunk 32))]) (cap := []) (show _ = (.func (.func 25) #[] #[] : Value) from rfl) rfl Try.call25 (D_Missing (l := m.vec) (vl := dm0) (most := max 1 (min chunk 32)) hb hdm0 (by have h1 : InR 1 := (by decide); have h2 : InR (min chunk 32) := (by have h1 : InR chunk := hchunk; have h2 : InR 32 := (by decide); omega); omega) hS11 (hid) (hsr) (hL)) ?_)
  rintro v19 w20 ⟨_, rfl, hS21⟩
  have hr22 := hS21.row (i := 0) rfl
  have hr22s : (missL L m.vec (max 1 (min chunk 32))).length * 96 ≤ 140737488355328 := hr22.2
  refine st (ov_assign (v := v19) rfl ?_)
  refine st_nil ?_
  refine WP_seq ?_
  refine WP_region0 (by kernel_rfl) (fun _ => ?_)
  refine st (ov_move (v := v19) rfl ?_)
  refine st (ov_len (n := (missL L m.vec (max 1 (min chunk 32))).length) Try.underlying22 rfl hr22.1 ?_)
  refine st (ov_gtr (k := .i64) (a := (((missL L m.vec (max 1 (min chunk 32))).length : Nat) : Int)) (b := 0) rfl rfl ?_)
  refine st_nil ?_
  cases hc23 : decide (0 < (((missL L m.vec (max 1 (min chunk 32))).length : Nat) : Int))
  ·skip
   have hc23r := hc23
   have hc23 := of_decide_eq_false hc23
   refine WP_cond_f rfl ?_
   refine WP_skip ?_
   refine WP_seq ?_
   refine WP_region0 (by kernel_rfl) (fun _ => ?_)
   refine st (ov_move (v := .pointer (some ⟨b, 0, none⟩)) rfl ?_)
   refine st (ov_call (f := 26) (vals := [.pointer (some ⟨b, 0, none⟩)]) (cap := []) (show _ = (.func (.func 26) #[] #[] : Value) from rfl) rfl Try.call26 (D_Vec  hb hS21) ?_)
   rintro v24 w25 ⟨_, rfl, hS26⟩
   have hr27 := hS26.row (i := 0) rfl
   have hr27s : (vecE n L).length * 8 ≤ 140737488355328 := hr27.2
   refine st (ov_assign (v := v24) rfl ?_)
   refine st_nil ?_
   refine WP_seq ?_
   refine WP_seq ?_
   refine WP_region0 (by kernel_rfl) (fun _ => ?_)
   refine st (fd57_3 rfl ?_)
   refine st (ov_load1 (v := dm0) Try.isAgg34 rfl (blk_cellL (hS26.blk (i := 2) rfl) rfl) ?_)
   refine st (ov_move (v := v24) rfl ?_)
   obtain ⟨G28, hA30, hB31, hS32, hk33⟩ := hS26.lend
   have hrd34 := RowE.rd hA30
   have hrd34s : (vecE n L).length * 8 ≤ 140737488355328 := hrd34.small
   refine st (ov_call (f := 73) (vals := [dm0, v24]) (cap := []) (show _ = (.func (.func 73) #[] #[] : Value) from rfl) rfl Try.call73 (D_vcmp (a := m.vec) (va := dm0) (b := vecE n L) (vb := v24) (RdS.base hdm0 hB31) hrd34 hS32) ?_)
   rintro _ w36 ⟨rfl, hin35, hS37⟩
   have hS38 : Sep G W ((RowE (α := Int) own 3 v24 (vecE n L)) :: (RowE (α := Ev) own 36 v19 (missL L m.vec (max 1 (min chunk 32)))) :: (Blk b9 (m.cells dm0 dm1).toArray 57) :: Rs) w36 := hk33 _ _ hS37
   refine st (ov_assign (v := .int .i64 ((cmpV m.vec (vecE n L)))) rfl ?_)
   refine st_nil ?_
   refine WP_seq ?_
   refine WP_region (by kernel_rfl) ?_
   refine st (fd57_0 rfl ?_)
   refine st (ov_load1 (v := .int .i64 (m.kind)) Try.isAgg3 rfl (blk_cellL (hS38.blk (i := 2) rfl) rfl) ?_)
   refine st (ov_eql (k := .i64) (a := m.kind) (b := 1) rfl rfl ?_)
   refine st (ov_move (v := .bool (decide (m.kind = 1))) rfl ?_)
   refine stc (V := .int .i64 ((cmpV m.vec (vecE n L)))) rfl rfl (fun hb39 => ?_) ?_
   ·have hl40 := hb39
    have hl40 := of_decide_eq_true hl40
    exact ov_move (v := .int .i64 ((cmpV m.vec (vecE n L)))) rfl ⟨rfl, rfl⟩
   refine stc (V := .bool (decide ((cmpV m.vec (vecE n L)) = 2))) rfl rfl (fun hb41 => ?_) ?_
   ·have hl42 := hb41
    have hl42 := of_decide_eq_true hl42
    exact ov_eql (k := .i64) (a := (cmpV m.vec (vecE n L))) (b := 2) (show _ = (.int .i64 ((cmpV m.vec (vecE n L))) : Value) from (if_pos hb41)) rfl ⟨rfl, rfl⟩
   refine stc (V := .bool (decide ((cmpV m.vec (vecE n L)) = 2))) rfl rfl (fun hb43 => ?_) ?_
   ·have hl44 := hb43
    have hl44 := of_decide_eq_true hl44
    exact ov_move (v := .bool (decide ((cmpV m.vec (vecE n L)) = 2))) (show _ = (.bool (decide ((cmpV m.vec (vecE n L)) = 2)) : Value) from (if_pos hb43)) ⟨rfl, rfl⟩
   refine stcP (V := .int .i64 ((cmpV m.vec (vecE n L)))) rfl rfl (fun hb45 => ?_) ?_
   ·have hl46 := hb45.1
    have hl46 := of_decide_eq_true hl46
    have hl47 := hb45.2
    have hl47 := of_decide_eq_false hl47
    exact ov_move (v := .int .i64 ((cmpV m.vec (vecE n L)))) rfl ⟨rfl, rfl⟩
   refine stcP (V := .bool (decide ((cmpV m.vec (vecE n L)) = 3))) rfl rfl (fun hb48 => ?_) ?_
   ·have hl49 := hb48.1
    have hl49 := of_decide_eq_true hl49
    have hl50 := hb48.2
    have hl50 := of_decide_eq_false hl50
    exact ov_eql (k := .i64) (a := (cmpV m.vec (vecE n L))) (b := 3) (show _ = (.int .i64 ((cmpV m.vec (vecE n L))) : Value) from (if_pos ⟨hb48.1, hb48.2⟩)) rfl ⟨rfl, rfl⟩
   refine stc (V := .bool ((decide ((cmpV m.vec (vecE n L)) = 2)) || (decide ((cmpV m.vec (vecE n L)) = 3)))) rfl rfl (fun hb51 => ?_) ?_
   ·have hl52 := hb51
    have hl52 := of_decide_eq_true hl52
    exact ov_pick_or (b := decide ((cmpV m.vec (vecE n L)) = 2)) (b' := decide ((cmpV m.vec (vecE n L)) = 3)) (show _ = (.bool (decide ((cmpV m.vec (vecE n L)) = 2)) : Value) from (if_pos hb51)) (fun hbp => (show _ = (.bool (decide ((cmpV m.vec (vecE n L)) = 3)) : Value) from (if_pos ⟨hb51, hbp⟩))) ⟨rfl, rfl⟩
   refine st (ov_pick_and (b := decide (m.kind = 1)) (b' := (decide ((cmpV m.vec (vecE n L)) = 2)) || (decide ((cmpV m.vec (vecE n L)) = 3))) rfl (fun hbp => (show _ = (.bool ((decide ((cmpV m.vec (vecE n L)) = 2)) || (decide ((cmpV m.vec (vecE n L)) = 3))) : Value) from (if_pos hbp))) ?_)
   refine st_nil ?_
   cases hc53 : (decide (m.kind = 1)) && ((decide ((cmpV m.vec (vecE n L)) = 2)) || (decide ((cmpV m.vec (vecE n L)) = 3)))
   ·skip
    have hc53r := hc53
    try simp only [bools] at hc53
    refine WP_cond_f rfl ?_
    refine WP_skip ?_
    refine WP_seq ?_
    refine WP_seq ?_
    refine WP_region0 (by kernel_rfl) (fun _ => ?_)
    refine st (ov_move (v := (.slice none 0 0)) rfl ?_)
    refine st (ov_len (n := 0) Try.underlying58 rfl (⟨none, 0, rfl, Nat.le_refl _, fun h => absurd h (Nat.lt_irrefl 0)⟩ : IsSl _ 0) ?_)
    refine st (ov_eql (k := .i64) (a := ((0 : Nat) : Int)) (b := 0) rfl rfl ?_)
    have hkn54 : (decide (((0 : Nat) : Int) = 0)) = true := by simp
    rw [hkn54]
    refine st_nil ?_
    refine WP_cond_t rfl ?_
    refine WP_region0 (by kernel_rfl) (fun _ => ?_)
    refine st (ov_move (v := (.slice none 0 0)) rfl ?_)
    refine st (ov_move (v := .pointer (some ⟨b, 0, none⟩)) rfl ?_)
    refine st (ov_move (v := .int .i64 (self)) rfl ?_)
    refine st (fd57_1 rfl ?_)
    refine st (ov_load1 (v := .int .i64 (m.frm)) Try.isAgg3 rfl (blk_cellL (hS38.blk (i := 2) rfl) rfl) ?_)
    refine st (ov_call (f := 47) (vals := [.pointer (some ⟨b, 0, none⟩), .int .i64 (self), .int .i64 (m.frm)]) (cap := []) (show _ = (.func (.func 47) #[] #[] : Value) from rfl) rfl Try.call47 (D_Ack (fr := self) (tt := m.frm) hb hself om.frm hS38) ?_)
    rintro _ w57 ⟨v55, rfl, hmo56, hS58⟩
    have hr59 := hS58.row (i := 0) rfl
    have hr59s : (vecE n L).length * 8 ≤ 140737488355328 := hr59.2
    refine st (ov_buildSlice (k := 5) (parts' := [(0, .agg ((⟨4, self, m.frm, vecE n L, []⟩ : Msg).cells v55 (.slice none 0 0)).toArray)]) (c := ((⟨4, self, m.frm, vecE n L, []⟩ : Msg).cells v55 (.slice none 0 0)).toArray) Try.underlying58 Try.sizeOf57 Try.zeroValue57 (by decide) rfl (by kernel_rfl) ?_)
    intro w62 b61 hn60
    have hS63 : Sep G W ((Blk b61 ((⟨4, self, m.frm, vecE n L, []⟩ : Msg).cells v55 (.slice none 0 0)).toArray 57) :: (RowE (α := Int) own 3 v55 (vecE n L)) :: (RowE (α := Int) own 3 v24 (vecE n L)) :: (RowE (α := Ev) own 36 v19 (missL L m.vec (max 1 (min chunk 32)))) :: (Blk b9 (m.cells dm0 dm1).toArray 57) :: Rs) w62 := hS58.new hn60
    have hS67 : Sep G W ((RowE (α := Msg) own 57 (.slice none 0 0) ([] : List Msg)) :: (Blk b61 ((⟨4, self, m.frm, vecE n L, []⟩ : Msg).cells v55 (.slice none 0 0)).toArray 57) :: (RowE (α := Int) own 3 v55 (vecE n L)) :: (RowE (α := Int) own 3 v24 (vecE n L)) :: (RowE (α := Ev) own 36 v19 (missL L m.vec (max 1 (min chunk 32)))) :: (Blk b9 (m.cells dm0 dm1).toArray 57) :: Rs) w62 := hS63.rowNil own 57
    have hr68 := hS67.row (i := 0) rfl
    have hr68s : ([] : List Msg).length * 72 ≤ 140737488355328 := hr68.2
    have hbk69 := hS67.blk (i := 1) rfl
    have hS70 : Sep G W ((RowE (α := Msg) own 57 (.slice none 0 0) ([] : List Msg)) :: (RowE (α := Int) own 3 v55 (vecE n L)) :: (RowE (α := Int) own 3 v24 (vecE n L)) :: (RowE (α := Ev) own 36 v19 (missL L m.vec (max 1 (min chunk 32)))) :: (Blk b9 (m.cells dm0 dm1).toArray 57) :: Rs) w62 := hS67.sel 6 [0, 2, 3, 4, 5] (Nat.le_add_left _ _) rfl rfl
    refine st (ov_append1S (src := own) (bytes := 72) (x1 := (⟨4, self, m.frm, vecE n L, []⟩ : Msg)) hS70 el58 rfl rfl hbk69 (fun _ _ hN => ⟨_, _, rfl, RowE.soft hN, (RdS.nil _ _), hmo56⟩) (by first | omega | (simp only [List.length_append, List.length_cons, List.length_nil, List.length_take, List.length_drop]; omega)) rfl ?_)
    intro v65 w64 hS66
    have hS66 : Sep G W ((RowE (α := Msg) own 57 v65 [(⟨4, self, m.frm, vecE n L, []⟩ : Msg)]) :: (RowE (α := Int) own 3 v24 (vecE n L)) :: (RowE (α := Ev) own 36 v19 (missL L m.vec (max 1 (min chunk 32)))) :: (Blk b9 (m.cells dm0 dm1).toArray 57) :: Rs) w64 := hS66
    have hr71 := hS66.row (i := 0) rfl
    have hr71s : [(⟨4, self, m.frm, vecE n L, []⟩ : Msg)].length * 72 ≤ 140737488355328 := hr71.2
    refine st (ov_assign (v := v65) rfl ?_)
    refine st_nil ?_
    refine WP_seq ?_
    refine WP_region0 (by kernel_rfl) (fun _ => ?_)
    refine st (ov_move (v := .int .i64 (self)) rfl ?_)
    refine st (fd57_1 rfl ?_)
    refine st (ov_load1 (v := .int .i64 (m.frm)) Try.isAgg3 rfl (blk_cellL (hS66.blk (i := 3) rfl) rfl) ?_)
    refine st (ov_move (v := v65) rfl ?_)
    refine st (ov_call (f := 74) (vals := [.int .i64 (self), .int .i64 (m.frm), v65]) (cap := []) (show _ = (.func (.func 74) #[] #[] : Value) from rfl) rfl Try.call74 (D_to (f := self) (t := m.frm) hself om.frm hS66) ?_)
    rintro v72 w73 ⟨_, rfl, hS74⟩
    have hr75 := hS74.row (i := 0) rfl
    have hr75s : (toL self m.frm [(⟨4, self, m.frm, vecE n L, []⟩ : Msg)]).length * 72 ≤ 140737488355328 := hr75.2
    refine st (ov_assign (v := v72) rfl ?_)
    refine st_nil ?_
    refine WP_ret ?_
    refine fin1 Try.results41 (show _ = (v72 : Value) from rfl) ?_
    have hS76 : Sep G W ((RowE (α := Msg) own 57 v72 (toL self m.frm [(⟨4, self, m.frm, vecE n L, []⟩ : Msg)])) :: Rs) w73 := hS74.sel 4 [0] (Nat.le_add_left _ _) rfl rfl
    rw [ans_1 (n := n) (L := L) (self := self) (c := chunk) hc18r hc23 (show askQ n L m = false from hc53r)] at hS76
    refine ⟨v72, rfl, hS76⟩
   ·skip
    have hc53r := hc53
    try simp only [bools] at hc53
    refine WP_cond_t rfl ?_
    refine WP_region0 (by kernel_rfl) (fun _ => ?_)
    refine st (ov_move (v := (.slice none 0 0)) rfl ?_)
    refine st (ov_move (v := v24) rfl ?_)
    have ok77 : Msg.Ok (⟨2, 0, 0, vecE n L, []⟩ : Msg) := ⟨(show InR (2) from (by decide)), (show InR (0) from (by decide)), (show InR (0) from (by decide))⟩
    refine st (ov_build (parts' := [(0, .int .i64 (2)), (3, v24)]) (v := .agg ((⟨2, 0, 0, vecE n L, []⟩ : Msg).cells v24 (.slice none 0 0)).toArray) rfl (by obtain ⟨_, _, hv78, _⟩ := hr27.1; rw [show v24 = Value.slice _ _ _ from hv78]; simp [Instr.build, Instr.fill, go_sem, Msg.cells]) ?_)
    refine st (ov_buildSlice (k := 5) (parts' := [(0, .agg ((⟨2, 0, 0, vecE n L, []⟩ : Msg).cells v24 (.slice none 0 0)).toArray)]) (c := ((⟨2, 0, 0, vecE n L, []⟩ : Msg).cells v24 (.slice none 0 0)).toArray) Try.underlying58 Try.sizeOf57 Try.zeroValue57 (by decide) rfl (by kernel_rfl) ?_)
    intro w81 b80 hn79
    have hS82 : Sep G W ((Blk b80 ((⟨2, 0, 0, vecE n L, []⟩ : Msg).cells v24 (.slice none 0 0)).toArray 57) :: (RowE (α := Int) own 3 v24 (vecE n L)) :: (RowE (α := Ev) own 36 v19 (missL L m.vec (max 1 (min chunk 32)))) :: (Blk b9 (m.cells dm0 dm1).toArray 57) :: Rs) w81 := hS38.new hn79
    have hS86 : Sep G W ((RowE (α := Msg) own 57 (.slice none 0 0) ([] : List Msg)) :: (Blk b80 ((⟨2, 0, 0, vecE n L, []⟩ : Msg).cells v24 (.slice none 0 0)).toArray 57) :: (RowE (α := Int) own 3 v24 (vecE n L)) :: (RowE (α := Ev) own 36 v19 (missL L m.vec (max 1 (min chunk 32)))) :: (Blk b9 (m.cells dm0 dm1).toArray 57) :: Rs) w81 := hS82.rowNil own 57
    have hr87 := hS86.row (i := 0) rfl
    have hr87s : ([] : List Msg).length * 72 ≤ 140737488355328 := hr87.2
    have hbk88 := hS86.blk (i := 1) rfl
    have hS89 : Sep G W ((RowE (α := Msg) own 57 (.slice none 0 0) ([] : List Msg)) :: (RowE (α := Int) own 3 v24 (vecE n L)) :: (RowE (α := Ev) own 36 v19 (missL L m.vec (max 1 (min chunk 32)))) :: (Blk b9 (m.cells dm0 dm1).toArray 57) :: Rs) w81 := hS86.sel 5 [0, 2, 3, 4] (Nat.le_add_left _ _) rfl rfl
    refine st (ov_append1S (src := own) (bytes := 72) (x1 := (⟨2, 0, 0, vecE n L, []⟩ : Msg)) hS89 el58 rfl rfl hbk88 (fun _ _ hN => ⟨_, _, rfl, RowE.soft hN, (RdS.nil _ _), ok77⟩) (by first | omega | (simp only [List.length_append, List.length_cons, List.length_nil, List.length_take, List.length_drop]; omega)) rfl ?_)
    intro v84 w83 hS85
    have hS85 : Sep G W ((RowE (α := Msg) own 57 v84 [(⟨2, 0, 0, vecE n L, []⟩ : Msg)]) :: (RowE (α := Ev) own 36 v19 (missL L m.vec (max 1 (min chunk 32)))) :: (Blk b9 (m.cells dm0 dm1).toArray 57) :: Rs) w83 := hS85
    have hr90 := hS85.row (i := 0) rfl
    have hr90s : [(⟨2, 0, 0, vecE n L, []⟩ : Msg)].length * 72 ≤ 140737488355328 := hr90.2
    refine st (ov_assign (v := v84) rfl ?_)
    refine st_nil ?_
    refine WP_seq ?_
    refine WP_seq ?_
    refine WP_region0 (by kernel_rfl) (fun _ => ?_)
    refine st (ov_move (v := v84) rfl ?_)
    refine st (ov_len (n := [(⟨2, 0, 0, vecE n L, []⟩ : Msg)].length) Try.underlying58 rfl hr90.1 ?_)
    refine st (ov_eql (k := .i64) (a := (([(⟨2, 0, 0, vecE n L, []⟩ : Msg)].length : Nat) : Int)) (b := 0) rfl rfl ?_)
    have hkn91 : (decide ((([(⟨2, 0, 0, vecE n L, []⟩ : Msg)].length : Nat) : Int) = 0)) = false := by simp
    rw [hkn91]
    refine st_nil ?_
    refine WP_cond_f rfl ?_
    refine WP_skip ?_
    refine WP_seq ?_
    refine WP_region0 (by kernel_rfl) (fun _ => ?_)
    refine st (ov_move (v := .int .i64 (self)) rfl ?_)
    refine st (fd57_1 rfl ?_)
    refine st (ov_load1 (v := .int .i64 (m.frm)) Try.isAgg3 rfl (blk_cellL (hS85.blk (i := 2) rfl) rfl) ?_)
    refine st (ov_move (v := v84) rfl ?_)
    refine st (ov_call (f := 74) (vals := [.int .i64 (self), .int .i64 (m.frm), v84]) (cap := []) (show _ = (.func (.func 74) #[] #[] : Value) from rfl) rfl Try.call74 (D_to (f := self) (t := m.frm) hself om.frm hS85) ?_)
    rintro v92 w93 ⟨_, rfl, hS94⟩
    have hr95 := hS94.row (i := 0) rfl
    have hr95s : (toL self m.frm [(⟨2, 0, 0, vecE n L, []⟩ : Msg)]).length * 72 ≤ 140737488355328 := hr95.2
    refine st (ov_assign (v := v92) rfl ?_)
    refine st_nil ?_
    refine WP_ret ?_
    refine fin1 Try.results41 (show _ = (v92 : Value) from rfl) ?_
    have hS96 : Sep G W ((RowE (α := Msg) own 57 v92 (toL self m.frm [(⟨2, 0, 0, vecE n L, []⟩ : Msg)])) :: Rs) w93 := hS94.sel 3 [0] (Nat.le_add_left _ _) rfl rfl
    rw [ans_2 (n := n) (L := L) (self := self) (c := chunk) hc18r hc23 (show askQ n L m = true from hc53r)] at hS96
    refine ⟨v92, rfl, hS96⟩
  ·skip
   have hc23r := hc23
   have hc23 := of_decide_eq_true hc23
   refine WP_cond_t rfl ?_
   refine WP_region0 (by kernel_rfl) (fun _ => ?_)
   refine st (ov_move (v := (.slice none 0 0)) rfl ?_)
   refine st (ov_move (v := v19) rfl ?_)
   have ok97 : Msg.Ok (⟨3, 0, 0, [], missL L m.vec (max 1 (min chunk 32))⟩ : Msg) := ⟨(show InR (3) from (by decide)), (show InR (0) from (by decide)), (show InR (0) from (by decide))⟩
   refine st (ov_build (parts' := [(0, .int .i64 (3)), (4, v19)]) (v := .agg ((⟨3, 0, 0, [], missL L m.vec (max 1 (min chunk 32))⟩ : Msg).cells (.slice none 0 0) v19).toArray) rfl (by obtain ⟨_, _, hv98, _⟩ := hr22.1; rw [show v19 = Value.slice _ _ _ from hv98]; simp [Instr.build, Instr.fill, go_sem, Msg.cells]) ?_)
   refine st (ov_buildSlice (k := 5) (parts' := [(0, .agg ((⟨3, 0, 0, [], missL L m.vec (max 1 (min chunk 32))⟩ : Msg).cells (.slice none 0 0) v19).toArray)]) (c := ((⟨3, 0, 0, [], missL L m.vec (max 1 (min chunk 32))⟩ : Msg).cells (.slice none 0 0) v19).toArray) Try.underlying58 Try.sizeOf57 Try.zeroValue57 (by decide) rfl (by kernel_rfl) ?_)
   intro w101 b100 hn99
   have hS102 : Sep G W ((Blk b100 ((⟨3, 0, 0, [], missL L m.vec (max 1 (min chunk 32))⟩ : Msg).cells (.slice none 0 0) v19).toArray 57) :: (RowE (α := Ev) own 36 v19 (missL L m.vec (max 1 (min chunk 32)))) :: (Blk b9 (m.cells dm0 dm1).toArray 57) :: Rs) w101 := hS21.new hn99
   have hS106 : Sep G W ((RowE (α := Msg) own 57 (.slice none 0 0) ([] : List Msg)) :: (Blk b100 ((⟨3, 0, 0, [], missL L m.vec (max 1 (min chunk 32))⟩ : Msg).cells (.slice none 0 0) v19).toArray 57) :: (RowE (α := Ev) own 36 v19 (missL L m.vec (max 1 (min chunk 32)))) :: (Blk b9 (m.cells dm0 dm1).toArray 57) :: Rs) w101 := hS102.rowNil own 57
   have hr107 := hS106.row (i := 0) rfl
   have hr107s : ([] : List Msg).length * 72 ≤ 140737488355328 := hr107.2
   have hbk108 := hS106.blk (i := 1) rfl
   have hS109 : Sep G W ((RowE (α := Msg) own 57 (.slice none 0 0) ([] : List Msg)) :: (RowE (α := Ev) own 36 v19 (missL L m.vec (max 1 (min chunk 32)))) :: (Blk b9 (m.cells dm0 dm1).toArray 57) :: Rs) w101 := hS106.sel 4 [0, 2, 3] (Nat.le_add_left _ _) rfl rfl
   refine st (ov_append1S (src := own) (bytes := 72) (x1 := (⟨3, 0, 0, [], missL L m.vec (max 1 (min chunk 32))⟩ : Msg)) hS109 el58 rfl rfl hbk108 (fun _ _ hN => ⟨_, _, rfl, (RdS.nil _ _), RowE.soft hN, ok97⟩) (by first | omega | (simp only [List.length_append, List.length_cons, List.length_nil, List.length_take, List.length_drop]; omega)) rfl ?_)
   intro v104 w103 hS105
   have hS105 : Sep G W ((RowE (α := Msg) own 57 v104 [(⟨3, 0, 0, [], missL L m.vec (max 1 (min chunk 32))⟩ : Msg)]) :: (Blk b9 (m.cells dm0 dm1).toArray 57) :: Rs) w103 := hS105
   have hr110 := hS105.row (i := 0) rfl
   have hr110s : [(⟨3, 0, 0, [], missL L m.vec (max 1 (min chunk 32))⟩ : Msg)].length * 72 ≤ 140737488355328 := hr110.2
   refine st (ov_assign (v := v104) rfl ?_)
   refine st_nil ?_
   refine WP_seq ?_
   refine WP_region0 (by kernel_rfl) (fun _ => ?_)
   refine st (ov_move (v := .pointer (some ⟨b, 0, none⟩)) rfl ?_)
   refine st (ov_call (f := 26) (vals := [.pointer (some ⟨b, 0, none⟩)]) (cap := []) (show _ = (.func (.func 26) #[] #[] : Value) from rfl) rfl Try.call26 (D_Vec  hb hS105) ?_)
   rintro v111 w112 ⟨_, rfl, hS113⟩
   have hr114 := hS113.row (i := 0) rfl
   have hr114s : (vecE n L).length * 8 ≤ 140737488355328 := hr114.2
   refine st (ov_assign (v := v111) rfl ?_)
   refine st_nil ?_
   refine WP_seq ?_
   refine WP_seq ?_
   refine WP_region0 (by kernel_rfl) (fun _ => ?_)
   refine st (fd57_3 rfl ?_)
   refine st (ov_load1 (v := dm0) Try.isAgg34 rfl (blk_cellL (hS113.blk (i := 2) rfl) rfl) ?_)
   refine st (ov_move (v := v111) rfl ?_)
   obtain ⟨G115, hA117, hB118, hS119, hk120⟩ := hS113.lend
   have hrd121 := RowE.rd hA117
   have hrd121s : (vecE n L).length * 8 ≤ 140737488355328 := hrd121.small
   refine st (ov_call (f := 73) (vals := [dm0, v111]) (cap := []) (show _ = (.func (.func 73) #[] #[] : Value) from rfl) rfl Try.call73 (D_vcmp (a := m.vec) (va := dm0) (b := vecE n L) (vb := v111) (RdS.base hdm0 hB118) hrd121 hS119) ?_)
   rintro _ w123 ⟨rfl, hin122, hS124⟩
   have hS125 : Sep G W ((RowE (α := Int) own 3 v111 (vecE n L)) :: (RowE (α := Msg) own 57 v104 [(⟨3, 0, 0, [], missL L m.vec (max 1 (min chunk 32))⟩ : Msg)]) :: (Blk b9 (m.cells dm0 dm1).toArray 57) :: Rs) w123 := hk120 _ _ hS124
   refine st (ov_assign (v := .int .i64 ((cmpV m.vec (vecE n L)))) rfl ?_)
   refine st_nil ?_
   refine WP_seq ?_
   refine WP_region (by kernel_rfl) ?_
   refine st (fd57_0 rfl ?_)
   refine st (ov_load1 (v := .int .i64 (m.kind)) Try.isAgg3 rfl (blk_cellL (hS125.blk (i := 2) rfl) rfl) ?_)
   refine st (ov_eql (k := .i64) (a := m.kind) (b := 1) rfl rfl ?_)
   refine st (ov_move (v := .bool (decide (m.kind = 1))) rfl ?_)
   refine stc (V := .int .i64 ((cmpV m.vec (vecE n L)))) rfl rfl (fun hb126 => ?_) ?_
   ·have hl127 := hb126
    have hl127 := of_decide_eq_true hl127
    exact ov_move (v := .int .i64 ((cmpV m.vec (vecE n L)))) rfl ⟨rfl, rfl⟩
   refine stc (V := .bool (decide ((cmpV m.vec (vecE n L)) = 2))) rfl rfl (fun hb128 => ?_) ?_
   ·have hl129 := hb128
    have hl129 := of_decide_eq_true hl129
    exact ov_eql (k := .i64) (a := (cmpV m.vec (vecE n L))) (b := 2) (show _ = (.int .i64 ((cmpV m.vec (vecE n L))) : Value) from (if_pos hb128)) rfl ⟨rfl, rfl⟩
   refine stc (V := .bool (decide ((cmpV m.vec (vecE n L)) = 2))) rfl rfl (fun hb130 => ?_) ?_
   ·have hl131 := hb130
    have hl131 := of_decide_eq_true hl131
    exact ov_move (v := .bool (decide ((cmpV m.vec (vecE n L)) = 2))) (show _ = (.bool (decide ((cmpV m.vec (vecE n L)) = 2)) : Value) from (if_pos hb130)) ⟨rfl, rfl⟩
   refine stcP (V := .int .i64 ((cmpV m.vec (vecE n L)))) rfl rfl (fun hb132 => ?_) ?_
   ·have hl133 := hb132.1
    have hl133 := of_decide_eq_true hl133
    have hl134 := hb132.2
    have hl134 := of_decide_eq_false hl134
    exact ov_move (v := .int .i64 ((cmpV m.vec (vecE n L)))) rfl ⟨rfl, rfl⟩
   refine stcP (V := .bool (decide ((cmpV m.vec (vecE n L)) = 3))) rfl rfl (fun hb135 => ?_) ?_
   ·have hl136 := hb135.1
    have hl136 := of_decide_eq_true hl136
    have hl137 := hb135.2
    have hl137 := of_decide_eq_false hl137
    exact ov_eql (k := .i64) (a := (cmpV m.vec (vecE n L))) (b := 3) (show _ = (.int .i64 ((cmpV m.vec (vecE n L))) : Value) from (if_pos ⟨hb135.1, hb135.2⟩)) rfl ⟨rfl, rfl⟩
   refine stc (V := .bool ((decide ((cmpV m.vec (vecE n L)) = 2)) || (decide ((cmpV m.vec (vecE n L)) = 3)))) rfl rfl (fun hb138 => ?_) ?_
   ·have hl139 := hb138
    have hl139 := of_decide_eq_true hl139
    exact ov_pick_or (b := decide ((cmpV m.vec (vecE n L)) = 2)) (b' := decide ((cmpV m.vec (vecE n L)) = 3)) (show _ = (.bool (decide ((cmpV m.vec (vecE n L)) = 2)) : Value) from (if_pos hb138)) (fun hbp => (show _ = (.bool (decide ((cmpV m.vec (vecE n L)) = 3)) : Value) from (if_pos ⟨hb138, hbp⟩))) ⟨rfl, rfl⟩
   refine st (ov_pick_and (b := decide (m.kind = 1)) (b' := (decide ((cmpV m.vec (vecE n L)) = 2)) || (decide ((cmpV m.vec (vecE n L)) = 3))) rfl (fun hbp => (show _ = (.bool ((decide ((cmpV m.vec (vecE n L)) = 2)) || (decide ((cmpV m.vec (vecE n L)) = 3))) : Value) from (if_pos hbp))) ?_)
   refine st_nil ?_
   cases hc140 : (decide (m.kind = 1)) && ((decide ((cmpV m.vec (vecE n L)) = 2)) || (decide ((cmpV m.vec (vecE n L)) = 3)))
   ·skip
    have hc140r := hc140
    try simp only [bools] at hc140
    refine WP_cond_f rfl ?_
    refine WP_skip ?_
    refine WP_seq ?_
    refine WP_seq ?_
    refine WP_region0 (by kernel_rfl) (fun _ => ?_)
    refine st (ov_move (v := v104) rfl ?_)
    refine st (ov_len (n := [(⟨3, 0, 0, [], missL L m.vec (max 1 (min chunk 32))⟩ : Msg)].length) Try.underlying58 rfl hr110.1 ?_)
    refine st (ov_eql (k := .i64) (a := (([(⟨3, 0, 0, [], missL L m.vec (max 1 (min chunk 32))⟩ : Msg)].length : Nat) : Int)) (b := 0) rfl rfl ?_)
    have hkn141 : (decide ((([(⟨3, 0, 0, [], missL L m.vec (max 1 (min chunk 32))⟩ : Msg)].length : Nat) : Int) = 0)) = false := by simp
    rw [hkn141]
    refine st_nil ?_
    refine WP_cond_f rfl ?_
    refine WP_skip ?_
    refine WP_seq ?_
    refine WP_region0 (by kernel_rfl) (fun _ => ?_)
    refine st (ov_move (v := .int .i64 (self)) rfl ?_)
    refine st (fd57_1 rfl ?_)
    refine st (ov_load1 (v := .int .i64 (m.frm)) Try.isAgg3 rfl (blk_cellL (hS125.blk (i := 2) rfl) rfl) ?_)
    refine st (ov_move (v := v104) rfl ?_)
    have hS142 : Sep G W ((RowE (α := Msg) own 57 v104 [(⟨3, 0, 0, [], missL L m.vec (max 1 (min chunk 32))⟩ : Msg)]) :: (RowE (α := Int) own 3 v111 (vecE n L)) :: (Blk b9 (m.cells dm0 dm1).toArray 57) :: Rs) w123 := hS125.sel 3 [1, 0, 2] (Nat.le_add_left _ _) rfl rfl
    refine st (ov_call (f := 74) (vals := [.int .i64 (self), .int .i64 (m.frm), v104]) (cap := []) (show _ = (.func (.func 74) #[] #[] : Value) from rfl) rfl Try.call74 (D_to (f := self) (t := m.frm) hself om.frm hS142) ?_)
    rintro v143 w144 ⟨_, rfl, hS145⟩
    have hr146 := hS145.row (i := 0) rfl
    have hr146s : (toL self m.frm [(⟨3, 0, 0, [], missL L m.vec (max 1 (min chunk 32))⟩ : Msg)]).length * 72 ≤ 140737488355328 := hr146.2
    refine st (ov_assign (v := v143) rfl ?_)
    refine st_nil ?_
    refine WP_ret ?_
    refine fin1 Try.results41 (show _ = (v143 : Value) from rfl) ?_
    have hS147 : Sep G W ((RowE (α := Msg) own 57 v143 (toL self m.frm [(⟨3, 0, 0, [], missL L m.vec (max 1 (min chunk 32))⟩ : Msg)])) :: Rs) w144 := hS145.sel 3 [0] (Nat.le_add_left _ _) rfl rfl
    rw [ans_3 (n := n) (L := L) (self := self) (c := chunk) hc18r hc23 (show askQ n L m = false from hc140r)] at hS147
    refine ⟨v143, rfl, hS147⟩
   ·skip
    have hc140r := hc140
    try simp only [bools] at hc140
    refine WP_cond_t rfl ?_
    refine WP_region0 (by kernel_rfl) (fun _ => ?_)
    refine st (ov_move (v := v104) rfl ?_)
    refine st (ov_move (v := v111) rfl ?_)
    have ok148 : Msg.Ok (⟨2, 0, 0, vecE n L, []⟩ : Msg) := ⟨(show InR (2) from (by decide)), (show InR (0) from (by decide)), (show InR (0) from (by decide))⟩
    refine st (ov_build (parts' := [(0, .int .i64 (2)), (3, v111)]) (v := .agg ((⟨2, 0, 0, vecE n L, []⟩ : Msg).cells v111 (.slice none 0 0)).toArray) rfl (by obtain ⟨_, _, hv149, _⟩ := hr114.1; rw [show v111 = Value.slice _ _ _ from hv149]; simp [Instr.build, Instr.fill, go_sem, Msg.cells]) ?_)
    refine st (ov_buildSlice (k := 5) (parts' := [(0, .agg ((⟨2, 0, 0, vecE n L, []⟩ : Msg).cells v111 (.slice none 0 0)).toArray)]) (c := ((⟨2, 0, 0, vecE n L, []⟩ : Msg).cells v111 (.slice none 0 0)).toArray) Try.underlying58 Try.sizeOf57 Try.zeroValue57 (by decide) rfl (by kernel_rfl) ?_)
    intro w152 b151 hn150
    have hS153 : Sep G W ((Blk b151 ((⟨2, 0, 0, vecE n L, []⟩ : Msg).cells v111 (.slice none 0 0)).toArray 57) :: (RowE (α := Int) own 3 v111 (vecE n L)) :: (RowE (α := Msg) own 57 v104 [(⟨3, 0, 0, [], missL L m.vec (max 1 (min chunk 32))⟩ : Msg)]) :: (Blk b9 (m.cells dm0 dm1).toArray 57) :: Rs) w152 := hS125.new hn150
    have hbk157 := hS153.blk (i := 0) rfl
    have hS158 : Sep G W ((RowE (α := Msg) own 57 v104 [(⟨3, 0, 0, [], missL L m.vec (max 1 (min chunk 32))⟩ : Msg)]) :: (RowE (α := Int) own 3 v111 (vecE n L)) :: (Blk b9 (m.cells dm0 dm1).toArray 57) :: Rs) w152 := hS153.sel 4 [2, 1, 3] (Nat.le_add_left _ _) rfl rfl
    refine st (ov_append1S (src := own) (bytes := 72) (x1 := (⟨2, 0, 0, vecE n L, []⟩ : Msg)) hS158 el58 rfl rfl hbk157 (fun _ _ hN => ⟨_, _, rfl, RowE.soft hN, (RdS.nil _ _), ok148⟩) (by first | (simp only [List.length_cons, List.length_nil]; decide) | omega) rfl ?_)
    intro v155 w154 hS156
    have hr159 := hS156.row (i := 0) rfl
    have hr159s : ([(⟨3, 0, 0, [], missL L m.vec (max 1 (min chunk 32))⟩ : Msg)] ++ [(⟨2, 0, 0, vecE n L, []⟩ : Msg)]).length * 72 ≤ 140737488355328 := hr159.2
    refine st (ov_assign (v := v155) rfl ?_)
    refine st_nil ?_
    refine WP_seq ?_
    refine WP_seq ?_
    refine WP_region0 (by kernel_rfl) (fun _ => ?_)
    refine st (ov_move (v := v155) rfl ?_)
    refine st (ov_len (n := ([(⟨3, 0, 0, [], missL L m.vec (max 1 (min chunk 32))⟩ : Msg)] ++ [(⟨2, 0, 0, vecE n L, []⟩ : Msg)]).length) Try.underlying58 rfl hr159.1 ?_)
    refine st (ov_eql (k := .i64) (a := ((([(⟨3, 0, 0, [], missL L m.vec (max 1 (min chunk 32))⟩ : Msg)] ++ [(⟨2, 0, 0, vecE n L, []⟩ : Msg)]).length : Nat) : Int)) (b := 0) rfl rfl ?_)
    have hkn160 : (decide (((([(⟨3, 0, 0, [], missL L m.vec (max 1 (min chunk 32))⟩ : Msg)] ++ [(⟨2, 0, 0, vecE n L, []⟩ : Msg)]).length : Nat) : Int) = 0)) = false := by simp
    rw [hkn160]
    refine st_nil ?_
    refine WP_cond_f rfl ?_
    refine WP_skip ?_
    refine WP_seq ?_
    refine WP_region0 (by kernel_rfl) (fun _ => ?_)
    refine st (ov_move (v := .int .i64 (self)) rfl ?_)
    refine st (fd57_1 rfl ?_)
    refine st (ov_load1 (v := .int .i64 (m.frm)) Try.isAgg3 rfl (blk_cellL (hS156.blk (i := 1) rfl) rfl) ?_)
    refine st (ov_move (v := v155) rfl ?_)
    refine st (ov_call (f := 74) (vals := [.int .i64 (self), .int .i64 (m.frm), v155]) (cap := []) (show _ = (.func (.func 74) #[] #[] : Value) from rfl) rfl Try.call74 (D_to (f := self) (t := m.frm) hself om.frm hS156) ?_)
    rintro v161 w162 ⟨_, rfl, hS163⟩
    have hr164 := hS163.row (i := 0) rfl
    have hr164s : (toL self m.frm ([(⟨3, 0, 0, [], missL L m.vec (max 1 (min chunk 32))⟩ : Msg)] ++ [(⟨2, 0, 0, vecE n L, []⟩ : Msg)])).length * 72 ≤ 140737488355328 := hr164.2
    refine st (ov_assign (v := v161) rfl ?_)
    refine st_nil ?_
    refine WP_ret ?_
    refine fin1 Try.results41 (show _ = (v161 : Value) from rfl) ?_
    have hS165 : Sep G W ((RowE (α := Msg) own 57 v161 (toL self m.frm ([(⟨3, 0, 0, [], missL L m.vec (max 1 (min chunk 32))⟩ : Msg)] ++ [(⟨2, 0, 0, vecE n L, []⟩ : Msg)]))) :: Rs) w162 := hS163.sel 2 [0] (Nat.le_add_left _ _) rfl rfl
    rw [ans_4 (n := n) (L := L) (self := self) (c := chunk) hc18r hc23 (show askQ n L m = true from hc140r)] at hS165
    refine ⟨v161, rfl, hS165⟩
 ·skip
  have hc18r := hc18
  try simp only [bools] at hc18
  refine WP_cond_t rfl ?_
  refine WP_seq ?_
  refine WP_region0 (by kernel_rfl) (fun _ => ?_)
  refine st (ov_assign (v := (.slice none 0 0)) rfl ?_)
  refine st_nil ?_
  refine WP_ret ?_
  refine fin1 Try.results41 (show _ = ((.slice none 0 0) : Value) from rfl) ?_
  have hS166 : Sep G W ((RowE (α := Msg) own 57 (.slice none 0 0) ([] : List Msg)) :: (Blk b9 (m.cells dm0 dm1).toArray 57) :: Rs) w10 := hS11.rowNil own 57
  have hS167 : Sep G W ((RowE (α := Msg) own 57 (.slice none 0 0) ([] : List Msg)) :: Rs) w10 := hS166.sel 2 [0] (Nat.le_add_left _ _) rfl rfl
  rw [ans_0 (n := n) (L := L) (self := self) (c := chunk) hc18r] at hS167
  refine ⟨(.slice none 0 0), rfl, hS167⟩

end Go.Proofs.Ytgjgmojjeehieaa
end

section
/- Steps of the proofs of this seat: part B5. -/
set_option linter.unusedSimpArgs false
set_option linter.unusedVariables false
set_option maxRecDepth 8000
set_option maxHeartbeats 4000000
namespace Go.Proofs.Ytgjgmojjeehieaa
open Go.Proofs Go.RowKit

section
variable {n : Nat} {L : List Ev} {e : Ev}
theorem add_id (h : addE n L e = 0) : idE e ∉ L.map idE := fun hm => by
  have h1 := getE_iff.2 hm
  unfold idE at h1
  rw [(add_zero h).2.1] at h1; cases h1
end
end Go.Proofs.Ytgjgmojjeehieaa
end

section
/- Steps of the proofs of this seat: part B8. -/
set_option linter.unusedSimpArgs false
set_option linter.unusedVariables false
set_option maxRecDepth 8000
set_option maxHeartbeats 4000000
namespace Go.Proofs.Ytgjgmojjeehieaa
open Go.Proofs Go.RowKit

section
variable {n : Nat} {S : List Ev} {j : Nat}
theorem laid_prefix (hG : Good n S) : ∀ (k : Nat), k ≤ S.length → laidL n (S.take k) = S.take k
  | 0, _ => rfl
  | k + 1, hk => by
    rw [take_snoc (by omega), laidL_snoc, laid_prefix hG k (by omega), addL_yes (hG.step (by omega) (hG.prefix k (by omega))), hG.ins_take (by omega), ← take_snoc (by omega)]
theorem cnt_take {i o : Nat} (h : j ≤ i) : cntE (S.take j) o ≤ cntE (S.take i) o := by
  unfold cntE
  have e : S.take j = (S.take i).take j := by rw [List.take_take, Nat.min_eq_left h]
  rw [e]
  exact List.Sublist.length_le ((List.take_sublist j (S.take i)).filter _)
theorem miss_at (hG : Good n S) (hj : j ≤ S.length) {i : Nat} (hi : i < S.length) : missE (vecE n (S.take j)) (S.getD i default) = decide (j ≤ i) := by
  obtain ⟨⟨h0, h1⟩, _⟩ := check_ok (hG.chk _ (getD_mem hi))
  have hv : vget (vecE n (S.take j)) (S.getD i default).origin = ((cntE (S.take j) (S.getD i default).origin.toNat : Nat) : Int) := by
    unfold vget
    rw [if_neg (by rw [vecE_len]; omega), vecE_at (by omega)]; omega
  unfold missE
  rw [hv]
  by_cases h : j ≤ i
  · have h2 := hG.seq_at hi
    have h3 := cnt_take (S := S) (o := (S.getD i default).origin.toNat) h
    rw [decide_eq_true h, decide_eq_true (by omega)]
  · have h2 := (hG.prefix j hj).seqle _ (take_mem (L := S) (i := i) (j := j) (by omega) hi)
    rw [decide_eq_false h, decide_eq_false (by omega)]
theorem miss_drop (hG : Good n S) (hj : j ≤ S.length) : S.filter (missE (vecE n (S.take j))) = S.drop j := by
  have h1 : (S.take j).filter (missE (vecE n (S.take j))) = [] := by
    rw [List.filter_eq_nil_iff]
    intro x hx
    obtain ⟨i, h1, h2, rfl⟩ := mem_take hx
    rw [miss_at hG hj h2]
    simpa using h1
  have h2 : (S.drop j).filter (missE (vecE n (S.take j))) = S.drop j := by
    rw [List.filter_eq_self]
    intro x hx
    obtain ⟨i, hi, rfl⟩ := List.getElem_of_mem hx
    rw [List.length_drop] at hi
    rw [List.getElem_drop, ← getD_at default (by omega), miss_at hG hj (by omega)]
    simp
  have key : (S.take j ++ S.drop j).filter (missE (vecE n (S.take j))) = S.drop j := by rw [List.filter_append, h1, h2, List.nil_append]
  rw [List.take_append_drop] at key; exact key
end
end Go.Proofs.Ytgjgmojjeehieaa
end

section
/- Plain laws of answers: what is fed is what was lacking; two sets meet. -/
set_option linter.unusedSimpArgs false
set_option linter.unusedVariables false
namespace Go.Proofs.Ytgjgmojjeehieaa

section
variable {n : Nat} {A B L S T U : List Ev} {e x y : Ev} {m : Nat}
/-- An event of a set can be added to another set that has all of the first that stands ahead of the event. -/
theorem Good.mono_add (h : Good n L) (ht : Good n T) (hc : ∀ x ∈ T, ∀ y ∈ L, idE x = idE y → x = y) (he : e ∈ L) (hne : e ∉ T) (hall : ∀ x ∈ L, cmpE x e < 0 → x ∈ T) : addE n T e = 0 := by
  have hck := h.chk e he
  obtain ⟨⟨ho, ho'⟩, ⟨hs1, _⟩, _, _⟩ := check_ok hck
  have hg : (getE T (e.origin, e.seq)).isSome = false := by
    cases hb : (getE T (e.origin, e.seq)).isSome with
    | false => rfl
    | true =>
      obtain ⟨x, _, hx, hid⟩ := getE_some hb
      exact absurd (hc x hx e he hid ▸ hx) hne
  have horg := h.org he
  have hseq : e.seq = ((cntE T e.origin.toNat : Nat) : Int) + 1 := by
    rcases Int.lt_trichotomy e.seq (((cntE T e.origin.toNat : Nat) : Int) + 1) with h1 | h1 | h1
    · have := ht.fill e.origin.toNat e.seq hs1 (by omega)
      rw [horg, hg] at this; cases this
    · exact h1
    · exfalso
      have h2 := h.seqle e he
      have h3 := h.fill e.origin.toNat (((cntE T e.origin.toNat : Nat) : Int) + 1) (by omega) (by omega)
      obtain ⟨y, _, hy, hid⟩ := getE_some h3
      have hyo : y.origin = e.origin := by have := congrArg Prod.fst hid; simpa [idE, horg] using this
      have hys : y.seq = ((cntE T e.origin.toNat : Nat) : Int) + 1 := congrArg Prod.snd hid
      have hyt := hall y hy (h.ahead hy he hyo (by omega))
      have := ht.seqle y hyt
      rw [hyo] at this
      omega
  refine add_0 hck hg hseq fun o hlt => ?_
  have hk := h.knw e he o hlt
  rw [knew_iff] at hk ⊢
  rcases hk with hk | ⟨x, hx, hl, hd⟩
  · exact .inl hk
  · obtain ⟨hx1, hx2, hx3⟩ := getE_mem hx
    have hxt := hall x hx1 (cmp_lam hl)
    refine .inr ⟨x, ?_, hl, hd⟩
    have := ht.get hxt
    rw [hx2, hx3] at this
    exact this
/-- Whether a set lacks an event of another one. -/
theorem miss_mem (hT : Good n T) (hx : checkE x n = 0) (hc : ∀ z ∈ T, idE z = idE x → z = x) : missE (vecE n T) x = true ↔ x ∉ T := by
  obtain ⟨⟨h0, h1⟩, ⟨h2, _⟩, _⟩ := check_ok hx
  have hv : vget (vecE n T) x.origin = ((cntE T x.origin.toNat : Nat) : Int) := by
    unfold vget
    rw [if_neg (by rw [vecE_len]; omega), vecE_at (by omega)]; omega
  unfold missE
  rw [hv, decide_eq_true_eq]
  constructor
  · intro h hm
    have := hT.seqle x hm
    omega
  · intro h
    rcases Int.lt_or_le (max 0 ((cntE T x.origin.toNat : Nat) : Int)) x.seq with h3 | h3
    · exact h3
    · exfalso
      have h4 := hT.fill x.origin.toNat x.seq h2 (by omega)
      obtain ⟨z, _, hz, hid⟩ := getE_some h4
      refine h (hc z hz ?_ ▸ hz)
      rw [hid]; unfold idE; congr 1; omega
def addsL (n : Nat) (L l : List Ev) : List Ev := l.foldl (addL n) L
theorem addsL_snoc {l : List Ev} : addsL n L (l ++ [e]) = addL n (addsL n L l) e := by unfold addsL; rw [List.foldl_append]; rfl
theorem addsL_step {l : List Ev} {k : Nat} (hk : k < l.length) : addL n (addsL n L (l.take k)) (l.getD k default) = addsL n L (l.take (k + 1)) := by rw [take_snoc hk, addsL_snoc]
theorem addsL_good {l : List Ev} (h : Good n L) : Good n (addsL n L l) := foldl_good h
theorem addsL_len {l : List Ev} : (addsL n L l).length ≤ L.length + l.length := foldl_len
theorem laidL_append {l : List Ev} : laidL n (A ++ l) = addsL n (laidL n A) l := by unfold laidL addsL; rw [List.foldl_append]
theorem laid_good (h : Good n L) : laidL n L = L := by have := laid_prefix h L.length (Nat.le_refl _); rwa [List.take_length] at this
/-- What a set gives to one that lacks it can be added, one behind the other. -/
theorem feed_inv (hU : Good n U) (hA : Part n U A) (hB : Part n U B) (C : List Ev) (hC : C = (B.filter (missE (vecE n A))).take m) :
    ∀ k, k ≤ C.length → Part n U (addsL n A (C.take k)) ∧ (∀ x, x ∈ addsL n A (C.take k) ↔ x ∈ A ∨ x ∈ C.take k) ∧ (addsL n A (C.take k)).length = A.length + k ∧ (k < C.length → addE n (addsL n A (C.take k)) (C.getD k default) = 0) := by
  have hsub : ∀ x ∈ C, x ∈ B ∧ x ∉ A := fun x hx => by
    rw [hC] at hx
    have h1 := List.mem_filter.1 (List.mem_of_mem_take hx)
    refine ⟨h1.1, (miss_mem hA.1 (hB.1.chk x h1.1) (fun z hz he => hU.uniq (hA.2 z hz) (hB.2 x h1.1) he)).1 h1.2⟩
  have hsrt : C.Pairwise fun a b => cmpE a b < 0 := by rw [hC]; exact (hB.1.srt.sublist List.filter_sublist).sublist (List.take_sublist ..)
  have hlt : ∀ {i j : Nat}, i < j → j < C.length → cmpE (C.getD i default) (C.getD j default) < 0 := fun {i j} hij hj => by
    rw [getD_at _ (by omega), getD_at _ hj]
    exact List.pairwise_iff_getElem.1 hsrt i j (by omega) hj hij
  have hfst : ∀ {k : Nat}, k < C.length → ∀ x ∈ B, x ∉ A → cmpE x (C.getD k default) < 0 → x ∈ C.take k := fun {k} hk x hx hxa hcl => by
    have hxF : x ∈ B.filter (missE (vecE n A)) := List.mem_filter.2 ⟨hx, (miss_mem hA.1 (hB.1.chk x hx) (fun z hz he => hU.uniq (hA.2 z hz) (hB.2 x hx) he)).2 hxa⟩
    obtain ⟨i, hi, rfl⟩ := List.getElem_of_mem hxF
    have hkF : k < (B.filter (missE (vecE n A))).length := by rw [hC, List.length_take] at hk; omega
    have hCk : C.getD k default = (B.filter (missE (vecE n A)))[k] := by rw [getD_at _ hk]; simp only [hC, List.getElem_take]
    rw [hCk] at hcl
    rcases Nat.lt_trichotomy i k with h1 | h1 | h1
    · have hiC : i < C.length := by omega
      have h2 : (B.filter (missE (vecE n A)))[i] = C.getD i default := by rw [getD_at _ hiC]; simp only [hC, List.getElem_take]
      rw [h2]; exact take_mem h1 hiC
    · subst h1; rw [cmpE_neg] at hcl; omega
    · have := List.pairwise_iff_getElem.1 (hB.1.srt.sublist List.filter_sublist) k i hkF hi h1
      exact absurd hcl (cmp_asym this)
  have hadd : ∀ {k : Nat}, k < C.length → Good n (addsL n A (C.take k)) → (∀ x, x ∈ addsL n A (C.take k) ↔ x ∈ A ∨ x ∈ C.take k) → addE n (addsL n A (C.take k)) (C.getD k default) = 0 := fun {k} hk hg hm => by
    have hCk := hsub _ (getD_mem (L := C) hk)
    refine hB.1.mono_add hg (fun x hx y hy he => ?_) hCk.1 (fun h => ?_) (fun x hx hc => ?_)
    · rcases (hm x).1 hx with h | h
      · exact hU.uniq (hA.2 x h) (hB.2 y hy) he
      · exact hU.uniq (hB.2 x (hsub x (List.mem_of_mem_take h)).1) (hB.2 y hy) he
    · rcases (hm _).1 h with h | h
      · exact hCk.2 h
      · obtain ⟨j, h1, h2, h3⟩ := mem_take h
        have := hlt h1 hk
        rw [← h3, cmpE_neg] at this; omega
    · by_cases hxa : x ∈ A
      · exact (hm x).2 (.inl hxa)
      · exact (hm x).2 (.inr (hfst hk x hx hxa hc))
  intro k
  induction k with
  | zero =>
    intro _
    have e0 : addsL n A (C.take 0) = A := rfl
    have hm0 : ∀ x, x ∈ addsL n A (C.take 0) ↔ x ∈ A ∨ x ∈ C.take 0 := fun x => by rw [e0]; simp
    exact ⟨hA, hm0, rfl, fun hk => hadd hk hA.1 hm0⟩
  | succ k ih =>
    intro hk
    obtain ⟨h1, h2, h3, h4⟩ := ih (by omega)
    have h0 := h4 (by omega)
    have es : addsL n A (C.take (k + 1)) = insE (C.getD k default) (addsL n A (C.take k)) := by rw [← addsL_step (by omega), addL_yes h0]
    have hm : ∀ x, x ∈ addsL n A (C.take (k + 1)) ↔ x ∈ A ∨ x ∈ C.take (k + 1) := fun x => by
      rw [es, insE_mem, h2, take_snoc (by omega), List.mem_append, List.mem_singleton]
      constructor
      · rintro (h | h | h)
        · exact .inr (.inr h)
        · exact .inl h
        · exact .inr (.inl h)
      · rintro (h | h | h)
        · exact .inr (.inl h)
        · exact .inr (.inr h)
        · exact .inl h
    have hg : Good n (addsL n A (C.take (k + 1))) := by rw [es]; exact h1.1.add h0
    refine ⟨⟨hg, fun x hx => ?_⟩, hm, by rw [es, insE_len, h3]; omega, fun hlt' => hadd hlt' hg hm⟩
    rcases (hm x).1 hx with h | h
    · exact hA.2 x h
    · exact hB.2 x (hsub x (List.mem_of_mem_take h)).1

/-- The union of two parts. -/
theorem union_inv (hS : Good n S) (hA : Part n S A) (hB : Part n S B) : ∀ k, k ≤ B.length → Part n S (addsL n A (B.take k)) ∧ (∀ x, x ∈ addsL n A (B.take k) ↔ x ∈ A ∨ x ∈ B.take k) := by
  intro k
  induction k with
  | zero => exact fun _ => ⟨hA, fun x => by show x ∈ A ↔ _; simp⟩
  | succ k ih =>
    intro hk
    obtain ⟨h1, h2⟩ := ih (by omega)
    have hkl : k < B.length := by omega
    have hin : ∀ x, x ∈ addL n (addsL n A (B.take k)) (B.getD k default) ↔ x = B.getD k default ∨ x ∈ addsL n A (B.take k) := fun x => by
      by_cases hm : B.getD k default ∈ addsL n A (B.take k)
      · have h0 : ¬ addE n (addsL n A (B.take k)) (B.getD k default) = 0 := fun h0 => add_id h0 (List.mem_map.2 ⟨_, hm, rfl⟩)
        rw [addL_no h0]
        exact ⟨.inr, fun h => h.elim (fun h => h ▸ hm) id⟩
      · have h0 : addE n (addsL n A (B.take k)) (B.getD k default) = 0 := by
          refine hB.1.mono_add h1.1 (fun x hx y hy he => hS.uniq (h1.2 x hx) (hB.2 y hy) he) (getD_mem hkl) hm (fun x hx hc => (h2 x).2 (.inr ?_))
          obtain ⟨j, hj, rfl⟩ := List.getElem_of_mem hx
          rw [← getD_at default hj] at hc ⊢
          rcases Nat.lt_trichotomy j k with h3 | h3 | h3
          · exact take_mem h3 hj
          · subst h3; rw [cmpE_neg] at hc; omega
          · exact absurd (hB.1.at_lt h3 hj) (cmp_asym hc)
        rw [addL_yes h0]; exact insE_mem
    rw [← addsL_step hkl]
    refine ⟨⟨h1.1.addL, fun x hx => ?_⟩, fun x => ?_⟩
    · rcases (hin x).1 hx with rfl | h
      · exact hB.2 _ (getD_mem hkl)
      · exact h1.2 x h
    · rw [hin, h2, take_snoc hkl, List.mem_append, List.mem_singleton]
      constructor
      · rintro (h | h | h)
        · exact .inr (.inr h)
        · exact .inl h
        · exact .inr (.inl h)
      · rintro (h | h | h)
        · exact .inr (.inl h)
        · exact .inr (.inr h)
        · exact .inl h
end

/-- Two sets on their way to all that either has. -/
structure Meet (n : Nat) (U A B : List Ev) : Prop where
  u : Good n U
  a : Part n U A
  b : Part n U B
  c : ∀ x ∈ U, x ∈ A ∨ x ∈ B
section
variable {n : Nat} {A B S U C D : List Ev} {m : Nat}
theorem Meet.start (hS : Good n S) (hA : Part n S A) (hB : Part n S B) : Meet n (laidL n (A ++ B)) A B := by
  have e : laidL n (A ++ B) = addsL n A (B.take B.length) := by rw [laidL_append, laid_good hA.1, List.take_length]
  obtain ⟨h1, h2⟩ := union_inv hS hA hB B.length (Nat.le_refl _)
  rw [e]
  rw [List.take_length] at h1 h2 ⊢
  exact ⟨h1.1, ⟨hA.1, fun x hx => (h2 x).2 (.inl hx)⟩, ⟨hB.1, fun x hx => (h2 x).2 (.inr hx)⟩, fun x hx => (h2 x).1 hx⟩
/-- What b gives a. -/
def giveL (n : Nat) (A B : List Ev) (m : Nat) : List Ev := (B.filter (missE (vecE n A))).take m
theorem Meet.symm (h : Meet n U A B) : Meet n U B A := ⟨h.u, h.b, h.a, fun x hx => (h.c x hx).symm⟩
theorem Meet.code (h : Meet n U A B) {j : Nat} (hj : j < (giveL n A B m).length) : addE n (addsL n A ((giveL n A B m).take j)) ((giveL n A B m).getD j default) = 0 :=
  (feed_inv h.u h.a h.b _ rfl j (Nat.le_of_lt hj)).2.2.2 hj
theorem Meet.fed (h : Meet n U A B) : Part n U (addsL n A (giveL n A B m)) ∧ (∀ x, x ∈ addsL n A (giveL n A B m) ↔ x ∈ A ∨ x ∈ giveL n A B m) ∧ (addsL n A (giveL n A B m)).length = A.length + (giveL n A B m).length := by
  obtain ⟨h1, h2, h3, _⟩ := feed_inv h.u h.a h.b (giveL n A B m) rfl _ (Nat.le_refl _)
  rw [List.take_length] at h1 h2 h3
  exact ⟨h1, h2, h3⟩
theorem Meet.turn (h : Meet n U A B) {m' : Nat} : Meet n U (addsL n A (giveL n A B m)) (addsL n B (giveL n B A m')) := by
  obtain ⟨a1, a2, _⟩ := h.fed (m := m)
  obtain ⟨b1, b2, _⟩ := h.symm.fed (m := m')
  exact ⟨h.u, a1, b1, fun x hx => (h.c x hx).imp (fun hx => (a2 x).2 (.inl hx)) (fun hx => (b2 x).2 (.inl hx))⟩
theorem Meet.len (h : Meet n U A B) : A.length ≤ U.length ∧ B.length ≤ U.length := ⟨part_len h.a, part_len h.b⟩
theorem give_sub (h : Meet n U A B) (hm : 0 < m) (h0 : (giveL n A B m).length = 0) : ∀ x ∈ B, x ∈ A := fun x hx => by
  by_cases hxa : x ∈ A
  · exact hxa
  · exfalso
    have h1 : x ∈ B.filter (missE (vecE n A)) := List.mem_filter.2 ⟨hx, (miss_mem h.a.1 (h.b.1.chk x hx) (fun z hz he => h.u.uniq (h.a.2 z hz) (h.b.2 x hx) he)).2 hxa⟩
    have h2 := List.length_pos_of_mem h1
    unfold giveL at h0
    rw [List.length_take] at h0
    omega
theorem Meet.fin (h : Meet n U A B) {m' : Nat} (hm : 0 < m) (hm' : 0 < m') (h1 : (giveL n A B m).length = 0) (h2 : (giveL n B A m').length = 0) : A = U ∧ B = U := by
  have s1 := give_sub h hm h1
  have s2 := give_sub h.symm hm' h2
  exact ⟨h.u.of_mem h.a.1 fun x => ⟨h.a.2 x, fun hx => (h.c x hx).elim id (s1 x)⟩, h.u.of_mem h.b.1 fun x => ⟨h.b.2 x, fun hx => (h.c x hx).elim (s2 x) id⟩⟩
theorem give_self (h : Good n U) : giveL n U U m = [] := by
  have := miss_drop h (Nat.le_refl U.length)
  rw [List.take_length, List.drop_length] at this
  unfold giveL; rw [this, List.take_nil]

/-- Events of messages, one behind the other. -/
def evsM (l : List Msg) : List Ev := l.flatMap Msg.evs
theorem evsM_take {l : List Msg} {i : Nat} (hi : i < l.length) : evsM (l.take (i + 1)) = evsM (l.take i) ++ (l.getD i default).evs := by
  unfold evsM
  rw [List.take_succ_eq_append_getElem hi, List.flatMap_append, getD_at _ hi]; simp
theorem evsM_split {l : List Msg} {i : Nat} (hi : i < l.length) : ∃ r, evsM l = evsM (l.take i) ++ (l.getD i default).evs ++ r := by
  refine ⟨evsM (l.drop (i + 1)), ?_⟩
  rw [← evsM_take hi]
  conv => lhs; rw [← List.take_append_drop (i + 1) l]
  unfold evsM; rw [List.flatMap_append]
theorem evsM_at {l : List Msg} {i k : Nat} (hi : i < l.length) (hk : k < (l.getD i default).evs.length) :
    (evsM (l.take i)).length + k < (evsM l).length ∧ (evsM l).take ((evsM (l.take i)).length + k) = evsM (l.take i) ++ (l.getD i default).evs.take k ∧ (evsM l).getD ((evsM (l.take i)).length + k) default = (l.getD i default).evs.getD k default := by
  obtain ⟨r, hr⟩ := evsM_split hi
  have hl := congrArg List.length hr
  simp only [List.length_append] at hl
  refine ⟨by omega, ?_, ?_⟩
  · rw [hr, List.append_assoc, List.take_length_add_append, List.take_append_of_le_length (by omega)]
  · rw [getD_at _ (by omega), getD_at _ hk]
    simp only [hr, List.append_assoc]
    rw [List.getElem_append_right (by omega), List.getElem_append_left (by omega)]
    congr 1; omega
theorem evsM_le {l : List Msg} {i : Nat} (hi : i ≤ l.length) : (evsM (l.take i)).length ≤ (evsM l).length := by
  conv => rhs; rw [← List.take_append_drop i l]
  unfold evsM; rw [List.flatMap_append, List.length_append]; omega
end

section
variable {n : Nat} {A B L : List Ev} {m : Msg} {self c : Int}
theorem evs_toL {f t : Int} {l : List Msg} : evsM (toL f t l) = evsM l := by
  unfold evsM toL
  rw [List.flatMap_map]; rfl
theorem ansL_k2 (hk : m.kind = 1 ∨ m.kind = 2) : ((!decide (m.kind = 1)) && (!decide (m.kind = 2))) = false := by rcases hk with h | h <;> simp [h]
theorem outL_evs : evsM (if (outL n L m c).length = 0 then [⟨4, self, m.frm, vecE n L, []⟩] else outL n L m c) = chunkL L m c := by
  by_cases h : 0 < (chunkL L m c).length
  · cases ha : askQ n L m
    · have o : outL n L m c = [⟨3, 0, 0, [], chunkL L m c⟩] := by unfold outL; rw [if_pos h, ha]; rfl
      rw [o]; simp [evsM]
    · have o : outL n L m c = [⟨3, 0, 0, [], chunkL L m c⟩, ⟨2, 0, 0, vecE n L, []⟩] := by unfold outL; rw [if_pos h, ha]; rfl
      rw [o]; simp [evsM]
  · have h0 : chunkL L m c = [] := List.length_eq_zero_iff.1 (by omega)
    cases ha : askQ n L m
    · have o : outL n L m c = [] := by unfold outL; rw [if_neg h, ha]; rfl
      rw [o, h0]; simp [evsM]
    · have o : outL n L m c = [⟨2, 0, 0, vecE n L, []⟩] := by unfold outL; rw [if_neg h, ha]; rfl
      rw [o, h0]; simp [evsM]
theorem ansL_evs (hk : m.kind = 1 ∨ m.kind = 2) : evsM (ansL n L self m c) = chunkL L m c := by
  rw [ansL_k (ansL_k2 hk), evs_toL, outL_evs]
theorem ansL_cases (hk : m.kind = 1 ∨ m.kind = 2) :
    ((0 < (chunkL L m c).length ∧ (askQ n L m = false ∧ ansL n L self m c = [⟨3, self, m.frm, [], chunkL L m c⟩] ∨ askQ n L m = true ∧ ansL n L self m c = [⟨3, self, m.frm, [], chunkL L m c⟩, ⟨2, self, m.frm, vecE n L, []⟩])) ∨
    ((chunkL L m c).length = 0 ∧ (askQ n L m = false ∧ ansL n L self m c = [⟨4, self, m.frm, vecE n L, []⟩] ∨ askQ n L m = true ∧ ansL n L self m c = [⟨2, self, m.frm, vecE n L, []⟩]))) := by
  have e : ansL n L self m c = toL self m.frm (if (outL n L m c).length = 0 then [⟨4, self, m.frm, vecE n L, []⟩] else outL n L m c) := by
    unfold ansL; rw [if_neg (by rcases hk with h | h <;> simp [h])]
  rw [e]
  unfold outL
  by_cases h : 0 < (chunkL L m c).length
  · refine .inl ⟨h, ?_⟩
    rw [if_pos h]
    cases askQ n L m
    · exact .inl ⟨rfl, rfl⟩
    · exact .inr ⟨rfl, rfl⟩
  · refine .inr ⟨by omega, ?_⟩
    rw [if_neg h]
    cases askQ n L m
    · exact .inl ⟨rfl, rfl⟩
    · exact .inr ⟨rfl, rfl⟩
/-- Of one's own vector nothing is asked. -/
theorem anyL_false {a b : List Int} {k : Nat} (h : ∀ i, i < k → ¬ vget a (i : Int) < vget b (i : Int)) : anyL a b k = false := by
  unfold anyL
  rw [List.any_eq_false]
  intro i hi
  simpa using h i (List.mem_range.1 hi)
theorem cmpV_le {a b : List Int} (h : ∀ i : Nat, ¬ vget b (i : Int) < vget a (i : Int)) : cmpV a b ≠ 2 ∧ cmpV a b ≠ 3 := by
  unfold cmpV
  rw [anyL_false (fun i _ => h i)]
  unfold fl
  cases anyL a b (max a.length b.length) <;> simp
theorem ask_le (h : ∀ i : Nat, ¬ vget (vecE n L) (i : Int) < vget m.vec (i : Int)) : askQ n L m = false := by
  obtain ⟨h1, h2⟩ := cmpV_le h
  unfold askQ
  simp [h1, h2]
theorem vget_at {o : Nat} (h : o < n) : vget (vecE n L) (o : Int) = ((cntE L o : Nat) : Int) := by
  unfold vget
  rw [if_neg (by rw [vecE_len]; omega), Int.toNat_natCast, vecE_at h]; omega
theorem vget_out {o : Nat} (h : n ≤ o) : vget (vecE n L) (o : Int) = 0 := by
  unfold vget
  rw [if_pos (.inr (by rw [vecE_len]; omega))]
theorem ask_take {S : List Ev} {j : Nat} (hv : m.vec = vecE n (S.take j)) : askQ n S m = false := by
  refine ask_le fun i => ?_
  rw [hv]
  by_cases hi : i < n
  · rw [vget_at hi, vget_at hi]
    have : cntE (S.take j) i ≤ cntE S i := by
      unfold cntE
      exact List.Sublist.length_le ((List.take_sublist j S).filter _)
    omega
  · rw [vget_out (by omega), vget_out (by omega)]; omega
theorem chunk_give (hv : m.vec = vecE n A) : chunkL B m c = giveL n A B (max 1 (min c 32)).toNat := by unfold chunkL missL giveL; rw [hv]
end
section
variable {n : Nat} {A B S U : List Ev} {self f t : Int}
theorem self_ans (hG : Good n U) {c : Int} : ansL n U self ⟨1, f, t, vecE n U, []⟩ c = [⟨4, self, f, vecE n U, []⟩] := by
  have hc : chunkL U ⟨1, f, t, vecE n U, []⟩ c = [] := by rw [chunk_give (A := U) rfl, give_self hG]
  have ha : askQ n U ⟨1, f, t, vecE n U, []⟩ = false := ask_take (j := U.length) (by rw [List.take_length])
  rcases ansL_cases (n := n) (L := U) (self := self) (c := c) (m := ⟨1, f, t, vecE n U, []⟩) (.inl rfl) with ⟨h, _⟩ | ⟨_, ⟨_, he⟩ | ⟨h, _⟩⟩
  · rw [hc] at h; exact absurd h (Nat.lt_irrefl 0)
  · exact he
  · rw [ha] at h; cases h
theorem ans_give {c : Int} : evsM (ansL n B self ⟨1, f, t, vecE n A, []⟩ c) = giveL n A B (max 1 (min c 32)).toNat := by
  rw [ansL_evs (.inl rfl), chunk_give (A := A) rfl]
theorem ans_giveM {c : Int} {m : Nat} (hm : m = (max 1 (min c 32)).toNat) : evsM (ansL n B self ⟨1, f, t, vecE n A, []⟩ c) = giveL n A B m := by rw [ans_give, hm]
theorem chunk_M {c : Nat} (h : 1 ≤ c) : ∃ m : Nat, m = (max 1 (min ((c : Nat) : Int) 32)).toNat ∧ 0 < m ∧ m ≤ c := ⟨_, rfl, by omega, by omega⟩
theorem give_le {m : Nat} : (giveL n A B m).length ≤ m ∧ (giveL n A B m).length ≤ B.length := by
  have := List.length_filter_le (missE (vecE n A)) B
  unfold giveL; rw [List.length_take]; omega
theorem Meet.la (h : Meet n U A B) (hu : U.length ≤ 120) : A.length ≤ 1000000 := by have := h.len; omega
theorem Meet.lb (h : Meet n U A B) (hu : U.length ≤ 120) : B.length ≤ 1000000 := by have := h.len; omega
theorem Meet.lu (hu : U.length ≤ 120) : U.length ≤ 1000000 := by omega
theorem Meet.lf (h : Meet n U A B) (hu : U.length ≤ 120) {m : Nat} : A.length + (giveL n A B m).length ≤ 1000000 := by
  have h1 := h.len
  have h2 := (give_le (n := n) (A := A) (B := B) (m := m)).2
  omega
theorem give_lt {m c : Nat} (hm : m ≤ c) : ¬ ((c : Nat) : Int) < (((giveL n A B m).length : Nat) : Int) := by
  have h2 := (give_le (n := n) (A := A) (B := B) (m := m)).1
  omega
theorem Meet.prog (h : Meet n U A B) {m i t : Nat} (hp : i + t ≤ A.length + B.length) (hn : ¬ (((giveL n A B m).length : Nat) : Int) + (((giveL n B A m).length : Nat) : Int) = 0) : i + (t + 1) ≤ (addsL n A (giveL n A B m)).length + (addsL n B (giveL n B A m)).length := by
  have h1 := h.fed (m := m)
  have h2 := h.symm.fed (m := m)
  omega
theorem Meet.fin2 (h : Meet n U A B) {m : Nat} (hm : 0 < m) (h1 : (giveL n A B m).length = 0) (h2 : (giveL n B A m).length = 0) : addsL n A (giveL n A B m) = U ∧ addsL n B (giveL n B A m) = U := by
  obtain ⟨h3, h4⟩ := h.fin hm hm h1 h2
  rw [List.length_eq_zero_iff.1 h1, List.length_eq_zero_iff.1 h2]
  exact ⟨h3, h4⟩
end
end Go.Proofs.Ytgjgmojjeehieaa
end

section
/- Rows, of whose elements some have memory of their own, and others lie in what is lent. -/
set_option linter.unusedSimpArgs false
set_option linter.unusedVariables false
set_option linter.unusedSectionVars false
namespace Go.Proofs.Ytgjgmojjeehieaa
open Go.RowKit

theorem ov_as {P : Program} {o : Oper} {σ : Env} {w : World} {K : Value → World → Prop} {v v' : Value} (h : v = v') (hop : ∀ K' : Value → World → Prop, K' v w → opV P o σ w K') (hK : K v' w) : opV P o σ w K := by subst h; exact hop K hK
def alt {α : Type} [Rep α] (F : Nat → Prop) (W : World) : Src α :=
  ⟨fun cs x => ⟨fun w f => ((own (α := α)).el cs x).p w f ∨ Rep.rd W F cs x, fun h hf => h.imp (fun h => ((own (α := α)).el cs x).loc h hf) id⟩, fun {w f cs x} h => h.elim (fun h => (own (α := α)).len (w := w) (f := f) h) Rep.len, fun {w f cs x} h => h.elim (fun h => (own (α := α)).one (w := w) (f := f) h) Rep.one⟩
section
variable {α : Type} [Rep α] {G : Nat → Prop} {W w : World} {As : List HP} {T : TypeId} {v : Value} {l : List α}
/-- Read: a row of whose elements some are lent. -/
theorem RowE.rdAlt {F f : Nat → Prop} (h : (RowE (alt (α := α) F W) T v l).p w f) (hb : Base F W f w) : RdS w f v l := RowE.rdG h (fun _ h => h) (fun cs x h => h.elim (fun h => Rep.mono h (fun b hb _ => ⟨rfl, hb.1⟩)) (fun h => Rep.mono h hb))
theorem Sep.toAlt (F : Nat → Prop) (W0 : World) (h : Sep G W (RowE (own (α := α)) T v l :: As) w) : Sep G W (RowE (alt F W0) T v l :: As) w := h.impl (i := 0) rfl (fun f hA => by
  obtain ⟨css, hE, hown, hrow, hsm⟩ := hA
  exact ⟨css, hE.mono (fun cs x h => Or.inl h), hown, hrow, hsm⟩)
/-- A block of two elements, whose memory goes along. -/
theorem Sep.rowOf2 {b : Nat} {c : Array Value} {N1 N2 : HP} {cs1 cs2 : List Value} {x1 x2 : α} (h : Sep G W (Blk b c T :: N1 :: N2 :: As) w) (hc : cs1 ++ (cs2 ++ []) = c.toList)
    (h1 : ∀ w f, N1.p w f → ((own (α := α)).el cs1 x1).p w f) (h2 : ∀ w f, N2.p w f → ((own (α := α)).el cs2 x2).p w f) (hs : 2 * Rep.bytes α ≤ 140737488355328) :
    Sep G W (RowE (own (α := α)) T (.slice (some ⟨b, 0, none⟩) 2 2) [x1, x2] :: As) w := by
  have hst := h.closeStar (Bs := [Blk b c T, N1, N2])
  refine hst.impl (i := 0) rfl (fun f hA => ?_)
  obtain ⟨fs, q1, q2⟩ := hA
  obtain ⟨⟨hb, hf0⟩, hl0⟩ := q1 0 _ rfl
  obtain ⟨hN1, hl1⟩ := q1 1 _ rfl
  obtain ⟨hN2, hl2⟩ := q1 2 _ rfl
  have d1 : ∀ b', fs 1 b' → b ≠ b' := fun b' hb' e => q2 0 1 (by simp) (by simp) (by decide) b hf0 (e ▸ hb')
  have d2 : ∀ b', fs 2 b' → b ≠ b' := fun b' hb' e => q2 0 2 (by simp) (by simp) (by decide) b hf0 (e ▸ hb')
  have k1 := (own (α := α)).len (h1 _ _ hN1)
  have k2 := (own (α := α)).len (h2 _ _ hN2)
  refine ⟨[cs1, cs2], ⟨((own (α := α)).el cs1 x1).weak (h1 _ _ hN1) (fun b' hb' _ => ⟨(hl1 b' hb').1, fun e => d1 b' hb' (by simpa [Value.ownBlock] using e)⟩), ((own (α := α)).el cs2 x2).weak (h2 _ _ hN2) (fun b' hb' _ => ⟨(hl2 b' hb').1, fun e => d2 b' hb' (by simpa [Value.ownBlock] using e)⟩), trivial⟩, ?_, fun b' hb' => ?_, hs⟩
  · have hl : ([cs1, cs2] : List (List Value)).flatten.length = 2 * Rep.k α := by simp [k1, k2]; omega
    refine ⟨hl, .inr ⟨b, 2, c, rfl, Nat.zero_le _, hb, Nat.le_refl _, by decide, ?_, ?_⟩⟩
    · show c.size = _
      rw [← Array.length_toList, ← hc]; exact hl
    · show c.toList.take _ = _
      rw [← hc]
      exact List.take_of_length_le (by simp [k1, k2]; omega)
  · simp only [Value.ownBlock, Option.some.injEq] at hb'; subst hb'; exact (hl0 b hf0).1
end
end Go.Proofs.Ytgjgmojjeehieaa
end
