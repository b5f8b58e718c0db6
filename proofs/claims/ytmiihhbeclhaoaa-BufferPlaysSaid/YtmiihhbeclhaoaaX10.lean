/- Texts of this claim, part 10. -/
import Derived.Test.YtmiihhbeclhaoaaX9
set_option linter.unusedSimpArgs false
set_option linter.unusedVariables false
set_option linter.unusedSectionVars false
section
/- Steps of the proofs of this seat: part B5. -/
set_option linter.unusedSimpArgs false
set_option linter.unusedVariables false
set_option maxRecDepth 8000
set_option maxHeartbeats 4000000
namespace Go.Proofs.Ytmiihhbeclhaoaa
open Go.Proofs Go.RowKit

section
variable {n : Nat} {L : List Ev} {e : Ev}
theorem lt_asym {a b : Ev} (h : ltE a b = true) : ltE b a = false := by
  cases hb : ltE b a with
  | false => rfl
  | true => exact absurd (lt_cmp.1 hb) (cmp_asym (lt_cmp.1 h))
theorem lt_tot {a b : Ev} (h : idE a ≠ idE b) (h2 : ¬ ltE a b = true) : ltE b a = true := by
  rcases cmp_total h with h3 | h3
  · exact absurd (lt_cmp.2 h3) h2
  · exact lt_cmp.2 h3
theorem ins_at : ∀ {L : List Ev} {k : Nat}, idE e ∉ L.map idE → k ≤ L.length → (∀ j, j < k → ltE (L.getD j default) e = true) → (k < L.length → ltE (L.getD k default) e = false) → insE e L = (L.take k ++ [e]) ++ L.drop k
  | [], k, _, hk, _, _ => by
    have : k = 0 := by simpa using hk
    subst this; rfl
  | x :: l, 0, hn, _, _, h => by
    have h1 := h (Nat.succ_pos _)
    have hne : idE x ≠ idE e := fun he => hn (by rw [← he]; exact List.mem_map.2 ⟨x, List.mem_cons_self .., rfl⟩)
    have h2 : ltE e x = true := lt_tot hne (by simpa using h1)
    simp only [insE]
    rw [if_pos h2]; rfl
  | x :: l, k + 1, hn, hk, hp, h => by
    have h1 := hp 0 (Nat.succ_pos _)
    have h2 : ¬ ltE e x = true := by rw [lt_asym (by simpa using h1)]; decide
    simp only [insE]
    rw [if_neg h2, ins_at (L := l) (k := k) (fun hm => hn (List.mem_cons_of_mem _ hm)) (by simpa using hk) (fun j hj => by simpa using hp (j + 1) (Nat.succ_lt_succ hj)) (fun hl => by simpa using h (Nat.succ_lt_succ hl))]
    rfl
end
end Go.Proofs.Ytmiihhbeclhaoaa
end

section
/- Steps of the proofs of this seat: part B6. -/
set_option linter.unusedSimpArgs false
set_option linter.unusedVariables false
set_option maxRecDepth 8000
set_option maxHeartbeats 4000000
namespace Go.Proofs.Ytmiihhbeclhaoaa
open Go.Proofs Go.RowKit

section
variable {n : Nat} {L T : List Ev} {e x : Ev}
theorem ins_end : ∀ {T : List Ev}, (∀ x ∈ T, cmpE x e < 0) → insE e T = T ++ [e]
  | [], _ => rfl
  | x :: l, h => by
    have h1 := h x (List.mem_cons_self ..)
    have h2 : ¬ ltE e x = true := fun h3 => cmp_asym h1 (lt_cmp.1 h3)
    simp only [insE]
    rw [if_neg h2, ins_end fun y hy => h y (List.mem_cons_of_mem _ hy)]; rfl
theorem Good.at_lt (h : Good n L) {i j : Nat} (hij : i < j) (hj : j < L.length) : cmpE (L.getD i default) (L.getD j default) < 0 := by
  rw [getD_at _ (by omega), getD_at _ hj]
  exact List.pairwise_iff_getElem.1 h.srt i j (by omega) hj hij
theorem mem_take {i : Nat} (hx : x ∈ L.take i) : ∃ j, j < i ∧ j < L.length ∧ x = L.getD j default := by
  obtain ⟨j, hj, rfl⟩ := List.getElem_of_mem hx
  rw [List.length_take] at hj
  refine ⟨j, by omega, by omega, ?_⟩
  rw [getD_at _ (by omega), List.getElem_take]
theorem getD_mem {i : Nat} (hi : i < L.length) : L.getD i default ∈ L := by rw [getD_at _ hi]; exact List.getElem_mem hi
theorem take_mem {i j : Nat} (hi : i < j) (hj : i < L.length) : L.getD i default ∈ L.take j := by
  rw [getD_at _ hj]
  exact List.mem_take_iff_getElem.2 ⟨i, by omega, rfl⟩
theorem Good.step (h : Good n L) {i : Nat} (hi : i < L.length) (ht : Good n (L.take i)) : addE n (L.take i) (L.getD i default) = 0 := by
  refine h.sub_add ht (fun x hx => List.mem_of_mem_take hx) (getD_mem hi) (fun hm => ?_) (fun x hx hlt => ?_)
  · obtain ⟨j, h1, h2, h3⟩ := mem_take hm
    have := h.at_lt h1 hi
    rw [← h3] at this
    rw [cmpE_neg] at this; omega
  · obtain ⟨j, hj, rfl⟩ := List.getElem_of_mem hx
    rw [← getD_at default hj] at hlt ⊢
    rcases Nat.lt_trichotomy j i with h1 | h1 | h1
    · exact take_mem h1 hj
    · subst h1; rw [cmpE_neg] at hlt; omega
    · exact absurd (h.at_lt h1 hj) (cmp_asym hlt)
theorem take_snoc {i : Nat} (hi : i < L.length) : L.take (i + 1) = L.take i ++ [L.getD i default] := by
  rw [List.take_succ_eq_append_getElem hi, getD_at _ hi]
theorem Good.ins_take (h : Good n L) {i : Nat} (hi : i < L.length) : insE (L.getD i default) (L.take i) = L.take (i + 1) := by
  rw [take_snoc hi]
  refine ins_end fun x hx => ?_
  obtain ⟨j, h1, h2, rfl⟩ := mem_take hx
  exact h.at_lt h1 hi
theorem Good.upto (h : Good n L) : ∀ (i : Nat), i ≤ L.length → Good n (L.take i)
  | 0, _ => Good.nil
  | i + 1, hi => by
    have ht := h.upto i (by omega)
    rw [← h.ins_take hi]
    exact ht.add (h.step hi ht)
theorem vec_snoc (h : Good n L) {i : Nat} (hi : i < L.length) : (vecE n (L.take i)).set (L.getD i default).origin.toNat ((vecE n (L.take i)).getD (L.getD i default).origin.toNat 0 + 1) = vecE n (L.take (i + 1)) := by
  obtain ⟨⟨h0, h1⟩, _⟩ := check_ok (h.chk _ (getD_mem hi))
  rw [vecE_at (by omega), vec_ins h0 h1, h.ins_take hi]
theorem Good.chk_at (h : Good n L) {i : Nat} (hi : i < L.length) : (0 ≤ (L.getD i default).origin ∧ (L.getD i default).origin < n) ∧ (L.getD i default).deps.length = n := by
  obtain ⟨h0, _, h2, _⟩ := check_ok (h.chk _ (getD_mem hi))
  exact ⟨h0, h2⟩
end
end Go.Proofs.Ytmiihhbeclhaoaa
end

section
/- Rows, of whose elements some have memory of their own, and others lie in what is lent. -/
set_option linter.unusedSimpArgs false
set_option linter.unusedVariables false
set_option linter.unusedSectionVars false
namespace Go.Proofs.Ytmiihhbeclhaoaa
open Go.RowKit

theorem ov_as {P : Program} {o : Oper} {σ : Env} {w : World} {K : Value → World → Prop} {v v' : Value} (h : v = v') (hop : ∀ K' : Value → World → Prop, K' v w → opV P o σ w K') (hK : K v' w) : opV P o σ w K := by subst h; exact hop K hK
def alt {α : Type} [Rep α] (F : Nat → Prop) (W : World) : Src α :=
  ⟨fun cs x => ⟨fun w f => ((own (α := α)).el cs x).p w f ∨ Rep.rd W F cs x, fun h hf => h.imp (fun h => ((own (α := α)).el cs x).loc h hf) id⟩, fun {w f cs x} h => h.elim (fun h => (own (α := α)).len (w := w) (f := f) h) Rep.len, fun {w f cs x} h => h.elim (fun h => (own (α := α)).one (w := w) (f := f) h) Rep.one⟩
section
variable {α : Type} [Rep α] {G : Nat → Prop} {W w : World} {As : List HP} {T : TypeId} {v : Value} {l : List α}
/-- A row is lent, and a row that has some of its elements takes its place. -/
theorem Sep.lendA (h : Sep G W (RowE (own (α := α)) T v l :: As) w) : ∃ F G' : Nat → Prop, RdS w F v l ∧ Base F w G' w ∧ Base G W G' w ∧ Sep G' w As w ∧
    (∀ (T' : TypeId) (v' : Value) (l' : List α) (Cs : List HP) (w' : World), Sep G' w (RowE (alt F w) T' v' l' :: Cs) w' → Sep G W (RowE (own (α := α)) T' v' l' :: Cs) w') := by
  obtain ⟨fs, h1, h2⟩ := h.parts
  obtain ⟨hA, hl⟩ := h1 0 _ rfl
  refine ⟨fun b => fs 0 b ∧ Soft w b, fun b => G b ∨ fs 0 b, RowE.soft hA, fun b hb _ => ⟨rfl, .inr hb.1⟩, fun b hb hlt => ⟨(h.kept.keep b hb).2, .inl hb⟩, ⟨Kept.refl (fun b hb => ?_), fun i => fs (i + 1), fun i C hC => ?_, fun i j hi hj hne => ?_⟩, fun T' v' l' Cs w' hC => ?_⟩
  · rcases hb with hb | hb
    · have := (h.kept.keep b hb).1; have := h.kept.size; omega
    · exact (hl b hb).2
  · obtain ⟨h3, h4⟩ := h1 (i + 1) C (by simpa using hC)
    have hi := (List.getElem?_eq_some_iff.1 hC).1
    exact ⟨h3, fun b hb => ⟨fun hg => hg.elim (h4 b hb).1 (fun h0 => h2 0 (i + 1) (by simp) (by simp; omega) (by omega) b h0 hb), (h4 b hb).2⟩⟩
  · exact h2 _ _ (by simp; omega) (by simp; omega) (by omega)
  · obtain ⟨gs, g1, g2⟩ := hC.parts
    have hkA : ∀ b, fs 0 b → w'.heap[b]? = w.heap[b]? := fun b hb => (hC.kept.keep b (.inr hb)).2
    have old : ∀ j, j < Cs.length + 1 → ∀ b, gs j b → ¬ fs 0 b := fun j hj b hb h0 => ((g1 j _ (List.getElem?_eq_getElem (by simpa using hj))).2 b hb).1 (.inr h0)
    refine ⟨⟨hC.kept.os.trans h.kept.os, hC.kept.tape.trans h.kept.tape, hC.kept.output.trans h.kept.output, Nat.le_trans h.kept.size hC.kept.size, Nat.le_trans h.kept.drawn hC.kept.drawn, fun b hb => ⟨(h.kept.keep b hb).1, ((hC.kept.keep b (.inl hb)).2).trans (h.kept.keep b hb).2⟩⟩,
      fun i b => match i with | 0 => gs 0 b ∨ fs 0 b | i + 1 => gs (i + 1) b, fun i D hD => ?_, fun i j hi hj hne b hb => ?_⟩
    · cases i with
      | zero =>
        simp only [List.getElem?_cons_zero, Option.some.injEq] at hD
        subst hD
        obtain ⟨⟨css, hE, hown, hrow, hsm⟩, h4⟩ := g1 0 _ rfl
        refine ⟨⟨css, hE.mono (fun cs x hx => ?_), hown, fun b hb => .inl (hrow b hb), hsm⟩, fun b hb => ?_⟩
        · rcases hx with hx | hx
          · exact ((own (α := α)).el cs x).weak hx (fun b hb _ => ⟨.inl hb.1, hb.2⟩)
          · exact Rep.mono hx (fun b hb hlt => ⟨hkA b hb.1, ⟨.inr hb.1, fun e => old 0 (Nat.succ_pos _) b (hrow b e) hb.1⟩, hb.2.keep (hkA b hb.1)⟩)
        · rcases hb with hb | hb
          · exact ⟨fun hg => (h4 b hb).1 (.inl hg), (h4 b hb).2⟩
          · exact ⟨(hl b hb).1, Nat.lt_of_lt_of_le (hl b hb).2 hC.kept.size⟩
      | succ i =>
        obtain ⟨h3, h4⟩ := g1 (i + 1) D hD
        exact ⟨h3, fun b hb => ⟨fun hg => (h4 b hb).1 (.inl hg), (h4 b hb).2⟩⟩
    · simp only [List.length_cons] at hi hj
      cases i with
      | zero =>
        cases j with
        | zero => exact (hne rfl).elim
        | succ j =>
          intro hb2
          rcases hb with hb | hb
          · exact g2 0 (j + 1) (by simp) (by simpa using hj) (by omega) b hb hb2
          · exact old (j + 1) hj b hb2 hb
      | succ i =>
        cases j with
        | zero =>
          rintro (hb2 | hb2)
          · exact g2 (i + 1) 0 (by simpa using hi) (by simp) (by omega) b hb hb2
          · exact old (i + 1) hi b hb hb2
        | succ j => exact g2 (i + 1) (j + 1) (by simpa using hi) (by simpa using hj) hne b hb
end
theorem RdS.evD {w : World} {F : Nat → Prop} {v : Value} {l : List Ev} {i : Nat} (h : RdS w F v l) (hi : i < l.length) : Rep.rd w F ((l.getD i default).cells (cellV w (sb v) (so v + i * 10 + 3))) (l.getD i default) := by
  obtain ⟨_, h1, h2⟩ := h.ev hi
  rw [getD_at default hi]
  exact ⟨_, rfl, h1, h2⟩
end Go.Proofs.Ytmiihhbeclhaoaa
end

section
/- Steps of the proofs of this seat: part R1. -/
set_option linter.unusedSimpArgs false
set_option linter.unusedVariables false
set_option maxRecDepth 8000
set_option maxHeartbeats 4000000
namespace Go.Proofs.Ytmiihhbeclhaoaa
open Go.Proofs Go.RowKit

/-- The document's set: how many replicas; the events, in order. -/
def RefS (b n : Nat) (L : List Ev) : HP := Ex1 fun vl => Star [Blk b #[.int .i64 ((n : Nat) : Int), vl] 78, RowE (α := Ev) own 36 vl L]
section
variable {G : Nat → Prop} {W w : World} {As : List HP} {b n : Nat} {L : List Ev}
theorem RefS.open (h : Sep G W (RefS b n L :: As) w) : ∃ vl, Sep G W (Blk b #[.int .i64 ((n : Nat) : Int), vl] 78 :: RowE (α := Ev) own 36 vl L :: As) w := by
  obtain ⟨vl, h⟩ := h.openEx
  exact ⟨vl, h.openStar⟩
theorem RefS.close {vl : Value} (h : Sep G W (Blk b #[.int .i64 ((n : Nat) : Int), vl] 78 :: RowE (α := Ev) own 36 vl L :: As) w) : Sep G W (RefS b n L :: As) w := Sep.closeEx (A := fun vl => Star [Blk b #[.int .i64 ((n : Nat) : Int), vl] 78, RowE (α := Ev) own 36 vl L]) vl (Sep.closeStar (Bs := [Blk b #[.int .i64 ((n : Nat) : Int), vl] 78, RowE (α := Ev) own 36 vl L]) h)
theorem RefS.sh (h : (RefS b n L).p W G) : ∃ vl, (Blk b #[.int .i64 ((n : Nat) : Int), vl] 78).p W G ∧ RdS W G vl L := by
  obtain ⟨vl, h⟩ := h
  exact ⟨vl, Star.at_ h (i := 0) rfl, RowE.rd (T := 36) (Star.at_ h (i := 1) rfl)⟩
end
theorem D_rNew {G : Nat → Prop} {W w : World} {Rs : List HP} {n : Nat} (hn : n ≤ 1000) (hS0 : Sep G W Rs w) : Ret Try.prog 21 [.int .i64 ((n : Nat) : Int)] w (fun r w' => ∃ (b : Nat), r = (.pointer (some ⟨b, 0, none⟩) : Value) ∧ Sep G W ((RefS b n ([] : List Ev)) :: Rs) w') := by
 refine Calls_of_WP (args := [.int .i64 ((n : Nat) : Int)]) Try.func21 rfl rfl ?_
 refine WP_seq ?_
 refine WP_region0 (by kernel_rfl) (fun _ => ?_)
 refine st (ov_assign (v := .pointer none) rfl ?_)
 refine st_nil ?_
 refine WP_seq ?_
 refine WP_region0 (by kernel_rfl) (fun _ => ?_)
 refine st (ov_move (v := .int .i64 ((n : Nat) : Int)) rfl ?_)
 refine st (ov_build (parts' := [(0, .int .i64 ((n : Nat) : Int))]) (v := .agg #[.int .i64 ((n : Nat) : Int), (.slice none 0 0)]) rfl (by simp [Instr.build, Instr.fill, go_sem]) ?_)
 refine st (ov_box (v := .agg #[.int .i64 ((n : Nat) : Int), (.slice none 0 0)]) rfl ?_)
 intro w3 b2 hn1
 have hS4 : Sep G W ((Blk b2 #[.int .i64 ((n : Nat) : Int), (.slice none 0 0)] 78) :: Rs) w3 := hS0.new hn1
 refine st (ov_assign (v := .pointer (some ⟨b2, 0, none⟩)) rfl ?_)
 refine st_nil ?_
 refine WP_ret ?_
 refine fin1 Try.results21 (show _ = (.pointer (some ⟨b2, 0, none⟩) : Value) from rfl) ?_
 have hS5 : Sep G W ((RowE (α := Ev) own 36 (.slice none 0 0) ([] : List Ev)) :: (Blk b2 #[.int .i64 ((n : Nat) : Int), (.slice none 0 0)] 78) :: Rs) w3 := hS4.rowNil own 36
 have hS6 : Sep G W ((Blk b2 #[.int .i64 ((n : Nat) : Int), (.slice none 0 0)] 78) :: (RowE (α := Ev) own 36 (.slice none 0 0) ([] : List Ev)) :: Rs) w3 := hS5.sel 2 [1, 0] (Nat.le_add_left _ _) rfl rfl
 have hS7 : Sep G W ((RefS b2 n ([] : List Ev)) :: Rs) w3 := RefS.close (n := n) (L := ([] : List Ev)) hS6
 refine ⟨b2, rfl, hS7⟩

section
variable {L : List Ev} {o q : Int} {k : Nat}
theorem get_hit (hm : ∀ i, i < k → ¬ ((L.getD i default).origin = o ∧ (L.getD i default).seq = q)) (hk : k < L.length) (h : (L.getD k default).origin = o ∧ (L.getD k default).seq = q) : getE L (o, q) = some (L.getD k default) := by
  unfold getE
  rw [List.find?_eq_some_iff_getElem, getD_at _ hk]
  rw [getD_at _ hk] at h
  refine ⟨by simpa using h, k, hk, rfl, fun i hi => ?_⟩
  have := hm i hi
  rw [getD_at _ (by omega)] at this
  rw [decide_eq_false this]; rfl
theorem get_none (hm : ∀ i, i < L.length → ¬ ((L.getD i default).origin = o ∧ (L.getD i default).seq = q)) : getE L (o, q) = none := by
  unfold getE
  rw [List.find?_eq_none]
  intro x hx
  obtain ⟨i, hi, rfl⟩ := List.getElem_of_mem hx
  have := hm i hi
  rw [getD_at _ hi] at this
  rw [decide_eq_false this]; decide
end
theorem fd78_1 {d : Option Tmp} {ty : TypeId} {pos : String} {af : Array Edge} {g : Option (Nat × Bool)} {σ : Env} {w : World} {K : Value → World → Prop} {x : Operand} {b o : Nat} (hx : ev σ x = .pointer (some ⟨b, o, none⟩)) (h : K (.pointer (some ⟨b, o + 1, none⟩)) w) : opV Try.prog ⟨d, .fieldAddr 78 x 1, ty, pos, af, g⟩ σ w K := ov_fieldAddr Try.underlying78 rfl rfl (fun w => ⟨0, Try.sizeOf22 w⟩) hx h
theorem D_rGet {G : Nat → Prop} {W w : World} {Rs : List HP} {b : Nat} {n : Nat} {L : List Ev} (hb : (RefS b n L).p W G) {o q : Int} (ho : InR o) (hq : InR q) (hS0 : Sep G W Rs w) : Ret Try.prog 53 [.pointer (some ⟨b, 0, none⟩), .agg #[.int .i64 (o), .int .i64 (q)]] w (fun r w' => ∃ (v : Value), r = (.tuple #[.agg (((getE L (o, q)).getD default).cells v).toArray, .bool (getE L (o, q)).isSome] : Value) ∧ (((getE L (o, q)).getD default).Ok) ∧ Sep G W ((RowE (α := Int) own 3 v (((getE L (o, q)).getD default).deps)) :: Rs) w') := by
 refine Calls_of_WP (args := [.pointer (some ⟨b, 0, none⟩), .agg #[.int .i64 (o), .int .i64 (q)]]) Try.func53 rfl rfl ?_
 obtain ⟨vl1, hb2, hl3⟩ := RefS.sh hb
 have hsm4 : L.length * 96 ≤ 140737488355328 := hl3.small
 refine WP_seq ?_
 refine WP_region0 (by kernel_rfl) (fun _ => ?_)
 refine st (ov_box (v := .agg #[.int .i64 (o), .int .i64 (q)]) rfl ?_)
 intro w7 b6 hn5
 have hS8 : Sep G W ((Blk b6 #[.int .i64 (o), .int .i64 (q)] 33) :: Rs) w7 := hS0.new hn5
 refine st (ov_alloc Try.zeroValue36 ?_)
 intro w11 b10 hn9
 have hS12 : Sep G W ((Blk b10 #[.int .i64 (0), .int .i64 (0), .int .i64 (0), (.slice none 0 0), .int .i64 (0), .int .i64 (0), .int .i64 (0), .int .i64 (0), .int .i64 (0), .int .i64 (0)] 36) :: (Blk b6 #[.int .i64 (o), .int .i64 (q)] 33) :: Rs) w11 := hS8.new hn9
 refine st (ov_assign (v := .bool false) rfl ?_)
 refine st_nil ?_
 refine WP_seq ?_
 refine WP_seq ?_
 refine WP_region0 (by kernel_rfl) (fun _ => ?_)
 refine st (ov_assign (v := .int .i64 (0)) rfl ?_)
 refine st_nil ?_
 refine WP_block ?_
 refine WP_loop (fun mq σ wq => ∃ (k : Nat) (ρ : Env), mq = L.length - k ∧ σ = setAll ρ [(3, .pointer (some ⟨b6, 0, none⟩)), (4, .pointer (some ⟨b10, 0, none⟩)), (0, .pointer (some ⟨b, 0, none⟩)), (6, .int .i64 ((k : Nat) : Int))] ∧ (k ≤ L.length) ∧ (∀ i, i < k → ¬ ((L.getD i default).origin = o ∧ (L.getD i default).seq = q)) ∧ Sep G W ((Blk b10 #[.int .i64 (0), .int .i64 (0), .int .i64 (0), (.slice none 0 0), .int .i64 (0), .int .i64 (0), .int .i64 (0), .int .i64 (0), .int .i64 (0), .int .i64 (0)] 36) :: (Blk b6 #[.int .i64 (o), .int .i64 (q)] 33) :: Rs) wq) ⟨0, _, rfl, setAll_self ⟨rfl, rfl, rfl, rfl, trivial⟩, Nat.zero_le _, (fun i h => absurd h (Nat.not_lt_zero i)), hS12⟩ ?_
 rintro m14 σ15 w13 ⟨k, ρl1, rfl, rfl, hkk, hm, hS16⟩
 refine WP_seq ?_
 refine WP_seq ?_
 refine WP_region0 (by kernel_rfl) (fun _ => ?_)
 refine st (ov_move (v := .int .i64 ((k : Nat) : Int)) rfl ?_)
 refine st (ov_move (v := .pointer (some ⟨b, 0, none⟩)) rfl ?_)
 refine st (ov_nilCheck (b := b) (o := 0) rfl ?_)
 refine st (fd78_1 rfl ?_)
 refine st (ov_load1 (v := vl1) Try.isAgg22 rfl (blk_cellL (hS16.gblk hb2) rfl) ?_)
 refine st (ov_len (n := L.length) Try.underlying22 rfl hl3.sl ?_)
 refine st (ov_lss (k := .i64) (a := ((k : Nat) : Int)) (b := ((L.length : Nat) : Int)) rfl rfl ?_)
 refine st_nil ?_
 cases hc17 : decide (((k : Nat) : Int) < ((L.length : Nat) : Int))
 ·skip
  have hc17 := of_decide_eq_false hc17
  refine WP_cond_f rfl ?_
  refine WP_exit ?_
  refine blk_exit ?_
  refine WP_seq ?_
  refine WP_region0 (by kernel_rfl) (fun _ => ?_)
  have ok18 : Ev.Ok (⟨0, 0, 0, [], 0, 0, 0, 0, 0, 0⟩ : Ev) := ⟨(show InR (0) from (by decide)), (show InR (0) from (by decide)), (show InR (0) from (by decide)), (show InR (0) from (by decide)), (show InR (0) from (by decide)), (show InR (0) from (by decide)), (show InR (0) from (by decide)), (show InR (0) from (by decide)), (show InR (0) from (by decide))⟩
  refine st (ov_build (parts' := []) (v := .agg ((⟨0, 0, 0, [], 0, 0, 0, 0, 0, 0⟩ : Ev).cells (.slice none 0 0)).toArray) rfl (by simp [Instr.build, Instr.fill, Ev.cells, go_sem, Ev.cells]) ?_)
  refine stn (ov_store (v := .agg ((⟨0, 0, 0, [], 0, 0, 0, 0, 0, 0⟩ : Ev).cells (.slice none 0 0)).toArray) (c' := ((⟨0, 0, 0, [], 0, 0, 0, 0, 0, 0⟩ : Ev).cells (.slice none 0 0)).toArray) Try.sizeOf36 rfl rfl (hS16.blk (i := 0) rfl) (all1 ⟨rfl, rfl, rfl, rfl, rfl, rfl, rfl, rfl, rfl, rfl, trivial⟩) (Nat.le_of_ble_eq_true rfl) rfl ?_)
  intro w19 hp20
  have hS21 : Sep G W ((Blk b10 ((⟨0, 0, 0, [], 0, 0, 0, 0, 0, 0⟩ : Ev).cells (.slice none 0 0)).toArray 36) :: (Blk b6 #[.int .i64 (o), .int .i64 (q)] 33) :: Rs) w19 := hS16.put (i := 0) rfl hp20
  refine st (ov_assign (v := .bool false) rfl ?_)
  refine st_nil ?_
  refine WP_ret ?_
  refine fin2c (b := b10) Try.results53 Try.isAgg36 Try.sizeOf36 rfl rfl (CellsAt.all (hS21.blk (i := 0) rfl)) (show _ = (.bool false : Value) from rfl) ?_
  have hS22 : Sep G W ((RowE (α := Int) own 3 (.slice none 0 0) ([] : List Int)) :: (Blk b10 ((⟨0, 0, 0, [], 0, 0, 0, 0, 0, 0⟩ : Ev).cells (.slice none 0 0)).toArray 36) :: (Blk b6 #[.int .i64 (o), .int .i64 (q)] 33) :: Rs) w19 := hS21.rowNil own 3
  have hS23 : Sep G W ((RowE (α := Int) own 3 (.slice none 0 0) ([] : List Int)) :: Rs) w19 := hS22.sel 3 [0] (Nat.le_add_left _ _) rfl rfl
  rw [get_none (fun i hi => hm i (by omega))]
  refine ⟨(.slice none 0 0), ?_, ?_, hS23⟩
  · rfl
  · exact ok18
 ·skip
  have hc17 := of_decide_eq_true hc17
  refine WP_cond_t rfl ?_
  refine WP_skip ?_
  refine WP_seq ?_
  refine WP_block ?_
  refine WP_seq ?_
  refine WP_draw4 (WF [fun vals wq => Sep G W ((Blk b10 #[.int .i64 (0), .int .i64 (0), .int .i64 (0), (.slice none 0 0), .int .i64 (0), .int .i64 (0), .int .i64 (0), .int .i64 (0), .int .i64 (0), .int .i64 (0)] 36) :: (Blk b6 #[.int .i64 (o), .int .i64 (q)] 33) :: Rs) wq]) (AF [Vl 0 (.pointer (some ⟨b, 0, none⟩)), Vl 1 (.pointer (some ⟨b, 0, none⟩)), Vl 2 (.pointer (some ⟨b, 1, none⟩)), Vl 3 (vl1), Vl 4 (.int .i64 ((k : Nat) : Int)), Vl 5 (.pointer (some ⟨sb vl1, so vl1 + k * 10, none⟩)), Vl 6 (.pointer (some ⟨sb vl1, so vl1 + k * 10, none⟩)), Vl 7 (.agg #[.int .i64 ((L.getD k default).origin), .int .i64 ((L.getD k default).seq)]), Vl 8 (.agg #[.int .i64 (o), .int .i64 (q)]), Vl 9 (.bool (decide ((L.getD k default).origin = o ∧ (L.getD k default).seq = q)))]) [[], [0], [0, 1], [0, 1, 2], [], [0, 1, 2, 3, 4], [0, 1, 2, 3, 4, 5], [0, 1, 2, 3, 4, 5, 6], [], [0, 1, 2, 3, 4, 5, 6, 7, 8]] [] [(0, 0), (0, 0), (0, 0), (0, 0), (0, 0), (0, 0), (0, 0), (0, 0), (0, 0), (0, 0)] (by kernel_rfl) (by kernel_rfl) (by kernel_rfl) rfl (by kernel_rfl) (by kernel_rfl) (fun _ h1 h2 h3 h4 _ => hS16.same h1 h2 h3 h4) ?_ (AF_loc ⟨dA, dA, dA, dA, dA, dA, dA, dA, dA, dA, trivial⟩) ⟨?_, ?_, ?_, ?_, ?_, ?_, ?_, ?_, ?_, ?_, trivial⟩ ?_
  ·intro k vals vals' w hv h
   match k, h with
   | 0, h => exact h
   | _ + 1, _ => trivial
  ·intro k103 vals w104 h107 h108 hW106 hA105
   refine obl rfl ?_
   exact ov_move (v := .pointer (some ⟨b, 0, none⟩)) rfl (fun vals' hv _ => ⟨rfl, hv⟩)
  ·intro k109 vals w110 h113 h114 hW112 hA111
   have e115 := hA111 0 (by decide)
   refine obl rfl ?_
   exact ov_nilCheck (b := b) (o := 0) e115 (fun vals' hv _ => ⟨rfl, hv⟩)
  ·intro k116 vals w117 h120 h121 hW119 hA118
   have e122 := hA118 1 (by decide)
   refine obl rfl ?_
   exact fd78_1 e122 (fun vals' hv _ => ⟨rfl, hv⟩)
  ·intro k123 vals w124 h127 h128 hW126 hA125
   obtain rfl : k123 = 0 := Nat.le_antisymm h128 h127
   have hS129 : Sep G W ((Blk b10 #[.int .i64 (0), .int .i64 (0), .int .i64 (0), (.slice none 0 0), .int .i64 (0), .int .i64 (0), .int .i64 (0), .int .i64 (0), .int .i64 (0), .int .i64 (0)] 36) :: (Blk b6 #[.int .i64 (o), .int .i64 (q)] 33) :: Rs) w124 := hW126
   have e130 := hA125 2 (by decide)
   refine obl rfl ?_
   exact ov_load1 (v := vl1) Try.isAgg22 e130 (blk_cellL (hS129.gblk hb2) rfl) (fun vals' hv _ => ⟨rfl, hv⟩)
  ·intro k131 vals w132 h135 h136 hW134 hA133
   refine obl rfl ?_
   exact ov_move (v := .int .i64 ((k : Nat) : Int)) rfl (fun vals' hv _ => ⟨rfl, hv⟩)
  ·intro k137 vals w138 h141 h142 hW140 hA139
   obtain rfl : k137 = 0 := Nat.le_antisymm h142 h141
   have hS143 : Sep G W ((Blk b10 #[.int .i64 (0), .int .i64 (0), .int .i64 (0), (.slice none 0 0), .int .i64 (0), .int .i64 (0), .int .i64 (0), .int .i64 (0), .int .i64 (0), .int .i64 (0)] 36) :: (Blk b6 #[.int .i64 (o), .int .i64 (q)] 33) :: Rs) w138 := hW140
   have e144 := hA139 3 (by decide)
   have e145 := hA139 4 (by decide)
   refine obl rfl ?_
   have hi146 : k < L.length := (by first | omega | (simp only [lens]; omega))
   exact ov_indexAddrN (k := 10) (i := k) Try.underlying22 Try.sizeOf36 e144 hl3.sl e145 hi146 (fun vals' hv _ => ⟨rfl, hv⟩)
  ·intro k147 vals w148 h151 h152 hW150 hA149
   have e153 := hA149 5 (by decide)
   refine obl rfl ?_
   exact fd36_0 e153 (fun vals' hv _ => ⟨rfl, hv⟩)
  ·intro k154 vals w155 h158 h159 hW157 hA156
   obtain rfl : k154 = 0 := Nat.le_antisymm h159 h158
   have hS160 : Sep G W ((Blk b10 #[.int .i64 (0), .int .i64 (0), .int .i64 (0), (.slice none 0 0), .int .i64 (0), .int .i64 (0), .int .i64 (0), .int .i64 (0), .int .i64 (0), .int .i64 (0)] 36) :: (Blk b6 #[.int .i64 (o), .int .i64 (q)] 33) :: Rs) w155 := hW157
   have e161 := hA156 6 (by decide)
   refine obl rfl ?_
   have hi163 : k < L.length := (by first | omega | (simp only [lens]; omega))
   obtain ⟨hce162, hde162_0, hoke162⟩ := hl3.ev hi163
   rw [← getD_at default hi163] at hce162 hde162_0 hoke162
   have hsm164 : ((L.getD k default).deps).length * 8 ≤ 140737488355328 := hde162_0.small
   have hcw165 := hS160.cells hce162 (hl3.foot (ne_of_lt hi163))
   exact ov_loadk (k := 2) (cs := [.int .i64 ((L.getD k default).origin), .int .i64 ((L.getD k default).seq)]) Try.isAgg33 Try.sizeOf33 rfl e161 (CellsAt.sub hcw165 0 (cs2 := [.int .i64 ((L.getD k default).origin), .int .i64 ((L.getD k default).seq)]) rfl) (fun vals' hv _ => ⟨rfl, hv⟩)
  ·intro k166 vals w167 h170 h171 hW169 hA168
   obtain rfl : k166 = 0 := Nat.le_antisymm h171 h170
   have hS172 : Sep G W ((Blk b10 #[.int .i64 (0), .int .i64 (0), .int .i64 (0), (.slice none 0 0), .int .i64 (0), .int .i64 (0), .int .i64 (0), .int .i64 (0), .int .i64 (0), .int .i64 (0)] 36) :: (Blk b6 #[.int .i64 (o), .int .i64 (q)] 33) :: Rs) w167 := hW169
   refine obl rfl ?_
   exact ov_loadk (k := 2) Try.isAgg33 Try.sizeOf33 rfl rfl (CellsAt.all (hS172.blk (i := 1) rfl)) (fun vals' hv _ => ⟨rfl, hv⟩)
  ·intro k173 vals w174 h177 h178 hW176 hA175
   obtain rfl : k173 = 0 := Nat.le_antisymm h178 h177
   have hS179 : Sep G W ((Blk b10 #[.int .i64 (0), .int .i64 (0), .int .i64 (0), (.slice none 0 0), .int .i64 (0), .int .i64 (0), .int .i64 (0), .int .i64 (0), .int .i64 (0), .int .i64 (0)] 36) :: (Blk b6 #[.int .i64 (o), .int .i64 (q)] 33) :: Rs) w174 := hW176
   have e180 := hA175 7 (by decide)
   have e181 := hA175 8 (by decide)
   refine obl rfl ?_
   exact ov_eqlS (e := decide ((L.getD k default).origin = o ∧ (L.getD k default).seq = q)) (xs := #[.int .i64 ((L.getD k default).origin), .int .i64 ((L.getD k default).seq)]) (ys := #[.int .i64 (o), .int .i64 (q)]) eqS33 e180 e181 (fun vals' hv _ => ⟨rfl, hv⟩)
  intro vals w182 hW183 hA184
  have hS185 : Sep G W ((Blk b10 #[.int .i64 (0), .int .i64 (0), .int .i64 (0), (.slice none 0 0), .int .i64 (0), .int .i64 (0), .int .i64 (0), .int .i64 (0), .int .i64 (0), .int .i64 (0)] 36) :: (Blk b6 #[.int .i64 (o), .int .i64 (q)] 33) :: Rs) w182 := hW183
  have e186 := hA184 9 (by decide)
  refine st_env (kv := [(3, .pointer (some ⟨b6, 0, none⟩)), (4, .pointer (some ⟨b10, 0, none⟩)), (0, .pointer (some ⟨b, 0, none⟩)), (6, .int .i64 ((k : Nat) : Int)), (7, .int .i64 ((k : Nat) : Int)), (8, .pointer (some ⟨b, 0, none⟩)), (9, .pointer (some ⟨b, 0, none⟩)), (10, .pointer (some ⟨b, 1, none⟩)), (11, vl1), (12, .int .i64 ((L.length : Nat) : Int)), (13, .bool true), (25, .bool (decide ((L.getD k default).origin = o ∧ (L.getD k default).seq = q)))]) ⟨rfl, rfl, rfl, rfl, rfl, rfl, rfl, rfl, rfl, rfl, rfl, (by exact e186), trivial⟩ (fun ρw182 => ?_)
  refine st_nil ?_
  cases hc187 : decide ((L.getD k default).origin = o ∧ (L.getD k default).seq = q)
  ·skip
   have hc187 := of_decide_eq_false hc187
   refine WP_cond_f rfl ?_
   refine WP_skip ?_
   refine WP_region0 (by kernel_rfl) (fun _ => ?_)
   refine st (ov_move (v := .int .i64 ((k : Nat) : Int)) rfl ?_)
   have hr188 : InR ((k + 1 : Nat) : Int) := by first | omega | (simp only [lens]; omega)
   refine st (ov_add (r := ((k + 1 : Nat) : Int)) (k := .i64) (a := ((k : Nat) : Int)) (b := 1) rfl rfl (by rw [show (((k : Nat) : Int) + 1 : Int) = ((k + 1 : Nat) : Int) by first | omega | (simp only [lens]; omega)]; exact wrap_in hr188) ?_)
   refine st (ov_assign (v := .int .i64 ((k + 1 : Nat) : Int)) rfl ?_)
   refine st_nil ?_
   exact ⟨_, by omega, k + 1, _, rfl, setAll_self ⟨rfl, rfl, rfl, rfl, trivial⟩, by omega, (all_step hm (by simpa using hc187)), hS185⟩
  ·skip
   have hc187 := of_decide_eq_true hc187
   refine WP_cond_t rfl ?_
   refine WP_seq ?_
   refine WP_region0 (by kernel_rfl) (fun _ => ?_)
   refine st (ov_move (v := .pointer (some ⟨b, 0, none⟩)) rfl ?_)
   refine st (ov_nilCheck (b := b) (o := 0) rfl ?_)
   refine st (fd78_1 rfl ?_)
   refine st (ov_load1 (v := vl1) Try.isAgg22 rfl (blk_cellL (hS185.gblk hb2) rfl) ?_)
   refine st (ov_move (v := .int .i64 ((k : Nat) : Int)) rfl ?_)
   have hi189 : k < L.length := (by first | omega | (simp only [lens]; omega))
   refine st (ov_indexAddrN (k := 10) (i := k) Try.underlying22 Try.sizeOf36 rfl hl3.sl rfl hi189 ?_)
   have hi191 : k < L.length := (by first | omega | (simp only [lens]; omega))
   obtain ⟨hce190, hde190_0, hoke190⟩ := hl3.ev hi191
   rw [← getD_at default hi191] at hce190 hde190_0 hoke190
   have hsm192 : ((L.getD k default).deps).length * 8 ≤ 140737488355328 := hde190_0.small
   have hcw193 := hS185.cells hce190 (hl3.foot (ne_of_lt hi191))
   refine st (ov_loadk (k := 10) Try.isAgg36 Try.sizeOf36 rfl rfl hcw193 ?_)
   refine st (ov_call (f := 23) (vals := [.agg ((L.getD k default).cells (cellV W (sb vl1) (so vl1 + k * 10 + 3))).toArray]) (cap := []) (show _ = (.func (.func 23) #[] #[] : Value) from rfl) rfl Try.call23 (D_copyEvent (e := (L.getD k default)) hde190_0 hoke190 hS185) ?_)
   rintro _ w195 ⟨v194, rfl, hS196⟩
   have hr197 := hS196.row (i := 0) rfl
   have hr197s : ((L.getD k default).deps).length * 8 ≤ 140737488355328 := hr197.2
   refine stn (ov_store (v := .agg ((L.getD k default).cells v194).toArray) (c' := ((L.getD k default).cells v194).toArray) Try.sizeOf36 rfl rfl (hS196.blk (i := 1) rfl) (all1 ⟨rfl, rfl, rfl, hr197.1.one, rfl, rfl, rfl, rfl, rfl, rfl, trivial⟩) (Nat.le_of_ble_eq_true rfl) rfl ?_)
   intro w198 hp199
   have hS200 : Sep G W ((RowE (α := Int) own 3 v194 ((L.getD k default).deps)) :: (Blk b10 ((L.getD k default).cells v194).toArray 36) :: (Blk b6 #[.int .i64 (o), .int .i64 (q)] 33) :: Rs) w198 := hS196.put (i := 1) rfl hp199
   refine st (ov_assign (v := .bool true) rfl ?_)
   refine st_nil ?_
   refine WP_ret ?_
   refine fin2c (b := b10) Try.results53 Try.isAgg36 Try.sizeOf36 rfl rfl (CellsAt.all (hS200.blk (i := 1) rfl)) (show _ = (.bool true : Value) from rfl) ?_
   have hS201 : Sep G W ((RowE (α := Int) own 3 v194 ((L.getD k default).deps)) :: Rs) w198 := hS200.sel 3 [0] (Nat.le_add_left _ _) rfl rfl
   rw [get_hit hm (by omega) (by simpa using hc187)]
   refine ⟨v194, ?_, ?_, hS201⟩
   · rfl
   · exact hoke190

end Go.Proofs.Ytmiihhbeclhaoaa
end

section
/- Steps of the proofs of this seat: part R2. -/
set_option linter.unusedSimpArgs false
set_option linter.unusedVariables false
set_option maxRecDepth 8000
set_option maxHeartbeats 4000000
namespace Go.Proofs.Ytmiihhbeclhaoaa
open Go.Proofs Go.RowKit

theorem fd78_0 {d : Option Tmp} {ty : TypeId} {pos : String} {af : Array Edge} {g : Option (Nat × Bool)} {σ : Env} {w : World} {K : Value → World → Prop} {x : Operand} {b o : Nat} (hx : ev σ x = .pointer (some ⟨b, o, none⟩)) (h : K (.pointer (some ⟨b, o + 0, none⟩)) w) : opV Try.prog ⟨d, .fieldAddr 78 x 0, ty, pos, af, g⟩ σ w K := ov_fieldAddr Try.underlying78 rfl rfl (fun w => ⟨0, Try.sizeOf3 w⟩) hx h
theorem D_rVec {G : Nat → Prop} {W w : World} {Rs : List HP} {b : Nat} {n : Nat} {L : List Ev} (hb : (RefS b n L).p W G) (hS0 : Sep G W Rs w) (hG : Good n L) (hn : n ≤ 1000) : Ret Try.prog 54 [.pointer (some ⟨b, 0, none⟩)] w (fun r w' => ∃ (v : Value), r = (v : Value) ∧ Sep G W ((RowE (α := Int) own 3 v (vecE n L)) :: Rs) w') := by
 refine Calls_of_WP (args := [.pointer (some ⟨b, 0, none⟩)]) Try.func54 rfl rfl ?_
 obtain ⟨vl1, hb2, hl3⟩ := RefS.sh hb
 have hsm4 : L.length * 96 ≤ 140737488355328 := hl3.small
 refine WP_seq ?_
 refine WP_region0 (by kernel_rfl) (fun _ => ?_)
 refine st (ov_assign (v := (.slice none 0 0)) rfl ?_)
 refine st_nil ?_
 refine WP_seq ?_
 refine WP_region0 (by kernel_rfl) (fun _ => ?_)
 refine st (ov_move (v := .pointer (some ⟨b, 0, none⟩)) rfl ?_)
 refine st (ov_nilCheck (b := b) (o := 0) rfl ?_)
 refine st (fd78_0 rfl ?_)
 refine st (ov_load1 (v := .int .i64 ((n : Nat) : Int)) Try.isAgg3 rfl (blk_cellL (hS0.gblk hb2) rfl) ?_)
 refine st (ov_makeSlice (α := Int) (T := 3) (bytes := 8) (n := n) (x1 := (0 : Int)) Try.underlying34 ⟨_, _, rfl, rfl, rfl, rfl, rfl, fun _ _ => ⟨rfl, by decide⟩⟩ rfl rfl rfl (by show n * 8 ≤ 140737488355328; omega) ?_)
 intro w10 b5 hx6 he7 hl8 ho9
 have hS11 : Sep G W ((RowE (α := Int) own 3 (.slice (some ⟨b5, 0, none⟩) n n) (List.replicate n (0 : Int))) :: Rs) w10 := hS0.made hx6 ho9
 have hr12 := hS11.row (i := 0) rfl
 have hr12s : (List.replicate n (0 : Int)).length * 8 ≤ 140737488355328 := hr12.2
 refine st (ov_assign (v := (.slice (some ⟨b5, 0, none⟩) n n)) rfl ?_)
 refine st_nil ?_
 refine WP_seq ?_
 refine WP_seq ?_
 rw [vecE_nil] at hS11
 have hS13 : Sep G W ((RowE (α := Int) own 3 (.slice (some ⟨b5, 0, none⟩) n n) (vecE n [])) :: Rs) w10 := hS11
 refine WP_region0 (by kernel_rfl) (fun _ => ?_)
 refine st (ov_assign (v := .int .i64 (0)) rfl ?_)
 refine st_nil ?_
 refine WP_block ?_
 refine WP_loop (fun mq σ wq => ∃ (k : Nat) (vo : Value) (ρ : Env), mq = L.length - k ∧ σ = setAll ρ [(0, .pointer (some ⟨b, 0, none⟩)), (4, .int .i64 ((k : Nat) : Int)), (3, vo)] ∧ (k ≤ L.length) ∧ Sep G W ((RowE (α := Int) own 3 vo (vecE n (L.take k))) :: Rs) wq) ⟨0, (.slice (some ⟨b5, 0, none⟩) n n), _, rfl, setAll_self ⟨rfl, rfl, rfl, trivial⟩, Nat.zero_le _, hS13⟩ ?_
 rintro m15 σ16 w14 ⟨k, vo, ρl1, rfl, rfl, hkk, hS17⟩
 have hr18 := hS17.row (i := 0) rfl
 have hr18s : (vecE n (L.take k)).length * 8 ≤ 140737488355328 := hr18.2
 refine WP_seq ?_
 refine WP_seq ?_
 refine WP_region0 (by kernel_rfl) (fun _ => ?_)
 refine st (ov_move (v := .int .i64 ((k : Nat) : Int)) rfl ?_)
 refine st (ov_move (v := .pointer (some ⟨b, 0, none⟩)) rfl ?_)
 refine st (ov_nilCheck (b := b) (o := 0) rfl ?_)
 refine st (fd78_1 rfl ?_)
 refine st (ov_load1 (v := vl1) Try.isAgg22 rfl (blk_cellL (hS17.gblk hb2) rfl) ?_)
 refine st (ov_len (n := L.length) Try.underlying22 rfl hl3.sl ?_)
 refine st (ov_lss (k := .i64) (a := ((k : Nat) : Int)) (b := ((L.length : Nat) : Int)) rfl rfl ?_)
 refine st_nil ?_
 cases hc19 : decide (((k : Nat) : Int) < ((L.length : Nat) : Int))
 ·skip
  have hc19r := hc19
  have hc19 := of_decide_eq_false hc19
  refine WP_cond_f rfl ?_
  refine WP_exit ?_
  refine blk_exit ?_
  refine WP_seq ?_
  refine WP_region0 (by kernel_rfl) (fun _ => ?_)
  refine st (ov_move (v := vo) rfl ?_)
  refine st (ov_assign (v := vo) rfl ?_)
  refine st_nil ?_
  refine WP_ret ?_
  refine fin1 Try.results54 (show _ = (vo : Value) from rfl) ?_
  have hk9 : k = L.length := by omega
  rw [hk9, List.take_length] at hS17
  refine ⟨vo, rfl, hS17⟩
 ·skip
  have hc19r := hc19
  have hc19 := of_decide_eq_true hc19
  refine WP_cond_t rfl ?_
  refine WP_skip ?_
  refine WP_seq ?_
  refine WP_block ?_
  obtain ⟨⟨ho9, ho9'⟩, hd9⟩ := hG.chk_at (i := k) (by omega)
  have hvl9 : (vecE n (L.take k)).length = n := vecE_len
  have hcl9 := cntE_le (L := L.take k) (o := (L.getD k default).origin.toNat)
  rw [List.length_take] at hcl9
  have hva9 : (vecE n (L.take k)).getD (L.getD k default).origin.toNat 0 = _ := vecE_at (by omega)
  refine WP_draw4 (WF [fun vals wq => Sep G W ((RowE (α := Int) own 3 vo (vecE n (L.take k))) :: Rs) wq, fun vals wq => Sep G W ((RowE (α := Int) own 3 vo ((vecE n (L.take k)).set (((L.getD k default).origin).toNat) (((vecE n (L.take k)).getD (((L.getD k default).origin).toNat) 0) + 1))) :: Rs) wq]) (AF [Vl 0 (vo), Vl 1 (.pointer (some ⟨b, 0, none⟩)), Vl 2 (.pointer (some ⟨b, 0, none⟩)), Vl 3 (.pointer (some ⟨b, 1, none⟩)), Vl 4 (vl1), Vl 5 (.int .i64 ((k : Nat) : Int)), Vl 6 (.pointer (some ⟨sb vl1, so vl1 + k * 10, none⟩)), Vl 7 (.pointer (some ⟨sb vl1, so vl1 + k * 10, none⟩)), Vl 8 (.pointer (some ⟨sb vl1, so vl1 + k * 10, none⟩)), Vl 9 (.int .i64 ((L.getD k default).origin)), Vl 10 (vo), Vl 11 (.pointer (some ⟨b, 0, none⟩)), Vl 12 (.pointer (some ⟨b, 0, none⟩)), Vl 13 (.pointer (some ⟨b, 1, none⟩)), Vl 14 (vl1), Vl 15 (.int .i64 ((k : Nat) : Int)), Vl 16 (.pointer (some ⟨sb vl1, so vl1 + k * 10, none⟩)), Vl 17 (.pointer (some ⟨sb vl1, so vl1 + k * 10, none⟩)), Vl 18 (.pointer (some ⟨sb vl1, so vl1 + k * 10, none⟩)), Vl 19 (.int .i64 ((L.getD k default).origin)), Vl 20 (.pointer (some ⟨sb vo, so vo + (((L.getD k default).origin).toNat) * 1, none⟩)), Vl 21 (.int .i64 (((vecE n (L.take k)).getD (((L.getD k default).origin).toNat) 0))), Vl 22 (.int .i64 (((vecE n (L.take k)).getD (((L.getD k default).origin).toNat) 0) + 1)), Vl 23 (.pointer (some ⟨sb vo, so vo + (((L.getD k default).origin).toNat) * 1, none⟩)), fun _ => True]) [[], [], [1], [1, 2], [1, 2, 3], [], [1, 2, 3, 4, 5], [1, 2, 3, 4, 5, 6], [1, 2, 3, 4, 5, 6, 7], [1, 2, 3, 4, 5, 6, 7, 8], [], [], [11], [11, 12], [11, 12, 13], [], [11, 12, 13, 14, 15], [11, 12, 13, 14, 15, 16], [11, 12, 13, 14, 15, 16, 17], [11, 12, 13, 14, 15, 16, 17, 18], [10, 11, 12, 13, 14, 15, 16, 17, 18, 19], [10, 11, 12, 13, 14, 15, 16, 17, 18, 19, 20], [10, 11, 12, 13, 14, 15, 16, 17, 18, 19, 20, 21], [0, 1, 2, 3, 4, 5, 6, 7, 8, 9, 10, 11, 12, 13, 14, 15, 16, 17, 18, 19, 20, 21, 22], [0, 1, 2, 3, 4, 5, 6, 7, 8, 9, 10, 11, 12, 13, 14, 15, 16, 17, 18, 19, 20, 21, 22, 23]] [24] [(0, 0), (0, 0), (0, 0), (0, 0), (0, 0), (0, 0), (0, 0), (0, 0), (0, 0), (0, 0), (0, 0), (0, 0), (0, 0), (0, 0), (0, 0), (0, 0), (0, 0), (0, 0), (0, 0), (0, 0), (0, 0), (0, 0), (0, 0), (0, 0), (0, 0)] (by kernel_rfl) (by kernel_rfl) (by kernel_rfl) rfl (by kernel_rfl) (by kernel_rfl) (fun _ h1 h2 h3 h4 _ => hS17.same h1 h2 h3 h4) ?_ (AF_loc ⟨dA, dA, dA, dA, dA, dA, dA, dA, dA, dA, dA, dA, dA, dA, dA, dA, dA, dA, dA, dA, dA, dA, dA, dA, dT, trivial⟩) ⟨?_, ?_, ?_, ?_, ?_, ?_, ?_, ?_, ?_, ?_, ?_, ?_, ?_, ?_, ?_, ?_, ?_, ?_, ?_, ?_, ?_, ?_, ?_, ?_, ?_, trivial⟩ ?_
  ·intro k vals vals' w hv h
   have e : ∀ j ∈ ([24] : List Nat), vals' j = vals j := hv
   match k, h with
   | 0, h => exact h
   | 1, h => exact h
   | _ + 2, _ => trivial
  ·intro k224 vals w225 h228 h229 hW227 hA226
   refine obl rfl ?_
   exact ov_move (v := vo) rfl (fun vals' hv _ => ⟨rfl, hv⟩)
  ·intro k230 vals w231 h234 h235 hW233 hA232
   refine obl rfl ?_
   exact ov_move (v := .pointer (some ⟨b, 0, none⟩)) rfl (fun vals' hv _ => ⟨rfl, hv⟩)
  ·intro k236 vals w237 h240 h241 hW239 hA238
   have e242 := hA238 1 (by decide)
   refine obl rfl ?_
   exact ov_nilCheck (b := b) (o := 0) e242 (fun vals' hv _ => ⟨rfl, hv⟩)
  ·intro k243 vals w244 h247 h248 hW246 hA245
   have e249 := hA245 2 (by decide)
   refine obl rfl ?_
   exact fd78_1 e249 (fun vals' hv _ => ⟨rfl, hv⟩)
  ·intro k250 vals w251 h254 h255 hW253 hA252
   obtain rfl : k250 = 0 := Nat.le_antisymm h255 h254
   have hS256 : Sep G W ((RowE (α := Int) own 3 vo (vecE n (L.take k))) :: Rs) w251 := hW253
   have e257 := hA252 3 (by decide)
   refine obl rfl ?_
   exact ov_load1 (v := vl1) Try.isAgg22 e257 (blk_cellL (hS256.gblk hb2) rfl) (fun vals' hv _ => ⟨rfl, hv⟩)
  ·intro k258 vals w259 h262 h263 hW261 hA260
   refine obl rfl ?_
   exact ov_move (v := .int .i64 ((k : Nat) : Int)) rfl (fun vals' hv _ => ⟨rfl, hv⟩)
  ·intro k264 vals w265 h268 h269 hW267 hA266
   obtain rfl : k264 = 0 := Nat.le_antisymm h269 h268
   have hS270 : Sep G W ((RowE (α := Int) own 3 vo (vecE n (L.take k))) :: Rs) w265 := hW267
   have e271 := hA266 4 (by decide)
   have e272 := hA266 5 (by decide)
   refine obl rfl ?_
   have hi273 : k < L.length := (by first | omega | (simp only [lens]; omega))
   exact ov_indexAddrN (k := 10) (i := k) Try.underlying22 Try.sizeOf36 e271 hl3.sl e272 hi273 (fun vals' hv _ => ⟨rfl, hv⟩)
  ·intro k274 vals w275 h278 h279 hW277 hA276
   have e280 := hA276 6 (by decide)
   refine obl rfl ?_
   exact fd36_0 e280 (fun vals' hv _ => ⟨rfl, hv⟩)
  ·intro k281 vals w282 h285 h286 hW284 hA283
   have e287 := hA283 7 (by decide)
   refine obl rfl ?_
   exact fd33_0 e287 (fun vals' hv _ => ⟨rfl, hv⟩)
  ·intro k288 vals w289 h292 h293 hW291 hA290
   obtain rfl : k288 = 0 := Nat.le_antisymm h293 h292
   have hS294 : Sep G W ((RowE (α := Int) own 3 vo (vecE n (L.take k))) :: Rs) w289 := hW291
   have e295 := hA290 8 (by decide)
   refine obl rfl ?_
   have hi297 : k < L.length := (by first | omega | (simp only [lens]; omega))
   obtain ⟨hce296, hde296_0, hoke296⟩ := hl3.ev hi297
   rw [← getD_at default hi297] at hce296 hde296_0 hoke296
   have hsm298 : ((L.getD k default).deps).length * 8 ≤ 140737488355328 := hde296_0.small
   have hcw299 := hS294.cells hce296 (hl3.foot (ne_of_lt hi297))
   exact ov_load1 (v := .int .i64 ((L.getD k default).origin)) Try.isAgg3 e295 (hcw299.get (j := 0) rfl) (fun vals' hv _ => ⟨rfl, hv⟩)
  ·intro k300 vals w301 h304 h305 hW303 hA302
   refine obl rfl ?_
   exact ov_move (v := vo) rfl (fun vals' hv _ => ⟨rfl, hv⟩)
  ·intro k306 vals w307 h310 h311 hW309 hA308
   refine obl rfl ?_
   exact ov_move (v := .pointer (some ⟨b, 0, none⟩)) rfl (fun vals' hv _ => ⟨rfl, hv⟩)
  ·intro k312 vals w313 h316 h317 hW315 hA314
   have e318 := hA314 11 (by decide)
   refine obl rfl ?_
   exact ov_nilCheck (b := b) (o := 0) e318 (fun vals' hv _ => ⟨rfl, hv⟩)
  ·intro k319 vals w320 h323 h324 hW322 hA321
   have e325 := hA321 12 (by decide)
   refine obl rfl ?_
   exact fd78_1 e325 (fun vals' hv _ => ⟨rfl, hv⟩)
  ·intro k326 vals w327 h330 h331 hW329 hA328
   obtain rfl : k326 = 0 := Nat.le_antisymm h331 h330
   have hS332 : Sep G W ((RowE (α := Int) own 3 vo (vecE n (L.take k))) :: Rs) w327 := hW329
   have e333 := hA328 13 (by decide)
   refine obl rfl ?_
   exact ov_load1 (v := vl1) Try.isAgg22 e333 (blk_cellL (hS332.gblk hb2) rfl) (fun vals' hv _ => ⟨rfl, hv⟩)
  ·intro k334 vals w335 h338 h339 hW337 hA336
   refine obl rfl ?_
   exact ov_move (v := .int .i64 ((k : Nat) : Int)) rfl (fun vals' hv _ => ⟨rfl, hv⟩)
  ·intro k340 vals w341 h344 h345 hW343 hA342
   obtain rfl : k340 = 0 := Nat.le_antisymm h345 h344
   have hS346 : Sep G W ((RowE (α := Int) own 3 vo (vecE n (L.take k))) :: Rs) w341 := hW343
   have e347 := hA342 14 (by decide)
   have e348 := hA342 15 (by decide)
   refine obl rfl ?_
   have hi349 : k < L.length := (by first | omega | (simp only [lens]; omega))
   exact ov_indexAddrN (k := 10) (i := k) Try.underlying22 Try.sizeOf36 e347 hl3.sl e348 hi349 (fun vals' hv _ => ⟨rfl, hv⟩)
  ·intro k350 vals w351 h354 h355 hW353 hA352
   have e356 := hA352 16 (by decide)
   refine obl rfl ?_
   exact fd36_0 e356 (fun vals' hv _ => ⟨rfl, hv⟩)
  ·intro k357 vals w358 h361 h362 hW360 hA359
   have e363 := hA359 17 (by decide)
   refine obl rfl ?_
   exact fd33_0 e363 (fun vals' hv _ => ⟨rfl, hv⟩)
  ·intro k364 vals w365 h368 h369 hW367 hA366
   obtain rfl : k364 = 0 := Nat.le_antisymm h369 h368
   have hS370 : Sep G W ((RowE (α := Int) own 3 vo (vecE n (L.take k))) :: Rs) w365 := hW367
   have e371 := hA366 18 (by decide)
   refine obl rfl ?_
   have hi373 : k < L.length := (by first | omega | (simp only [lens]; omega))
   obtain ⟨hce372, hde372_0, hoke372⟩ := hl3.ev hi373
   rw [← getD_at default hi373] at hce372 hde372_0 hoke372
   have hsm374 : ((L.getD k default).deps).length * 8 ≤ 140737488355328 := hde372_0.small
   have hcw375 := hS370.cells hce372 (hl3.foot (ne_of_lt hi373))
   exact ov_load1 (v := .int .i64 ((L.getD k default).origin)) Try.isAgg3 e371 (hcw375.get (j := 0) rfl) (fun vals' hv _ => ⟨rfl, hv⟩)
  ·intro k376 vals w377 h380 h381 hW379 hA378
   obtain rfl : k376 = 0 := Nat.le_antisymm h381 h380
   have hS382 : Sep G W ((RowE (α := Int) own 3 vo (vecE n (L.take k))) :: Rs) w377 := hW379
   have e383 := hA378 10 (by decide)
   have e384 := hA378 19 (by decide)
   refine obl rfl ?_
   have hi385 : ((L.getD k default).origin).toNat < (vecE n (L.take k)).length := (by first | omega | (simp only [lens]; omega))
   exact ov_indexAddr (k := 1) (i := (L.getD k default).origin) Try.underlying34 Try.sizeOf3 e383 hr18.1 e384 ⟨by omega, by omega⟩ (fun vals' hv _ => ⟨rfl, hv⟩)
  ·intro k386 vals w387 h390 h391 hW389 hA388
   obtain rfl : k386 = 0 := Nat.le_antisymm h391 h390
   have hS392 : Sep G W ((RowE (α := Int) own 3 vo (vecE n (L.take k))) :: Rs) w387 := hW389
   have e393 := hA388 20 (by decide)
   refine obl rfl ?_
   have hi395 : ((L.getD k default).origin).toNat < (vecE n (L.take k)).length := (by first | omega | (simp only [lens]; omega))
   obtain ⟨_, _, hce394, rfl, hxe394⟩ := hS392.rowAt (i := 0) (j := ((L.getD k default).origin).toNat) rfl hi395
   rw [← getD_at 0 hi395] at hce394 hxe394
   exact ov_load1 (v := .int .i64 (((vecE n (L.take k)).getD (((L.getD k default).origin).toNat) 0))) Try.isAgg3 e393 (hce394.get (j := 0) rfl) (fun vals' hv _ => ⟨rfl, hv⟩)
  ·intro k396 vals w397 h400 h401 hW399 hA398
   obtain rfl : k396 = 0 := Nat.le_antisymm h401 h400
   have hS402 : Sep G W ((RowE (α := Int) own 3 vo (vecE n (L.take k))) :: Rs) w397 := hW399
   have e403 := hA398 21 (by decide)
   refine obl rfl ?_
   have hr404 : InR (((vecE n (L.take k)).getD (((L.getD k default).origin).toNat) 0) + 1) := by omega
   exact ov_add (r := ((vecE n (L.take k)).getD (((L.getD k default).origin).toNat) 0) + 1) (k := .i64) (a := ((vecE n (L.take k)).getD (((L.getD k default).origin).toNat) 0)) (b := 1) e403 rfl (wrap_in hr404) (fun vals' hv _ => ⟨rfl, hv⟩)
  ·intro k405 vals w406 h409 h410 hW408 hA407
   obtain rfl : k405 = 0 := Nat.le_antisymm h410 h409
   have hS411 : Sep G W ((RowE (α := Int) own 3 vo (vecE n (L.take k))) :: Rs) w406 := hW408
   have e412 := hA407 0 (by decide)
   have e413 := hA407 9 (by decide)
   refine obl rfl ?_
   have hi414 : ((L.getD k default).origin).toNat < (vecE n (L.take k)).length := (by first | omega | (simp only [lens]; omega))
   exact ov_indexAddr (k := 1) (i := (L.getD k default).origin) Try.underlying34 Try.sizeOf3 e412 hr18.1 e413 ⟨by omega, by omega⟩ (fun vals' hv _ => ⟨rfl, hv⟩)
  ·intro k211 vals w212 h215 h216 hW214 hA213
   obtain rfl : k211 = 0 := Nat.le_antisymm h216 h215
   have hS217 : Sep G W ((RowE (α := Int) own 3 vo (vecE n (L.take k))) :: Rs) w212 := hW214
   have e218 := hA213 22 (by decide)
   have e219 := hA213 23 (by decide)
   refine obl rfl ?_
   have hS221 : Sep G W ((RowE (α := Int) own 3 vo (vecE n (L.take k))) :: Emp :: Rs) w212 := hS217.emp1
   refine (ov_storeS (α := Int) (j := ((L.getD k default).origin).toNat) (o := 0) (u := .int .i64 (((vecE n (L.take k)).getD (((L.getD k default).origin).toNat) 0) + 1)) (us := [.int .i64 (((vecE n (L.take k)).getD (((L.getD k default).origin).toNat) 0) + 1)]) (x1 := ((vecE n (L.take k)).getD (((L.getD k default).origin).toNat) 0) + 1) hS221 Try.sizeOf3 (by first | omega | (simp only [lens]; omega)) e219 e218 rfl (Nat.le_of_ble_eq_true rfl) (all1 ⟨rfl, trivial⟩) (fun _ _ cs0 hel _ => (by have hl0 := Src.len _ hel; have e0 : cs0.take 0 ++ (([.int .i64 (((vecE n (L.take k)).getD (((L.getD k default).origin).toNat) 0) + 1)] : List Value)) ++ cs0.drop (0 + (([.int .i64 (((vecE n (L.take k)).getD (((L.getD k default).origin).toNat) 0) + 1)] : List Value)).length) = (([.int .i64 (((vecE n (L.take k)).getD (((L.getD k default).origin).toNat) 0) + 1)] : List Value)) := (by rw [List.drop_eq_nil_of_le (by rw [hl0]; exact Nat.le_of_ble_eq_true rfl)]; simp); rw [e0]; exact (show _ from ⟨rfl, (by omega)⟩))) ?_)
   intro w220 hS222
   have hr223 := hS222.row (i := 0) rfl
   have hr223s : ((vecE n (L.take k)).set (((L.getD k default).origin).toNat) (((vecE n (L.take k)).getD (((L.getD k default).origin).toNat) 0) + 1)).length * 8 ≤ 140737488355328 := hr223.2
   intro vals' hv hv'
   refine ⟨?_, trivial⟩
   show Sep G W ((RowE (α := Int) own 3 vo ((vecE n (L.take k)).set (((L.getD k default).origin).toNat) (((vecE n (L.take k)).getD (((L.getD k default).origin).toNat) 0) + 1))) :: Rs) w220
   exact hS222
  intro vals w415 hW416 hA417
  have hS418 : Sep G W ((RowE (α := Int) own 3 vo ((vecE n (L.take k)).set (((L.getD k default).origin).toNat) (((vecE n (L.take k)).getD (((L.getD k default).origin).toNat) 0) + 1))) :: Rs) w415 := hW416
  refine st_env (kv := [(0, .pointer (some ⟨b, 0, none⟩)), (4, .int .i64 ((k : Nat) : Int)), (3, vo), (10, .int .i64 ((k : Nat) : Int)), (11, .pointer (some ⟨b, 0, none⟩)), (12, .pointer (some ⟨b, 0, none⟩)), (13, .pointer (some ⟨b, 1, none⟩)), (14, vl1), (15, .int .i64 ((L.length : Nat) : Int)), (16, .bool true)]) ⟨rfl, rfl, rfl, rfl, rfl, rfl, rfl, rfl, rfl, rfl, trivial⟩ (fun ρw415 => ?_)
  refine st_nil ?_
  refine WP_region0 (by kernel_rfl) (fun _ => ?_)
  refine st (ov_move (v := .int .i64 ((k : Nat) : Int)) rfl ?_)
  have hr419 : InR ((k + 1 : Nat) : Int) := by first | omega | (simp only [lens]; omega)
  refine st (ov_add (r := ((k + 1 : Nat) : Int)) (k := .i64) (a := ((k : Nat) : Int)) (b := 1) rfl rfl (by rw [show (((k : Nat) : Int) + 1 : Int) = ((k + 1 : Nat) : Int) by first | omega | (simp only [lens]; omega)]; exact wrap_in hr419) ?_)
  refine st (ov_assign (v := .int .i64 ((k + 1 : Nat) : Int)) rfl ?_)
  refine st_nil ?_
  have hL420 : (vecE n (L.take (k + 1))) = (vecE n (L.take k)).set (((L.getD k default).origin).toNat) (((vecE n (L.take k)).getD (((L.getD k default).origin).toNat) 0) + 1) := (vec_snoc hG (by omega)).symm
  rw [← hL420] at hS418
  exact ⟨_, by omega, k + 1, vo, _, rfl, setAll_self ⟨rfl, rfl, rfl, trivial⟩, by omega, hS418⟩

theorem D_rknew {G : Nat → Prop} {W w : World} {Rs : List HP} {b : Nat} {n : Nat} {L : List Ev} (hb : (RefS b n L).p W G) {e : Ev} {de0 : Value} (hde0 : RdS W G de0 e.deps) (oe : e.Ok) {o : Nat} (ho : o < n) (hS0 : Sep G W Rs w) (hel : e.deps.length = n) (hlen : ∀ y ∈ L, y.deps.length = n) : Ret Try.prog 55 [.pointer (some ⟨b, 0, none⟩), .agg (e.cells de0).toArray, .int .i64 ((o : Nat) : Int)] w (fun r w' => r = (.bool ((knewE L e o)) : Value) ∧ Sep G W Rs w') := by
 have hde0s : e.deps.length * 8 ≤ 140737488355328 := hde0.small
 refine Calls_of_WP (args := [.pointer (some ⟨b, 0, none⟩), .agg (e.cells de0).toArray, .int .i64 ((o : Nat) : Int)]) Try.func55 rfl rfl ?_
 obtain ⟨vl1, hb2, hl3⟩ := RefS.sh hb
 have hsm4 : L.length * 96 ≤ 140737488355328 := hl3.small
 refine WP_seq ?_
 refine WP_region0 (by kernel_rfl) (fun _ => ?_)
 refine st (ov_box (v := .agg (e.cells de0).toArray) rfl ?_)
 intro w7 b6 hn5
 have hS8 : Sep G W ((Blk b6 (e.cells de0).toArray 36) :: Rs) w7 := hS0.new hn5
 refine st (ov_assign (v := .bool false) rfl ?_)
 refine st_nil ?_
 refine WP_seq ?_
 refine WP_seq ?_
 refine WP_region0 (by kernel_rfl) (fun _ => ?_)
 refine st (fd36_2 rfl ?_)
 refine st (ov_load1 (v := de0) Try.isAgg34 rfl (blk_cellL (hS8.blk (i := 0) rfl) rfl) ?_)
 refine st (ov_move (v := .int .i64 ((o : Nat) : Int)) rfl ?_)
 have hi9 : o < e.deps.length := (by first | omega | (simp only [lens]; omega))
 refine st (ov_indexAddrN (k := 1) (i := o) Try.underlying34 Try.sizeOf3 rfl hde0.sl rfl hi9 ?_)
 have hi11 : o < e.deps.length := (by first | omega | (simp only [lens]; omega))
 obtain ⟨hce10, hxe10⟩ := hde0.int hi11
 rw [← getD_at 0 hi11] at hce10 hxe10
 have hcw12 := hS8.cells hce10 (hde0.foot (ne_of_lt hi11))
 refine st (ov_load1 (v := .int .i64 ((e.deps.getD o 0))) Try.isAgg3 rfl (hcw12.get (j := 0) rfl) ?_)
 refine st (ov_eql (k := .i64) (a := (e.deps.getD o 0)) (b := 0) rfl rfl ?_)
 refine st_nil ?_
 cases hc13 : decide ((e.deps.getD o 0) = 0)
 ·skip
  have hc13r := hc13
  have hc13 := of_decide_eq_false hc13
  refine WP_cond_f rfl ?_
  refine WP_skip ?_
  refine WP_seq ?_
  refine WP_region0 (by kernel_rfl) (fun _ => ?_)
  refine st (ov_move (v := .pointer (some ⟨b, 0, none⟩)) rfl ?_)
  refine st (ov_move (v := .int .i64 ((o : Nat) : Int)) rfl ?_)
  refine st (fd36_2 rfl ?_)
  refine st (ov_load1 (v := de0) Try.isAgg34 rfl (blk_cellL (hS8.blk (i := 0) rfl) rfl) ?_)
  refine st (ov_move (v := .int .i64 ((o : Nat) : Int)) rfl ?_)
  have hi14 : o < e.deps.length := (by first | omega | (simp only [lens]; omega))
  refine st (ov_indexAddrN (k := 1) (i := o) Try.underlying34 Try.sizeOf3 rfl hde0.sl rfl hi14 ?_)
  have hcw16 := hS8.cells hce10 (hde0.foot (ne_of_lt hi11))
  refine st (ov_load1 (v := .int .i64 ((e.deps.getD o 0))) Try.isAgg3 rfl (hcw16.get (j := 0) rfl) ?_)
  refine st (ov_build (parts' := [(0, .int .i64 ((o : Nat) : Int)), (1, .int .i64 ((e.deps.getD o 0)))]) (v := .agg #[.int .i64 ((o : Nat) : Int), .int .i64 ((e.deps.getD o 0))]) rfl (by simp [Instr.build, Instr.fill, Ev.cells, go_sem, Ev.cells]) ?_)
  refine st (ov_call (f := 53) (vals := [.pointer (some ⟨b, 0, none⟩), .agg #[.int .i64 ((o : Nat) : Int), .int .i64 ((e.deps.getD o 0))]]) (cap := []) (show _ = (.func (.func 53) #[] #[] : Value) from rfl) rfl Try.call53 (D_rGet  hb (by omega) hxe10 hS8) ?_)
  rintro _ w19 ⟨v17, rfl, hgo18, hS20⟩
  have hr21 := hS20.row (i := 0) rfl
  have hr21s : (((getE L (((o : Nat) : Int), (e.deps.getD o 0))).getD default).deps).length * 8 ≤ 140737488355328 := hr21.2
  refine st (ov_move (v := .tuple #[.agg (((getE L (((o : Nat) : Int), (e.deps.getD o 0))).getD default).cells v17).toArray, .bool (getE L (((o : Nat) : Int), (e.deps.getD o 0))).isSome]) rfl ?_)
  refine st (ov_extract (vs := [.agg (((getE L (((o : Nat) : Int), (e.deps.getD o 0))).getD default).cells v17).toArray, .bool ((getE L (((o : Nat) : Int), (e.deps.getD o 0))).isSome)]) (i := 0) (v := .agg (((getE L (((o : Nat) : Int), (e.deps.getD o 0))).getD default).cells v17).toArray) rfl rfl ?_)
  refine st (ov_extract (vs := [.agg (((getE L (((o : Nat) : Int), (e.deps.getD o 0))).getD default).cells v17).toArray, .bool ((getE L (((o : Nat) : Int), (e.deps.getD o 0))).isSome)]) (i := 1) (v := .bool ((getE L (((o : Nat) : Int), (e.deps.getD o 0))).isSome)) rfl rfl ?_)
  refine st (ov_alloc Try.zeroValue36 ?_)
  intro w24 b23 hn22
  have hS25 : Sep G W ((Blk b23 #[.int .i64 (0), .int .i64 (0), .int .i64 (0), (.slice none 0 0), .int .i64 (0), .int .i64 (0), .int .i64 (0), .int .i64 (0), .int .i64 (0), .int .i64 (0)] 36) :: (RowE (α := Int) own 3 v17 (((getE L (((o : Nat) : Int), (e.deps.getD o 0))).getD default).deps)) :: (Blk b6 (e.cells de0).toArray 36) :: Rs) w24 := hS20.new hn22
  refine stn (ov_store (v := .agg (((getE L (((o : Nat) : Int), (e.deps.getD o 0))).getD default).cells v17).toArray) (c' := (((getE L (((o : Nat) : Int), (e.deps.getD o 0))).getD default).cells v17).toArray) Try.sizeOf36 rfl rfl (hS25.blk (i := 0) rfl) (all1 ⟨rfl, rfl, rfl, hr21.1.one, rfl, rfl, rfl, rfl, rfl, rfl, trivial⟩) (Nat.le_of_ble_eq_true rfl) rfl ?_)
  intro w26 hp27
  have hS28 : Sep G W ((Blk b23 (((getE L (((o : Nat) : Int), (e.deps.getD o 0))).getD default).cells v17).toArray 36) :: (RowE (α := Int) own 3 v17 (((getE L (((o : Nat) : Int), (e.deps.getD o 0))).getD default).deps)) :: (Blk b6 (e.cells de0).toArray 36) :: Rs) w26 := hS25.put (i := 0) rfl hp27
  refine st (ov_assign (v := .bool ((getE L (((o : Nat) : Int), (e.deps.getD o 0))).isSome)) rfl ?_)
  refine st_nil ?_
  refine WP_seq ?_
  refine WP_seq ?_
  refine WP_region (by kernel_rfl) ?_
  refine st (ov_move (v := .bool ((getE L (((o : Nat) : Int), (e.deps.getD o 0))).isSome)) rfl ?_)
  refine st (ov_not (a := (getE L (((o : Nat) : Int), (e.deps.getD o 0))).isSome) rfl ?_)
  refine st (ov_move (v := .bool (!((getE L (((o : Nat) : Int), (e.deps.getD o 0))).isSome))) rfl ?_)
  refine stc (V := .pointer (some ⟨b23, 2, none⟩)) rfl rfl (fun hb29 => ?_) ?_
  ·have hl30 := hb29
   try simp only [bools] at hl30
   exact fd36_1 rfl ⟨rfl, rfl⟩
  refine stc (V := .int .i64 (((getE L (((o : Nat) : Int), (e.deps.getD o 0))).getD default).lam)) rfl rfl (fun hb31 => ?_) ?_
  ·have hl32 := hb31
   try simp only [bools] at hl32
   exact ov_load1 (v := .int .i64 (((getE L (((o : Nat) : Int), (e.deps.getD o 0))).getD default).lam)) Try.isAgg3 (show _ = (.pointer (some ⟨b23, 2, none⟩) : Value) from (if_pos hb31)) (blk_cellL (hS28.blk (i := 0) rfl) rfl) ⟨rfl, rfl⟩
  refine stc (V := .pointer (some ⟨b6, 2, none⟩)) rfl rfl (fun hb33 => ?_) ?_
  ·have hl34 := hb33
   try simp only [bools] at hl34
   exact fd36_1 rfl ⟨rfl, rfl⟩
  refine stc (V := .int .i64 (e.lam)) rfl rfl (fun hb35 => ?_) ?_
  ·have hl36 := hb35
   try simp only [bools] at hl36
   exact ov_load1 (v := .int .i64 (e.lam)) Try.isAgg3 (show _ = (.pointer (some ⟨b6, 2, none⟩) : Value) from (if_pos hb35)) (blk_cellL (hS28.blk (i := 2) rfl) rfl) ⟨rfl, rfl⟩
  refine stc (V := .bool (decide (e.lam ≤ (((getE L (((o : Nat) : Int), (e.deps.getD o 0))).getD default).lam)))) rfl rfl (fun hb37 => ?_) ?_
  ·have hl38 := hb37
   try simp only [bools] at hl38
   exact ov_geq (k := .i64) (a := ((getE L (((o : Nat) : Int), (e.deps.getD o 0))).getD default).lam) (b := e.lam) (show _ = (.int .i64 (((getE L (((o : Nat) : Int), (e.deps.getD o 0))).getD default).lam) : Value) from (if_pos hb37)) (show _ = (.int .i64 (e.lam) : Value) from (if_pos hb37)) ⟨rfl, rfl⟩
  refine st (ov_pick_or (b := !((getE L (((o : Nat) : Int), (e.deps.getD o 0))).isSome)) (b' := decide (e.lam ≤ (((getE L (((o : Nat) : Int), (e.deps.getD o 0))).getD default).lam))) rfl (fun hbp => (show _ = (.bool (decide (e.lam ≤ (((getE L (((o : Nat) : Int), (e.deps.getD o 0))).getD default).lam))) : Value) from (if_pos hbp))) ?_)
  refine st_nil ?_
  cases hc39 : (!((getE L (((o : Nat) : Int), (e.deps.getD o 0))).isSome)) || (decide (e.lam ≤ (((getE L (((o : Nat) : Int), (e.deps.getD o 0))).getD default).lam)))
  ·skip
   have hc39r := hc39
   try simp only [bools] at hc39
   have hq9 := hc39r
   simp only [Bool.or_eq_false_iff, Bool.not_eq_false', decide_eq_false_iff_not, Bool.not_eq_eq_eq_not, Bool.not_false] at hq9
   have hxl9 : ((getE L (((o : Nat) : Int), (e.deps.getD o 0))).getD default).deps.length = n := getE_len hlen rfl hq9.1
   refine WP_cond_f rfl ?_
   refine WP_skip ?_
   refine WP_seq ?_
   refine WP_seq ?_
   refine WP_region0 (by kernel_rfl) (fun _ => ?_)
   refine st (ov_assign (v := .int .i64 (0)) rfl ?_)
   refine st_nil ?_
   refine WP_block ?_
   refine WP_loop (fun mq σ wq => ∃ (k : Nat) (ρ : Env), mq = n - k ∧ σ = setAll ρ [(0, .pointer (some ⟨b, 0, none⟩)), (4, .pointer (some ⟨b6, 0, none⟩)), (7, .pointer (some ⟨b23, 0, none⟩)), (9, .int .i64 ((k : Nat) : Int))] ∧ (k ≤ n) ∧ (∀ i, i < k → ((getE L (((o : Nat) : Int), (e.deps.getD o 0))).getD default).deps.getD i 0 ≤ e.deps.getD i 0) ∧ Sep G W ((Blk b23 (((getE L (((o : Nat) : Int), (e.deps.getD o 0))).getD default).cells v17).toArray 36) :: (RowE (α := Int) own 3 v17 (((getE L (((o : Nat) : Int), (e.deps.getD o 0))).getD default).deps)) :: (Blk b6 (e.cells de0).toArray 36) :: Rs) wq) ⟨0, _, rfl, setAll_self ⟨rfl, rfl, rfl, rfl, trivial⟩, Nat.zero_le _, (fun i h => absurd h (Nat.not_lt_zero i)), hS28⟩ ?_
   rintro m41 σ42 w40 ⟨k, ρl1, rfl, rfl, hkk, hm, hS43⟩
   refine WP_seq ?_
   refine WP_seq ?_
   refine WP_region0 (by kernel_rfl) (fun _ => ?_)
   refine st (ov_move (v := .int .i64 ((k : Nat) : Int)) rfl ?_)
   refine st (ov_move (v := .pointer (some ⟨b, 0, none⟩)) rfl ?_)
   refine st (ov_nilCheck (b := b) (o := 0) rfl ?_)
   refine st (fd78_0 rfl ?_)
   refine st (ov_load1 (v := .int .i64 ((n : Nat) : Int)) Try.isAgg3 rfl (blk_cellL (hS43.gblk hb2) rfl) ?_)
   refine st (ov_lss (k := .i64) (a := ((k : Nat) : Int)) (b := ((n : Nat) : Int)) rfl rfl ?_)
   refine st_nil ?_
   cases hc44 : decide (((k : Nat) : Int) < ((n : Nat) : Int))
   ·skip
    have hc44r := hc44
    have hc44 := of_decide_eq_false hc44
    refine WP_cond_f rfl ?_
    refine WP_exit ?_
    refine blk_exit ?_
    refine WP_seq ?_
    refine WP_region0 (by kernel_rfl) (fun _ => ?_)
    refine st (ov_assign (v := .bool true) rfl ?_)
    refine st_nil ?_
    refine WP_ret ?_
    refine fin1 Try.results55 (show _ = (.bool true : Value) from rfl) ?_
    have hS45 : Sep G W Rs w40 := hS43.sel 3 [] (Nat.le_add_left _ _) rfl rfl
    refine ⟨?_, hS45⟩
    rw [knew_s hc13 rfl hq9.1, decide_eq_true (show ((getE L (((o : Nat) : Int), (e.deps.getD o 0))).getD default).lam < e.lam by omega), Bool.true_and]
    rw [List.all_eq_true.2 (fun i hi => decide_eq_true (hm i (by have := List.mem_range.1 hi; omega)))]
   ·skip
    have hc44r := hc44
    have hc44 := of_decide_eq_true hc44
    refine WP_cond_t rfl ?_
    refine WP_skip ?_
    refine WP_seq ?_
    refine WP_block ?_
    refine WP_seq ?_
    refine WP_draw4 (WF [fun vals wq => Sep G W ((Blk b23 (((getE L (((o : Nat) : Int), (e.deps.getD o 0))).getD default).cells v17).toArray 36) :: (RowE (α := Int) own 3 v17 (((getE L (((o : Nat) : Int), (e.deps.getD o 0))).getD default).deps)) :: (Blk b6 (e.cells de0).toArray 36) :: Rs) wq]) (AF [Vl 0 (.pointer (some ⟨b23, 3, none⟩)), Vl 1 (v17), Vl 2 (.int .i64 ((k : Nat) : Int)), Vl 3 (.pointer (some ⟨sb v17, so v17 + k * 1, none⟩)), Vl 4 (.int .i64 (((((getE L (((o : Nat) : Int), (e.deps.getD o 0))).getD default).deps).getD k 0))), Vl 5 (.pointer (some ⟨b6, 3, none⟩)), Vl 6 (de0), Vl 7 (.int .i64 ((k : Nat) : Int)), Vl 8 (.pointer (some ⟨sb de0, so de0 + k * 1, none⟩)), Vl 9 (.int .i64 ((e.deps.getD k 0))), Vl 10 (.bool (decide ((e.deps.getD k 0) < ((((getE L (((o : Nat) : Int), (e.deps.getD o 0))).getD default).deps).getD k 0))))]) [[], [0], [], [0, 1, 2], [0, 1, 2, 3], [], [5], [], [5, 6, 7], [5, 6, 7, 8], [0, 1, 2, 3, 4, 5, 6, 7, 8, 9]] [] [(0, 0), (0, 0), (0, 0), (0, 0), (0, 0), (0, 0), (0, 0), (0, 0), (0, 0), (0, 0), (0, 0)] (by kernel_rfl) (by kernel_rfl) (by kernel_rfl) rfl (by kernel_rfl) (by kernel_rfl) (fun _ h1 h2 h3 h4 _ => hS43.same h1 h2 h3 h4) ?_ (AF_loc ⟨dA, dA, dA, dA, dA, dA, dA, dA, dA, dA, dA, trivial⟩) ⟨?_, ?_, ?_, ?_, ?_, ?_, ?_, ?_, ?_, ?_, ?_, trivial⟩ ?_
    ·intro k vals vals' w hv h
     match k, h with
     | 0, h => exact h
     | _ + 1, _ => trivial
    ·intro k136 vals w137 h140 h141 hW139 hA138
     refine obl rfl ?_
     exact fd36_2 rfl (fun vals' hv _ => ⟨rfl, hv⟩)
    ·intro k142 vals w143 h146 h147 hW145 hA144
     obtain rfl : k142 = 0 := Nat.le_antisymm h147 h146
     have hS148 : Sep G W ((Blk b23 (((getE L (((o : Nat) : Int), (e.deps.getD o 0))).getD default).cells v17).toArray 36) :: (RowE (α := Int) own 3 v17 (((getE L (((o : Nat) : Int), (e.deps.getD o 0))).getD default).deps)) :: (Blk b6 (e.cells de0).toArray 36) :: Rs) w143 := hW145
     have e149 := hA144 0 (by decide)
     refine obl rfl ?_
     exact ov_load1 (v := v17) Try.isAgg34 e149 (blk_cellL (hS148.blk (i := 0) rfl) rfl) (fun vals' hv _ => ⟨rfl, hv⟩)
    ·intro k150 vals w151 h154 h155 hW153 hA152
     refine obl rfl ?_
     exact ov_move (v := .int .i64 ((k : Nat) : Int)) rfl (fun vals' hv _ => ⟨rfl, hv⟩)
    ·intro k156 vals w157 h160 h161 hW159 hA158
     obtain rfl : k156 = 0 := Nat.le_antisymm h161 h160
     have hS162 : Sep G W ((Blk b23 (((getE L (((o : Nat) : Int), (e.deps.getD o 0))).getD default).cells v17).toArray 36) :: (RowE (α := Int) own 3 v17 (((getE L (((o : Nat) : Int), (e.deps.getD o 0))).getD default).deps)) :: (Blk b6 (e.cells de0).toArray 36) :: Rs) w157 := hW159
     have e163 := hA158 1 (by decide)
     have e164 := hA158 2 (by decide)
     refine obl rfl ?_
     have hi165 : k < (((getE L (((o : Nat) : Int), (e.deps.getD o 0))).getD default).deps).length := (by first | omega | (simp only [lens]; omega))
     exact ov_indexAddrN (k := 1) (i := k) Try.underlying34 Try.sizeOf3 e163 hr21.1 e164 hi165 (fun vals' hv _ => ⟨rfl, hv⟩)
    ·intro k166 vals w167 h170 h171 hW169 hA168
     obtain rfl : k166 = 0 := Nat.le_antisymm h171 h170
     have hS172 : Sep G W ((Blk b23 (((getE L (((o : Nat) : Int), (e.deps.getD o 0))).getD default).cells v17).toArray 36) :: (RowE (α := Int) own 3 v17 (((getE L (((o : Nat) : Int), (e.deps.getD o 0))).getD default).deps)) :: (Blk b6 (e.cells de0).toArray 36) :: Rs) w167 := hW169
     have e173 := hA168 3 (by decide)
     refine obl rfl ?_
     have hi175 : k < (((getE L (((o : Nat) : Int), (e.deps.getD o 0))).getD default).deps).length := (by first | omega | (simp only [lens]; omega))
     obtain ⟨_, _, hce174, rfl, hxe174⟩ := hS172.rowAt (i := 1) (j := k) rfl hi175
     rw [← getD_at 0 hi175] at hce174 hxe174
     exact ov_load1 (v := .int .i64 (((((getE L (((o : Nat) : Int), (e.deps.getD o 0))).getD default).deps).getD k 0))) Try.isAgg3 e173 (hce174.get (j := 0) rfl) (fun vals' hv _ => ⟨rfl, hv⟩)
    ·intro k176 vals w177 h180 h181 hW179 hA178
     refine obl rfl ?_
     exact fd36_2 rfl (fun vals' hv _ => ⟨rfl, hv⟩)
    ·intro k182 vals w183 h186 h187 hW185 hA184
     obtain rfl : k182 = 0 := Nat.le_antisymm h187 h186
     have hS188 : Sep G W ((Blk b23 (((getE L (((o : Nat) : Int), (e.deps.getD o 0))).getD default).cells v17).toArray 36) :: (RowE (α := Int) own 3 v17 (((getE L (((o : Nat) : Int), (e.deps.getD o 0))).getD default).deps)) :: (Blk b6 (e.cells de0).toArray 36) :: Rs) w183 := hW185
     have e189 := hA184 5 (by decide)
     refine obl rfl ?_
     exact ov_load1 (v := de0) Try.isAgg34 e189 (blk_cellL (hS188.blk (i := 2) rfl) rfl) (fun vals' hv _ => ⟨rfl, hv⟩)
    ·intro k190 vals w191 h194 h195 hW193 hA192
     refine obl rfl ?_
     exact ov_move (v := .int .i64 ((k : Nat) : Int)) rfl (fun vals' hv _ => ⟨rfl, hv⟩)
    ·intro k196 vals w197 h200 h201 hW199 hA198
     obtain rfl : k196 = 0 := Nat.le_antisymm h201 h200
     have hS202 : Sep G W ((Blk b23 (((getE L (((o : Nat) : Int), (e.deps.getD o 0))).getD default).cells v17).toArray 36) :: (RowE (α := Int) own 3 v17 (((getE L (((o : Nat) : Int), (e.deps.getD o 0))).getD default).deps)) :: (Blk b6 (e.cells de0).toArray 36) :: Rs) w197 := hW199
     have e203 := hA198 6 (by decide)
     have e204 := hA198 7 (by decide)
     refine obl rfl ?_
     have hi205 : k < e.deps.length := (by first | omega | (simp only [lens]; omega))
     exact ov_indexAddrN (k := 1) (i := k) Try.underlying34 Try.sizeOf3 e203 hde0.sl e204 hi205 (fun vals' hv _ => ⟨rfl, hv⟩)
    ·intro k206 vals w207 h210 h211 hW209 hA208
     obtain rfl : k206 = 0 := Nat.le_antisymm h211 h210
     have hS212 : Sep G W ((Blk b23 (((getE L (((o : Nat) : Int), (e.deps.getD o 0))).getD default).cells v17).toArray 36) :: (RowE (α := Int) own 3 v17 (((getE L (((o : Nat) : Int), (e.deps.getD o 0))).getD default).deps)) :: (Blk b6 (e.cells de0).toArray 36) :: Rs) w207 := hW209
     have e213 := hA208 8 (by decide)
     refine obl rfl ?_
     have hi215 : k < e.deps.length := (by first | omega | (simp only [lens]; omega))
     obtain ⟨hce214, hxe214⟩ := hde0.int hi215
     rw [← getD_at 0 hi215] at hce214 hxe214
     have hcw216 := hS212.cells hce214 (hde0.foot (ne_of_lt hi215))
     exact ov_load1 (v := .int .i64 ((e.deps.getD k 0))) Try.isAgg3 e213 (hcw216.get (j := 0) rfl) (fun vals' hv _ => ⟨rfl, hv⟩)
    ·intro k217 vals w218 h221 h222 hW220 hA219
     obtain rfl : k217 = 0 := Nat.le_antisymm h222 h221
     have hS223 : Sep G W ((Blk b23 (((getE L (((o : Nat) : Int), (e.deps.getD o 0))).getD default).cells v17).toArray 36) :: (RowE (α := Int) own 3 v17 (((getE L (((o : Nat) : Int), (e.deps.getD o 0))).getD default).deps)) :: (Blk b6 (e.cells de0).toArray 36) :: Rs) w218 := hW220
     have e224 := hA219 4 (by decide)
     have e225 := hA219 9 (by decide)
     refine obl rfl ?_
     exact ov_gtr (k := .i64) (a := ((((getE L (((o : Nat) : Int), (e.deps.getD o 0))).getD default).deps).getD k 0)) (b := (e.deps.getD k 0)) e224 e225 (fun vals' hv _ => ⟨rfl, hv⟩)
    intro vals w226 hW227 hA228
    have hS229 : Sep G W ((Blk b23 (((getE L (((o : Nat) : Int), (e.deps.getD o 0))).getD default).cells v17).toArray 36) :: (RowE (α := Int) own 3 v17 (((getE L (((o : Nat) : Int), (e.deps.getD o 0))).getD default).deps)) :: (Blk b6 (e.cells de0).toArray 36) :: Rs) w226 := hW227
    have e230 := hA228 10 (by decide)
    refine st_env (kv := [(0, .pointer (some ⟨b, 0, none⟩)), (4, .pointer (some ⟨b6, 0, none⟩)), (7, .pointer (some ⟨b23, 0, none⟩)), (9, .int .i64 ((k : Nat) : Int)), (37, .int .i64 ((k : Nat) : Int)), (38, .pointer (some ⟨b, 0, none⟩)), (39, .pointer (some ⟨b, 0, none⟩)), (40, .pointer (some ⟨b, 0, none⟩)), (41, .int .i64 ((n : Nat) : Int)), (42, .bool true), (55, .bool (decide ((e.deps.getD k 0) < ((((getE L (((o : Nat) : Int), (e.deps.getD o 0))).getD default).deps).getD k 0))))]) ⟨rfl, rfl, rfl, rfl, rfl, rfl, rfl, rfl, rfl, rfl, (by exact e230), trivial⟩ (fun ρw226 => ?_)
    refine st_nil ?_
    cases hc231 : decide ((e.deps.getD k 0) < ((((getE L (((o : Nat) : Int), (e.deps.getD o 0))).getD default).deps).getD k 0))
    ·skip
     have hc231r := hc231
     have hc231 := of_decide_eq_false hc231
     refine WP_cond_f rfl ?_
     refine WP_skip ?_
     refine WP_region0 (by kernel_rfl) (fun _ => ?_)
     refine st (ov_move (v := .int .i64 ((k : Nat) : Int)) rfl ?_)
     have hr232 : InR ((k + 1 : Nat) : Int) := by first | omega | (simp only [lens]; omega)
     refine st (ov_add (r := ((k + 1 : Nat) : Int)) (k := .i64) (a := ((k : Nat) : Int)) (b := 1) rfl rfl (by rw [show (((k : Nat) : Int) + 1 : Int) = ((k + 1 : Nat) : Int) by first | omega | (simp only [lens]; omega)]; exact wrap_in hr232) ?_)
     refine st (ov_assign (v := .int .i64 ((k + 1 : Nat) : Int)) rfl ?_)
     refine st_nil ?_
     exact ⟨_, by omega, k + 1, _, rfl, setAll_self ⟨rfl, rfl, rfl, rfl, trivial⟩, by omega, (all_step hm (by omega)), hS229⟩
    ·skip
     have hc231r := hc231
     have hc231 := of_decide_eq_true hc231
     refine WP_cond_t rfl ?_
     refine WP_seq ?_
     refine WP_region0 (by kernel_rfl) (fun _ => ?_)
     refine st (ov_assign (v := .bool false) rfl ?_)
     refine st_nil ?_
     refine WP_ret ?_
     refine fin1 Try.results55 (show _ = (.bool false : Value) from rfl) ?_
     have hS233 : Sep G W Rs w226 := hS229.sel 3 [] (Nat.le_add_left _ _) rfl rfl
     refine ⟨?_, hS233⟩
     rw [knew_s hc13 rfl hq9.1, decide_eq_true (show ((getE L (((o : Nat) : Int), (e.deps.getD o 0))).getD default).lam < e.lam by omega), Bool.true_and]
     congr 1
     symm
     rw [List.all_eq_false]
     exact ⟨k, List.mem_range.2 (by omega), by simp only [decide_eq_true_eq]; omega⟩
  ·skip
   have hc39r := hc39
   try simp only [bools] at hc39
   refine WP_cond_t rfl ?_
   refine WP_seq ?_
   refine WP_region0 (by kernel_rfl) (fun _ => ?_)
   refine st (ov_assign (v := .bool false) rfl ?_)
   refine st_nil ?_
   refine WP_ret ?_
   refine fin1 Try.results55 (show _ = (.bool false : Value) from rfl) ?_
   have hS234 : Sep G W Rs w26 := hS28.sel 3 [] (Nat.le_add_left _ _) rfl rfl
   refine ⟨?_, hS234⟩
   cases hq9 : (getE L (((o : Nat) : Int), e.deps.getD o 0)).isSome
   · rw [knew_n hc13 hq9]
   · rw [knew_s hc13 rfl hq9]
     have h9 : ¬ ((getE L (((o : Nat) : Int), (e.deps.getD o 0))).getD default).lam < e.lam := by rw [hq9] at hc39r; simpa using hc39r
     rw [decide_eq_false h9]; rfl
 ·skip
  have hc13r := hc13
  have hc13 := of_decide_eq_true hc13
  refine WP_cond_t rfl ?_
  refine WP_seq ?_
  refine WP_region0 (by kernel_rfl) (fun _ => ?_)
  refine st (ov_assign (v := .bool true) rfl ?_)
  refine st_nil ?_
  refine WP_ret ?_
  refine fin1 Try.results55 (show _ = (.bool true : Value) from rfl) ?_
  have hS235 : Sep G W Rs w7 := hS8.sel 1 [] (Nat.le_add_left _ _) rfl rfl
  refine ⟨?_, hS235⟩
  rw [knew_z hc13]

theorem negL_at {l : List Int} {k : Nat} (hk : k < l.length) (h : l.getD k 0 < 0) : negL l = true := by
  unfold negL
  rw [List.any_eq_true]
  exact ⟨l.getD k 0, by rw [getD_at _ hk]; exact List.getElem_mem hk, by simpa using h⟩
theorem negL_no {l : List Int} (h : ∀ i, i < l.length → ¬ l.getD i 0 < 0) : negL l = false := by
  unfold negL
  rw [List.any_eq_false]
  intro x hx
  obtain ⟨i, hi, rfl⟩ := List.getElem_of_mem hx
  have := h i hi
  rw [getD_at _ hi] at this
  simpa using this
theorem checkE_alt {e : Ev} {n : Int} : checkE e n =
    if ((((((decide (e.origin < 0) || decide (n ≤ e.origin)) || decide (e.seq < 1)) || decide (e.lam < 1)) || decide (e.agg < 0)) || decide (e.key < 0)) || !decide (((e.deps.length : Nat) : Int) = n)) = true then 1
    else if negL e.deps = true then 1
    else if (!decide (e.deps.getD e.origin.toNat 0 = e.seq - 1)) = true then 9
    else if (decide (e.op < 1) || decide (5 < e.op)) = true then 2
    else if (((decide (e.typ < 0) || decide (7 < e.typ)) || decide (e.field < 0)) || decide (7 < e.field)) = true then 8
    else 0 := by
  unfold checkE
  have h1 : decide (min e.seq e.lam < 1) = (decide (e.seq < 1) || decide (e.lam < 1)) := by rw [Bool.eq_iff_iff]; simp only [Bool.or_eq_true, decide_eq_true_eq]; omega
  have h2 : decide (min e.agg e.key < 0) = (decide (e.agg < 0) || decide (e.key < 0)) := by rw [Bool.eq_iff_iff]; simp only [Bool.or_eq_true, decide_eq_true_eq]; omega
  have h3 : ((decide (min e.typ e.field < 0) || decide (8 ≤ e.typ)) || decide (8 ≤ e.field)) = (((decide (e.typ < 0) || decide (7 < e.typ)) || decide (e.field < 0)) || decide (7 < e.field)) := by rw [Bool.eq_iff_iff]; simp only [Bool.or_eq_true, decide_eq_true_eq]; omega
  rw [h1, h2, h3]
  cases hn : negL e.deps
  · simp only [Bool.or_false, Bool.or_assoc, Bool.false_eq_true, if_false]
  · simp only [Bool.or_true, Bool.or_assoc, if_true]
    split <;> rfl
theorem D_rCheck {G : Nat → Prop} {W w : World} {Rs : List HP} {e : Ev} {de0 : Value} (hde0 : RdS W G de0 e.deps) (oe : e.Ok) {n : Nat} (hn : n ≤ 1000) (hS0 : Sep G W Rs w) : Ret Try.prog 52 [.agg (e.cells de0).toArray, .int .i64 ((n : Nat) : Int)] w (fun r w' => r = (.int .i64 ((checkE e ((n : Nat) : Int))) : Value) ∧ Sep G W Rs w') := by
 have hde0s : e.deps.length * 8 ≤ 140737488355328 := hde0.small
 refine Calls_of_WP (args := [.agg (e.cells de0).toArray, .int .i64 ((n : Nat) : Int)]) Try.func52 rfl rfl ?_
 refine WP_seq ?_
 refine WP_region0 (by kernel_rfl) (fun _ => ?_)
 refine st (ov_box (v := .agg (e.cells de0).toArray) rfl ?_)
 intro w3 b2 hn1
 have hS4 : Sep G W ((Blk b2 (e.cells de0).toArray 36) :: Rs) w3 := hS0.new hn1
 refine st (ov_assign (v := .int .i64 (0)) rfl ?_)
 refine st_nil ?_
 refine WP_seq ?_
 refine WP_seq ?_
 refine WP_region (by kernel_rfl) ?_
 refine st (fd36_0 rfl ?_)
 refine st (fd33_0 rfl ?_)
 refine st (ov_load1 (v := .int .i64 (e.origin)) Try.isAgg3 rfl (blk_cellL (hS4.blk (i := 0) rfl) rfl) ?_)
 refine st (ov_lss (k := .i64) (a := e.origin) (b := 0) rfl rfl ?_)
 refine st (ov_move (v := .bool (decide (e.origin < 0))) rfl ?_)
 refine stc (V := .pointer (some ⟨b2, 0, none⟩)) rfl rfl (fun hb5 => ?_) ?_
 ·have hl6 := hb5
  have hl6 := of_decide_eq_false hl6
  exact fd36_0 rfl ⟨rfl, rfl⟩
 refine stc (V := .pointer (some ⟨b2, 0, none⟩)) rfl rfl (fun hb7 => ?_) ?_
 ·have hl8 := hb7
  have hl8 := of_decide_eq_false hl8
  exact fd33_0 (show _ = (.pointer (some ⟨b2, 0, none⟩) : Value) from (if_pos hb7)) ⟨rfl, rfl⟩
 refine stc (V := .int .i64 (e.origin)) rfl rfl (fun hb9 => ?_) ?_
 ·have hl10 := hb9
  have hl10 := of_decide_eq_false hl10
  exact ov_load1 (v := .int .i64 (e.origin)) Try.isAgg3 (show _ = (.pointer (some ⟨b2, 0, none⟩) : Value) from (if_pos hb9)) (blk_cellL (hS4.blk (i := 0) rfl) rfl) ⟨rfl, rfl⟩
 refine stc (V := .int .i64 ((n : Nat) : Int)) rfl rfl (fun hb11 => ?_) ?_
 ·have hl12 := hb11
  have hl12 := of_decide_eq_false hl12
  exact ov_move (v := .int .i64 ((n : Nat) : Int)) rfl ⟨rfl, rfl⟩
 refine stc (V := .bool (decide (((n : Nat) : Int) ≤ e.origin))) rfl rfl (fun hb13 => ?_) ?_
 ·have hl14 := hb13
  have hl14 := of_decide_eq_false hl14
  exact ov_geq (k := .i64) (a := e.origin) (b := ((n : Nat) : Int)) (show _ = (.int .i64 (e.origin) : Value) from (if_pos hb13)) (show _ = (.int .i64 ((n : Nat) : Int) : Value) from (if_pos hb13)) ⟨rfl, rfl⟩
 refine st (ov_pick_or (b := decide (e.origin < 0)) (b' := decide (((n : Nat) : Int) ≤ e.origin)) rfl (fun hbp => (show _ = (.bool (decide (((n : Nat) : Int) ≤ e.origin)) : Value) from (if_pos hbp))) ?_)
 refine st (ov_move (v := .bool ((decide (e.origin < 0)) || (decide (((n : Nat) : Int) ≤ e.origin)))) rfl ?_)
 refine stc (V := .pointer (some ⟨b2, 0, none⟩)) rfl rfl (fun hb15 => ?_) ?_
 ·have hl16 := hb15
  try simp only [bools] at hl16
  exact fd36_0 rfl ⟨rfl, rfl⟩
 refine stc (V := .pointer (some ⟨b2, 1, none⟩)) rfl rfl (fun hb17 => ?_) ?_
 ·have hl18 := hb17
  try simp only [bools] at hl18
  exact fd33_1 (show _ = (.pointer (some ⟨b2, 0, none⟩) : Value) from (if_pos hb17)) ⟨rfl, rfl⟩
 refine stc (V := .int .i64 (e.seq)) rfl rfl (fun hb19 => ?_) ?_
 ·have hl20 := hb19
  try simp only [bools] at hl20
  exact ov_load1 (v := .int .i64 (e.seq)) Try.isAgg3 (show _ = (.pointer (some ⟨b2, 1, none⟩) : Value) from (if_pos hb19)) (blk_cellL (hS4.blk (i := 0) rfl) rfl) ⟨rfl, rfl⟩
 refine stc (V := .bool (decide (e.seq < 1))) rfl rfl (fun hb21 => ?_) ?_
 ·have hl22 := hb21
  try simp only [bools] at hl22
  exact ov_lss (k := .i64) (a := e.seq) (b := 1) (show _ = (.int .i64 (e.seq) : Value) from (if_pos hb21)) rfl ⟨rfl, rfl⟩
 refine st (ov_pick_or (b := (decide (e.origin < 0)) || (decide (((n : Nat) : Int) ≤ e.origin))) (b' := decide (e.seq < 1)) rfl (fun hbp => (show _ = (.bool (decide (e.seq < 1)) : Value) from (if_pos hbp))) ?_)
 refine st (ov_move (v := .bool (((decide (e.origin < 0)) || (decide (((n : Nat) : Int) ≤ e.origin))) || (decide (e.seq < 1)))) rfl ?_)
 refine stc (V := .pointer (some ⟨b2, 2, none⟩)) rfl rfl (fun hb23 => ?_) ?_
 ·have hl24 := hb23
  try simp only [bools] at hl24
  exact fd36_1 rfl ⟨rfl, rfl⟩
 refine stc (V := .int .i64 (e.lam)) rfl rfl (fun hb25 => ?_) ?_
 ·have hl26 := hb25
  try simp only [bools] at hl26
  exact ov_load1 (v := .int .i64 (e.lam)) Try.isAgg3 (show _ = (.pointer (some ⟨b2, 2, none⟩) : Value) from (if_pos hb25)) (blk_cellL (hS4.blk (i := 0) rfl) rfl) ⟨rfl, rfl⟩
 refine stc (V := .bool (decide (e.lam < 1))) rfl rfl (fun hb27 => ?_) ?_
 ·have hl28 := hb27
  try simp only [bools] at hl28
  exact ov_lss (k := .i64) (a := e.lam) (b := 1) (show _ = (.int .i64 (e.lam) : Value) from (if_pos hb27)) rfl ⟨rfl, rfl⟩
 refine st (ov_pick_or (b := ((decide (e.origin < 0)) || (decide (((n : Nat) : Int) ≤ e.origin))) || (decide (e.seq < 1))) (b' := decide (e.lam < 1)) rfl (fun hbp => (show _ = (.bool (decide (e.lam < 1)) : Value) from (if_pos hbp))) ?_)
 refine st (ov_move (v := .bool ((((decide (e.origin < 0)) || (decide (((n : Nat) : Int) ≤ e.origin))) || (decide (e.seq < 1))) || (decide (e.lam < 1)))) rfl ?_)
 refine stc (V := .pointer (some ⟨b2, 5, none⟩)) rfl rfl (fun hb29 => ?_) ?_
 ·have hl30 := hb29
  try simp only [bools] at hl30
  exact fd36_4 rfl ⟨rfl, rfl⟩
 refine stc (V := .int .i64 (e.agg)) rfl rfl (fun hb31 => ?_) ?_
 ·have hl32 := hb31
  try simp only [bools] at hl32
  exact ov_load1 (v := .int .i64 (e.agg)) Try.isAgg3 (show _ = (.pointer (some ⟨b2, 5, none⟩) : Value) from (if_pos hb31)) (blk_cellL (hS4.blk (i := 0) rfl) rfl) ⟨rfl, rfl⟩
 refine stc (V := .bool (decide (e.agg < 0))) rfl rfl (fun hb33 => ?_) ?_
 ·have hl34 := hb33
  try simp only [bools] at hl34
  exact ov_lss (k := .i64) (a := e.agg) (b := 0) (show _ = (.int .i64 (e.agg) : Value) from (if_pos hb33)) rfl ⟨rfl, rfl⟩
 refine st (ov_pick_or (b := (((decide (e.origin < 0)) || (decide (((n : Nat) : Int) ≤ e.origin))) || (decide (e.seq < 1))) || (decide (e.lam < 1))) (b' := decide (e.agg < 0)) rfl (fun hbp => (show _ = (.bool (decide (e.agg < 0)) : Value) from (if_pos hbp))) ?_)
 refine st (ov_move (v := .bool (((((decide (e.origin < 0)) || (decide (((n : Nat) : Int) ≤ e.origin))) || (decide (e.seq < 1))) || (decide (e.lam < 1))) || (decide (e.agg < 0)))) rfl ?_)
 refine stc (V := .pointer (some ⟨b2, 9, none⟩)) rfl rfl (fun hb35 => ?_) ?_
 ·have hl36 := hb35
  try simp only [bools] at hl36
  exact fd36_8 rfl ⟨rfl, rfl⟩
 refine stc (V := .int .i64 (e.key)) rfl rfl (fun hb37 => ?_) ?_
 ·have hl38 := hb37
  try simp only [bools] at hl38
  exact ov_load1 (v := .int .i64 (e.key)) Try.isAgg3 (show _ = (.pointer (some ⟨b2, 9, none⟩) : Value) from (if_pos hb37)) (blk_cellL (hS4.blk (i := 0) rfl) rfl) ⟨rfl, rfl⟩
 refine stc (V := .bool (decide (e.key < 0))) rfl rfl (fun hb39 => ?_) ?_
 ·have hl40 := hb39
  try simp only [bools] at hl40
  exact ov_lss (k := .i64) (a := e.key) (b := 0) (show _ = (.int .i64 (e.key) : Value) from (if_pos hb39)) rfl ⟨rfl, rfl⟩
 refine st (ov_pick_or (b := ((((decide (e.origin < 0)) || (decide (((n : Nat) : Int) ≤ e.origin))) || (decide (e.seq < 1))) || (decide (e.lam < 1))) || (decide (e.agg < 0))) (b' := decide (e.key < 0)) rfl (fun hbp => (show _ = (.bool (decide (e.key < 0)) : Value) from (if_pos hbp))) ?_)
 refine st (ov_move (v := .bool ((((((decide (e.origin < 0)) || (decide (((n : Nat) : Int) ≤ e.origin))) || (decide (e.seq < 1))) || (decide (e.lam < 1))) || (decide (e.agg < 0))) || (decide (e.key < 0)))) rfl ?_)
 refine stc (V := .pointer (some ⟨b2, 3, none⟩)) rfl rfl (fun hb41 => ?_) ?_
 ·have hl42 := hb41
  try simp only [bools] at hl42
  exact fd36_2 rfl ⟨rfl, rfl⟩
 refine stc (V := de0) rfl rfl (fun hb43 => ?_) ?_
 ·have hl44 := hb43
  try simp only [bools] at hl44
  exact ov_load1 (v := de0) Try.isAgg34 (show _ = (.pointer (some ⟨b2, 3, none⟩) : Value) from (if_pos hb43)) (blk_cellL (hS4.blk (i := 0) rfl) rfl) ⟨rfl, rfl⟩
 refine stc (V := .int .i64 ((e.deps.length : Nat) : Int)) rfl rfl (fun hb45 => ?_) ?_
 ·have hl46 := hb45
  try simp only [bools] at hl46
  exact ov_len (n := e.deps.length) Try.underlying34 (show _ = (de0 : Value) from (if_pos hb45)) hde0.sl ⟨rfl, rfl⟩
 refine stc (V := .int .i64 ((n : Nat) : Int)) rfl rfl (fun hb47 => ?_) ?_
 ·have hl48 := hb47
  try simp only [bools] at hl48
  exact ov_move (v := .int .i64 ((n : Nat) : Int)) rfl ⟨rfl, rfl⟩
 refine stc (V := .bool (!decide (((e.deps.length : Nat) : Int) = ((n : Nat) : Int)))) rfl rfl (fun hb49 => ?_) ?_
 ·have hl50 := hb49
  try simp only [bools] at hl50
  exact ov_neq (k := .i64) (a := ((e.deps.length : Nat) : Int)) (b := ((n : Nat) : Int)) (show _ = (.int .i64 ((e.deps.length : Nat) : Int) : Value) from (if_pos hb49)) (show _ = (.int .i64 ((n : Nat) : Int) : Value) from (if_pos hb49)) ⟨rfl, rfl⟩
 refine st (ov_pick_or (b := (((((decide (e.origin < 0)) || (decide (((n : Nat) : Int) ≤ e.origin))) || (decide (e.seq < 1))) || (decide (e.lam < 1))) || (decide (e.agg < 0))) || (decide (e.key < 0))) (b' := !decide (((e.deps.length : Nat) : Int) = ((n : Nat) : Int))) rfl (fun hbp => (show _ = (.bool (!decide (((e.deps.length : Nat) : Int) = ((n : Nat) : Int))) : Value) from (if_pos hbp))) ?_)
 refine st_nil ?_
 cases hc51 : ((((((decide (e.origin < 0)) || (decide (((n : Nat) : Int) ≤ e.origin))) || (decide (e.seq < 1))) || (decide (e.lam < 1))) || (decide (e.agg < 0))) || (decide (e.key < 0))) || (!decide (((e.deps.length : Nat) : Int) = ((n : Nat) : Int)))
 ·skip
  have hc51r := hc51
  try simp only [bools] at hc51
  refine WP_cond_f rfl ?_
  refine WP_skip ?_
  refine WP_seq ?_
  refine WP_seq ?_
  refine WP_region0 (by kernel_rfl) (fun _ => ?_)
  refine st (ov_assign (v := .int .i64 (0)) rfl ?_)
  refine st_nil ?_
  refine WP_block ?_
  refine WP_loop (fun mq σ wq => ∃ (k : Nat) (ρ : Env), mq = n - k ∧ σ = setAll ρ [(2, .pointer (some ⟨b2, 0, none⟩)), (1, .int .i64 ((n : Nat) : Int)), (5, .int .i64 ((k : Nat) : Int))] ∧ (k ≤ n) ∧ (∀ i, i < k → ¬ e.deps.getD i 0 < 0) ∧ Sep G W ((Blk b2 (e.cells de0).toArray 36) :: Rs) wq) ⟨0, _, rfl, setAll_self ⟨rfl, rfl, rfl, trivial⟩, Nat.zero_le _, (fun i h => absurd h (Nat.not_lt_zero i)), hS4⟩ ?_
  rintro m53 σ54 w52 ⟨k, ρl1, rfl, rfl, hkk, hm, hS55⟩
  refine WP_seq ?_
  refine WP_seq ?_
  refine WP_region0 (by kernel_rfl) (fun _ => ?_)
  refine st (ov_move (v := .int .i64 ((k : Nat) : Int)) rfl ?_)
  refine st (ov_move (v := .int .i64 ((n : Nat) : Int)) rfl ?_)
  refine st (ov_lss (k := .i64) (a := ((k : Nat) : Int)) (b := ((n : Nat) : Int)) rfl rfl ?_)
  refine st_nil ?_
  cases hc56 : decide (((k : Nat) : Int) < ((n : Nat) : Int))
  ·skip
   have hc56r := hc56
   have hc56 := of_decide_eq_false hc56
   refine WP_cond_f rfl ?_
   refine WP_exit ?_
   refine blk_exit ?_
   refine WP_seq ?_
   refine WP_seq ?_
   refine WP_draw4 (WF [fun vals wq => Sep G W ((Blk b2 (e.cells de0).toArray 36) :: Rs) wq]) (AF [Vl 0 (.pointer (some ⟨b2, 3, none⟩)), Vl 1 (de0), Vl 2 (.pointer (some ⟨b2, 0, none⟩)), Vl 3 (.pointer (some ⟨b2, 0, none⟩)), Vl 4 (.int .i64 (e.origin)), Vl 5 (.pointer (some ⟨sb de0, so de0 + e.origin.toNat * 1, none⟩)), Vl 6 (.int .i64 ((e.deps.getD e.origin.toNat 0))), Vl 7 (.pointer (some ⟨b2, 0, none⟩)), Vl 8 (.pointer (some ⟨b2, 1, none⟩)), Vl 9 (.int .i64 (e.seq)), Vl 10 (.int .i64 (e.seq - 1)), Vl 11 (.bool (!decide ((e.deps.getD e.origin.toNat 0) = (e.seq - 1))))]) [[], [0], [], [2], [2, 3], [0, 1, 2, 3, 4], [0, 1, 2, 3, 4, 5], [], [7], [7, 8], [7, 8, 9], [0, 1, 2, 3, 4, 5, 6, 7, 8, 9, 10]] [] [(0, 0), (0, 0), (0, 0), (0, 0), (0, 0), (0, 0), (0, 0), (0, 0), (0, 0), (0, 0), (0, 0), (0, 0)] (by kernel_rfl) (by kernel_rfl) (by kernel_rfl) rfl (by kernel_rfl) (by kernel_rfl) (fun _ h1 h2 h3 h4 _ => hS55.same h1 h2 h3 h4) ?_ (AF_loc ⟨dA, dA, dA, dA, dA, dA, dA, dA, dA, dA, dA, dA, trivial⟩) ⟨?_, ?_, ?_, ?_, ?_, ?_, ?_, ?_, ?_, ?_, ?_, ?_, trivial⟩ ?_
   ·intro k vals vals' w hv h
    match k, h with
    | 0, h => exact h
    | _ + 1, _ => trivial
   ·intro k152 vals w153 h156 h157 hW155 hA154
    refine obl rfl ?_
    exact fd36_2 rfl (fun vals' hv _ => ⟨rfl, hv⟩)
   ·intro k158 vals w159 h162 h163 hW161 hA160
    obtain rfl : k158 = 0 := Nat.le_antisymm h163 h162
    have hS164 : Sep G W ((Blk b2 (e.cells de0).toArray 36) :: Rs) w159 := hW161
    have e165 := hA160 0 (by decide)
    refine obl rfl ?_
    exact ov_load1 (v := de0) Try.isAgg34 e165 (blk_cellL (hS164.blk (i := 0) rfl) rfl) (fun vals' hv _ => ⟨rfl, hv⟩)
   ·intro k166 vals w167 h170 h171 hW169 hA168
    refine obl rfl ?_
    exact fd36_0 rfl (fun vals' hv _ => ⟨rfl, hv⟩)
   ·intro k172 vals w173 h176 h177 hW175 hA174
    have e178 := hA174 2 (by decide)
    refine obl rfl ?_
    exact fd33_0 e178 (fun vals' hv _ => ⟨rfl, hv⟩)
   ·intro k179 vals w180 h183 h184 hW182 hA181
    obtain rfl : k179 = 0 := Nat.le_antisymm h184 h183
    have hS185 : Sep G W ((Blk b2 (e.cells de0).toArray 36) :: Rs) w180 := hW182
    have e186 := hA181 3 (by decide)
    refine obl rfl ?_
    exact ov_load1 (v := .int .i64 (e.origin)) Try.isAgg3 e186 (blk_cellL (hS185.blk (i := 0) rfl) rfl) (fun vals' hv _ => ⟨rfl, hv⟩)
   ·intro k187 vals w188 h191 h192 hW190 hA189
    obtain rfl : k187 = 0 := Nat.le_antisymm h192 h191
    have hS193 : Sep G W ((Blk b2 (e.cells de0).toArray 36) :: Rs) w188 := hW190
    have e194 := hA189 1 (by decide)
    have e195 := hA189 4 (by decide)
    refine obl rfl ?_
    have hi196 : e.origin.toNat < e.deps.length := (by first | omega | (simp only [lens]; omega))
    exact ov_indexAddr (k := 1) (i := e.origin) Try.underlying34 Try.sizeOf3 e194 hde0.sl e195 ⟨by omega, by omega⟩ (fun vals' hv _ => ⟨rfl, hv⟩)
   ·intro k197 vals w198 h201 h202 hW200 hA199
    obtain rfl : k197 = 0 := Nat.le_antisymm h202 h201
    have hS203 : Sep G W ((Blk b2 (e.cells de0).toArray 36) :: Rs) w198 := hW200
    have e204 := hA199 5 (by decide)
    refine obl rfl ?_
    have hi206 : e.origin.toNat < e.deps.length := (by first | omega | (simp only [lens]; omega))
    obtain ⟨hce205, hxe205⟩ := hde0.int hi206
    rw [← getD_at 0 hi206] at hce205 hxe205
    have hcw207 := hS203.cells hce205 (hde0.foot (ne_of_lt hi206))
    exact ov_load1 (v := .int .i64 ((e.deps.getD e.origin.toNat 0))) Try.isAgg3 e204 (hcw207.get (j := 0) rfl) (fun vals' hv _ => ⟨rfl, hv⟩)
   ·intro k208 vals w209 h212 h213 hW211 hA210
    refine obl rfl ?_
    exact fd36_0 rfl (fun vals' hv _ => ⟨rfl, hv⟩)
   ·intro k214 vals w215 h218 h219 hW217 hA216
    have e220 := hA216 7 (by decide)
    refine obl rfl ?_
    exact fd33_1 e220 (fun vals' hv _ => ⟨rfl, hv⟩)
   ·intro k221 vals w222 h225 h226 hW224 hA223
    obtain rfl : k221 = 0 := Nat.le_antisymm h226 h225
    have hS227 : Sep G W ((Blk b2 (e.cells de0).toArray 36) :: Rs) w222 := hW224
    have e228 := hA223 8 (by decide)
    refine obl rfl ?_
    exact ov_load1 (v := .int .i64 (e.seq)) Try.isAgg3 e228 (blk_cellL (hS227.blk (i := 0) rfl) rfl) (fun vals' hv _ => ⟨rfl, hv⟩)
   ·intro k229 vals w230 h233 h234 hW232 hA231
    obtain rfl : k229 = 0 := Nat.le_antisymm h234 h233
    have hS235 : Sep G W ((Blk b2 (e.cells de0).toArray 36) :: Rs) w230 := hW232
    have e236 := hA231 9 (by decide)
    refine obl rfl ?_
    have hr237 : InR (e.seq - 1) := (by have h9 := oe.seq; omega)
    exact ov_sub (r := e.seq - 1) (k := .i64) (a := e.seq) (b := 1) e236 rfl (by rw [show (e.seq - 1 : Int) = e.seq - 1 from rfl]; exact wrap_in hr237) (fun vals' hv _ => ⟨rfl, hv⟩)
   ·intro k238 vals w239 h242 h243 hW241 hA240
    obtain rfl : k238 = 0 := Nat.le_antisymm h243 h242
    have hS244 : Sep G W ((Blk b2 (e.cells de0).toArray 36) :: Rs) w239 := hW241
    have e245 := hA240 6 (by decide)
    have e246 := hA240 10 (by decide)
    refine obl rfl ?_
    exact ov_neq (k := .i64) (a := (e.deps.getD e.origin.toNat 0)) (b := e.seq - 1) e245 e246 (fun vals' hv _ => ⟨rfl, hv⟩)
   intro vals w247 hW248 hA249
   have hS250 : Sep G W ((Blk b2 (e.cells de0).toArray 36) :: Rs) w247 := hW248
   have e251 := hA249 11 (by decide)
   refine st_env (kv := [(2, .pointer (some ⟨b2, 0, none⟩)), (1, .int .i64 ((n : Nat) : Int)), (5, .int .i64 ((k : Nat) : Int)), (45, .int .i64 ((k : Nat) : Int)), (46, .int .i64 ((n : Nat) : Int)), (47, .bool false), (67, .bool (!decide ((e.deps.getD e.origin.toNat 0) = (e.seq - 1))))]) ⟨rfl, rfl, rfl, rfl, rfl, rfl, (by exact e251), trivial⟩ (fun ρw247 => ?_)
   refine st_nil ?_
   cases hc252 : !decide ((e.deps.getD e.origin.toNat 0) = (e.seq - 1))
   ·skip
    have hc252r := hc252
    have hc252 := ndec_false hc252
    refine WP_cond_f rfl ?_
    refine WP_skip ?_
    refine WP_seq ?_
    refine WP_seq ?_
    refine WP_region (by kernel_rfl) ?_
    refine st (fd36_6 rfl ?_)
    refine st (ov_load1 (v := .int .i64 (e.op)) Try.isAgg3 rfl (blk_cellL (hS250.blk (i := 0) rfl) rfl) ?_)
    refine st (ov_lss (k := .i64) (a := e.op) (b := 1) rfl rfl ?_)
    refine st (ov_move (v := .bool (decide (e.op < 1))) rfl ?_)
    refine stc (V := .pointer (some ⟨b2, 7, none⟩)) rfl rfl (fun hb253 => ?_) ?_
    ·have hl254 := hb253
     have hl254 := of_decide_eq_false hl254
     exact fd36_6 rfl ⟨rfl, rfl⟩
    refine stc (V := .int .i64 (e.op)) rfl rfl (fun hb255 => ?_) ?_
    ·have hl256 := hb255
     have hl256 := of_decide_eq_false hl256
     exact ov_load1 (v := .int .i64 (e.op)) Try.isAgg3 (show _ = (.pointer (some ⟨b2, 7, none⟩) : Value) from (if_pos hb255)) (blk_cellL (hS250.blk (i := 0) rfl) rfl) ⟨rfl, rfl⟩
    refine stc (V := .bool (decide (5 < e.op))) rfl rfl (fun hb257 => ?_) ?_
    ·have hl258 := hb257
     have hl258 := of_decide_eq_false hl258
     exact ov_gtr (k := .i64) (a := e.op) (b := 5) (show _ = (.int .i64 (e.op) : Value) from (if_pos hb257)) rfl ⟨rfl, rfl⟩
    refine st (ov_pick_or (b := decide (e.op < 1)) (b' := decide (5 < e.op)) rfl (fun hbp => (show _ = (.bool (decide (5 < e.op)) : Value) from (if_pos hbp))) ?_)
    refine st_nil ?_
    cases hc259 : (decide (e.op < 1)) || (decide (5 < e.op))
    ·skip
     have hc259r := hc259
     try simp only [bools] at hc259
     refine WP_cond_f rfl ?_
     refine WP_skip ?_
     refine WP_seq ?_
     refine WP_seq ?_
     refine WP_region (by kernel_rfl) ?_
     refine st (fd36_3 rfl ?_)
     refine st (ov_load1 (v := .int .i64 (e.typ)) Try.isAgg3 rfl (blk_cellL (hS250.blk (i := 0) rfl) rfl) ?_)
     refine st (ov_lss (k := .i64) (a := e.typ) (b := 0) rfl rfl ?_)
     refine st (ov_move (v := .bool (decide (e.typ < 0))) rfl ?_)
     refine stc (V := .pointer (some ⟨b2, 4, none⟩)) rfl rfl (fun hb260 => ?_) ?_
     ·have hl261 := hb260
      have hl261 := of_decide_eq_false hl261
      exact fd36_3 rfl ⟨rfl, rfl⟩
     refine stc (V := .int .i64 (e.typ)) rfl rfl (fun hb262 => ?_) ?_
     ·have hl263 := hb262
      have hl263 := of_decide_eq_false hl263
      exact ov_load1 (v := .int .i64 (e.typ)) Try.isAgg3 (show _ = (.pointer (some ⟨b2, 4, none⟩) : Value) from (if_pos hb262)) (blk_cellL (hS250.blk (i := 0) rfl) rfl) ⟨rfl, rfl⟩
     refine stc (V := .bool (decide (7 < e.typ))) rfl rfl (fun hb264 => ?_) ?_
     ·have hl265 := hb264
      have hl265 := of_decide_eq_false hl265
      exact ov_gtr (k := .i64) (a := e.typ) (b := 7) (show _ = (.int .i64 (e.typ) : Value) from (if_pos hb264)) rfl ⟨rfl, rfl⟩
     refine st (ov_pick_or (b := decide (e.typ < 0)) (b' := decide (7 < e.typ)) rfl (fun hbp => (show _ = (.bool (decide (7 < e.typ)) : Value) from (if_pos hbp))) ?_)
     refine st (ov_move (v := .bool ((decide (e.typ < 0)) || (decide (7 < e.typ)))) rfl ?_)
     refine stc (V := .pointer (some ⟨b2, 6, none⟩)) rfl rfl (fun hb266 => ?_) ?_
     ·have hl267 := hb266
      try simp only [bools] at hl267
      exact fd36_5 rfl ⟨rfl, rfl⟩
     refine stc (V := .int .i64 (e.field)) rfl rfl (fun hb268 => ?_) ?_
     ·have hl269 := hb268
      try simp only [bools] at hl269
      exact ov_load1 (v := .int .i64 (e.field)) Try.isAgg3 (show _ = (.pointer (some ⟨b2, 6, none⟩) : Value) from (if_pos hb268)) (blk_cellL (hS250.blk (i := 0) rfl) rfl) ⟨rfl, rfl⟩
     refine stc (V := .bool (decide (e.field < 0))) rfl rfl (fun hb270 => ?_) ?_
     ·have hl271 := hb270
      try simp only [bools] at hl271
      exact ov_lss (k := .i64) (a := e.field) (b := 0) (show _ = (.int .i64 (e.field) : Value) from (if_pos hb270)) rfl ⟨rfl, rfl⟩
     refine st (ov_pick_or (b := (decide (e.typ < 0)) || (decide (7 < e.typ))) (b' := decide (e.field < 0)) rfl (fun hbp => (show _ = (.bool (decide (e.field < 0)) : Value) from (if_pos hbp))) ?_)
     refine st (ov_move (v := .bool (((decide (e.typ < 0)) || (decide (7 < e.typ))) || (decide (e.field < 0)))) rfl ?_)
     refine stc (V := .pointer (some ⟨b2, 6, none⟩)) rfl rfl (fun hb272 => ?_) ?_
     ·have hl273 := hb272
      try simp only [bools] at hl273
      exact fd36_5 rfl ⟨rfl, rfl⟩
     refine stc (V := .int .i64 (e.field)) rfl rfl (fun hb274 => ?_) ?_
     ·have hl275 := hb274
      try simp only [bools] at hl275
      exact ov_load1 (v := .int .i64 (e.field)) Try.isAgg3 (show _ = (.pointer (some ⟨b2, 6, none⟩) : Value) from (if_pos hb274)) (blk_cellL (hS250.blk (i := 0) rfl) rfl) ⟨rfl, rfl⟩
     refine stc (V := .bool (decide (7 < e.field))) rfl rfl (fun hb276 => ?_) ?_
     ·have hl277 := hb276
      try simp only [bools] at hl277
      exact ov_gtr (k := .i64) (a := e.field) (b := 7) (show _ = (.int .i64 (e.field) : Value) from (if_pos hb276)) rfl ⟨rfl, rfl⟩
     refine st (ov_pick_or (b := ((decide (e.typ < 0)) || (decide (7 < e.typ))) || (decide (e.field < 0))) (b' := decide (7 < e.field)) rfl (fun hbp => (show _ = (.bool (decide (7 < e.field)) : Value) from (if_pos hbp))) ?_)
     refine st_nil ?_
     cases hc278 : (((decide (e.typ < 0)) || (decide (7 < e.typ))) || (decide (e.field < 0))) || (decide (7 < e.field))
     ·skip
      have hc278r := hc278
      try simp only [bools] at hc278
      refine WP_cond_f rfl ?_
      refine WP_skip ?_
      refine WP_seq ?_
      refine WP_region0 (by kernel_rfl) (fun _ => ?_)
      refine st (ov_assign (v := .int .i64 (0)) rfl ?_)
      refine st_nil ?_
      refine WP_ret ?_
      refine fin1 Try.results52 (show _ = (.int .i64 (0) : Value) from rfl) ?_
      have hS279 : Sep G W Rs w247 := hS250.sel 1 [] (Nat.le_add_left _ _) rfl rfl
      refine ⟨?_, hS279⟩
      rw [checkE_alt]
      rw [if_neg (by rw [hc51r]; decide)]
      first | rw [if_pos (negL_at (k := k) (by omega) (by omega))] | (rw [if_neg (by rw [negL_no (fun i hi => hm i (by omega))]; decide)]; (repeat first | rw [if_pos (by assumption)] | rw [if_neg (by first | (rw [hc56r]; decide) | (rw [hc252r]; decide) | (rw [hc259r]; decide) | (rw [hc278r]; decide) | skip)]))
     ·skip
      have hc278r := hc278
      try simp only [bools] at hc278
      refine WP_cond_t rfl ?_
      refine WP_seq ?_
      refine WP_region0 (by kernel_rfl) (fun _ => ?_)
      refine st (ov_assign (v := .int .i64 (8)) rfl ?_)
      refine st_nil ?_
      refine WP_ret ?_
      refine fin1 Try.results52 (show _ = (.int .i64 (8) : Value) from rfl) ?_
      have hS280 : Sep G W Rs w247 := hS250.sel 1 [] (Nat.le_add_left _ _) rfl rfl
      refine ⟨?_, hS280⟩
      rw [checkE_alt]
      rw [if_neg (by rw [hc51r]; decide)]
      first | rw [if_pos (negL_at (k := k) (by omega) (by omega))] | (rw [if_neg (by rw [negL_no (fun i hi => hm i (by omega))]; decide)]; (repeat first | rw [if_pos (by assumption)] | rw [if_neg (by first | (rw [hc56r]; decide) | (rw [hc252r]; decide) | (rw [hc259r]; decide) | (rw [hc278r]; decide) | skip)]))
    ·skip
     have hc259r := hc259
     try simp only [bools] at hc259
     refine WP_cond_t rfl ?_
     refine WP_seq ?_
     refine WP_region0 (by kernel_rfl) (fun _ => ?_)
     refine st (ov_assign (v := .int .i64 (2)) rfl ?_)
     refine st_nil ?_
     refine WP_ret ?_
     refine fin1 Try.results52 (show _ = (.int .i64 (2) : Value) from rfl) ?_
     have hS281 : Sep G W Rs w247 := hS250.sel 1 [] (Nat.le_add_left _ _) rfl rfl
     refine ⟨?_, hS281⟩
     rw [checkE_alt]
     rw [if_neg (by rw [hc51r]; decide)]
     first | rw [if_pos (negL_at (k := k) (by omega) (by omega))] | (rw [if_neg (by rw [negL_no (fun i hi => hm i (by omega))]; decide)]; (repeat first | rw [if_pos (by assumption)] | rw [if_neg (by first | (rw [hc56r]; decide) | (rw [hc252r]; decide) | (rw [hc259r]; decide) | skip)]))
   ·skip
    have hc252r := hc252
    have hc252 := ndec_true hc252
    refine WP_cond_t rfl ?_
    refine WP_seq ?_
    refine WP_region0 (by kernel_rfl) (fun _ => ?_)
    refine st (ov_assign (v := .int .i64 (9)) rfl ?_)
    refine st_nil ?_
    refine WP_ret ?_
    refine fin1 Try.results52 (show _ = (.int .i64 (9) : Value) from rfl) ?_
    have hS282 : Sep G W Rs w247 := hS250.sel 1 [] (Nat.le_add_left _ _) rfl rfl
    refine ⟨?_, hS282⟩
    rw [checkE_alt]
    rw [if_neg (by rw [hc51r]; decide)]
    first | rw [if_pos (negL_at (k := k) (by omega) (by omega))] | (rw [if_neg (by rw [negL_no (fun i hi => hm i (by omega))]; decide)]; (repeat first | rw [if_pos (by assumption)] | rw [if_neg (by first | (rw [hc56r]; decide) | (rw [hc252r]; decide) | skip)]))
  ·skip
   have hc56r := hc56
   have hc56 := of_decide_eq_true hc56
   refine WP_cond_t rfl ?_
   refine WP_skip ?_
   refine WP_seq ?_
   refine WP_block ?_
   refine WP_seq ?_
   refine WP_region0 (by kernel_rfl) (fun _ => ?_)
   refine st (fd36_2 rfl ?_)
   refine st (ov_load1 (v := de0) Try.isAgg34 rfl (blk_cellL (hS55.blk (i := 0) rfl) rfl) ?_)
   refine st (ov_move (v := .int .i64 ((k : Nat) : Int)) rfl ?_)
   have hi283 : k < e.deps.length := (by first | omega | (simp only [lens]; omega))
   refine st (ov_indexAddrN (k := 1) (i := k) Try.underlying34 Try.sizeOf3 rfl hde0.sl rfl hi283 ?_)
   have hi285 : k < e.deps.length := (by first | omega | (simp only [lens]; omega))
   obtain ⟨hce284, hxe284⟩ := hde0.int hi285
   rw [← getD_at 0 hi285] at hce284 hxe284
   have hcw286 := hS55.cells hce284 (hde0.foot (ne_of_lt hi285))
   refine st (ov_load1 (v := .int .i64 ((e.deps.getD k 0))) Try.isAgg3 rfl (hcw286.get (j := 0) rfl) ?_)
   refine st (ov_lss (k := .i64) (a := (e.deps.getD k 0)) (b := 0) rfl rfl ?_)
   refine st_nil ?_
   cases hc287 : decide ((e.deps.getD k 0) < 0)
   ·skip
    have hc287r := hc287
    have hc287 := of_decide_eq_false hc287
    refine WP_cond_f rfl ?_
    refine WP_skip ?_
    refine WP_region0 (by kernel_rfl) (fun _ => ?_)
    refine st (ov_move (v := .int .i64 ((k : Nat) : Int)) rfl ?_)
    have hr288 : InR ((k + 1 : Nat) : Int) := by first | omega | (simp only [lens]; omega)
    refine st (ov_add (r := ((k + 1 : Nat) : Int)) (k := .i64) (a := ((k : Nat) : Int)) (b := 1) rfl rfl (by rw [show (((k : Nat) : Int) + 1 : Int) = ((k + 1 : Nat) : Int) by first | omega | (simp only [lens]; omega)]; exact wrap_in hr288) ?_)
    refine st (ov_assign (v := .int .i64 ((k + 1 : Nat) : Int)) rfl ?_)
    refine st_nil ?_
    exact ⟨_, by omega, k + 1, _, rfl, setAll_self ⟨rfl, rfl, rfl, trivial⟩, by omega, (all_step hm (by omega)), hS55⟩
   ·skip
    have hc287r := hc287
    have hc287 := of_decide_eq_true hc287
    refine WP_cond_t rfl ?_
    refine WP_seq ?_
    refine WP_region0 (by kernel_rfl) (fun _ => ?_)
    refine st (ov_assign (v := .int .i64 (1)) rfl ?_)
    refine st_nil ?_
    refine WP_ret ?_
    refine fin1 Try.results52 (show _ = (.int .i64 (1) : Value) from rfl) ?_
    have hS289 : Sep G W Rs w52 := hS55.sel 1 [] (Nat.le_add_left _ _) rfl rfl
    refine ⟨?_, hS289⟩
    rw [checkE_alt]
    rw [if_neg (by rw [hc51r]; decide)]
    first | rw [if_pos (negL_at (k := k) (by omega) (by omega))] | (rw [if_neg (by rw [negL_no (fun i hi => hm i (by omega))]; decide)]; (repeat first | rw [if_pos (by assumption)] | rw [if_neg (by first | (rw [hc56r]; decide) | (rw [hc287r]; decide) | skip)]))
 ·skip
  have hc51r := hc51
  try simp only [bools] at hc51
  refine WP_cond_t rfl ?_
  refine WP_seq ?_
  refine WP_region0 (by kernel_rfl) (fun _ => ?_)
  refine st (ov_assign (v := .int .i64 (1)) rfl ?_)
  refine st_nil ?_
  refine WP_ret ?_
  refine fin1 Try.results52 (show _ = (.int .i64 (1) : Value) from rfl) ?_
  have hS290 : Sep G W Rs w3 := hS4.sel 1 [] (Nat.le_add_left _ _) rfl rfl
  refine ⟨?_, hS290⟩
  rw [checkE_alt]
  rw [if_pos hc51r]

end Go.Proofs.Ytmiihhbeclhaoaa
end
