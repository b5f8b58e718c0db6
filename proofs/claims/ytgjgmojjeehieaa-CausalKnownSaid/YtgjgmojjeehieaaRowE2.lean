/- More on rows: appends of what is shared, stores, rows that are made; maps, and loops over them. -/
import Derived.Test.YtgjgmojjeehieaaRowE
set_option linter.unusedSimpArgs false
set_option linter.unusedVariables false
namespace Go.Proofs.Ytgjgmojjeehieaa
open Go.RowKit

theorem _root_.List.take_getD {α : Type} {l : List α} {k : Nat} {d : α} (h : k < l.length) : l.take (k + 1) = l.take k ++ [l.getD k d] := by
  rw [List.take_succ_eq_append_getElem h, getD_at d h]

section
variable {P : Program} {d : Option Tmp} {ty : TypeId} {pos : String} {af : Array Edge} {gd : Option (Nat × Bool)} {σ : Env} {w : World} {K : Value → World → Prop}
variable {α : Type} [Rep α] {src : Src α} {T : TypeId} {v : Value} {l : List α} {G : Nat → Prop} {W : World} {As : List HP} {N : HP}
/-- append(s, y...): y is shared. -/
theorem ov_appendS {t : TypeId} {bytes : Nat} {s x : Operand} {v2 : Value} {l2 : List α} (h : Sep G W (RowE src T v l :: As) w) (E : Elem P t T (Rep.k α) bytes) (hs : ev σ s = v) (hx : ev σ x = v2) (h2 : RdS W G v2 l2)
    (hb : (l.length + l2.length) * bytes ≤ 140737488355328) (hby0 : bytes = Rep.bytes α)
    (hK : ∀ v' w', Sep G W (RowE src T v' (l ++ l2) :: As) w' → K v' w') (hq' : ∀ cs x, Rep.rd W G cs x → ∀ w f, (src.el cs x).p w f) : opV P ⟨d, .call ⟨.builtin .append, #[s, x], #[t, t]⟩, ty, pos, af, gd⟩ σ w K := by
  subst hby0
  obtain ⟨i, z, hi, hz, hsize, hby, hzs⟩ := E.info
  obtain ⟨f0, ⟨css, hE, hown, hrow, hsm⟩, hl0⟩ := h.get (i := 0) rfl
  have hlen := small_lt (α := α) hb
  have h2w := h.rds h2
  obtain ⟨css2, hE2', hc2⟩ := h2w.els
  obtain ⟨css2W, hE2W, hc2W⟩ := h2.els
  have hEq : css2.flatten = css2W.flatten := by
    have l1 := hE2'.flat
    have l2' := hE2W.flat
    refine List.ext_getElem (by rw [l1, l2']) (fun j h3 h4 => ?_)
    have e1 := hc2 j _ (List.getElem?_eq_getElem h3)
    have e2 := hc2W j _ (List.getElem?_eq_getElem h4)
    have hne : l2 ≠ [] := by intro e; rw [e, List.length_nil, Nat.zero_mul] at l1; omega
    have hG := h2.foot hne
    rw [cell_block (h.gb hG), e2] at e1
    exact (Option.some.inj e1).symm
  obtain ⟨a2, cap2, hv2, hle2, hpos2⟩ := h2.sl
  cases a2 with
  | none =>
    have h0 : l2.length = 0 := by
      rcases Nat.eq_zero_or_pos l2.length with h | h
      · exact h
      · obtain ⟨b, o, hbo⟩ := hpos2 h; cases hbo
    have hl2 : l2 = [] := List.length_eq_zero_iff.1 h0
    obtain ⟨a1, cap1, hv1, hle1, _⟩ := (h.row (i := 0) rfl).1
    rw [hv1] at hs
    rw [hv2, h0] at hx
    refine ov_run (run_append_call hs hx (run_append_none w t ty T i E.und hi a1 l.length cap1 cap2 hle1)) ?_
    subst hl2
    rw [← hv1]
    exact hK v w (by simpa using h)
  | some a2 =>
    have ha : ∀ j u, css2.flatten[j]? = some u → w.cell? (a2.add j) = some u := by
      intro j u hu
      have hne : 0 < l2.length := by
        rcases Nat.eq_zero_or_pos l2.length with h0 | h0
        · have := hE2'.flat; rw [h0, Nat.zero_mul] at this
          rw [List.length_eq_zero_iff.1 this] at hu; simp at hu
        · exact h0
      obtain ⟨b, o, hbo⟩ := hpos2 hne
      have hu' := hc2 j u hu
      rw [hv2] at hu'
      cases hbo
      rw [show (⟨b, o, none⟩ : Addr).add j = ⟨b, o + j, none⟩ from Addr.add_lit b o j]
      exact hu'
    rw [hv2] at hx
    refine ov_appendRow E Rep.kpos hs hown hx hE2'.flat ha hE2'.one hb (by unfold maxLen; omega) (fun v' w' hown' hchg hv' => hK v' w' ?_)
    refine h.upd (i := 0) rfl (fun f hA hl => ?_)
    obtain ⟨cs0, hE, hown2, hrow, hsm⟩ := hA
    have nv : ∀ b, f b → v.ownBlock ≠ some b → v'.ownBlock ≠ some b := fun b h1 h2 e => by
      rcases hv' with h3 | h3
      · rw [h3] at e; exact h2 e
      · have := h3 b e; have := (hl b h1).2; omega
    refine ⟨hchg.weak (fun b _ hb => hrow b hb), fun b => f b ∨ w.heap.size ≤ b, ⟨cs0 ++ css2W, EP.append (hE.mono (fun cs x h => (src.el cs x).loc h (fun b hb hlt => ⟨hchg.block b hlt hb.2, .inl hb.1, nv b hb.1 hb.2⟩))) (hE2W.ep.mono (fun cs x h => hq' cs x h _ _)), ?_, fun b hb => ?_, by simpa using hb⟩, fun b hb => hb⟩
    · rw [List.length_append, List.flatten_append, ← ownsRow_unique hown hown2, ← hEq]
      exact hown'
    · rcases hv' with h3 | h3
      · rw [h3] at hb; exact .inl (hrow b hb)
      · exact .inr (h3 b hb)

/-- A store into a row's element: the cells from o on are others, the memory N goes into it. -/
theorem ov_storeS {t : TypeId} {j o : Nat} {x y : Operand} {u : Value} {x1 : α} {us : List Value} (h : Sep G W (RowE src T v l :: N :: As) w) (hS : ∀ w, (sizeOf t).run P w = .ok us.length w) (hj : j < l.length)
    (hx : ev σ x = .pointer (some ⟨sb v, so v + j * Rep.k α + o, none⟩)) (hy : ev σ y = u) (hu : u.cells.toList = us) (ho : o + us.length ≤ Rep.k α) (h1 : ∀ u ∈ us, u.oneCell' = true)
    (hq : ∀ w f cs0, (src.el cs0 l[j]).p w f → N.p w f → (src.el (cs0.take o ++ us ++ cs0.drop (o + us.length)) x1).p w f)
    (hK : ∀ w', Sep G W (RowE src T v (l.set j x1) :: As) w' → K undef w') : opV P ⟨d, .store t x y, ty, pos, af, gd⟩ σ w K := by
  have hst := h.closeStar (Bs := [RowE src T v l, N])
  obtain ⟨f0, ⟨fs, q1, q2⟩, hl0⟩ := hst.get (i := 0) rfl
  obtain ⟨⟨css, hE, hown, hrow, hsm⟩, _⟩ := q1 0 _ rfl
  have hlen : ∀ {w f cs x}, (src.el cs x).p w f → cs.length = Rep.k α := fun h => src.len h
  rcases hown.2 with ⟨rfl, h0⟩ | ⟨g, cap, cur, rfl, hg, hb, hn, hm, hs, ht⟩
  · omega
  · have hle : j * Rep.k α + Rep.k α ≤ l.length * Rep.k α := by rw [← Nat.succ_mul]; exact Nat.mul_le_mul_right _ hj
    have hle2 : l.length * Rep.k α ≤ cap * Rep.k α := Nat.mul_le_mul_right _ hn
    have hx' : ev σ x = .pointer (some ⟨g, j * Rep.k α + o, none⟩) := by rw [hx]; simp [sb, so]
    refine ov_store (v := u) (c := cur) (T := T) (by intro w; rw [hS, ← hu]; simp) hx' hy hb (by rw [hu]; exact h1) (by rw [hu, hs]; omega) rfl (fun w1 hp => hK w1 ?_)
    refine hst.upd (i := 0) (B := RowE src T (.slice (some ⟨g, 0, none⟩) l.length cap) (l.set j x1)) rfl (fun f hA hl => ?_)
    obtain ⟨gs, r1, r2⟩ := hA
    obtain ⟨⟨css, hE, hown, hrow, hsm⟩, hf0⟩ := r1 0 _ rfl
    obtain ⟨hNp, hf1⟩ := r1 1 _ rfl
    have r2' := r2 0 1 (by simp) (by simp) (by simp)
    have hgr : gs 0 g := hrow g rfl
    refine ⟨hp.chg.weak (fun b _ hb => by subst hb; exact (hf0 _ hgr).1), f, ?_, fun b hb => .inl hb⟩
    have hgo : (Value.slice (some ⟨g, 0, none⟩) l.length cap).ownBlock = some g := rfl
    have nb : ∀ b, (gs 0 b ∧ (Value.slice (some ⟨g, 0, none⟩) l.length cap).ownBlock ≠ some b) ∨ gs 1 b → b < w.heap.size → w1.heap[b]? = w.heap[b]? ∧ (f b ∧ (Value.slice (some ⟨g, 0, none⟩) l.length cap).ownBlock ≠ some b) := fun b hb hlt => by
      have hne : b ≠ g := fun e => by
        subst e
        rcases hb with hb | hb
        · exact hb.2 hgo
        · exact r2' _ hgr hb
      refine ⟨hp.chg.block b hlt hne, ?_, fun e => hne (by rw [hgo] at e; exact (Option.some.inj e).symm)⟩
      rcases hb with hb | hb
      · exact (hf0 b hb.1).1
      · exact (hf1 b hb).1
    rcases hown.2 with ⟨h3, h0⟩ | ⟨g', cap', cur', he, hg', hb', hn', hm', hs', ht'⟩
    · cases h3
    · cases he
      rw [hb] at hb'
      cases hb'
      obtain ⟨cs, hcs0, hel, hcs⟩ := hE.at_ (fun cs x h => hlen h) j hj
      have hcl := hlen hel
      have hnew : (src.el (cs.take o ++ us ++ cs.drop (o + us.length)) x1).p w1 (fun b => f b ∧ (Value.slice (some ⟨g, 0, none⟩) l.length cap).ownBlock ≠ some b) := by
        have e1 := (src.el cs l[j]).loc hel (fun b hb hlt => nb b (.inl hb) hlt)
        have e2 := N.loc hNp (fun b hb hlt => nb b (.inr hb) hlt)
        exact hq _ _ _ e1 e2
      have hnl := hlen hnew
      have hE' := (hE.mono (fun cs x h => (src.el cs x).loc h (fun b hb hlt => nb b (.inl hb) hlt)))
      refine ⟨css.set j (cs.take o ++ us ++ cs.drop (o + us.length)), EP.set (q := fun cs x => (src.el cs x).p w1 (fun b => f b ∧ (Value.slice (some ⟨g, 0, none⟩) l.length cap).ownBlock ≠ some b)) hE' j hnew, ?_, fun b hb => by rw [hgo] at hb; cases hb; exact (hf0 _ hgr).1, by rw [List.length_set]; exact hsm⟩
      have hcf := hE.flat (fun cs x h => hlen h)
      have hfl := EP.setFlat (fun cs x h => hlen h) hE j hj hnl
      have hlen2 : (css.set j (cs.take o ++ us ++ cs.drop (o + us.length))).flatten.length = l.length * Rep.k α := by
        rw [hfl]
        simp only [List.length_append, List.length_take, List.length_drop, hcf, hcl]
        omega
      refine ⟨by rw [List.length_set]; exact hlen2, .inr ⟨g, cap, _, by rw [List.length_set], hg, hp.at_, by rw [List.length_set]; exact hn, hm, ?_, ?_⟩⟩
      · simp only [putAt, hu, List.size_toArray, List.length_append, List.length_take, List.length_drop, Array.length_toList]
        rw [hs]; omega
      · rw [List.length_set, hfl]
        simp only [putAt, hu]
        have hcz : cur.toList.length = cap * Rep.k α := by simpa using hs
        have hcsd : cs = (cur.toList.drop (j * Rep.k α)).take (Rep.k α) := by
          refine List.ext_getElem (by rw [hcl, List.length_take, List.length_drop, hcz]; omega) (fun i h3 h4 => ?_)
          have h5 := hcs i h3
          rw [← ht', List.getElem?_take] at h5
          split at h5
          · rw [List.getElem_take, List.getElem_drop]
            exact (List.getElem?_eq_some_iff.1 h5).2.symm
          · cases h5
        have e1 : css.flatten.take (j * Rep.k α) = cur.toList.take (j * Rep.k α) := by rw [← ht', List.take_take, Nat.min_eq_left (by omega)]
        have e2 : css.flatten.drop (j * Rep.k α + Rep.k α) = (cur.toList.drop (j * Rep.k α + Rep.k α)).take (l.length * Rep.k α - (j * Rep.k α + Rep.k α)) := by rw [← ht', List.drop_take]
        have e3 : cs.take o = (cur.toList.drop (j * Rep.k α)).take o := by rw [hcsd, List.take_take, Nat.min_eq_left (by omega)]
        have e4 : cs.drop (o + us.length) = (cur.toList.drop (j * Rep.k α + o + us.length)).take (Rep.k α - (o + us.length)) := by rw [hcsd, List.drop_take, List.drop_drop]; congr 2; omega
        rw [e1, e2, e3, e4]
        have e5 : cur.toList.take (j * Rep.k α + o) = cur.toList.take (j * Rep.k α) ++ (cur.toList.drop (j * Rep.k α)).take o := List.take_add
        have hA : (cur.toList.take (j * Rep.k α + o) ++ us).length = j * Rep.k α + o + us.length := by rw [List.length_append, List.length_take, hcz]; omega
        have e6 : (cur.toList.drop (j * Rep.k α + o + us.length)).take (l.length * Rep.k α - (j * Rep.k α + o + us.length)) = (cur.toList.drop (j * Rep.k α + o + us.length)).take (Rep.k α - (o + us.length)) ++ (cur.toList.drop (j * Rep.k α + Rep.k α)).take (l.length * Rep.k α - (j * Rep.k α + Rep.k α)) := by
          have := @List.take_add _ (cur.toList.drop (j * Rep.k α + o + us.length)) (Rep.k α - (o + us.length)) (l.length * Rep.k α - (j * Rep.k α + Rep.k α))
          rw [show Rep.k α - (o + us.length) + (l.length * Rep.k α - (j * Rep.k α + Rep.k α)) = l.length * Rep.k α - (j * Rep.k α + o + us.length) by omega] at this
          rw [this, List.drop_drop]
          congr 3
          omega
        rw [List.take_append, hA, List.take_of_length_le (by rw [hA]; omega), e6, e5]
        simp only [List.append_assoc]
end
section
variable {α : Type} [Rep α] {G : Nat → Prop} {W w w' : World} {As : List HP} {m : Nat} {L : List (Int × α)}
/-- A map from numbers to what has no memory of its own. -/
def MapH (m : Nat) (L : List (Int × α)) : HP := ⟨fun w f => f m ∧ MapR (α := α) w (fun _ => False) m L, fun ⟨h1, h2⟩ hf => ⟨(hf _ h1 h2.lt).2, h2.mono (hf _ h1 h2.lt).1 (fun _ h => h.elim)⟩⟩
theorem Sep.mapNew (h : Sep G W As w) (hn : New w w' w.heap.size (.map #[] 0)) : Sep G W (MapH (α := α) w.heap.size [] :: As) w' := h.push hn.ext (f := fun i => i = w.heap.size) ⟨rfl, New.mapR hn _⟩ (fun i hi => by omega)
theorem Sep.map_ (h : Sep G W As w) {i : Nat} (hi : As[i]? = some (MapH m L)) : MapR (α := α) w (fun _ => False) m L := by obtain ⟨f, h1, _⟩ := h.get hi; exact h1.2
theorem Sep.mapPut (h : Sep G W As w) {i : Nat} (hi : As[i]? = some (MapH m L)) {L' : List (Int × α)} (hm : MapR (α := α) w' (fun _ => False) m L') (hc : Chg (fun i => i = m) w w') : Sep G W (As.set i (MapH m L')) w' :=
  h.upd hi (fun f hA _ => ⟨hc.weak (fun j _ hj => by subst hj; exact hA.1), f, ⟨hA.1, hm⟩, fun _ hb => .inl hb⟩)
end
end Go.Proofs.Ytgjgmojjeehieaa
