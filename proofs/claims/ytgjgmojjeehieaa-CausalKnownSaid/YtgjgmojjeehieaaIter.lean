/- Going through a map that is shared. -/
import Derived.Test.YtgjgmojjeehieaaRound
set_option linter.unusedSimpArgs false
set_option linter.unusedVariables false
namespace Go.Proofs.Ytgjgmojjeehieaa
open Go.RowKit Go.MapKept

/-- Pieces of code. -/
def cA : Code → Code
  | .seq a _ => a
  | .rangeFunc _ _ a _ => a
  | c => c
def cB : Code → Code
  | .seq _ b => b
  | .block _ c => c
  | .rangeFunc _ _ _ b => b
  | c => c
def bodyOf (f : Func) : Code := f.body.getD .skip
section
variable {P : Program} {σ : Env} {w : World} {K : Value → World → Prop} {d : Option Tmp} {ty : TypeId} {pos : String} {af : Array Edge} {g : Option (Nat × Bool)}
variable {G : Nat → Prop} {W : World} {As : List HP} {m it clock : Nat} {es : Array MapEntry} {idx : List Nat}
/-- A loop over the map of block m, and what it has handed out. -/
def IterO (it m : Nat) (es : Array MapEntry) (clock : Nat) (idx : List Nat) : HP := ⟨fun w f => f it ∧ ∃ seen, w.heap[it]? = some (.mapIter (some m) clock seen clock) ∧ idx.Nodup ∧ (∀ j ∈ idx, j < es.size) ∧ seen.toList = idx.map fun j => (es.toList[j]?.map (·.born)).getD 0, fun ⟨h1, seen, h2, h3⟩ hf => ⟨(hf _ h1 (blk_lt h2)).2, seen, ((hf _ h1 (blk_lt h2)).1).trans h2, h3⟩⟩

theorem ov_rangeO {t kt et : TypeId} {x : Operand} (h : Sep G W As w) (hG : G m) (hm : W.heap[m]? = some (.map es clock)) (hU : P.underlying t = some (.map kt et)) (hx : ev σ x = .map (some m))
    (hk : ∀ w1 it, Sep G W (IterO it m es clock [] :: As) w1 → K (.pointer (some ⟨it, 0, none⟩)) w1) : opV P ⟨d, .range t x, ty, pos, af, g⟩ σ w K := by
  have hb := (h.gb hG).trans hm
  have hn := New.mk' w (.mapIter (some m) clock #[] clock)
  refine ov_run (v := .pointer (some ⟨w.heap.size, 0, none⟩)) (w' := { w with heap := w.heap.push (.mapIter (some m) clock #[] clock) }) ?_ (hk _ _ (h.push hn.ext (f := fun i => i = w.heap.size) ⟨rfl, #[], hn.at_, List.nodup_nil, by simp, rfl⟩ (fun i hi => by omega)))
  have := run_range_map (P := P) w t kt et m es clock hU hb
  simp [execOp, hx, go_sem]
  rw [this]; rfl

theorem ov_nextO {x : Operand} (h : Sep G W (IterO it m es clock idx :: As) w) (hG : G m) (hm : W.heap[m]? = some (.map es clock)) (hs : Stamped es clock) (hx : ev σ x = .pointer (some ⟨it, 0, none⟩))
    (h0 : List.Perm idx (List.range es.size) → K (.tuple #[.bool false]) w)
    (h1 : ∀ w1 j, j < es.size → idx.length < es.size → (idx ++ [j]).Nodup → Sep G W (IterO it m es clock (idx ++ [j]) :: As) w1 → ∀ u v, K (.tuple #[.bool true, u, v]) w1) : opV P ⟨d, .next x false, ty, pos, af, g⟩ σ w K := by
  have hb := (h.gb hG).trans hm
  obtain ⟨f0, ⟨hf0, seen, hit, hn, hlt, hseen⟩, hfl, hT⟩ := h.take (i := 0) rfl
  have hmi : m ≠ it := fun e => (hfl it hf0).1 (e ▸ hG)
  rcases run_next_at (P := P) w ty it m clock clock seen es clock hit hb hs.1 (Nat.le_refl _) with ⟨hz, hr⟩ | ⟨e, hel, w1, hal, hr⟩
  · refine ov_run (v := .tuple #[.bool false]) (w' := w) (by simp [execOp, hx, hr, go_sem]) (h0 (idx_all hn hlt fun j hj => ?_))
    have hj' : j < es.toList.length := by simpa using hj
    have h2 := all_seen es seen hz _ (List.getElem_mem hj')
    have h3 : (es.toList[j]).born ∈ seen.toList := by simpa [Array.contains_iff_mem] using h2
    rw [hseen, List.mem_map] at h3
    obtain ⟨i, hi, hbi⟩ := h3
    have hi' : i < es.toList.length := by simpa using hlt i hi
    rw [List.getElem?_eq_getElem hi'] at hbi
    have h4 : (es.toList[i]).born = (es.toList[j]).born := hbi
    have h5 := List.pairwise_map.1 hs.2.1
    have : i = j := by
      rcases Nat.lt_trichotomy i j with h | h | h
      · exact absurd h4 (List.pairwise_iff_getElem.1 h5 i j hi' hj' h)
      · exact h
      · exact absurd h4.symm (List.pairwise_iff_getElem.1 h5 j i hj' hi' h)
    rwa [← this]
  · obtain ⟨hmem, hns⟩ := mem_left hel
    obtain ⟨j, hj, rfl⟩ := List.getElem_of_mem hmem
    have hjl : j < es.size := by simpa using hj
    have hji : j ∉ idx := by
      intro h
      have : (es.toList[j]).born ∈ seen.toList := by
        rw [hseen, List.mem_map]
        exact ⟨j, h, by rw [List.getElem?_eq_getElem hj]; rfl⟩
      have h3 : seen.contains (es.toList[j]).born = true := by
        have h4 : (es.toList[j]).born ∈ seen := by simpa using this
        simpa using h4
      rw [hns] at h3; cases h3
    have hnd : (idx ++ [j]).Nodup := by
      rw [List.nodup_append]
      exact ⟨hn, by simp, fun a ha b hb => by simp at hb; subst hb; exact fun e => hji (e ▸ ha)⟩
    have hall : ∀ i ∈ idx ++ [j], i < es.size := by
      intro i hi
      rcases List.mem_append.1 hi with h | h
      · exact hlt i h
      · simp at h; subst h; exact hjl
    have hle := nodup_bound _ _ hnd hall
    have hw1 : w1.heap = w.heap ∧ w1.os = w.os ∧ w1.tape = w.tape ∧ w1.output = w.output ∧ w.drawn ≤ w1.drawn := by
      rcases hal with rfl | rfl
      · exact ⟨rfl, rfl, rfl, rfl, Nat.le_refl _⟩
      · exact ⟨rfl, rfl, rfl, rfl, Nat.le_succ _⟩
    have hlt2 := blk_lt hit
    have hcell : ∀ i, i ≠ it → (ChangeMaps.setBlock w1 it (.mapIter (some m) clock (seen.push (es.toList[j]).born) clock)).heap[i]? = w.heap[i]? := by
      intro i hne
      show (w1.heap.setIfInBounds it _)[i]? = _
      rw [hw1.1]
      simp [Ne.symm hne]
    have hchg : Chg f0 w (ChangeMaps.setBlock w1 it (.mapIter (some m) clock (seen.push (es.toList[j]).born) clock)) := by
      refine ⟨hw1.2.1, hw1.2.2.1, hw1.2.2.2.1, ?_, fun i hi hne => hcell i (fun e => hne (e ▸ hf0)), ?_, hw1.2.2.2.2⟩
      · show _ ≤ (w1.heap.setIfInBounds it _).size
        rw [hw1.1]; simp
      · rintro i ⟨c, T, hc⟩
        have hne : i ≠ it := fun e => by subst e; rw [hit] at hc; cases hc
        exact ⟨c, T, by rw [hcell i hne]; exact hc⟩
    refine ov_run (v := .tuple #[.bool true, (es.toList[j]).key, (es.toList[j]).val]) (w' := ChangeMaps.setBlock w1 it (.mapIter (some m) clock (seen.push (es.toList[j]).born) clock)) (by simp [execOp, hx, hr, go_sem]) (h1 _ j hjl (by simp at hle; omega) hnd (hT _ (IterO it m es clock (idx ++ [j])) f0 hchg ⟨hf0, seen.push (es.toList[j]).born, ?_, hnd, hall, ?_⟩ (fun _ hb => .inl hb)) _ _)
    · show (w1.heap.setIfInBounds it _)[it]? = _
      rw [hw1.1]; simp [hlt2]
    · rw [Array.toList_push, hseen, List.map_append, List.map_cons, List.map_nil, List.getElem?_eq_getElem hj]; rfl

theorem ov_entryO {x : Operand} {j : Nat} (h : Sep G W (IterO it m es clock (idx ++ [j]) :: As) w) (hG : G m) (hm : W.heap[m]? = some (.map es clock)) (hs : Stamped es clock) (hx : ev σ x = .pointer (some ⟨it, 0, none⟩)) (hj : j < es.toList.length) {v : Value} (hv : es.toList[j].val = v)
    (hk : K (.tuple #[es.toList[j].key, v]) w) : opV P ⟨d, .entry x, ty, pos, af, g⟩ σ w K := by
  subst hv
  have hb := (h.gb hG).trans hm
  obtain ⟨f0, ⟨hf0, seen, hit, hn, hlt, hseen⟩, _⟩ := h.get (i := 0) rfl
  have hsn : ∃ seen0 : Array Nat, seen = seen0.push (es.toList[j]).born := by
    refine ⟨(idx.map fun j => (es.toList[j]?.map (·.born)).getD 0).toArray, ?_⟩
    apply Array.ext'
    rw [hseen, Array.toList_push, List.map_append, List.map_cons, List.map_nil, List.getElem?_eq_getElem hj]; rfl
  obtain ⟨seen0, rfl⟩ := hsn
  have hrun := run_entry_at (P := P) w it m clock seen0 es clock _ hit hb (List.getElem_mem hj) hs.2.1
  exact ov_run (v := .tuple #[es.toList[j].key, es.toList[j].val]) (w' := w) (by simp [execOp, hx, hrun, go_sem]) hk

/-- The call of a round. -/
theorem oX_yield {x y : Operand} {ts : Array TypeId} {l : Nat} {rec : Loop} {v : Value} {p : Tmp} (hx : ev σ x = .func (.yield l) #[] #[]) (hy : ev σ y = v) (hl : w.heap[l]? = some (.loop rec)) (hp : rec.params = #[p])
    (h : RoundIn (FR none) 0 P l rec.fn ((#[p].zip #[v]).foldl (fun t (p, v) => t.setIfInBounds p v) rec.tmps) rec.assign rec.body w (fun e w'' => ∃ v, e = .returned v ∧ K v w'')) : opX P ⟨d, .call ⟨.value x, #[y], ts⟩, ty, pos, af, g⟩ σ w K := by
  have hr := run_yield (P := P) (args := #[v]) hl (by simp [hp])
  have : (execOp (ev σ) ⟨d, .call ⟨.value x, #[y], ts⟩, ty, pos, af, g⟩).run P w = .ok (.round l rec.fn ((rec.params.zip #[v]).foldl (fun t (p, v) => t.setIfInBounds p v) rec.tmps) rec.assign rec.body) w := by
    simp [execOp, resolve, hx, Deferred.ofValue, invoke, hy, go_sem, hr]
  unfold opX
  rw [this, hp]
  exact h
end
end Go.Proofs.Ytgjgmojjeehieaa
