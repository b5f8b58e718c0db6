/- The library's sort (the shelf's contract) over slices of a function's own. -/
import Derived.Test.YtgjgmojjeehieaaMore
import Derived.Shelf.SlSortCmp.NoneTotal
set_option linter.unusedSimpArgs false
set_option linter.unusedVariables false
namespace Go.Proofs.Ytgjgmojjeehieaa
open Go.Proofs Go.RowKit Go.Sort Go.Shelf

/-- A world that has grown, written out. -/
theorem ext_grow {w w' : World} (h : Ext w w') : ∃ q os, w' = grow (w.drewN q) os := by
  obtain ⟨hs, ht, hd, ho, hp⟩ := w
  obtain ⟨hs', ht', hd', ho', hp'⟩ := w'
  refine ⟨hd' - hd, (hs'.toList.drop hs.size).toArray, ?_⟩
  have e1 : ho' = ho := h.os
  have e2 : ht' = ht := h.tape
  have e3 : hp' = hp := h.output
  have e4 : hd ≤ hd' := h.drawn
  have e5 : hs.size ≤ hs'.size := h.size
  have e6 : ∀ b, b < hs.size → hs'[b]? = hs[b]? := fun b hb => h.block b hb (fun h => h)
  have eh : hs' = hs ++ (hs'.toList.drop hs.size).toArray := by
    apply Array.ext_getElem?
    intro i
    rw [Array.getElem?_append]
    split
    · rename_i hi; exact e6 i hi
    · rename_i hi
      simp only [List.getElem?_toArray, List.getElem?_drop, Array.getElem?_toList]
      rw [show hs.size + (i - hs.size) = i by omega]
  have ed : hd' = hd + (hd' - hd) := by omega
  subst e1 e2 e3
  simp only [grow, World.drewN]
  rw [← eh, ← ed]

/-- What the sort asks of the comparison. -/
theorem cmp_lays {P : Program} {α : Type} [Inhabited α] {g k : Nat} {cap : List Value} {enc : α → List Value} {cf : α → α → Int} {blk off size : Nat} {w : World}
    (h : ∀ W (x y : α), (∃ d : Array α, d.size = size ∧ ∃ m os, W = sortWorldK enc k w blk off m d os) → Ret P g ([.agg (enc x).toArray, .agg (enc y).toArray] ++ cap) W (fun r W' => r = .int .i64 (cf x y) ∧ Ext W W')) : CmpLays P g cap.toArray enc k cf blk off size w := by
  intro m os dk hs x y
  have := h _ x y ⟨dk, hs, m, os, rfl⟩
  unfold Ret at this
  have e : ([Value.agg (enc x).toArray, Value.agg (enc y).toArray] ++ cap).toArray = #[.agg (enc x).toArray, .agg (enc y).toArray] ++ cap.toArray := by simp
  rw [e] at this
  refine Calls.mono this ?_
  rintro e w' ⟨v, rfl, rfl, hx⟩
  exact ⟨rfl, ext_grow hx⟩

theorem mapBlock_at {w : World} {b : Nat} {f : Array Value → Array Value} {c : Array Value} {T : TypeId} {fz : Nat × Nat} (h : w.heap[b]? = some (.cells c T fz)) : (mapBlock w b f).heap[b]? = some (.cells (f c) T fz) := by
  unfold mapBlock
  simp [Array.getElem?_modify, h, onCells]
theorem mapBlock_other {w : World} {b i : Nat} {f : Array Value → Array Value} (h : i ≠ b) : (mapBlock w b f).heap[i]? = w.heap[i]? := by
  unfold mapBlock
  simp [Array.getElem?_modify, Ne.symm h]
theorem mapBlock_size {w : World} {b : Nat} {f : Array Value → Array Value} : (mapBlock w b f).heap.size = w.heap.size := by
  unfold mapBlock; simp

/-- What the sort leaves: the row alone has turned. -/
theorem sorted_chg {α : Type} [Inhabited α] {enc : α → List Value} {k blk off m : Nat} {w : World} {d : Array α} {os : Array Obj} (hb : blk < w.heap.size) : Chg (fun i => i = blk) w (sortWorldK enc k w blk off m d os) := by
  unfold sortWorldK putRowK putRow
  have hs : w.heap.size ≤ (grow (mapBlock (Sort.ahead w m) blk (putCells id off (flatK enc k d))) os).heap.size := by
    show _ ≤ (_ ++ os).size
    rw [Array.size_append, mapBlock_size]
    exact Nat.le_add_right _ _
  have hg : ∀ i, i < w.heap.size → (grow (mapBlock (Sort.ahead w m) blk (putCells id off (flatK enc k d))) os).heap[i]? = (mapBlock (Sort.ahead w m) blk (putCells id off (flatK enc k d))).heap[i]? := by
    intro i hi
    show (_ ++ os)[i]? = _
    rw [Array.getElem?_append, if_pos (by rw [mapBlock_size]; exact hi)]
  refine ⟨rfl, rfl, rfl, hs, fun i hi hne => ?_, ?_, Nat.le_add_right _ _⟩
  · rw [hg i hi, mapBlock_other hne]; rfl
  · rintro i ⟨c, T, hc⟩
    have hi := (Array.getElem?_eq_some_iff.1 hc).1
    by_cases h : i = blk
    · subst h
      exact ⟨_, T, by rw [hg i hi]; exact mapBlock_at (w := Sort.ahead w m) hc⟩
    · exact ⟨c, T, by rw [hg i hi, mapBlock_other h]; exact hc⟩
theorem sorted_block {α : Type} [Inhabited α] {enc : α → List Value} {k blk off m : Nat} {w : World} {d : Array α} {os : Array Obj} {c : Array Value} {T : TypeId} (hb : w.heap[blk]? = some (.cells c T)) :
    (sortWorldK enc k w blk off m d os).heap[blk]? = some (.cells (putCells id off (flatK enc k d) c) T) := by
  unfold sortWorldK putRowK putRow
  have hi := (Array.getElem?_eq_some_iff.1 hb).1
  show (_ ++ os)[blk]? = _
  rw [Array.getElem?_append, if_pos (by rw [mapBlock_size]; exact hi)]
  exact mapBlock_at (w := Sort.ahead w m) hb

theorem els_map {α : Type} [Rep α] {w : World} {F : Nat → Prop} {enc : α → List Value} : ∀ {L : List α}, (∀ x ∈ L, Rep.rd w F (enc x) x) → Els w F (L.map enc) L
  | [], _ => trivial
  | x :: L, h => ⟨h x (List.mem_cons_self ..), els_map fun y hy => h y (List.mem_cons_of_mem _ hy)⟩
/-- A slice of the function's own, sorted: elements without further memory. -/
theorem own_sorted {α : Type} [Rep α] [Inhabited α] {P : Program} {ρ : Ren} (L : SlLaysF0.n6 P ρ) (aE : ∀ w, (isAgg (ρ.t 24)).run P w = .ok true w) (zE : ∀ w, (sizeOf (ρ.t 24)).run P w = .ok (Rep.k α) w)
    {enc : α → List Value} (henc : ∀ w F cs (x : α), Rep.rd w F cs x → cs = enc x) (hlen : ∀ x, (enc x).length = Rep.k α) (hone : ∀ x, ∀ u ∈ enc x, u.oneCell' = true) {cf : α → α → Int} (hO : SWO (ltOf cf)) {g : Nat} {cap : List Value} (eg : ∀ args w, (callFunc g args).run P w = .ok (.enter g args) w)
    {T : TypeId} {lo : Nat} {w : World} {F : Nat → Prop} {v : Value} {l : List α} (ho : OwnS T lo w F v l)
    (hcmp : ∀ W (x y : α), Ret P g ([.agg (enc x).toArray, .agg (enc y).toArray] ++ cap) W (fun r W' => r = .int .i64 (cf x y) ∧ Ext W W'))
    (hre : ∀ w' (x : α) (F : Nat → Prop) cs, Rep.rd w F cs x → Rep.rd w' F cs x) (hbs : l.length < 4611686018427387904) :
    Ret P (ρ.f 6) ([v, .func (.func g) #[] cap.toArray]) w (fun r w' => r = .tuple #[] ∧ Chg (fun b => v.ownBlock = some b) w w' ∧ ∃ l', l'.Perm l ∧ l'.Pairwise (fun a b => ltOf cf b a = false) ∧ OwnS T lo w' F v l') := by
  by_cases hne : l = []
  · subst hne
    obtain ⟨a0, c0, rfl, _, _⟩ := ho.isSl
    have hc := AnyF.slices_SortFunc_none L a0 c0 (.func (.func g) #[] cap.toArray) w
    unfold Ret
    refine Calls.mono hc ?_
    rintro e w' ⟨he, rfl⟩
    exact ⟨.tuple #[], he, rfl, Chg.refl _ _, [], List.Perm.refl _, List.Pairwise.nil, ho⟩
  obtain ⟨css, hE, hown⟩ := ho.css
  rcases hown.2 with ⟨rfl, h0⟩ | ⟨gb, capn, cur, rfl, hg, hb, hn, hm, hs, ht⟩
  · exact absurd (List.length_eq_zero_iff.1 h0) hne
  have hblk := (Array.getElem?_eq_some_iff.1 hb).1
  have hcs : ∀ i (h : i < l.length), CellsAt w gb (i * Rep.k α) (enc l[i]) ∧ Rep.rd w F (enc l[i]) l[i] := by
    intro i hi
    obtain ⟨cs, hr, hc⟩ := hE.at_ i hi
    have e := henc w F cs _ hr
    subst e
    refine ⟨fun j hj => ?_, hr⟩
    have h3 := hc j hj
    rw [← ht, List.getElem?_take] at h3
    split at h3
    · exact blk_cell hb (by simpa using h3)
    · cases h3
  have kpos : 0 < Rep.k α := Rep.kpos
  have hH : HoldsK enc (Rep.k α) w gb 0 l.toArray := by
    intro j hj
    have hj' : j < l.length * Rep.k α := by simpa using hj
    have hd : j / Rep.k α < l.length := (Nat.div_lt_iff_lt_mul kpos).2 hj'
    have hm' : j % Rep.k α < (enc l[j / Rep.k α]).length := by rw [hlen]; exact Nat.mod_lt _ kpos
    have h1 := (hcs (j / Rep.k α) hd).1 (j % Rep.k α) hm'
    refine ⟨?_, by simp [World.frozen?, hb]⟩
    rw [get_flatK _ _ _ _ (by simpa using hj'), Nat.zero_add]
    rw [show j / Rep.k α * Rep.k α + j % Rep.k α = j by rw [Nat.mul_comm]; exact Nat.div_add_mod j (Rep.k α)] at h1
    rw [h1]
    have e1 : l.toArray[j / Rep.k α]! = l[j / Rep.k α] := by rw [getElem!_pos l.toArray (j / Rep.k α) (by simpa using hd)]; simp
    have e2 : (enc l[j / Rep.k α])[j % Rep.k α]! = (enc l[j / Rep.k α])[j % Rep.k α] := getElem!_pos (enc l[j / Rep.k α]) (j % Rep.k α) hm'
    rw [e1, e2]; rfl
  have hc := AnyQ.slices_SortFunc L (Rep.k α) aE zE enc hlen hone cf hO g cap.toArray gb 0 capn l.toArray w eg (cmp_lays fun W x y _ => hcmp W x y) hH hblk (by simpa using hbs)
  have ea : ([Value.slice (some ⟨gb, 0, none⟩) l.length capn, .func (.func g) #[] cap.toArray]).toArray = #[Value.slice (some ⟨gb, 0, none⟩) l.toArray.size capn, .func (.func g) #[] cap.toArray] := by simp
  unfold Ret
  rw [ea]
  refine Calls.mono hc ?_
  rintro e w' ⟨he, d', n, os, hp, hsd, hw⟩
  refine ⟨.tuple #[], he, rfl, ?_, d'.toList, ?_, ?_, ?_⟩
  · have hgo : (fun b => (Value.slice (some ⟨gb, 0, none⟩) l.length capn).ownBlock = some b) = fun b => b = gb := by funext b; simp [Value.ownBlock, eq_comm]
    rw [hgo, hw]; exact sorted_chg hblk
  · have h2 := hp.2.2
    have hsz : d'.size = l.length := by simpa using hp.1
    simp at h2
    rwa [List.take_of_length_le (by simp [hsz])] at h2
  · rw [List.pairwise_iff_getElem]
    intro i j hi hj hij
    have hsz : d'.size = l.length := by simpa using hp.1
    have hi' : i < d'.size := by simpa using hi
    have hj' : j < d'.size := by simpa using hj
    have := hsd i j (Nat.zero_le _) hij (by simpa [hsz] using hj')
    rw [getElem!_pos d' j hj', getElem!_pos d' i hi'] at this
    simpa using this
  · have hsz : d'.size = l.length := by simpa using hp.1
    have hperm : d'.toList.Perm l := by
      have h2 := hp.2.2
      simp at h2
      rwa [List.take_of_length_le (by simp [hsz])] at h2
    have hrd : ∀ x ∈ d'.toList, Rep.rd w' F (enc x) x := by
      intro x hx
      obtain ⟨i, hi, rfl⟩ := List.getElem_of_mem (hperm.subset hx)
      exact hre w' _ F _ (hcs i hi).2
    have hE' : Els w' F (d'.toList.map enc) d'.toList := els_map hrd
    have hfl := hE'.flat
    have hlen' : d'.toList.length = l.length := by simpa using hsz
    have hcur : (putCells id 0 (flatK enc (Rep.k α) d') cur).size = cur.size := by simp [putCells]
    have hchg : Chg (fun i => i = gb) w w' := by rw [hw]; exact sorted_chg hblk
    have hle : l.length * Rep.k α ≤ cur.size := by rw [hs]; exact Nat.mul_le_mul_right _ hn
    refine ⟨⟨_, hE', by rw [hfl], .inr ⟨gb, capn, _, by rw [hlen'], hg, by rw [hw]; exact sorted_block hb, by rw [hlen']; exact hn, hm, by rw [hcur]; exact hs, ?_⟩⟩, ho.apart, fun b hb' => ⟨Nat.lt_of_lt_of_le (ho.bound b hb').1 hchg.size, fun hl => hchg.soft b ((ho.bound b hb').2 hl)⟩, by rw [hlen']; exact ho.small⟩
    refine List.ext_getElem? fun j => ?_
    rw [hlen', List.getElem?_take]
    split
    · rename_i hj
      have hd : j / Rep.k α < d'.toList.length := by rw [hlen']; exact (Nat.div_lt_iff_lt_mul kpos).2 hj
      obtain ⟨cs, hr, hc⟩ := hE'.at_ (j / Rep.k α) hd
      have e := henc w' F cs _ hr
      subst e
      have hm' : j % Rep.k α < (enc (d'.toList[j / Rep.k α])).length := by rw [hlen]; exact Nat.mod_lt _ kpos
      have h1 := hc (j % Rep.k α) hm'
      rw [show j / Rep.k α * Rep.k α + j % Rep.k α = j by rw [Nat.mul_comm]; exact Nat.div_add_mod j (Rep.k α)] at h1
      rw [h1]
      have hjc : j < cur.size := by omega
      have hjk : j < d'.size * Rep.k α := by rw [hsz]; exact hj
      have hd2 : j / Rep.k α < d'.size := by simpa using hd
      rw [Array.getElem?_toList, Array.getElem?_eq_getElem (by rw [hcur]; exact hjc)]
      simp only [putCells, Array.getElem_mapIdx, Nat.zero_le, true_and, Nat.zero_add, size_flatK, hjk, if_true, Nat.sub_zero, id]
      have e1 : d'[j / Rep.k α]! = d'[j / Rep.k α] := getElem!_pos d' (j / Rep.k α) hd2
      have e0 : d'.toList[j / Rep.k α] = d'[j / Rep.k α] := by simp
      rw [e0] at hm'
      have e2 : (enc d'[j / Rep.k α])[j % Rep.k α]! = (enc d'[j / Rep.k α])[j % Rep.k α] := getElem!_pos (enc d'[j / Rep.k α]) (j % Rep.k α) hm'
      rw [get_flatK _ _ _ _ hjk, e1, e2]
      simp
    · rename_i hj
      rw [List.getElem?_eq_none (by rw [hfl, hlen']; omega)]
end Go.Proofs.Ytgjgmojjeehieaa
