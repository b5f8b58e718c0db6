/- Maps from numbers to structs: what they hold, what is done with them, how they are gone through. -/
import Derived.Test.YtgjgmojjeehieaaMore
import Derived.Maps.RangeRun
set_option linter.unusedSimpArgs false
set_option linter.unusedVariables false
namespace Go.Proofs.Ytgjgmojjeehieaa
open Go.RowKit Go.MapKept

section
variable {α : Type} [Rep α]
def EntR (w : World) (F : Nat → Prop) (e : MapEntry) (p : Int × α) : Prop := e.key = .int .i64 p.1 ∧ InR p.1 ∧ ∃ cs, e.val = .agg cs.toArray ∧ Rep.rd w F cs p.2
def EntsR (w : World) (F : Nat → Prop) : List MapEntry → List (Int × α) → Prop
  | [], [] => True
  | e :: es, p :: L => EntR w F e p ∧ EntsR w F es L
  | _, _ => False
/-- Block m is a map that holds L. -/
def MapR (w : World) (F : Nat → Prop) (m : Nat) (L : List (Int × α)) : Prop := ∃ es clock, w.heap[m]? = some (.map es clock) ∧ Stamped es clock ∧ EntsR w F es.toList L

theorem EntsR.mono {w w' : World} {F F' : Nat → Prop} (hF : ∀ b, F b → b < w.heap.size → w'.heap[b]? = w.heap[b]? ∧ F' b) : ∀ {es : List MapEntry} {L : List (Int × α)}, EntsR w F es L → EntsR w' F' es L
  | [], [], _ => trivial
  | _ :: _, _ :: _, h => by obtain ⟨⟨h1, h2, cs, h3, h4⟩, h5⟩ := h; exact ⟨⟨h1, h2, cs, h3, Rep.mono h4 hF⟩, EntsR.mono hF h5⟩
  | [], _ :: _, h => h.elim
  | _ :: _, [], h => h.elim
theorem EntsR.len {w : World} {F : Nat → Prop} : ∀ {es : List MapEntry} {L : List (Int × α)}, EntsR w F es L → es.length = L.length
  | [], [], _ => rfl
  | _ :: _, _ :: _, h => congrArg (· + 1) (EntsR.len h.2)
  | [], _ :: _, h => h.elim
  | _ :: _, [], h => h.elim
theorem EntsR.at_ {w : World} {F : Nat → Prop} : ∀ {es : List MapEntry} {L : List (Int × α)}, EntsR w F es L → ∀ (j : Nat) (hj : j < es.length) (hl : j < L.length), EntR w F es[j] L[j]
  | _ :: _, _ :: _, h, 0, _, _ => h.1
  | _ :: _, _ :: _, h, j + 1, hj, hl => EntsR.at_ h.2 j (by simpa using hj) (by simpa using hl)
  | [], _ :: _, h, _, _, _ => h.elim
  | _ :: _, [], h, _, _, _ => h.elim
  | [], [], _, j, hj, _ => absurd hj (Nat.not_lt_zero j)
theorem EntsR.key {w : World} {F : Nat → Prop} : ∀ {es : List MapEntry} {L : List (Int × α)}, EntsR w F es L → ∀ x ∈ es, IsKey (.int .i64) x.key
  | [], _, _, x, hx => by cases hx
  | e :: es, p :: L, h, x, hx => by
    rcases List.mem_cons.1 hx with rfl | hx
    · rw [h.1.1]; rfl
    · exact EntsR.key h.2 x hx
  | _ :: _, [], h, _, _ => h.elim
theorem EntsR.keys {w : World} {F : Nat → Prop} : ∀ {es : List MapEntry} {L : List (Int × α)}, EntsR w F es L → es.map (·.key) = L.map fun p => Value.int .i64 p.1
  | [], [], _ => rfl
  | _ :: _, _ :: _, h => by simp [h.1.1, EntsR.keys h.2]
  | [], _ :: _, h => h.elim
  | _ :: _, [], h => h.elim
theorem EntsR.app {w : World} {F : Nat → Prop} : ∀ {es : List MapEntry} {L : List (Int × α)} {e : MapEntry} {p : Int × α}, EntsR w F es L → EntR w F e p → EntsR w F (es ++ [e]) (L ++ [p])
  | [], [], _, _, _, h => ⟨h, trivial⟩
  | _ :: _, _ :: _, _, _, h, h2 => ⟨h.1, EntsR.app h.2 h2⟩
  | [], _ :: _, _, _, h, _ => h.elim
  | _ :: _, [], _, _, h, _ => h.elim
theorem EntsR.set {w : World} {F : Nat → Prop} : ∀ {es : List MapEntry} {L : List (Int × α)} {e : MapEntry} {p : Int × α} (j : Nat), EntsR w F es L → EntR w F e p → EntsR w F (es.set j e) (L.set j p)
  | [], [], _, _, _, h, _ => trivial
  | _ :: _, _ :: _, _, _, 0, h, h2 => ⟨h2, h.2⟩
  | _ :: _, _ :: _, _, _, j + 1, h, h2 => ⟨h.1, EntsR.set j h.2 h2⟩
  | [], _ :: _, _, _, _, h, _ => h.elim
  | _ :: _, [], _, _, _, h, _ => h.elim

theorem MapR.lt {w : World} {F : Nat → Prop} {m : Nat} {L : List (Int × α)} (h : MapR w F m L) : m < w.heap.size := by
  obtain ⟨es, clock, hb, _⟩ := h; exact blk_lt hb
theorem MapR.mono {w w' : World} {F F' : Nat → Prop} {m : Nat} {L : List (Int × α)} (h : MapR w F m L) (hm : w'.heap[m]? = w.heap[m]?) (hF : ∀ b, F b → b < w.heap.size → w'.heap[b]? = w.heap[b]? ∧ F' b) : MapR w' F' m L := by
  obtain ⟨es, clock, hb, hs, he⟩ := h
  exact ⟨es, clock, hm.trans hb, hs, he.mono hF⟩
theorem MapR.ext {w w' : World} {F : Nat → Prop} {m : Nat} {L : List (Int × α)} (h : MapR w F m L) (hx : Ext w w') : MapR w' F m L :=
  h.mono (hx.block m h.lt (fun h => h)) (fun b hb hlt => ⟨hx.block b hlt (fun h => h), hb⟩)
theorem MapR.chg {w w' : World} {O F : Nat → Prop} {m : Nat} {L : List (Int × α)} (h : MapR w F m L) (hx : Chg O w w') (hm : ¬ O m) (hO : ∀ b, F b → ¬ O b) : MapR w' F m L :=
  h.mono (hx.block m h.lt hm) (fun b hb hlt => ⟨hx.block b hlt (hO b hb), hb⟩)
theorem MapR.nodup {w : World} {F : Nat → Prop} {m : Nat} {L : List (Int × α)} (h : MapR w F m L) : (L.map (·.1)).Nodup := by
  obtain ⟨es, clock, hb, hs, he⟩ := h
  have h1 := hs.2.2
  rw [he.keys] at h1
  have e : (L.map fun p => Value.int .i64 p.1) = (L.map (·.1)).map (Value.int .i64) := by simp
  rw [e] at h1
  exact (List.pairwise_map.1 h1).imp (fun hne e => hne (by rw [e]))
end

/-- What a map says of a key. -/
def lookM {α : Type} (L : List (Int × α)) (k : Int) : Option α := (L.find? fun p => p.1 == k).map (·.2)
/-- A map with a key's value another one. -/
def updM {α : Type} (L : List (Int × α)) (k : Int) (x : α) : List (Int × α) := match L.findIdx? fun p => p.1 == k with
  | some j => L.set j (k, x)
  | none => L ++ [(k, x)]

theorem look_at {α : Type} {L : List (Int × α)} (hn : (L.map (·.1)).Nodup) {j : Nat} (hj : j < L.length) : (L.find? fun p => p.1 == L[j].1) = some L[j] := by
  rw [List.find?_eq_some_iff_getElem]
  refine ⟨by simp, j, hj, rfl, fun i hi => ?_⟩
  have := List.pairwise_iff_getElem.1 (List.pairwise_map.1 hn) i j (by omega) hj hi
  simpa using this
theorem idx_at {α : Type} {L : List (Int × α)} (hn : (L.map (·.1)).Nodup) {j : Nat} (hj : j < L.length) : (L.findIdx? fun p => p.1 == L[j].1) = some j := by
  rw [List.findIdx?_eq_some_iff_getElem]
  refine ⟨hj, by simp, fun i hi => ?_⟩
  have := List.pairwise_iff_getElem.1 (List.pairwise_map.1 hn) i j (by omega) hj hi
  simpa using this

section
variable {α : Type} [Rep α] {P : Program} {d : Option Tmp} {ty : TypeId} {pos : String} {af : Array Edge} {g : Option (Nat × Bool)} {σ : Env} {w : World} {K : Value → World → Prop}

theorem ov_makeMap {t : TypeId} (h : ∀ w1, New w w1 w.heap.size (.map #[] 0) → K (.map (some w.heap.size)) w1) : opV P ⟨d, .makeMap t none, ty, pos, af, g⟩ σ w K :=
  ov_run (v := .map (some w.heap.size)) (w' := { w with heap := w.heap.push (.map #[] 0) }) (by simp [execOp, Instr.makeMap, newObj, Sem.run, go_sem]) (h _ (New.mk' _ _))
theorem New.mapR {w1 : World} {m : Nat} (h : New w w1 m (.map #[] 0)) (F : Nat → Prop) : MapR (α := α) w1 F m [] := ⟨#[], 0, h.at_, stamped_empty 0, trivial⟩

theorem ov_lookup {t kt et : TypeId} {x y : Operand} {m : Nat} {k : Int} {F : Nat → Prop} {L : List (Int × α)} {d0 : α} {zc : List Value} (hU : P.underlying t = some (.map kt et)) (hK : P.underlying kt = some (.int .i64)) (hZ : ∀ w, (zeroValue et).run P w = .ok (.agg zc.toArray) w)
    (hz : ∀ w F, Rep.rd w F zc d0) (hx : ev σ x = .map (some m)) (hy : ev σ y = .int .i64 k) (hm : MapR w F m L) (h : ∀ cs, Rep.rd w F cs ((lookM L k).getD d0) → K (.agg cs.toArray) w) :
    opV P ⟨d, .lookup t x y false, ty, pos, af, g⟩ σ w K := by
  have hm' := hm
  obtain ⟨es, clock, hb, hs, he⟩ := hm'
  have hk : IsKey (.int .i64) (.int .i64 k) := rfl
  rcases findNow_spec hk es.toList 0 he.key with ⟨h1, h2⟩ | ⟨j, e, h1, h2, h3⟩
  · have hl : lookM L k = none := by
      unfold lookM
      rw [Option.map_eq_none_iff, List.find?_eq_none]
      intro p hp
      obtain ⟨i, hi, rfl⟩ := List.getElem_of_mem hp
      have := (he.at_ i (by rw [he.len]; exact hi) hi).1
      have h4 := h2 _ (List.getElem_mem (by rw [he.len]; exact hi))
      rw [this] at h4
      simpa using h4
    refine ov_run (v := .agg zc.toArray) (w' := w) ?_ (h zc (by rw [hl]; exact hz _ _))
    simp [execOp, hx, hy, Instr.lookup, run_underlying hU, MapKept.run_getObj_map hb, run_checkKey hK hk, run_findKey hK h1, hZ, go_sem]
  · obtain ⟨hj, he2⟩ := List.getElem?_eq_some_iff.1 h2
    have hjl : j < L.length := by rw [← he.len]; exact hj
    obtain ⟨h4, h5, cs, h6, h7⟩ := he.at_ j hj hjl
    rw [he2] at h4 h6
    have ek : L[j].1 = k := by rw [h3] at h4; cases h4; rfl
    have hl : lookM L k = some L[j].2 := by
      unfold lookM
      rw [← ek, look_at hm.nodup hjl]; rfl
    refine ov_run (v := .agg cs.toArray) (w' := w) ?_ (h cs (by rw [hl]; exact h7))
    simp [execOp, hx, hy, Instr.lookup, run_underlying hU, MapKept.run_getObj_map hb, run_checkKey hK hk, run_findKey hK h1, h6, go_sem]

theorem ov_mapUpdate {t kt et : TypeId} {x y z : Operand} {m : Nat} {k : Int} {F : Nat → Prop} {L : List (Int × α)} {x1 : α} {cs : List Value} (hU : P.underlying t = some (.map kt et)) (hK : P.underlying kt = some (.int .i64))
    (hx : ev σ x = .map (some m)) (hy : ev σ y = .int .i64 k) (hz : ev σ z = .agg cs.toArray) (hk0 : InR k) (hm : MapR w F m L) (hr : Rep.rd w F cs x1) (hF : ¬ F m) (h : ∀ w1, MapR w1 F m (updM L k x1) → Chg (fun i => i = m) w w1 → K undef w1) :
    opV P ⟨d, .mapUpdate t x y z, ty, pos, af, g⟩ σ w K := by
  have hm' := hm
  obtain ⟨es, clock, hb, hs, he⟩ := hm'
  have hk : IsKey (.int .i64) (.int .i64 k) := rfl
  have hlt := blk_lt hb
  have hchg : ∀ es' c', Chg (fun i => i = m) w { w with heap := w.heap.setIfInBounds m (.map es' c') } := by
    intro es' c'
    refine ⟨rfl, rfl, rfl, by simp, fun i hi hne => (heap_set hb).2 i hne, ?_, Nat.le_refl _⟩
    rintro i ⟨c, T, hc⟩
    have hne : i ≠ m := fun e => by subst e; rw [hb] at hc; cases hc
    exact ⟨c, T, by rw [(heap_set hb).2 i hne]; exact hc⟩
  have hmono : ∀ es' c', ∀ b, F b → b < w.heap.size → (World.heap { w with heap := w.heap.setIfInBounds m (.map es' c') })[b]? = w.heap[b]? ∧ F b := fun es' c' b hb' _ => ⟨(heap_set hb).2 b (fun e => by subst e; exact hF hb'), hb'⟩
  rcases findNow_spec hk es.toList 0 he.key with ⟨h1, h2⟩ | ⟨j, e, h1, h2, h3⟩
  · have hl : (L.findIdx? fun p => p.1 == k) = none := by
      rw [List.findIdx?_eq_none_iff]
      intro p hp
      obtain ⟨i, hi, rfl⟩ := List.getElem_of_mem hp
      have := (he.at_ i (by rw [he.len]; exact hi) hi).1
      have h4 := h2 _ (List.getElem_mem (by rw [he.len]; exact hi))
      rw [this] at h4
      simpa using h4
    refine ov_skip (w' := { w with heap := w.heap.setIfInBounds m (.map (es.push { key := .int .i64 k, val := .agg cs.toArray, born := clock }) (clock + 1)) }) ?_ (h _ ?_ (hchg _ _))
    · simp [execOp, hx, hy, hz, Instr.mapUpdate, run_underlying hU, MapKept.run_getObj_map hb, run_checkKey hK hk, run_findKey hK h1, MapKept.run_setObj_map _ hb, go_sem]
    · refine ⟨_, _, (heap_set hb).1, stamped_push hs h2, ?_⟩
      unfold updM
      rw [hl, Array.toList_push]
      exact (he.mono (hmono _ _)).app ⟨rfl, hk0, cs, rfl, Rep.mono hr (hmono _ _)⟩
  · obtain ⟨hj, he2⟩ := List.getElem?_eq_some_iff.1 h2
    have hjl : j < L.length := by rw [← he.len]; exact hj
    obtain ⟨h4, h5, cs', h6, h7⟩ := he.at_ j hj hjl
    rw [he2] at h4 h6
    have ek : L[j].1 = k := by rw [h3] at h4; cases h4; rfl
    have hl : (L.findIdx? fun p => p.1 == k) = some j := by rw [← ek]; exact idx_at hm.nodup hjl
    have hja : es[j]? = some e := by simpa using h2
    have hkey : ∀ e', es[j]? = some e' → ({ e' with key := .int .i64 k, val := .agg cs.toArray } : MapEntry).key = e'.key := fun e' he' => by rw [hja] at he'; cases he'; exact h3.symm
    refine ov_skip (w' := { w with heap := w.heap.setIfInBounds m (.map (es.modify j fun e => { e with key := .int .i64 k, val := .agg cs.toArray }) clock) }) ?_ (h _ ?_ (hchg _ _))
    · simp [execOp, hx, hy, hz, Instr.mapUpdate, run_underlying hU, MapKept.run_getObj_map hb, run_checkKey hK hk, run_findKey hK h1, hja, h3, run_keyThatStays hk, MapKept.run_setObj_map _ hb, go_sem]
    · refine ⟨_, _, (heap_set hb).1, stamped_modify hs _ _ (fun _ _ => rfl) (fun e' _ he' => hkey e' he'), ?_⟩
      unfold updM
      rw [hl]
      have e3 : (es.modify j fun e => { e with key := .int .i64 k, val := .agg cs.toArray }).toList = es.toList.set j { e with key := .int .i64 k, val := .agg cs.toArray } := by
        rw [Array.toList_modify, List.modify_eq_set]
        rw [h2]; rfl
      rw [e3]
      exact (he.mono (hmono _ _)).set j ⟨rfl, hk0, cs, rfl, Rep.mono hr (hmono _ _)⟩

theorem OwnS.chg {T : TypeId} {lo : Nat} {w w' : World} {O F : Nat → Prop} {v : Value} {l : List α} (h : OwnS T lo w F v l) (hx : Chg O w w') (ha : ∀ b, v.ownBlock = some b → ¬ O b) (hF : ∀ b, F b → ¬ O b) : OwnS T lo w' F v l :=
  h.mono (Nat.le_refl _) hx.size (fun b hb hlt => ⟨hx.block b hlt (hF b hb), hb⟩) (fun b hb hlt => ⟨hx.block b hlt (ha b hb), h.apart b hb⟩) (fun b hb => ⟨Nat.lt_of_lt_of_le (h.bound b hb).1 hx.size, fun hl => hx.soft b ((h.bound b hb).2 hl)⟩)
/-- A loop over a map: what it has been handed. -/
def IterR (w : World) (it m : Nat) (L : List (Int × α)) (F : Nat → Prop) (idx : List Nat) : Prop := ∃ es clock seen, w.heap[m]? = some (.map es clock) ∧ Stamped es clock ∧ EntsR w F es.toList L ∧ w.heap[it]? = some (.mapIter (some m) clock seen clock) ∧
  idx.Nodup ∧ (∀ j ∈ idx, j < L.length) ∧ seen.toList = idx.map fun j => (es.toList[j]?.map (·.born)).getD 0
theorem IterR.ext {w w' : World} {it m : Nat} {L : List (Int × α)} {F : Nat → Prop} {idx : List Nat} (h : IterR w it m L F idx) (hx : Ext w w') : IterR w' it m L F idx := by
  obtain ⟨es, clock, seen, h1, h2, h3, h4, h5⟩ := h
  exact ⟨es, clock, seen, hx.keep h1 (fun h => h), h2, h3.mono (fun b hb hlt => ⟨hx.block b hlt (fun h => h), hb⟩), hx.keep h4 (fun h => h), h5⟩
theorem IterR.chg {w w' : World} {O : Nat → Prop} {it m : Nat} {L : List (Int × α)} {F : Nat → Prop} {idx : List Nat} (h : IterR w it m L F idx) (hx : Chg O w w') (hi : ¬ O it) (hm : ¬ O m) (hF : ∀ b, F b → ¬ O b) : IterR w' it m L F idx := by
  obtain ⟨es, clock, seen, h1, h2, h3, h4, h5⟩ := h
  exact ⟨es, clock, seen, hx.keep h1 hm, h2, h3.mono (fun b hb hlt => ⟨hx.block b hlt (hF b hb), hb⟩), hx.keep h4 hi, h5⟩

theorem ov_range {t kt et : TypeId} {x : Operand} {m : Nat} {F : Nat → Prop} {L : List (Int × α)} (hU : P.underlying t = some (.map kt et)) (hx : ev σ x = .map (some m)) (hm : MapR w F m L)
    (h : ∀ w1 it, Ext w w1 → it = w.heap.size → it < w1.heap.size → IterR w1 it m L F [] → K (.pointer (some ⟨it, 0, none⟩)) w1) : opV P ⟨d, .range t x, ty, pos, af, g⟩ σ w K := by
  obtain ⟨es, clock, hb, hs, he⟩ := hm
  have hn := New.mk' w (.mapIter (some m) clock #[] clock)
  refine ov_run (v := .pointer (some ⟨w.heap.size, 0, none⟩)) (w' := { w with heap := w.heap.push (.mapIter (some m) clock #[] clock) }) ?_ (h _ _ hn.ext rfl (by simp) ?_)
  · have := run_range_map (P := P) w t kt et m es clock hU hb
    simp [execOp, hx, go_sem]
    rw [this]; rfl
  · exact ⟨es, clock, #[], hn.ext.keep hb (fun h => h), hs, he.mono (fun b hb' hlt => ⟨hn.ext.block b hlt (fun h => h), hb'⟩), hn.at_, List.nodup_nil, by simp, rfl⟩

theorem nodup_bound : ∀ (n : Nat) (idx : List Nat), idx.Nodup → (∀ j ∈ idx, j < n) → idx.length ≤ n
  | 0, [], _, _ => Nat.le_refl _
  | 0, j :: _, _, h => absurd (h j (List.mem_cons_self ..)) (Nat.not_lt_zero j)
  | n + 1, idx, hn, h => by
    by_cases hm : n ∈ idx
    · have h1 := nodup_bound n (idx.erase n) (hn.erase n) (fun j hj => by
        have h2 := (hn.mem_erase_iff).1 hj
        have := h j h2.2
        have := h2.1
        omega)
      rw [List.length_erase_of_mem hm] at h1
      omega
    · have := nodup_bound n idx hn (fun j hj => by
        have := h j hj
        have : j ≠ n := fun e => hm (e ▸ hj)
        omega)
      omega
theorem idx_all {n : Nat} {idx : List Nat} (hn : idx.Nodup) (hl : ∀ j ∈ idx, j < n) (ha : ∀ j, j < n → j ∈ idx) : List.Perm idx (List.range n) :=
  (List.perm_ext_iff_of_nodup hn List.nodup_range).2 fun j => ⟨fun h => List.mem_range.2 (hl j h), fun h => ha j (List.mem_range.1 h)⟩
theorem range_all {β : Type} (L : List β) : ((List.range L.length).map fun j => L[j]?) = L.map some := by
  refine List.ext_getElem (by simp) fun i h1 h2 => ?_
  simp at h1
  simp [h1]

theorem ov_next {x : Operand} {it m : Nat} {F : Nat → Prop} {L : List (Int × α)} {idx : List Nat} (hx : ev σ x = .pointer (some ⟨it, 0, none⟩)) (hi : IterR w it m L F idx) (hF : ¬ F it) (hmi : m ≠ it)
    (h0 : List.Perm (idx.map fun j => L[j]?) (L.map some) → K (.tuple #[.bool false]) w)
    (h1 : ∀ w1 j, j ∉ idx → j < L.length → idx.length < L.length → IterR w1 it m L F (idx ++ [j]) → Chg (fun i => i = it) w w1 → ∀ u v, K (.tuple #[.bool true, u, v]) w1) : opV P ⟨d, .next x false, ty, pos, af, g⟩ σ w K := by
  obtain ⟨es, clock, seen, hb, hs, he, hit, hn, hlt, hseen⟩ := hi
  have hlen := he.len
  rcases run_next_at (P := P) w ty it m clock clock seen es clock hit hb hs.1 (Nat.le_refl _) with ⟨hz, hr⟩ | ⟨e, hel, w1, hal, hr⟩
  · refine ov_run (v := .tuple #[.bool false]) (w' := w) (by simp [execOp, hx, hr, go_sem]) (h0 ?_)
    rw [← range_all]
    refine List.Perm.map _ (idx_all hn hlt fun j hj => ?_)
    have hj' : j < es.toList.length := by omega
    have h2 := all_seen es seen hz _ (List.getElem_mem hj')
    have h3 : (es.toList[j]).born ∈ seen.toList := by simpa [Array.contains_iff_mem] using h2
    rw [hseen, List.mem_map] at h3
    obtain ⟨i, hi, hbi⟩ := h3
    have hil := hlt i hi
    have hi' : i < es.toList.length := by omega
    rw [List.getElem?_eq_getElem hi'] at hbi
    have h4 : (es.toList[i]).born = (es.toList[j]).born := hbi
    have h5 := List.pairwise_map.1 hs.2.1
    have : i = j := by
      rcases Nat.lt_trichotomy i j with h | h | h
      · exact absurd h4 (List.pairwise_iff_getElem.1 h5 i j hi' hj' h)
      · exact h
      · exact absurd h4.symm (List.pairwise_iff_getElem.1 h5 j i hj' hi' h)
    rwa [← this]
  · obtain ⟨hmem, hns⟩ := mem_left hel
    obtain ⟨j, hj, rfl⟩ := List.getElem_of_mem hmem
    have hjl : j < L.length := by omega
    have hji : j ∉ idx := by
      intro h
      have : (es.toList[j]).born ∈ seen.toList := by
        rw [hseen, List.mem_map]
        exact ⟨j, h, by rw [List.getElem?_eq_getElem hj]; rfl⟩
      have h3 : seen.contains (es.toList[j]).born = true := by
        have h4 : (es.toList[j]).born ∈ seen := by simpa using this
        simpa using h4
      rw [hns] at h3; cases h3
    have hnd : (idx ++ [j]).Nodup := by
      rw [List.nodup_append]
      exact ⟨hn, by simp, fun a ha b hb => by simp at hb; subst hb; exact fun e => hji (e ▸ ha)⟩
    have hall : ∀ i ∈ idx ++ [j], i < L.length := by
      intro i hi
      rcases List.mem_append.1 hi with h | h
      · exact hlt i h
      · simp at h; subst h; exact hjl
    have hle := nodup_bound _ _ hnd hall
    have hw1 : w1.heap = w.heap ∧ w1.os = w.os ∧ w1.tape = w.tape ∧ w1.output = w.output ∧ w.drawn ≤ w1.drawn := by
      rcases hal with rfl | rfl
      · exact ⟨rfl, rfl, rfl, rfl, Nat.le_refl _⟩
      · exact ⟨rfl, rfl, rfl, rfl, Nat.le_succ _⟩
    have hlt2 := blk_lt hit
    have hcell : ∀ i, i ≠ it → (ChangeMaps.setBlock w1 it (.mapIter (some m) clock (seen.push (es.toList[j]).born) clock)).heap[i]? = w.heap[i]? := by
      intro i hne
      show (w1.heap.setIfInBounds it _)[i]? = _
      rw [hw1.1]
      simp [Ne.symm hne]
    have hchg : Chg (fun i => i = it) w (ChangeMaps.setBlock w1 it (.mapIter (some m) clock (seen.push (es.toList[j]).born) clock)) := by
      refine ⟨hw1.2.1, hw1.2.2.1, hw1.2.2.2.1, ?_, fun i hi hne => hcell i hne, ?_, hw1.2.2.2.2⟩
      · show _ ≤ (w1.heap.setIfInBounds it _).size
        rw [hw1.1]; simp
      · rintro i ⟨c, T, hc⟩
        have hne : i ≠ it := fun e => by subst e; rw [hit] at hc; cases hc
        exact ⟨c, T, by rw [hcell i hne]; exact hc⟩
    refine ov_run (v := .tuple #[.bool true, (es.toList[j]).key, (es.toList[j]).val]) (w' := ChangeMaps.setBlock w1 it (.mapIter (some m) clock (seen.push (es.toList[j]).born) clock)) (by simp [execOp, hx, hr, go_sem]) (h1 _ j hji hjl (by simp at hle; omega) ?_ hchg _ _)
    refine ⟨es, clock, seen.push (es.toList[j]).born, (hcell m hmi).trans hb, hs, he.mono (fun b hb' hlt' => ⟨hcell b (fun e => hF (e ▸ hb')), hb'⟩), ?_, hnd, hall, ?_⟩
    · show (w1.heap.setIfInBounds it _)[it]? = _
      rw [hw1.1]; simp [hlt2]
    · rw [Array.toList_push, hseen, List.map_append, List.map_cons, List.map_nil, List.getElem?_eq_getElem hj]; rfl

theorem ov_entry {x : Operand} {it m j : Nat} {F : Nat → Prop} {L : List (Int × α)} {idx : List Nat} (hx : ev σ x = .pointer (some ⟨it, 0, none⟩)) (hi : IterR w it m L F (idx ++ [j]))
    (h : ∀ (hj : j < L.length) cs, Rep.rd w F cs L[j].2 → InR L[j].1 → K (.tuple #[.int .i64 L[j].1, .agg cs.toArray]) w) : opV P ⟨d, .entry x, ty, pos, af, g⟩ σ w K := by
  obtain ⟨es, clock, seen, hb, hs, he, hit, hn, hlt, hseen⟩ := hi
  have hjl : j < L.length := hlt j (by simp)
  have hje : j < es.toList.length := by rw [he.len]; exact hjl
  obtain ⟨hk, hr0, cs, hv, hr⟩ := he.at_ j hje hjl
  have hsn : ∃ seen0 : Array Nat, seen = seen0.push (es.toList[j]).born := by
    refine ⟨(idx.map fun j => (es.toList[j]?.map (·.born)).getD 0).toArray, ?_⟩
    apply Array.ext'
    rw [hseen, Array.toList_push, List.map_append, List.map_cons, List.map_nil, List.getElem?_eq_getElem hje]; rfl
  obtain ⟨seen0, rfl⟩ := hsn
  have hrun := run_entry_at (P := P) w it m clock seen0 es clock _ hit hb (List.getElem_mem hje) hs.2.1
  rw [hk, hv] at hrun
  exact ov_run (v := .tuple #[.int .i64 L[j].1, .agg cs.toArray]) (w' := w) (by simp [execOp, hx, hrun, go_sem]) (h hjl cs hr hr0)
theorem ov_extract {x : Operand} {vs : List Value} {i : Nat} {v : Value} (hx : ev σ x = .tuple vs.toArray) (hv : vs[i]? = some v) (h : K v w) : opV P ⟨d, .extract x i, ty, pos, af, g⟩ σ w K := by
  obtain ⟨hi, rfl⟩ := List.getElem?_eq_some_iff.1 hv
  exact ov_run (v := vs[i]) (w' := w) (by simp [execOp, hx, Instr.extract, hi, go_sem]) h
/-- A pointer that is not nil. -/
theorem ov_eqlPtr {x : Operand} {t t2 : TypeId} {b o : Nat} (hU : P.underlying t = some (.pointer (P.pointee t))) (hx : ev σ x = .pointer (some ⟨b, o, none⟩)) (h : K (.bool false) w) :
    opV P ⟨d, .binOp .eql t x (.const (.pointer none)) t2, ty, pos, af, g⟩ σ w K := by
  have hc : ev σ (.const (.pointer none)) = .pointer none := rfl
  refine ov_run (v := .bool false) (w' := w) ?_ h
  have hr := run_eql_pointer_nil (P := P) (w := w) t (some ⟨b, o, none⟩) hU
  simp [execOp, hx, hc, eqGuard, hr, go_sem]
theorem ov_nilCheck {x : Operand} {b o : Nat} (hx : ev σ x = .pointer (some ⟨b, o, none⟩)) (h : K (.pointer (some ⟨b, o, none⟩)) w) : opV P ⟨d, .nilCheck x, ty, pos, af, g⟩ σ w K :=
  ov_run (v := .pointer (some ⟨b, o, none⟩)) (w' := w) (by simp [execOp, hx, go_sem]) h
end
end Go.Proofs.Ytgjgmojjeehieaa
