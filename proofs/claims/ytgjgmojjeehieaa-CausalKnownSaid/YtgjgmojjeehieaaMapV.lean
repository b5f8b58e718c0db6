/- Maps with structs as keys: what they hold, value by value. -/
import Derived.Test.YtgjgmojjeehieaaSep2
set_option linter.unusedSimpArgs false
set_option linter.unusedVariables false
set_option linter.unusedSectionVars false
namespace Go.Proofs.Ytgjgmojjeehieaa
open Go.RowKit Go.MapKept

/-- What a machine does with keys of a kind. -/
structure KLaw (P : Program) (kt : TypeId) {κ : Type} [DecidableEq κ] (enc : κ → Value) : Prop where
  inj : ∀ {a b : κ}, enc a = enc b → a = b
  desc : ∃ d, P.underlying kt = some d ∧ ∀ a b, Instr.sameNow d (enc a) (enc b) = none
  check : ∀ (w : World) (e : Bool) (k : κ), (Instr.checkKey e 10000 kt (enc k)).run P w = .ok () w
  eql : ∀ (w : World) (a b : κ), (Op.equal kt (enc a) (enc b)).run P w = .ok (decide (a = b)) w
  stays : ∀ k, Instr.sameBits 10000 (enc k) (enc k) = true

/-- What a map says of a key; the map with another value. -/
def lookV {κ β : Type} [DecidableEq κ] (L : List (κ × β)) (k : κ) : Option β := (L.find? fun p => decide (p.1 = k)).map (·.2)
def updV {κ β : Type} [DecidableEq κ] (L : List (κ × β)) (k : κ) (x : β) : List (κ × β) := match L.findIdx? fun p => decide (p.1 = k) with
  | some j => L.set j (k, x)
  | none => L ++ [(k, x)]
def entV {κ β : Type} [DecidableEq κ] (L : List (κ × β)) (k : κ) (z : β) : List (κ × β) := match L.findIdx? fun p => decide (p.1 = k) with
  | some _ => L
  | none => L ++ [(k, z)]

section
variable {P : Program} {kt : TypeId} {κ : Type} [DecidableEq κ] {enc : κ → Value}
theorem KLaw.ask (K : KLaw P kt enc) (k : κ) (w : World) : ∀ (es : List MapEntry) (i : Nat), (∀ e ∈ es, ∃ q, e.key = enc q) →
    ((Instr.findAsking kt (enc k) es i).run P w = .ok none w ∧ ∀ e ∈ es, e.key ≠ enc k) ∨ ∃ j e, (Instr.findAsking kt (enc k) es i).run P w = .ok (some (i + j, e.val)) w ∧ es[j]? = some e ∧ e.key = enc k
  | [], i, _ => .inl ⟨rfl, by simp⟩
  | e :: es, i, h => by
    obtain ⟨q, hq⟩ := h e (.head _)
    by_cases hk : k = q
    · subst hk
      refine .inr ⟨0, e, ?_, rfl, hq⟩
      simp [Instr.findAsking, hq, K.eql, go_sem]
    · rcases KLaw.ask K k w es (i + 1) (fun x hx => h x (.tail _ hx)) with ⟨h1, h2⟩ | ⟨j, e', h1, h2, h3⟩
      · refine .inl ⟨?_, fun x hx => ?_⟩
        · simp [Instr.findAsking, hq, K.eql, hk, h1, go_sem]
        · rcases List.mem_cons.1 hx with rfl | hx
          · rw [hq]; exact fun e => hk (K.inj e).symm
          · exact h2 x hx
      · refine .inr ⟨j + 1, e', ?_, by simpa using h2, h3⟩
        have e9 : i + 1 + j = i + (j + 1) := by omega
        rw [e9] at h1
        simp [Instr.findAsking, hq, K.eql, hk, h1, go_sem]
theorem KLaw.find (K : KLaw P kt enc) (k : κ) (w : World) (es : List MapEntry) (h : ∀ e ∈ es, ∃ q, e.key = enc q) :
    ((Instr.findKey kt (enc k) es).run P w = .ok none w ∧ ∀ e ∈ es, e.key ≠ enc k) ∨ ∃ j e, (Instr.findKey kt (enc k) es).run P w = .ok (some (j, e.val)) w ∧ es[j]? = some e ∧ e.key = enc k := by
  obtain ⟨d, hd, hs⟩ := K.desc
  match es, h with
  | [], h => exact .inl ⟨by simp [Instr.findKey, run_underlying hd, Instr.findNow, go_sem], by simp⟩
  | e :: es, h =>
    obtain ⟨q, hq⟩ := h e (.head _)
    have hn : Instr.findNow d (enc k) (e :: es) 0 = none := by simp [Instr.findNow, hq, hs]
    have hr : ∀ r, (Instr.findAsking kt (enc k) (e :: es) 0).run P w = .ok r w → (Instr.findKey kt (enc k) (e :: es)).run P w = .ok r w := by
      intro r hr
      simp [Instr.findKey, run_underlying hd, hn, go_sem]
      exact hr
    rcases K.ask k w (e :: es) 0 h with ⟨h1, h2⟩ | ⟨j, e', h1, h2, h3⟩
    · exact .inl ⟨hr _ h1, h2⟩
    · exact .inr ⟨j, e', hr _ (by rw [h1, Nat.zero_add]), h2, h3⟩
theorem KLaw.keeps (K : KLaw P kt enc) (k : κ) (w : World) : (Instr.keyThatStays (enc k) (enc k)).run P w = .ok (enc k) w := by
  simp [Instr.keyThatStays, K.stays]

def EntsV (enc : κ → Value) (es : List MapEntry) (L : List (κ × Value)) : Prop := es.map (fun e => (e.key, e.val)) = L.map (fun p => (enc p.1, p.2))
theorem EntsV.len {es : List MapEntry} {L : List (κ × Value)} (h : EntsV enc es L) : es.length = L.length := by have := congrArg List.length h; simpa using this
theorem EntsV.at_ {es : List MapEntry} {L : List (κ × Value)} (h : EntsV enc es L) {j : Nat} {e : MapEntry} (he : es[j]? = some e) : ∃ p, L[j]? = some p ∧ e.key = enc p.1 ∧ e.val = p.2 := by
  have h1 : (es.map (fun e => (e.key, e.val)))[j]? = (L.map (fun p => (enc p.1, p.2)))[j]? := by rw [show es.map _ = L.map _ from h]
  rw [List.getElem?_map, List.getElem?_map, he] at h1
  cases hp : L[j]? with
  | none => rw [hp] at h1; cases h1
  | some p => rw [hp] at h1; simp only [Option.map_some, Option.some.injEq, Prod.mk.injEq] at h1; exact ⟨p, rfl, h1.1, h1.2⟩
theorem EntsV.keys {es : List MapEntry} {L : List (κ × Value)} (h : EntsV enc es L) : ∀ e ∈ es, ∃ q, e.key = enc q := by
  intro e he
  obtain ⟨j, hj, rfl⟩ := List.getElem_of_mem he
  obtain ⟨p, _, h1, _⟩ := h.at_ (List.getElem?_eq_getElem hj)
  exact ⟨p.1, h1⟩
theorem EntsV.nodup {es : List MapEntry} {L : List (κ × Value)} (h : EntsV enc es L) (hp : (es.map (·.key)).Nodup) : (L.map (·.1)).Nodup := by
  have h1 : (es.map (·.key)) = (L.map (·.1)).map enc := by
    have := congrArg (List.map Prod.fst) h
    simpa [Function.comp_def] using this
  have h2 : ((L.map (·.1)).map enc).Nodup := by rw [← h1]; exact hp
  exact (List.pairwise_map.1 h2).imp (fun hne e => hne (by rw [e]))
theorem EntsV.none {es : List MapEntry} {L : List (κ × Value)} (h : EntsV enc es L) {k : κ} (hk : ∀ e ∈ es, e.key ≠ enc k) : (L.findIdx? fun p => decide (p.1 = k)) = none ∧ lookV L k = none := by
  have key : ∀ p ∈ L, ¬ p.1 = k := by
    intro p hp e
    obtain ⟨j, hj, rfl⟩ := List.getElem_of_mem hp
    have hje : j < es.length := by rw [h.len]; exact hj
    obtain ⟨q, h1, h2, _⟩ := h.at_ (List.getElem?_eq_getElem hje)
    rw [List.getElem?_eq_getElem hj] at h1
    cases h1
    exact hk _ (List.getElem_mem hje) (by rw [h2, e])
  refine ⟨by rw [List.findIdx?_eq_none_iff]; intro p hp; simpa using key p hp, ?_⟩
  unfold lookV
  rw [Option.map_eq_none_iff, List.find?_eq_none]
  intro p hp
  simpa using key p hp
theorem EntsV.some {es : List MapEntry} {L : List (κ × Value)} (h : EntsV enc es L) (hi : ∀ {a b : κ}, enc a = enc b → a = b) (hp : (es.map (·.key)).Nodup) {k : κ} {j : Nat} {e : MapEntry} (he : es[j]? = some e) (hk : e.key = enc k) :
    j < L.length ∧ (L.findIdx? fun p => decide (p.1 = k)) = some j ∧ lookV L k = some e.val := by
  obtain ⟨p, h1, h2, h3⟩ := h.at_ he
  have hjl := (List.getElem?_eq_some_iff.1 h1).1
  have hpe : L[j] = p := (List.getElem?_eq_some_iff.1 h1).2
  have hpk : p.1 = k := hi (by rw [← h2, hk])
  have hn := h.nodup hp
  have first : ∀ i (hij : i < j), ¬ (L[i]'(by omega)).1 = k := fun i hij => by
    have := List.pairwise_iff_getElem.1 (List.pairwise_map.1 hn) i j (by omega) hjl hij
    intro e; exact this (by rw [e, hpe, hpk])
  refine ⟨hjl, ?_, ?_⟩
  · rw [List.findIdx?_eq_some_iff_getElem]
    exact ⟨hjl, by simp [hpe, hpk], fun i hi => by simpa using first i hi⟩
  · unfold lookV
    have : (L.find? fun p => decide (p.1 = k)) = Option.some p := by
      rw [List.find?_eq_some_iff_getElem]
      exact ⟨by simp [hpk], j, hjl, hpe, fun i hi => by simpa using first i hi⟩
    rw [this, Option.map_some, h3]

/-- Block m is a map that holds these values. -/
def IsMap (enc : κ → Value) (w : World) (m : Nat) (L : List (κ × Value)) : Prop := ∃ es clock, w.heap[m]? = some (.map es clock) ∧ Stamped es clock ∧ EntsV enc es.toList L ∧ clock = es.size
/-- The same, its j-th entry of a stamp. -/
def IsMapE (enc : κ → Value) (w : World) (m : Nat) (L : List (κ × Value)) (j : Nat) (s : Int) : Prop := ∃ es clock, w.heap[m]? = some (.map es clock) ∧ Stamped es clock ∧ EntsV enc es.toList L ∧ clock = es.size ∧ ∃ e, es[j]? = some e ∧ (e.born : Int) = s
theorem IsMapE.is {w : World} {m j : Nat} {s : Int} {L : List (κ × Value)} (h : IsMapE enc w m L j s) : IsMap enc w m L := by obtain ⟨es, c, h1, h2, h3, h4, _⟩ := h; exact ⟨es, c, h1, h2, h3, h4⟩
theorem IsMap.lt {w : World} {m : Nat} {L : List (κ × Value)} (h : IsMap enc w m L) : m < w.heap.size := by obtain ⟨es, c, hb, _⟩ := h; exact blk_lt hb
theorem IsMap.nodup {w : World} {m : Nat} {L : List (κ × Value)} (h : IsMap enc w m L) : (L.map (·.1)).Nodup := by
  obtain ⟨es, c, hb, hs, he, _⟩ := h
  exact he.nodup hs.2.2
def MapV (enc : κ → Value) (m : Nat) (L : List (κ × Value)) : HP := ⟨fun w f => f m ∧ IsMap enc w m L, fun ⟨h1, h2⟩ hf => ⟨(hf _ h1 h2.lt).2, by
  obtain ⟨es, c, hb, r⟩ := h2
  exact ⟨es, c, ((hf _ h1 (blk_lt hb)).1).trans hb, r⟩⟩⟩
def MapE (enc : κ → Value) (m : Nat) (L : List (κ × Value)) (j : Nat) (s : Int) : HP := ⟨fun w f => f m ∧ IsMapE enc w m L j s, fun ⟨h1, h2⟩ hf => ⟨(hf _ h1 h2.is.lt).2, by
  obtain ⟨es, c, hb, r⟩ := h2
  exact ⟨es, c, ((hf _ h1 (blk_lt hb)).1).trans hb, r⟩⟩⟩
end

section
variable {P : Program} {d : Option Tmp} {ty : TypeId} {pos : String} {af : Array Edge} {gd : Option (Nat × Bool)} {σ : Env} {w : World} {K : Value → World → Prop} {κ : Type} [DecidableEq κ] {enc : κ → Value} {G : Nat → Prop} {W : World} {As : List HP} {m : Nat} {L : List (κ × Value)}

theorem Sep.mapvNew {w' : World} (h : Sep G W As w) (hn : New w w' w.heap.size (.map #[] 0)) : Sep G W (MapV enc w.heap.size [] :: As) w' :=
  h.push hn.ext (f := fun i => i = w.heap.size) ⟨rfl, #[], 0, hn.at_, stamped_empty 0, rfl, rfl⟩ (fun i hi => by omega)
theorem Sep.mapv (h : Sep G W As w) {i : Nat} (hi : As[i]? = some (MapV enc m L)) : IsMap enc w m L := by obtain ⟨f, h1, _⟩ := h.get hi; exact h1.2
theorem Sep.mape (h : Sep G W As w) {i j : Nat} {s : Int} (hi : As[i]? = some (MapE enc m L j s)) : IsMapE enc w m L j s := by obtain ⟨f, h1, _⟩ := h.get hi; exact h1.2
theorem Sep.mapvPut {w' : World} (h : Sep G W (MapV enc m L :: As) w) {L' : List (κ × Value)} (hm : IsMap enc w' m L') (hc : Chg (fun i => i = m) w w') : Sep G W (MapV enc m L' :: As) w' :=
  h.upd (i := 0) rfl (fun f hA _ => ⟨hc.weak (fun j _ hj => by subst hj; exact hA.1), f, ⟨hA.1, hm⟩, fun _ hb => .inl hb⟩)
theorem Sep.mapvEnt {w' : World} (h : Sep G W (MapV enc m L :: As) w) {L' : List (κ × Value)} {j : Nat} {s : Int} (hm : IsMapE enc w' m L' j s) (hc : Chg (fun i => i = m) w w') : Sep G W (MapE enc m L' j s :: As) w' :=
  h.upd (i := 0) rfl (fun f hA _ => ⟨hc.weak (fun j _ hj => by subst hj; exact hA.1), f, ⟨hA.1, hm⟩, fun _ hb => .inl hb⟩)
theorem Sep.mapeV (h : Sep G W As w) {i j : Nat} {s : Int} (hi : As[i]? = some (MapE enc m L j s)) : Sep G W (As.set i (MapV enc m L)) w := h.impl hi (fun f h => ⟨h.1, h.2.is⟩)

theorem heap_chg {m : Nat} {es es' : Array MapEntry} {c c' : Nat} (hb : w.heap[m]? = some (.map es c)) : Chg (fun i => i = m) w { w with heap := w.heap.setIfInBounds m (.map es' c') } := by
  refine ⟨rfl, rfl, rfl, by simp, fun i hi hne => (heap_set hb).2 i hne, ?_, Nat.le_refl _⟩
  rintro i ⟨c, T, hc⟩
  have hne : i ≠ m := fun e => by subst e; rw [hb] at hc; cases hc
  exact ⟨c, T, by rw [(heap_set hb).2 i hne]; exact hc⟩
theorem entsV_snoc {es : Array MapEntry} (h : EntsV enc es.toList L) (k : κ) (v : Value) (n : Nat) : EntsV enc (es.push { key := enc k, val := v, born := n }).toList (L ++ [(k, v)]) := by
  unfold EntsV at *
  rw [Array.toList_push, List.map_append, List.map_append, h]
  rfl
theorem entsV_set {es : Array MapEntry} (h : EntsV enc es.toList L) {k : κ} {v : Value} {j : Nat} {e : MapEntry} (he : es.toList[j]? = some e) (f : MapEntry → MapEntry) (hk : (f e).key = enc k) (hv : (f e).val = v) : EntsV enc (es.modify j f).toList (L.set j (k, v)) := by
  unfold EntsV at *
  rw [Array.toList_modify, List.modify_eq_set, he]
  simp only [Option.map_some, Option.getD_some, List.map_set, h, hk, hv]

theorem ov_lookupV {t kt et : TypeId} {x y : Operand} {k : κ} {z : Value} (hK : KLaw P kt enc) (hU : P.underlying t = some (.map kt et)) (hZ : ∀ w, (zeroValue et).run P w = .ok z w)
    (hx : ev σ x = .map (some m)) (hy : ev σ y = enc k) (hm : IsMap enc w m L) (h : K ((lookV L k).getD z) w) : opV P ⟨d, .lookup t x y false, ty, pos, af, gd⟩ σ w K := by
  obtain ⟨es, clock, hb, hs, he, _⟩ := hm
  rcases hK.find k w es.toList he.keys with ⟨h1, h2⟩ | ⟨j, e, h1, h2, h3⟩
  · rw [(he.none h2).2] at h
    refine ov_run (v := z) (w' := w) ?_ h
    simp [execOp, hx, hy, Instr.lookup, run_underlying hU, MapKept.run_getObj_map hb, hK.check, h1, hZ, go_sem]
  · rw [(he.some hK.inj hs.2.2 h2 h3).2.2] at h
    refine ov_run (v := e.val) (w' := w) ?_ h
    simp [execOp, hx, hy, Instr.lookup, run_underlying hU, MapKept.run_getObj_map hb, hK.check, h1, go_sem]
theorem ov_lookupV2 {t kt et : TypeId} {x y : Operand} {k : κ} {z : Value} (hK : KLaw P kt enc) (hU : P.underlying t = some (.map kt et)) (hZ : ∀ w, (zeroValue et).run P w = .ok z w)
    (hx : ev σ x = .map (some m)) (hy : ev σ y = enc k) (hm : IsMap enc w m L) (h : K (.tuple #[(lookV L k).getD z, .bool (lookV L k).isSome]) w) : opV P ⟨d, .lookup t x y true, ty, pos, af, gd⟩ σ w K := by
  obtain ⟨es, clock, hb, hs, he, _⟩ := hm
  rcases hK.find k w es.toList he.keys with ⟨h1, h2⟩ | ⟨j, e, h1, h2, h3⟩
  · rw [(he.none h2).2] at h
    refine ov_run (v := .tuple #[z, .bool false]) (w' := w) ?_ h
    simp [execOp, hx, hy, Instr.lookup, run_underlying hU, MapKept.run_getObj_map hb, hK.check, h1, hZ, go_sem]
  · rw [(he.some hK.inj hs.2.2 h2 h3).2.2] at h
    refine ov_run (v := .tuple #[e.val, .bool true]) (w' := w) ?_ h
    simp [execOp, hx, hy, Instr.lookup, run_underlying hU, MapKept.run_getObj_map hb, hK.check, h1, go_sem]
theorem ov_mapUpdateV {t kt et : TypeId} {x y z : Operand} {k : κ} {v : Value} (hK : KLaw P kt enc) (hU : P.underlying t = some (.map kt et)) (hx : ev σ x = .map (some m)) (hy : ev σ y = enc k) (hz : ev σ z = v) (hm : IsMap enc w m L)
    (h : ∀ w1, IsMap enc w1 m (updV L k v) → Chg (fun i => i = m) w w1 → K undef w1) : opV P ⟨d, .mapUpdate t x y z, ty, pos, af, gd⟩ σ w K := by
  obtain ⟨es, clock, hb, hs, he, hcl⟩ := hm
  rcases hK.find k w es.toList he.keys with ⟨h1, h2⟩ | ⟨j, e, h1, h2, h3⟩
  · refine ov_skip (w' := { w with heap := w.heap.setIfInBounds m (.map (es.push { key := enc k, val := v, born := clock }) (clock + 1)) }) ?_ (h _ ?_ (heap_chg hb))
    · simp [execOp, hx, hy, hz, Instr.mapUpdate, run_underlying hU, MapKept.run_getObj_map hb, hK.check, h1, MapKept.run_setObj_map _ hb, go_sem]
    · unfold updV
      rw [(he.none h2).1]
      exact ⟨_, _, (heap_set hb).1, stamped_push hs h2, entsV_snoc he k v clock, by simp [hcl]⟩
  · have hja : es[j]? = some e := by simpa using h2
    obtain ⟨hjl, hfi, _⟩ := he.some hK.inj hs.2.2 h2 h3
    refine ov_skip (w' := { w with heap := w.heap.setIfInBounds m (.map (es.modify j fun e => { e with key := enc k, val := v }) clock) }) ?_ (h _ ?_ (heap_chg hb))
    · simp [execOp, hx, hy, hz, Instr.mapUpdate, run_underlying hU, MapKept.run_getObj_map hb, hK.check, h1, hja, h3, hK.keeps, MapKept.run_setObj_map _ hb, go_sem]
    · unfold updV
      rw [hfi]
      exact ⟨_, _, (heap_set hb).1, stamped_modify hs _ _ (fun _ _ => rfl) (fun e' _ he' => by rw [hja] at he'; cases he'; exact h3.symm), entsV_set he h2 _ rfl rfl, by simp [hcl]⟩
/-- An entry is looked for, and made where there is none. -/
theorem ov_mapEntryV {t kt et : TypeId} {x y : Operand} {k : κ} {z : Value} (hK : KLaw P kt enc) (hU : P.underlying t = some (.map kt et)) (hZ : ∀ w, (zeroValue et).run P w = .ok z w) (hx : ev σ x = .map (some m)) (hy : ev σ y = enc k) (hm : IsMap enc w m L)
    (h : ∀ w1 j s, IsMapE enc w1 m (entV L k z) j s → (∀ v, (entV L k z).set j (k, v) = updV L k v) → (∃ p, (entV L k z)[j]? = some p ∧ p.1 = k) → Chg (fun i => i = m) w w1 → K (.tuple #[(lookV L k).getD z, .int .i64 s]) w1) : opV P ⟨d, .mapEntry t x y, ty, pos, af, gd⟩ σ w K := by
  obtain ⟨es, clock, hb, hs, he, hcl⟩ := hm
  rcases hK.find k w es.toList he.keys with ⟨h1, h2⟩ | ⟨j, e, h1, h2, h3⟩
  · have h0 := h { w with heap := w.heap.setIfInBounds m (.map (es.push { key := enc k, val := z, born := clock }) (clock + 1)) } es.size (clock : Int)
    unfold entV updV at h0
    rw [(he.none h2).1, (he.none h2).2] at h0
    refine ov_run (v := .tuple #[z, .int .i64 (clock : Int)]) (w' := { w with heap := w.heap.setIfInBounds m (.map (es.push { key := enc k, val := z, born := clock }) (clock + 1)) }) ?_ (h0 ⟨_, _, (heap_set hb).1, stamped_push hs h2, entsV_snoc he k z clock, by simp [hcl], { key := enc k, val := z, born := clock }, by simp, rfl⟩ ?_ ?_ (heap_chg hb))
    · simp [execOp, hx, hy, Instr.mapEntry, run_underlying hU, MapKept.run_getObj_map hb, hK.check, h1, hZ, MapKept.run_setObj_map _ hb, goInt, go_sem]
    · intro v
      have hl : es.size = L.length := by have := he.len; simpa using this
      simp only [hl]
      rw [List.set_append_right _ _ (Nat.le_refl _), Nat.sub_self]; rfl
    · have hl : es.size = L.length := by have := he.len; simpa using this
      exact ⟨(k, z), by rw [hl]; simp, rfl⟩
  · have hja : es[j]? = some e := by simpa using h2
    obtain ⟨hjl, hfi, hlk⟩ := he.some hK.inj hs.2.2 h2 h3
    have h0 := h { w with heap := w.heap.setIfInBounds m (.map (es.modify j fun e => { e with key := enc k }) clock) } j (e.born : Int)
    unfold entV updV at h0
    rw [hfi, hlk] at h0
    have hes : EntsV enc (es.modify j fun e => { e with key := enc k }).toList L := by
      have h9 := entsV_set he (k := k) (v := e.val) h2 (fun e => { e with key := enc k }) rfl rfl
      obtain ⟨p, q1, q2, q3⟩ := he.at_ h2
      have : L.set j (k, e.val) = L := by
        obtain ⟨hj9, q4⟩ := List.getElem?_eq_some_iff.1 q1
        have hpk : p.1 = k := hK.inj (by rw [← q2, h3])
        rw [q3, show (k, p.2) = L[j] by rw [q4, ← hpk]]
        exact List.set_getElem_self hj9
      rwa [this] at h9
    refine ov_run (v := .tuple #[e.val, .int .i64 (e.born : Int)]) (w' := { w with heap := w.heap.setIfInBounds m (.map (es.modify j fun e => { e with key := enc k }) clock) }) ?_ (h0 ⟨_, _, (heap_set hb).1, stamped_modify hs _ _ (fun _ _ => rfl) (fun e' _ he' => by rw [hja] at he'; cases he'; exact h3.symm), hes, by simp [hcl], { e with key := enc k }, by simp [Array.getElem?_modify, hja], rfl⟩ (fun v => rfl) ((he.at_ h2).elim fun p hp => ⟨p, hp.1, hK.inj (by rw [← hp.2.1, h3])⟩) (heap_chg hb))
    simp [execOp, hx, hy, Instr.mapEntry, run_underlying hU, MapKept.run_getObj_map hb, hK.check, h1, hja, h3, hK.keeps, MapKept.run_setObj_map _ hb, goInt, go_sem]
theorem ov_entryStoreV {t : TypeId} {x y z : Operand} {j : Nat} {s : Int} {v : Value} {p : κ × Value} (hx : ev σ x = .map (some m)) (hy : ev σ y = .int .i64 s) (hz : ev σ z = v) (hm : IsMapE enc w m L j s) (hp : L[j]? = some p)
    (h : ∀ w1, IsMap enc w1 m (L.set j (p.1, v)) → Chg (fun i => i = m) w w1 → K undef w1) : opV P ⟨d, .entryStore t x y z, ty, pos, af, gd⟩ σ w K := by
  obtain ⟨es, clock, hb, hs, he, hcl, e, hja, hbn⟩ := hm
  have h2 : es.toList[j]? = some e := by simpa using hja
  have hjs : j < es.size := (Array.getElem?_eq_some_iff.1 hja).1
  have hej : es[j] = e := (Array.getElem?_eq_some_iff.1 hja).2
  have hfi : es.findIdx? (fun e => (e.born : Int) == s) = some j := by
    rw [Array.findIdx?_eq_some_iff_getElem]
    refine ⟨hjs, by simp [hej, hbn], fun i hi => ?_⟩
    have := List.pairwise_iff_getElem.1 (List.pairwise_map.1 hs.2.1) i j (by simp; omega) (by simpa using hjs) hi
    simp only [Array.getElem_toList] at this
    rw [hej] at this
    have h9 : ¬ ((es[i].born : Int) = s) := fun e9 => this (by omega)
    simpa using h9
  obtain ⟨q, q1, q2, q3⟩ := he.at_ h2
  rw [hp] at q1
  cases q1
  refine ov_skip (w' := { w with heap := w.heap.setIfInBounds m (.map (es.modify j fun e => { e with val := v }) clock) }) ?_ (h _ ?_ (heap_chg hb))
  · simp [execOp, hx, hy, hz, Instr.entryStore, MapKept.run_getObj_map hb, asInt, hfi, MapKept.run_setObj_map _ hb, go_sem]
  · exact ⟨_, _, (heap_set hb).1, stamped_modify hs _ _ (fun _ _ => rfl) (fun e' _ he' => rfl), entsV_set he h2 _ q2 rfl, by simp [hcl]⟩
end
end Go.Proofs.Ytgjgmojjeehieaa
