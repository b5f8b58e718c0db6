/- slices.Insert and slices.Delete of numbers, at rows of one's own, by the shelf's contracts. -/
import Derived.Test.YtlblilbmpdejgaaDoorLayIns
import Derived.Test.YtlblilbmpdejgaaDoorCelRows
import Derived.Test.YtlblilbmpdejgaaDoorBasic
set_option linter.unusedSimpArgs false
set_option linter.unusedVariables false
namespace Go.Proofs.YtlblilbmpdejgaaDoor
open Go.RowKit Go.Sort

/-- A step within a block of cells. -/
structure Wr (w w' : World) (b : Nat) (c' : List Value) (T : TypeId) : Prop where
  at_ : ∃ a : Array Value, a.toList = c' ∧ w'.heap[b]? = some (.cells a T)
  other : ∀ i, i ≠ b → w'.heap[i]? = w.heap[i]?
  size : w'.heap.size = w.heap.size
  os : w'.os = w.os
  tape : w'.tape = w.tape
  output : w'.output = w.output
  drawn : w.drawn ≤ w'.drawn
theorem Wr.trans {w1 w2 w3 : World} {b : Nat} {c c' : List Value} {T : TypeId} (h : Wr w1 w2 b c T) (k : Wr w2 w3 b c' T) : Wr w1 w3 b c' T :=
  ⟨k.at_, fun i hi => (k.other i hi).trans (h.other i hi), k.size.trans h.size, k.os.trans h.os, k.tape.trans h.tape, k.output.trans h.output, Nat.le_trans h.drawn k.drawn⟩
theorem Wr.drew {w : World} {b : Nat} {a : Array Value} {T : TypeId} (h : w.heap[b]? = some (.cells a T)) : Wr w w.drew b a.toList T := ⟨⟨a, rfl, h⟩, fun _ _ => rfl, rfl, rfl, rfl, rfl, Nat.le_succ _⟩
theorem Wr.ahead {w : World} {b q : Nat} {a : Array Value} {T : TypeId} (h : w.heap[b]? = some (.cells a T)) : Wr w (Sort.ahead w q) b a.toList T := ⟨⟨a, rfl, h⟩, fun _ _ => rfl, rfl, rfl, rfl, rfl, Nat.le_add_right _ _⟩
theorem Wr.chg {w w' : World} {b : Nat} {c : List Value} {T : TypeId} (h : Wr w w' b c T) {c0 : Array Value} (h0 : w.heap[b]? = some (.cells c0 T)) : Chg (fun i => i = b) w w' :=
  ⟨h.os, h.tape, h.output, Nat.le_of_eq h.size.symm, fun i _ hne => h.other i hne, fun i ⟨a, t, hi⟩ => by
    by_cases e : i = b
    · subst e; obtain ⟨z, _, hz⟩ := h.at_; exact ⟨z, T, hz⟩
    · exact ⟨a, t, by rw [h.other i e]; exact hi⟩, h.drawn⟩
theorem wr_setCell {w : World} {b o : Nat} {a : Array Value} {T : TypeId} (h : w.heap[b]? = some (.cells a T)) (v : Value) : Wr w (w.setCell ⟨b, o, none⟩ v) b (a.toList.set o v) T := by
  refine ⟨⟨a.setIfInBounds o v, by simp, ?_⟩, fun i hi => ?_, by simp [World.setCell], rfl, rfl, rfl, Nat.le_refl _⟩
  · simp [World.setCell, Array.getElem?_modify, h]
  · simp only [World.setCell, Array.getElem?_modify]; rw [if_neg (fun e => hi e.symm)]
def putL (c : List Value) (o : Nat) : List Value → List Value
  | [] => c
  | v :: vs => putL (c.set o v) (o + 1) vs
theorem wr_setCells {b : Nat} {T : TypeId} : ∀ (vs : List Value) (o : Nat) (w : World) (a : Array Value), w.heap[b]? = some (.cells a T) → Wr w (w.setCells b o vs) b (putL a.toList o vs) T
  | [], _, w, a, h => ⟨⟨a, rfl, h⟩, fun _ _ => rfl, rfl, rfl, rfl, rfl, Nat.le_refl _⟩
  | v :: vs, o, w, a, h => by
    have h1 := wr_setCell (o := o) h v
    obtain ⟨a1, e1, h2⟩ := h1.at_
    have h3 := wr_setCells vs (o + 1) _ a1 h2
    rw [e1] at h3
    exact h1.trans h3
theorem putL_eq : ∀ (vs : List Value) (o : Nat) (c : List Value), o + vs.length ≤ c.length → putL c o vs = c.take o ++ vs ++ c.drop (o + vs.length)
  | [], o, c, _ => by simp [putL]
  | v :: vs, o, c, h => by
    simp only [List.length_cons] at h
    rw [putL, putL_eq vs (o + 1) (c.set o v) (by simp; omega)]
    have e1 : (c.set o v).take (o + 1) = c.take o ++ [v] := by
      rw [List.take_set, List.take_succ_eq_append_getElem (by omega), List.set_append_right _ _ (by simp; omega), List.length_take, Nat.min_eq_left (by omega), Nat.sub_self]; rfl
    have e2 : (c.set o v).drop (o + 1 + vs.length) = c.drop (o + 1 + vs.length) := by rw [List.drop_set_of_lt (by omega)]
    rw [e1, e2, List.length_cons, show o + 1 + vs.length = o + (vs.length + 1) by omega]
    simp only [List.append_assoc, List.cons_append, List.nil_append]

section
variable {G : Nat → Prop} {W w : World} {Rs : List HP} {Ti : TypeId} {v : Value} {l : List Int}
def encL (l : List Int) : List Value := l.map fun x => Value.int .i64 x
theorem encL_flat {q : List Value → Int → Prop} (hq : ∀ cs x, q cs x → cs = [.int .i64 x]) : ∀ {css : List (List Value)} {l : List Int}, EP q css l → css.flatten = encL l
  | [], [], _ => rfl
  | _ :: _, _ :: _, h => by rw [List.flatten_cons, hq _ _ h.1, encL_flat hq h.2]; rfl
  | [], _ :: _, h => h.elim
  | _ :: _, [], h => h.elim
theorem ep_enc {q : List Value → Int → Prop} : ∀ {l : List Int}, (∀ x ∈ l, q [.int .i64 x] x) → EP q (l.map fun x => [Value.int .i64 x]) l
  | [], _ => trivial
  | x :: l, h => ⟨h x (by simp), ep_enc (fun y hy => h y (by simp [hy]))⟩
theorem flat_enc (l : List Int) : (l.map fun x => [Value.int .i64 x]).flatten = encL l := by
  induction l with
  | nil => rfl
  | cons x l ih => simp [encL] at *; exact ih
/-- A row of numbers, by its block. -/
theorem Sep.intRow (h : Sep G W (RowE (α := Int) own Ti v l :: Rs) w) : (∀ x ∈ l, InR x) ∧ l.length * 8 ≤ 140737488355328 ∧ ((v = .slice none 0 0 ∧ l = []) ∨ ∃ g cap cur, v = .slice (some ⟨g, 0, none⟩) l.length cap ∧ w.heap[g]? = some (.cells cur Ti) ∧ l.length ≤ cap ∧ cap ≤ maxLen ∧ cur.size = cap ∧ cur.toList.take l.length = encL l ∧
    ∀ w' v' (l' : List Int) cur', Wr w w' g cur' Ti → v' = .slice (some ⟨g, 0, none⟩) l'.length cap → l'.length ≤ cap → cur'.length = cap → cur'.take l'.length = encL l' → (∀ x ∈ l', InR x) → l'.length * 8 ≤ 140737488355328 → Sep G W (RowE (α := Int) own Ti v' l' :: Rs) w') := by
  obtain ⟨f, hA, hl, hT⟩ := h.take (i := 0) rfl
  obtain ⟨css, hE, hown, hrow, hsm⟩ := hA
  have hin : ∀ x ∈ l, InR x := by
    intro x hx
    obtain ⟨i, hi, rfl⟩ := List.getElem_of_mem hx
    exact (EP.at2 hE i (by rw [hE.length]; exact hi) hi).2
  refine ⟨hin, hsm, ?_⟩
  have hcf : css.flatten = encL l := encL_flat (fun cs x h => h.1) hE
  rcases hown.2 with ⟨rfl, h0⟩ | ⟨g, cap, cur, rfl, hg, hb, hn, hm, hs, ht⟩
  · exact .inl ⟨rfl, List.length_eq_zero_iff.1 h0⟩
  · have hk : Rep.k Int = 1 := rfl
    rw [hk, Nat.mul_one] at hs ht
    refine .inr ⟨g, cap, cur, rfl, hb, hn, hm, hs, by rw [ht, hcf], fun w' v' l' cur' hw hv' hl' hc' ht' hin' hsm' => ?_⟩
    obtain ⟨a, ha, hat⟩ := hw.at_
    refine hT w' _ f ((hw.chg hb).weak (fun i _ hi => by subst hi; exact hrow _ rfl)) ⟨l'.map fun x => [Value.int .i64 x], ep_enc (fun x hx => ⟨rfl, hin' x hx⟩), ⟨by rw [flat_enc]; simp [encL, hk], .inr ⟨g, cap, a, hv', hg, hat, hl', hm, ?_, ?_⟩⟩, fun b hb' => ?_, hsm'⟩ (fun _ h => .inl h)
    · rw [hk, Nat.mul_one, ← hc', ← ha]; simp
    · rw [hk, Nat.mul_one, flat_enc, ← ht', ← ha]
    · subst hv'; exact hrow b hb'
/-- A new row of numbers. -/
theorem Sep.intNew (h : Sep G W Rs w) {w' : World} {cap : Nat} {cur' : List Value} {l' : List Int} {c0 : Array Value} {w1 : World} (hn : New w w1 w.heap.size (.cells c0 Ti)) (hw : Wr w1 w' w.heap.size cur' Ti) (hl' : l'.length ≤ cap) (hc' : cur'.length = cap) (hm : cap ≤ maxLen) (ht' : cur'.take l'.length = encL l') (hin' : ∀ x ∈ l', InR x) (hsm' : l'.length * 8 ≤ 140737488355328) :
    Sep G W (RowE (α := Int) own Ti (.slice (some ⟨w.heap.size, 0, none⟩) l'.length cap) l' :: Rs) w' := by
  obtain ⟨a, ha, hat⟩ := hw.at_
  have hk : Rep.k Int = 1 := rfl
  have hx : Ext w w' := hn.ext.new (hw.chg hn.at_) (fun i hi e => by omega)
  refine h.push hx (f := fun b => b = w.heap.size) ⟨l'.map fun x => [Value.int .i64 x], ep_enc (fun x hx => ⟨rfl, hin' x hx⟩), ⟨by rw [flat_enc]; simp [encL, hk], .inr ⟨w.heap.size, cap, a, rfl, Nat.zero_le _, hat, hl', hm, ?_, ?_⟩⟩, fun b hb' => ?_, hsm'⟩ (fun b h => by omega)
  · rw [hk, Nat.mul_one, ← hc', ← ha]; simp
  · rw [hk, Nat.mul_one, flat_enc, ← ht', ← ha]
  · simp only [Value.ownBlock, Option.some.injEq] at hb'; exact hb'.symm
theorem Sep.intNew' (h : Sep G W Rs w) {w' : World} {cap : Nat} {l' : List Int} {c0 : Array Value} (hn : New w w' w.heap.size (.cells c0 Ti)) (hl' : l'.length ≤ cap) (hc' : c0.toList.length = cap) (hm : cap ≤ maxLen) (ht' : c0.toList.take l'.length = encL l') (hin' : ∀ x ∈ l', InR x) (hsm' : l'.length * 8 ≤ 140737488355328) :
    Sep G W (RowE (α := Int) own Ti (.slice (some ⟨w.heap.size, 0, none⟩) l'.length cap) l' :: Rs) w' :=
  h.intNew hn ⟨⟨c0, rfl, hn.at_⟩, fun _ _ => rfl, rfl, rfl, rfl, rfl, Nat.le_refl _⟩ hl' hc' hm ht' hin' hsm'
theorem cellL {w : World} {b o : Nat} {a : Array Value} {T : TypeId} {u : Value} (h : w.heap[b]? = some (.cells a T)) (hu : a.toList[o]? = some u) : w.cell? ⟨b, o, none⟩ = some u := blk_cell h (by simpa using hu)
theorem encL_one (l : List Int) : ∀ u ∈ encL l, u.oneCell' = true := by
  intro u hu; simp only [encL, List.mem_map] at hu; obtain ⟨x, _, rfl⟩ := hu; rfl
theorem enc_at {l : List Int} {j : Nat} {u : Value} (h : (encL l)[j]? = some u) : j < l.length := by
  have := (List.getElem?_eq_some_iff.1 h).1; simpa [encL] using this
theorem encL_app (a b : List Int) : encL (a ++ b) = encL a ++ encL b := by simp [encL]
theorem encL_len (a : List Int) : (encL a).length = a.length := by simp [encL]
theorem zc_len (n : Nat) : (Builtin.zeroCells (Value.int .i64 0).cells n).toList.length = n := by simp [Builtin.zeroCells, Value.cells]
theorem new_alloc0 (w : World) (o : Obj) : New w (w.alloc o) w.heap.size o := New.mk' w o
theorem new_alloc (w : World) (o : Obj) : New w (w.drew.alloc o) w.heap.size o :=
  have h : New w.drew (w.drew.alloc o) w.heap.size o := New.mk' w.drew o
  ⟨Chg.trans (ext_same (w0 := w.drew) rfl rfl rfl ⟨rfl, Nat.le_succ _⟩) h.ext, h.eq, h.size, h.at_⟩

set_option maxHeartbeats 1000000 in
/-- slices.Insert(s, i, x). -/
theorem ins_row {P : Program} {ρ : Go.Shelf.Ren} (L : Go.Proofs.Lays2.n21 P ρ) {i b : Nat} {x : Int} (hTi : ρ.t 3 = Ti) (hS0 : Sep G W (RowE (α := Int) own Ti v l :: Blk b #[.int .i64 x] Ti :: Rs) w) (hi : i ≤ l.length) (hx : InR x) (hbig : (l.length + 1) * 8 ≤ 140737488355328) :
    Ret P (ρ.f 21) [v, .int .i64 ((i : Nat) : Int), .slice (some ⟨b, 0, none⟩) 1 1] w (fun r w' => Sep G W (RowE (α := Int) own Ti r (l.take i ++ x :: l.drop i) :: Rs) w') := by
  have hb := hS0.blk (i := 1) rfl
  have hvs : ∀ j u, [Value.int .i64 x][j]? = some u → w.cell? ⟨b, 0 + j, none⟩ = some u := fun j u hu => by rw [Nat.zero_add]; exact cellL hb hu
  have h1v : ∀ u ∈ [Value.int .i64 x], u.oneCell' = true := by intro u hu; simp at hu; subst hu; rfl
  have hS : Sep G W (RowE (α := Int) own Ti v l :: Rs) w := hS0.sel 2 [0] (Nat.le_add_left _ _) rfl rfl
  have hR : Sep G W Rs w := hS.sel 1 [] (Nat.le_add_left _ _) rfl rfl
  obtain ⟨hin, hsm, hc⟩ := hS.intRow
  have hin' : ∀ y ∈ l.take i ++ x :: l.drop i, InR y := by
    intro y hy
    rcases List.mem_append.1 hy with h | h
    · exact hin y (List.mem_of_mem_take h)
    · rcases List.mem_cons.1 h with rfl | h
      · exact hx
      · exact hin y (List.mem_of_mem_drop h)
  have hlen : (l.take i ++ x :: l.drop i).length = l.length + 1 := by simp; omega
  have hsm' : (l.take i ++ x :: l.drop i).length * 8 ≤ 140737488355328 := by rw [hlen]; exact hbig
  have hml : l.length + 1 ≤ maxLen := by unfold maxLen; omega
  have henc : encL (l.take i ++ x :: l.drop i) = encL (l.take i) ++ [.int .i64 x] ++ encL (l.drop i) := by simp [encL]
  have hend : i = l.length → encL (l.take i ++ x :: l.drop i) = encL l ++ [.int .i64 x] := fun e => by subst e; rw [henc, List.take_length, List.drop_length]; simp [encL]
  -- a new row behind the end
  have grow : ∀ (base : Option Addr) (c : Nat), v = .slice base l.length c → i = l.length → c < l.length + 1 → l.length ≤ c → (base = none → l.length = 0) → (∀ a, base = some a → ∀ j u, (encL l)[j]? = some u → w.cell? (a.add j) = some u) →
      Ret P (ρ.f 21) [v, .int .i64 ((i : Nat) : Int), .slice (some ⟨b, 0, none⟩) 1 1] w (fun r w' => Sep G W (RowE (α := Int) own Ti r (l.take i ++ x :: l.drop i) :: Rs) w') := by
    intro base c hv hil hcl hlc hnil hcs
    have h := Any2.slices_Insert_int_end_grow L base l.length c b 0 1 1 (encL l) [.int .i64 x] w (by omega) hlc hcl hbig (encL_len l) rfl hnil hcs hvs h1v
    subst hv
    refine Calls.mono (by subst hil; exact h) ?_
    rintro e w' ⟨rfl, rfl⟩
    refine ⟨_, rfl, ?_⟩
    rw [hTi]
    have hg := grownCap_ge w (l.length + 1) c Ti
    have hgm := grownCap_le_maxLen w (l.length + 1) c Ti hml
    have hn := new_alloc w (.cells ((encL l ++ [Value.int .i64 x]).toArray ++ Builtin.zeroCells (Value.int .i64 0).cells (grownCap w (l.length + 1) c Ti - (l.length + 1))) Ti)
    have := hR.intNew' hn (cap := grownCap w (l.length + 1) c Ti) (l' := l.take i ++ x :: l.drop i) (by rw [hlen]; exact hg) ?_ hgm ?_ hin' hsm'
    · rw [hlen] at this; exact this
    · simp only [Array.toList_append, List.length_append, encL_len, zc_len, List.length_cons, List.length_nil]; omega
    · rw [hlen, hend hil]
      simp only [Array.toList_append]
      rw [List.take_append_of_le_length (by simp [encL_len])]
      exact List.take_of_length_le (by simp [encL_len])
  rcases hc with ⟨rfl, rfl⟩ | ⟨g, cap, cur, rfl, hg, hlc, hcm, hcs, ht, back⟩
  · exact grow none 0 rfl (by simpa using hi) (by simp) (by simp) (fun _ => rfl) (fun a h => by cases h)
  · have hne : b ≠ g := by
      obtain ⟨f1, f2, hA, hB, hd, _, _⟩ := hS0.apart2 (i := 0) (j := 1) rfl rfl (by decide)
      obtain ⟨_, _, _, hrow, _⟩ := hA
      exact fun e => hd g (hrow g rfl) (e ▸ hB.2)
    have hcells : ∀ j u, (encL l)[j]? = some u → w.cell? ⟨g, 0 + j, none⟩ = some u := fun j u hu => by
      rw [Nat.zero_add]
      refine cellL hg ?_
      rw [← ht, List.getElem?_take] at hu
      split at hu
      · exact hu
      · cases hu
    have hlc' : cur.toList.length = cap := by simpa using hcs
    have hcell : ∀ j, j < cap → (w.cell? ⟨g, 0 + j, none⟩).isSome = true := fun j hj => by
      rw [Nat.zero_add, cellL hg (List.getElem?_eq_getElem (by omega))]; rfl
    have hfz : ∀ j, w.frozen? ⟨g, j, none⟩ = false := fun j => by simp [World.frozen?, hg]
    by_cases hil : i = l.length
    · by_cases hroom : l.length + 1 ≤ cap
      · have h := Any2.slices_Insert_int_end_room L g 0 l.length cap b 0 1 1 [.int .i64 x] w (by omega) hroom (by unfold maxLen at hcm; omega) rfl (fun j hj => by rw [Nat.add_assoc]; exact hcell _ (by omega)) (fun j _ => hfz _) hvs h1v
        refine Calls.mono (by subst hil; exact h) ?_
        rintro e w' ⟨rfl, rfl⟩
        refine ⟨_, rfl, ?_⟩
        have hw := wr_setCells [.int .i64 x] (0 + l.length) w cur hg
        rw [Nat.zero_add, putL_eq _ _ _ (by simp only [List.length_cons, List.length_nil]; omega)] at hw
        rw [Nat.zero_add]
        refine back _ _ _ _ hw (by rw [hlen]) (by rw [hlen]; exact hroom) (by simp; omega) ?_ hin' hsm'
        rw [hlen, hend hil, ht, List.take_append_of_le_length (by simp [encL_len])]
        exact List.take_of_length_le (by simp [encL_len])
      · exact grow (some ⟨g, 0, none⟩) cap rfl hil (by omega) hlc (fun h => by cases h) (fun a ha j u hu => by cases ha; rw [addr_add]; exact hcells j u hu)
    · have hlt : i < l.length := by omega
      have ed : (encL l).drop i = encL (l.drop i) := by simp [encL, List.map_drop]
      have et : (encL l).take i = encL (l.take i) := by simp [encL, List.map_take]
      by_cases hroom : l.length + 1 ≤ cap
      · have h := Any2.slices_Insert_int_shift L g 0 l.length cap i b 0 1 1 (encL l) [.int .i64 x] w hlt (by omega) hroom (by unfold maxLen at hcm; omega) hne (encL_len l) rfl hcells (fun j hj => hcell j (by omega)) (fun j _ => by rw [Nat.zero_add]; exact hfz _) hvs (encL_one l) h1v
          Ti Ti 1 cap (by simp [World.shape?, hb]) (by simp [World.shape?, hg, hcs]) (by omega) (by simp [World.frozen?, hb]) (by simp [World.frozen?, hb])
        refine Calls.mono h ?_
        rintro e w' ⟨rfl, rfl⟩
        refine ⟨_, rfl, ?_⟩
        have h1 := Wr.drew hg
        obtain ⟨a1, e1, hg1⟩ := h1.at_
        have h2 := wr_setCells ((encL l).drop i) (0 + (i + 1)) w.drew a1 hg1
        rw [e1, Nat.zero_add, putL_eq _ _ _ (by simp only [List.length_drop, encL_len]; omega)] at h2
        obtain ⟨a2, e2, hg2⟩ := h2.at_
        have h3 := wr_setCells [.int .i64 x] (0 + i) _ a2 hg2
        rw [e2, Nat.zero_add, putL_eq _ _ _ (by simp only [List.length_append, List.length_take, List.length_drop, encL_len, List.length_cons, List.length_nil]; omega)] at h3
        rw [Nat.zero_add, Nat.zero_add]
        refine back _ _ _ _ ((h1.trans h2).trans h3) (by rw [hlen]) (by rw [hlen]; exact hroom) (by simp [encL_len]; omega) ?_ hin' hsm'
        rw [hlen, henc, ed]
        have k1 : (cur.toList.take (i + 1) ++ encL (l.drop i) ++ cur.toList.drop (i + 1 + (encL (l.drop i)).length)).take i = encL (l.take i) := by
          rw [List.append_assoc, List.take_append_of_le_length (by simp; omega), List.take_take, Nat.min_eq_left (by omega), ← et, ← ht, List.take_take, Nat.min_eq_left (by omega)]
        have k2 : (cur.toList.take (i + 1) ++ encL (l.drop i) ++ cur.toList.drop (i + 1 + (encL (l.drop i)).length)).drop (i + [Value.int .i64 x].length) = encL (l.drop i) ++ cur.toList.drop (i + 1 + (encL (l.drop i)).length) := by
          have hh : (cur.toList.take (i + 1)).length = i + 1 := by rw [List.length_take]; omega
          show (cur.toList.take (i + 1) ++ encL (l.drop i) ++ cur.toList.drop (i + 1 + (encL (l.drop i)).length)).drop (i + 1) = _
          rw [List.append_assoc]; exact List.drop_left' hh
        rw [k1, k2, ← List.append_assoc, List.take_append_of_le_length (by simp [encL_len]; omega)]
        exact List.take_of_length_le (by simp [encL_len]; omega)
      · have h := Any2.slices_Insert_int_grow L g 0 l.length cap i b 0 1 1 (encL l) [.int .i64 x] w hlt (by omega) hlc (by omega) hbig (encL_len l) rfl hcells hvs (encL_one l) h1v
        refine Calls.mono h ?_
        rintro e w' ⟨rfl, rfl⟩
        refine ⟨_, rfl, ?_⟩
        rw [hTi]
        have hg' := grownCap_ge w (l.length + 1) cap Ti
        have hgm := grownCap_le_maxLen w (l.length + 1) cap Ti hml
        obtain ⟨gc, hgc⟩ : ∃ gc, gc = grownCap w (l.length + 1) cap Ti := ⟨_, rfl⟩
        rw [← hgc] at hg' hgm ⊢
        have hn := new_alloc0 w (.cells (((encL l).take i).toArray ++ Builtin.zeroCells (Value.int .i64 0).cells (l.length + 1 - i) ++ Builtin.zeroCells (Value.int .i64 0).cells (gc - (l.length + 1))) Ti)
        have hlen0 : (((encL l).take i).toArray ++ Builtin.zeroCells (Value.int .i64 0).cells (l.length + 1 - i) ++ Builtin.zeroCells (Value.int .i64 0).cells (gc - (l.length + 1))).toList.length = gc := by
          simp only [Array.toList_append, List.length_append, zc_len, List.length_take, encL_len]; omega
        have htk0 : (((encL l).take i).toArray ++ Builtin.zeroCells (Value.int .i64 0).cells (l.length + 1 - i) ++ Builtin.zeroCells (Value.int .i64 0).cells (gc - (l.length + 1))).toList.take i = encL (l.take i) := by
          simp only [Array.toList_append]
          rw [List.append_assoc, List.take_append_of_le_length (by simp [encL_len]; omega), et]
          exact List.take_of_length_le (by simp [encL_len]; omega)
        obtain ⟨A0, hA0⟩ : ∃ A0, A0 = ((encL l).take i).toArray ++ Builtin.zeroCells (Value.int .i64 0).cells (l.length + 1 - i) ++ Builtin.zeroCells (Value.int .i64 0).cells (gc - (l.length + 1)) := ⟨_, rfl⟩
        rw [← hA0] at hn hlen0 htk0 ⊢
        have h1 := Wr.drew hn.at_
        obtain ⟨a1, e1, hg1⟩ := h1.at_
        have h2 := wr_setCells [.int .i64 x] i _ a1 hg1
        rw [e1, putL_eq _ _ _ (by simp only [List.length_cons, List.length_nil]; omega)] at h2
        obtain ⟨a2, e2, hg2⟩ := h2.at_
        have h3 := Wr.drew hg2
        obtain ⟨a3, e3, hg3⟩ := h3.at_
        have h4 := wr_setCells ((encL l).drop i) (i + 1) _ a3 hg3
        have hl2 : (A0.toList.take i ++ [Value.int .i64 x] ++ A0.toList.drop (i + [Value.int .i64 x].length)).length = gc := by
          simp only [List.length_append, List.length_take, List.length_drop, List.length_cons, List.length_nil]; omega
        rw [e3, e2, putL_eq _ _ _ (by rw [hl2]; simp only [List.length_drop, encL_len]; omega)] at h4
        have hpre : (A0.toList.take i ++ [Value.int .i64 x] ++ A0.toList.drop (i + [Value.int .i64 x].length)).take (i + 1) = A0.toList.take i ++ [Value.int .i64 x] := by
          have hh : (A0.toList.take i ++ [Value.int .i64 x]).length = i + 1 := by rw [List.length_append, List.length_take, List.length_cons, List.length_nil]; omega
          exact List.take_left' hh
        have := hR.intNew hn (((h1.trans h2).trans h3).trans h4) (cap := gc) (l' := l.take i ++ x :: l.drop i) (by rw [hlen]; exact hg') ?_ hgm ?_ hin' hsm'
        · rw [hlen] at this; exact this
        · simp only [List.length_append, List.length_take, List.length_drop, hl2, encL_len]; omega
        · rw [hlen, henc, hpre, htk0, ed, List.take_append_of_le_length (by simp [encL_len]; omega)]
          exact List.take_of_length_le (by simp [encL_len]; omega)
theorem putCells_list (d : List Int) (c : Array Value) (h : d.length ≤ c.size) : (putCells (Value.int .i64) 0 d.toArray c).toList = encL d ++ c.toList.drop d.length := by
  refine List.ext_getElem (by simp [putCells, encL]; omega) (fun j h1 h2 => ?_)
  have hj : j < c.size := by simpa [putCells] using h1
  by_cases hd : j < d.length
  · rw [List.getElem_append_left (by simpa [encL] using hd)]
    simp [putCells, encL, hd]
  · rw [List.getElem_append_right (by simp [encL]; omega)]
    simp [putCells, encL, hd, show d.length + (j - d.length) = j by omega]
theorem wr_putRow {b : Nat} {a : Array Value} {T : TypeId} (h : w.heap[b]? = some (.cells a T)) (d : List Int) (hd : d.length ≤ a.size) : Wr w (putRow (Value.int .i64) w b 0 d.toArray) b (encL d ++ a.toList.drop d.length) T := by
  refine ⟨⟨putCells (Value.int .i64) 0 d.toArray a, putCells_list d a hd, ?_⟩, fun i hi => ?_, by simp, rfl, rfl, rfl, Nat.le_refl _⟩
  · simp [putRow, mapBlock, Array.getElem?_modify, h, onCells]
  · simp only [putRow, mapBlock, Array.getElem?_modify]; rw [if_neg (fun e => hi e.symm)]
/-- slices.Delete(s, i, i + 1). -/
theorem del_row {P : Program} {ρ : Go.Shelf.Ren} (L : Go.Proofs.Lays2.n23 P ρ) {i : Nat} (hS : Sep G W (RowE (α := Int) own Ti v l :: Rs) w) (hi : i < l.length) :
    Ret P (ρ.f 23) [v, .int .i64 ((i : Nat) : Int), .int .i64 ((i + 1 : Nat) : Int)] w (fun r w' => Sep G W (RowE (α := Int) own Ti r (l.take i ++ l.drop (i + 1)) :: Rs) w') := by
  obtain ⟨hin, hsm, hc⟩ := hS.intRow
  rcases hc with ⟨rfl, rfl⟩ | ⟨g, cap, cur, rfl, hg, hlc, hcm, hcs, ht, back⟩
  · exact absurd hi (Nat.not_lt_zero i)
  · have hH : Holds (Value.int .i64) w g 0 l.toArray := by
      intro j hj
      have hj' : j < l.length := by simpa using hj
      refine ⟨?_, by simp [World.frozen?, hg]⟩
      rw [Nat.zero_add]
      refine cellL hg ?_
      have : (encL l)[j]? = some (.int .i64 l[j]) := by simp [encL, hj']
      rw [← ht, List.getElem?_take, if_pos hj'] at this
      rw [this]
      simp [hj']
    have h := Any.slices_Delete_int L g 0 cap i (i + 1) l w hH hlc (by unfold maxLen at hcm; omega) (by omega) hi
    refine Calls.mono h ?_
    rintro e w' ⟨rfl, q, rfl⟩
    refine ⟨_, rfl, ?_⟩
    have h1 := Wr.ahead (q := q) hg
    obtain ⟨a1, e1, hg1⟩ := h1.at_
    have ha1 : a1.size = cap := by have := congrArg List.length e1; simpa [hcs] using this
    have hdl : (l.take i ++ l.drop (i + 1) ++ List.replicate (i + 1 - i) 0).length = l.length := by simp; omega
    have h2 := wr_putRow hg1 (l.take i ++ l.drop (i + 1) ++ List.replicate (i + 1 - i) 0) (by rw [hdl]; omega)
    have hlen : (l.take i ++ l.drop (i + 1)).length = l.length - (i + 1 - i) := by simp; omega
    refine back _ _ _ _ (h1.trans h2) (by rw [hlen]) (by rw [hlen]; omega) ?_ ?_ (fun x hx => ?_) (by rw [hlen]; omega)
    · have ha2 : a1.toList.length = cap := by simpa using ha1
      rw [List.length_append, encL_len, hdl, List.length_drop, ha2]; omega
    · rw [hlen, encL_app, List.append_assoc, List.take_append_of_le_length (by rw [encL_len, hlen]; exact Nat.le_refl _)]
      exact List.take_of_length_le (by rw [encL_len, hlen]; exact Nat.le_refl _)
    · rcases List.mem_append.1 hx with h | h
      · exact hin x (List.mem_of_mem_take h)
      · exact hin x (List.mem_of_mem_drop h)
end
end Go.Proofs.YtlblilbmpdejgaaDoor
