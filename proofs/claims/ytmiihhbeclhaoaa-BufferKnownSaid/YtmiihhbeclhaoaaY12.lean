/- Texts of this claim, part 12. -/
import Derived.Test.YtmiihhbeclhaoaaY11
import Derived.Lib.AppendZerosOnto
import Derived.Lib.Overlaps
import Derived.ArgAppend
import Derived.Laws.CopyRow
import Derived.Laws.Externs
set_option linter.unusedSimpArgs false
set_option linter.unusedVariables false
set_option linter.unusedSectionVars false
section
/- Rows of structs without memory of their own, worked on as pieces: copied, cleared, grown, moved in place. -/
namespace Go.Proofs.Ytmiihhbeclhaoaa
open Go.RowKit

structure Wr (w w' : World) (b : Nat) (c' : List Value) (T : TypeId) : Prop where
  at_ : ∃ a : Array Value, a.toList = c' ∧ w'.heap[b]? = some (.cells a T)
  other : ∀ i, i ≠ b → w'.heap[i]? = w.heap[i]?
  size : w'.heap.size = w.heap.size
  os : w'.os = w.os
  tape : w'.tape = w.tape
  output : w'.output = w.output
  drawn : w.drawn ≤ w'.drawn
theorem Wr.trans {w1 w2 w3 : World} {b : Nat} {c c' : List Value} {T : TypeId} (h : Wr w1 w2 b c T) (k : Wr w2 w3 b c' T) : Wr w1 w3 b c' T :=
  ⟨k.at_, fun i hi => (k.other i hi).trans (h.other i hi), k.size.trans h.size, k.os.trans h.os, k.tape.trans h.tape, k.output.trans h.output, Nat.le_trans h.drawn k.drawn⟩
theorem Wr.chg {w w' : World} {b : Nat} {c : List Value} {T : TypeId} (h : Wr w w' b c T) {c0 : Array Value} (h0 : w.heap[b]? = some (.cells c0 T)) : Chg (fun i => i = b) w w' :=
  ⟨h.os, h.tape, h.output, Nat.le_of_eq h.size.symm, fun i _ hne => h.other i hne, fun i ⟨a, t, hi⟩ => by
    by_cases e : i = b
    · subst e; obtain ⟨z, _, hz⟩ := h.at_; exact ⟨z, T, hz⟩
    · exact ⟨a, t, by rw [h.other i e]; exact hi⟩, h.drawn⟩
theorem Vp {w : World} {b o : Nat} {a : Array Value} {T : TypeId} (h : w.heap[b]? = some (.cells a T)) (v : Value) : Wr w (w.setCell ⟨b, o, none⟩ v) b (a.toList.set o v) T := by
  refine ⟨⟨a.setIfInBounds o v, by simp, ?_⟩, fun i hi => ?_, by simp [World.setCell], rfl, rfl, rfl, Nat.le_refl _⟩
  · simp [World.setCell, Array.getElem?_modify, h]
  · simp only [World.setCell, Array.getElem?_modify]; rw [if_neg (fun e => hi e.symm)]
def Qu (c : List Value) (o : Nat) : List Value → List Value
  | [] => c
  | v :: vs => Qu (c.set o v) (o + 1) vs
theorem Yq {b : Nat} {T : TypeId} : ∀ (vs : List Value) (o : Nat) (w : World) (a : Array Value), w.heap[b]? = some (.cells a T) → Wr w (w.setCells b o vs) b (Qu a.toList o vs) T
  | [], _, w, a, h => ⟨⟨a, rfl, h⟩, fun _ _ => rfl, rfl, rfl, rfl, rfl, Nat.le_refl _⟩
  | v :: vs, o, w, a, h => by
    have h1 := Vp (o := o) h v
    obtain ⟨a1, e1, h2⟩ := h1.at_
    have h3 := Yq vs (o + 1) _ a1 h2
    rw [e1] at h3
    exact h1.trans h3
theorem Uf : ∀ (vs : List Value) (o : Nat) (c : List Value), o + vs.length ≤ c.length → Qu c o vs = c.take o ++ vs ++ c.drop (o + vs.length)
  | [], o, c, _ => by simp [Qu]
  | v :: vs, o, c, h => by
    simp only [List.length_cons] at h
    rw [Qu, Uf vs (o + 1) (c.set o v) (by simp; omega)]
    have e1 : (c.set o v).take (o + 1) = c.take o ++ [v] := by
      rw [List.take_set, List.take_succ_eq_append_getElem (by omega), List.set_append_right _ _ (by simp; omega), List.length_take, Nat.min_eq_left (by omega), Nat.sub_self]; rfl
    have e2 : (c.set o v).drop (o + 1 + vs.length) = c.drop (o + 1 + vs.length) := by rw [List.drop_set_of_lt (by omega)]
    rw [e1, e2, List.length_cons, show o + 1 + vs.length = o + (vs.length + 1) by omega]
    simp only [List.append_assoc, List.cons_append, List.nil_append]

def Ck (k : Nat) (CS : List (List Value)) : Prop := ∀ c ∈ CS, c.length = k
def One (CS : List (List Value)) : Prop := ∀ u ∈ CS.flatten, u.oneCell' = true
section
variable {k n : Nat} {A B CS : List (List Value)} {c : List Value}
theorem Ck.nil : Ck k [] := fun _ h => by simp at h
theorem Ck.len : ∀ {CS : List (List Value)}, Ck k CS → CS.flatten.length = CS.length * k
  | [], _ => by simp
  | c :: CS, h => by
    have h1 := h c (List.mem_cons_self ..)
    have h2 := Ck.len (CS := CS) (fun c hc => h c (List.mem_cons_of_mem _ hc))
    simp only [List.flatten_cons, List.length_append, List.length_cons, h1, h2]; rw [Nat.add_mul]; omega
theorem Ck.take (h : Ck k CS) : Ck k (CS.take n) := fun c hc => h c (List.mem_of_mem_take hc)
theorem Ck.drop (h : Ck k CS) : Ck k (CS.drop n) := fun c hc => h c (List.mem_of_mem_drop hc)
theorem Ck.append (h : Ck k A) (h2 : Ck k B) : Ck k (A ++ B) := fun c hc => (List.mem_append.1 hc).elim (h c) (h2 c)
theorem Ck.rep (h : Ck k [c]) : Ck k (List.replicate n c) := fun x hx => by rw [List.eq_of_mem_replicate hx]; exact h c (List.mem_cons_self ..)
theorem Ck.ftake : ∀ {CS : List (List Value)} {n : Nat}, Ck k CS → (CS.take n).flatten = CS.flatten.take (n * k)
  | [], _, _ => by simp
  | c :: CS, 0, _ => by simp
  | c :: CS, n + 1, h => by
    have h1 := h c (List.mem_cons_self ..)
    have h2 := Ck.ftake (CS := CS) (n := n) (fun c hc => h c (List.mem_cons_of_mem _ hc))
    simp only [List.take_succ_cons, List.flatten_cons, h2]
    rw [show (n + 1) * k = c.length + n * k by rw [Nat.add_mul, h1]; omega, List.take_length_add_append]
theorem Ck.fdrop : ∀ {CS : List (List Value)} {n : Nat}, Ck k CS → (CS.drop n).flatten = CS.flatten.drop (n * k)
  | [], _, _ => by simp
  | c :: CS, 0, _ => by simp
  | c :: CS, n + 1, h => by
    have h1 := h c (List.mem_cons_self ..)
    have h2 := Ck.fdrop (CS := CS) (n := n) (fun c hc => h c (List.mem_cons_of_mem _ hc))
    simp only [List.drop_succ_cons, List.flatten_cons, h2]
    rw [show (n + 1) * k = c.length + n * k by rw [Nat.add_mul, h1]; omega, List.drop_length_add_append]
def spl {α : Type} (l : List α) (o : Nat) (S : List α) : List α := l.take o ++ S ++ l.drop (o + S.length)
theorem yL {α : Type} {l S : List α} {o : Nat} (h : o + S.length ≤ l.length) : (spl l o S).length = l.length := by unfold spl; simp; omega
theorem Ck.spl {o : Nat} (h : Ck k CS) (h2 : Ck k A) : Ck k (spl CS o A) := (h.take.append h2).append h.drop
theorem Ck.fspl {o : Nat} (h : Ck k CS) (h2 : Ck k A) : (Go.Proofs.Ytmiihhbeclhaoaa.spl CS o A).flatten = Go.Proofs.Ytmiihhbeclhaoaa.spl CS.flatten (o * k) A.flatten := by
  unfold Go.Proofs.Ytmiihhbeclhaoaa.spl
  rw [List.flatten_append, List.flatten_append, h.ftake, h.fdrop, h2.len, Nat.add_mul]
end

def CkB (g : Nat) (CS : List (List Value)) (T : TypeId) : HP := ⟨fun w f => ∃ a : Array Value, a.toList = CS.flatten ∧ w.heap[g]? = some (.cells a T) ∧ f g, fun ⟨a, h0, h1, h2⟩ hf => ⟨a, h0, ((hf g h2 (yK h1)).1).trans h1, (hf g h2 (yK h1)).2⟩⟩
section
variable {G : Nat → Prop} {W w w' : World} {As : List HP} {g k : Nat} {CS S : List (List Value)} {T : TypeId}
theorem Sep.ckb (h : Sep G W As w) {i : Nat} (hi : As[i]? = some (CkB g CS T)) : ∃ a : Array Value, a.toList = CS.flatten ∧ w.heap[g]? = some (.cells a T) := by
  obtain ⟨f, ⟨a, h1, h2, _⟩, _⟩ := h.get hi; exact ⟨a, h1, h2⟩
theorem Sep.ckAt (h : Sep G W As w) {i : Nat} (hi : As[i]? = some (CkB g CS T)) {j : Nat} {u : Value} (hj : CS.flatten[j]? = some u) : w.cell? ⟨g, j, none⟩ = some u := by
  obtain ⟨a, h1, h2⟩ := h.ckb hi
  exact xm h2 (by rw [← Array.getElem?_toList, h1]; exact hj)
theorem Sep.ckPut (h : Sep G W (CkB g CS T :: As) w) (hCS : Ck k CS) (hS : Ck k S) {o : Nat} (ho : o + S.length ≤ CS.length) : Sep G W (CkB g (spl CS o S) T :: As) (w.setCells g (o * k) S.flatten) := by
  obtain ⟨a, h1, h2⟩ := h.ckb (i := 0) rfl
  have hw := Yq S.flatten (o * k) w a h2
  have hle : o * k + S.flatten.length ≤ a.toList.length := by
    rw [h1, hCS.len, hS.len, ← Nat.add_mul]
    exact Nat.mul_le_mul_right _ ho
  rw [Uf _ _ _ hle, h1] at hw
  obtain ⟨a', e1, e2⟩ := hw.at_
  have e3 : a'.toList = (spl CS o S).flatten := by rw [hCS.fspl hS]; exact e1
  exact h.upd (i := 0) rfl (fun f hA hl => ⟨(hw.chg h2).weak (fun b _ hb => by subst hb; exact hA.choose_spec.2.2), f, ⟨a', e3, e2, hA.choose_spec.2.2⟩, fun _ hb => .inl hb⟩)
end

section
variable {P : Program} {d : Option Tmp} {ty : TypeId} {pos : String} {af : Array Edge} {gd : Option (Nat × Bool)} {σ : Env} {w : World} {K : Value → World → Prop} {G : Nat → Prop} {W : World} {As : List HP} {g k : Nat} {CS S : List (List Value)} {T : TypeId}
theorem frz {w : World} {b o : Nat} {a : Array Value} {T : TypeId} (h : w.heap[b]? = some (.cells a T)) : w.frozen? ⟨b, o, none⟩ = false := by simp [World.frozen?, h]
theorem Zr (h : Sep G W (CkB g CS T :: As) w) {j : Nat} (hj : j < CS.flatten.length) : (w.cell? ⟨g, j, none⟩).isSome = true := by
  rw [h.ckAt (i := 0) rfl (List.getElem?_eq_getElem hj)]; rfl
theorem ZD {t e : TypeId} {x y : Operand} {o g2 o2 dn dc sn sc : Nat} (hU : P.underlying t = some (.slice e)) (hz : (P.info? e).map (·.size) = some k) (h : Sep G W (CkB g CS T :: As) w) (hCS : Ck k CS) (hS : Ck k S) (hS1 : One S)
    (hx : ev σ x = .slice (some ⟨g, o * k, none⟩) dn dc) (hy : ev σ y = .slice (some ⟨g2, o2, none⟩) sn sc) (hsrc : ∀ j u, S.flatten[j]? = some u → w.cell? ⟨g2, o2 + j, none⟩ = some u) (hn : S.length = Nat.min sn dn) (ho : o + S.length ≤ CS.length)
    (hK : ∀ w', Sep G W (CkB g (spl CS o S) T :: As) w' → K (.int .i64 (S.length : Nat)) w') : opV P ⟨d, .call ⟨.builtin .copy, #[x, y], #[t, t]⟩, ty, pos, af, gd⟩ σ w K := by
  obtain ⟨a, h1, h2⟩ := h.ckb (i := 0) rfl
  have hlen := hS.len
  have hle : o * k + S.flatten.length ≤ CS.flatten.length := by
    rw [hlen, hCS.len, ← Nat.add_mul]
    exact Nat.mul_le_mul_right _ ho
  have hfc := run_firstCells_some (P := P) w k (Nat.min sn dn) ⟨g2, o2, none⟩ sn sc S.flatten (by rw [hlen, hn]) (fun j v hj => by rw [Addr.add_lit]; exact hsrc j v hj)
  have hst := run_storeCells_cells (P := P) g (o * k) S.flatten 0 w (fun j hj => by rw [Nat.add_zero]; exact Zr h (by omega)) (fun j _ => frz h2) hS1
  simp only [Nat.add_zero] at hst
  rw [← hn] at hfc
  have hr : (Builtin.copy_ #[t, t] ty #[.slice (some ⟨g, o * k, none⟩) dn dc, .slice (some ⟨g2, o2, none⟩) sn sc]).run P w = .ok (goInt S.length) (w.setCells g (o * k) S.flatten) := by
    cases hq : P.info? e with
    | none => simp [hq] at hz
    | some i =>
      have hi : i.size = k := by simpa [hq] using hz
      simp [Builtin.copy_, run_underlying hU, Builtin.lenOf, sizeOf, typeInfo, hq, hi, hfc, hst, ← hn]
  refine zN (v := .int .i64 (S.length : Nat)) (w' := w.setCells g (o * k) S.flatten) ?_ (hK _ (h.ckPut hCS hS ho))
  unfold execOp
  simp only [resolve, invoke, builtin, Sem.run_bind, Sem.run_pure, Result.andThen_ok, List.map_toArray, List.map_cons, List.map_nil, hx, hy, hr]
  rfl
theorem Vk {t e : TypeId} {x y : Operand} {g2 o2 n c m sc bytes : Nat} (E : Elem P t e k bytes) (h : Sep G W (CkB g CS T :: As) w) (hCS : Ck k CS) (hS : Ck k S) (hS1 : One S)
    (hx : ev σ x = .slice (some ⟨g, 0, none⟩) n c) (hy : ev σ y = .slice (some ⟨g2, o2, none⟩) m sc) (hsrc : ∀ j u, S.flatten[j]? = some u → w.cell? ⟨g2, o2 + j, none⟩ = some u) (hm : S.length = m) (hroom : n + m ≤ c) (ho : n + S.length ≤ CS.length)
    (hK : ∀ w', Sep G W (CkB g (spl CS n S) T :: As) w' → K (.slice (some ⟨g, 0, none⟩) (n + m) c) w') : opV P ⟨d, .call ⟨.builtin .append, #[x, y], #[t, t]⟩, ty, pos, af, gd⟩ σ w K := by
  obtain ⟨i, z, hi, hz, hsize, hby, hzs⟩ := E.info
  obtain ⟨a, h1, h2⟩ := h.ckb (i := 0) rfl
  have hlen := hS.len
  have hle : n * k + S.flatten.length ≤ CS.flatten.length := by
    rw [hlen, hCS.len, ← Nat.add_mul]
    exact Nat.mul_le_mul_right _ ho
  have hr := run_append_room_cells (P := P) w t ty e i E.und hi g 0 n c ⟨g2, o2, none⟩ m sc S.flatten (by rw [hlen, hm, hsize]) (fun j v hj => by rw [Addr.add_lit]; exact hsrc j v hj) hS1 hroom
    (fun j hj => by rw [hsize, Nat.zero_add]; exact Zr h (by omega)) (fun j _ => frz h2)
  rw [hsize, Nat.zero_add] at hr
  exact zN (xA hx hy hr) (hK _ (h.ckPut hCS hS ho))
theorem XP (z : Array Value) (hz : 0 < z.size) (n : Nat) : (Builtin.zeroCells z n).toList = (List.replicate n z.toList).flatten := by
  refine List.ext_getElem? fun j => ?_
  have hl : (Builtin.zeroCells z n).toList.length = n * z.size := by simp [Builtin.zeroCells]
  by_cases hj : j < n * z.size
  · rw [YZ z.toList (by simpa using hz) n j (by simpa using hj), List.getElem?_eq_getElem (by rw [hl]; exact hj)]
    have hm : j % z.size < z.size := Nat.mod_lt _ hz
    simp [Builtin.zeroCells, hm]
  · rw [List.getElem?_eq_none (by rw [hl]; omega), List.getElem?_eq_none (by simp [List.length_flatten, List.map_replicate]; omega)]
theorem VA (w : World) (o : Obj) : New w (w.drew.alloc o) w.heap.size o :=
  have h : New w.drew (w.drew.alloc o) w.heap.size o := New.mk' w.drew o
  ⟨Chg.trans (WQ (w0 := w.drew) rfl rfl rfl ⟨rfl, Nat.le_succ _⟩) h.ext, h.eq, h.size, h.at_⟩

set_option maxHeartbeats 1000000 in
theorem Vq {t tn e : TypeId} {x y : Operand} {n c m bytes : Nat} {z : List Value} (E : Elem P t e k bytes) (hzv : ∃ i, P.info? e = some i ∧ ∃ v, i.zero = some v ∧ v.cells.toList = z) (hk : 0 < k) (hcz : Ck k [z]) (htn : P.underlying tn = some (.int .i64))
    (h : Sep G W (CkB g CS T :: As) w) (hCS : Ck k CS) (hx : ev σ x = .slice (some ⟨g, 0, none⟩) n c) (hy : ev σ y = .int .i64 (m : Nat)) (hn : n ≤ CS.length) (hm : 0 < m) (hg : c < n + m) (hbig : (n + m) * bytes ≤ 140737488355328) (hb0 : 0 < bytes)
    (hK : ∀ g' c' w', n + m ≤ c' → c' ≤ maxLen → Sep G W (CkB g' (CS.take n ++ List.replicate (c' - n) z) e :: CkB g CS T :: As) w' → K (.slice (some ⟨g', 0, none⟩) (n + m) c') w') : opV P ⟨d, .call ⟨.builtin .append, #[x, y], #[t, tn]⟩, ty, pos, af, gd⟩ σ w K := by
  obtain ⟨i, zv, hi, hz, hsize, hby, hzs⟩ := E.info
  obtain ⟨i', hi', v', hv', hzl⟩ := hzv
  rw [hi] at hi'
  cases hi'
  rw [hz] at hv'
  cases hv'
  have hnm : n + m ≤ 140737488355328 := Nat.le_trans (Nat.le_mul_of_pos_right _ hb0) hbig
  have hold : (Builtin.firstCells i.size n (.slice (some ⟨g, 0, none⟩) n c)).run P w.drew = .ok (CS.take n).flatten.toArray w.drew := by
    refine run_firstCells_some (P := P) w.drew i.size n ⟨g, 0, none⟩ n c (CS.take n).flatten ?_ (fun j v hj => ?_)
    · rw [hCS.take.len, hsize, List.length_take, Nat.min_eq_left hn]
    · rw [Addr.add_lit, Nat.zero_add]
      have : CS.flatten[j]? = some v := by
        rw [hCS.ftake, List.getElem?_take] at hj
        split at hj
        · exact hj
        · cases hj
      exact h.ckAt (i := 0) rfl this
  have hr := Lib.run_append_grow_zeros (P := P) w t tn ty e i zv .i64 .i64 E.und htn hi hz (some ⟨g, 0, none⟩) n c (CS.take n).flatten hold m hm (by omega) hg (by omega) (by rw [hby]; have : m * bytes ≤ (n + m) * bytes := Nat.mul_le_mul_right _ (by omega); omega) (by rw [hby]; exact growslice_fits hg hbig)
  have hge := grownCap_ge w (n + m) c e
  have hle := grownCap_le_maxLen w (n + m) c e (by unfold maxLen; omega)
  obtain ⟨q, hq⟩ : ∃ q, q = grownCap w (n + m) c e := ⟨_, rfl⟩
  rw [← hq] at hr hge hle
  have hex : (execOp (ev σ) ⟨d, .call ⟨.builtin .append, #[x, y], #[t, tn]⟩, ty, pos, af, gd⟩).run P w = .ok (.value (.slice (some ⟨w.heap.size, 0, none⟩) (n + m) q)) (w.drew.alloc (.cells ((CS.take n).flatten.toArray ++ Builtin.zeroCells zv.cells m ++ Builtin.zeroCells zv.cells (q - (n + m))) e)) := by
    unfold execOp
    simp only [resolve, invoke, builtin, Sem.run_bind, Sem.run_pure, Result.andThen_ok, List.map_toArray, List.map_cons, List.map_nil, hx, hy, hr]
  have hnew := VA w (.cells ((CS.take n).flatten.toArray ++ Builtin.zeroCells zv.cells m ++ Builtin.zeroCells zv.cells (q - (n + m))) e)
  refine zN hex (hK _ q _ hge hle ?_)
  refine h.push hnew.ext (f := fun i => i = w.heap.size) ⟨_, ?_, heap_alloc_new w.drew _, rfl⟩ (fun i hi => by omega)
  have hz0 : 0 < zv.cells.size := by omega
  rw [Array.toList_append, Array.toList_append, XP _ hz0, XP _ hz0, hzl, List.flatten_append]
  simp only [List.append_assoc, ← List.flatten_append, List.replicate_append_replicate]
  rw [show m + (q - (n + m)) = q - n by omega]
theorem XA {t e : TypeId} {x : Operand} {o n c : Nat} {z : Value} (hU : P.underlying t = some (.slice e)) (hv : ∀ w, (zeroValue e).run P w = .ok z w) (hcz : Ck k [z.cells.toList]) (hz1 : ∀ u ∈ z.cells.toList, u.oneCell' = true) (hk : 0 < k) (h : Sep G W (CkB g CS T :: As) w) (hCS : Ck k CS)
    (hx : ev σ x = .slice (some ⟨g, o * k, none⟩) n c) (ho : o + n ≤ CS.length)
    (hK : ∀ w', Sep G W (CkB g (spl CS o (List.replicate n z.cells.toList)) T :: As) w' → K (.tuple #[]) w') : opV P ⟨d, .call ⟨.builtin .clear, #[x], #[t]⟩, ty, pos, af, gd⟩ σ w K := by
  obtain ⟨a, h1, h2⟩ := h.ckb (i := 0) rfl
  have hz0 : 0 < z.cells.size := by have := hcz _ (List.mem_cons_self ..); rw [Array.length_toList] at this; omega
  have hS : Ck k (List.replicate n z.cells.toList) := hcz.rep
  have hS1 : One (List.replicate n z.cells.toList) := fun u hu => by
    obtain ⟨c, hc, huc⟩ := List.mem_flatten.1 hu
    rw [List.eq_of_mem_replicate hc] at huc
    exact hz1 u huc
  have hlen := hS.len
  rw [List.length_replicate] at hlen
  have hle : o * k + (List.replicate n z.cells.toList).flatten.length ≤ CS.flatten.length := by
    rw [hlen, hCS.len, ← Nat.add_mul]
    exact Nat.mul_le_mul_right _ ho
  have hst := run_storeCells_cells (P := P) g (o * k) (List.replicate n z.cells.toList).flatten 0 w (fun j hj => by rw [Nat.add_zero]; exact Zr h (by omega)) (fun j _ => frz h2) hS1
  simp only [Nat.add_zero] at hst
  have hr : (Builtin.clear_ #[t] ty #[.slice (some ⟨g, o * k, none⟩) n c]).run P w = .ok (.tuple #[]) (w.setCells g (o * k) (List.replicate n z.cells.toList).flatten) := by
    cases n with
    | zero => simp [Builtin.clear_, run_underlying hU, World.setCells]
    | succ n => simp [Builtin.clear_, run_underlying hU, hv, XP _ hz0, hst]
  refine zN (v := .tuple #[]) (w' := w.setCells g (o * k) (List.replicate n z.cells.toList).flatten) ?_ (hK _ (h.ckPut hCS hS (by rw [List.length_replicate]; exact ho)))
  unfold execOp
  simp only [resolve, invoke, builtin, Sem.run_bind, Sem.run_pure, Result.andThen_ok, List.map_toArray, List.map_cons, List.map_nil, hx, hr]
theorem JG {t e : TypeId} {x : Operand} {a : Option Addr} {n c : Nat} (hU : P.underlying t = some (.slice e)) (hx : ev σ x = .slice a n c) (h : K (.int .i64 (c : Nat)) w) : opV P ⟨d, .call ⟨.builtin .cap, #[x], #[t]⟩, ty, pos, af, gd⟩ σ w K := by
  refine zN (v := .int .i64 (c : Nat)) (w' := w) ?_ h
  unfold execOp
  simp [resolve, invoke, builtin, hx, Builtin.cap_, run_underlying hU, go_sem]
theorem UV {t e : TypeId} {x : Operand} {lo hi : Option Operand} {o n c i j : Nat} (hU : P.underlying t = some (.slice e)) (hS : ∀ w, (sizeOf e).run P w = .ok k w) (hx : ev σ x = .slice (some ⟨g, o * k, none⟩) n c)
    (hlo : match lo with | some y => ev σ y = .int .i64 (i : Nat) | none => i = 0) (hhi : match hi with | some y => ev σ y = .int .i64 (j : Nat) | none => j = n) (hij : i ≤ j) (hjc : j ≤ c) (hic : i < c)
    (h : K (.slice (some ⟨g, (o + i) * k, none⟩) (j - i) (c - i)) w) : opV P ⟨d, .slice t x lo hi none, ty, pos, af, gd⟩ σ w K := by
  refine zN (v := .slice (some ⟨g, (o + i) * k, none⟩) (j - i) (c - i)) (w' := w) ?_ h
  have hb : ¬ c < j := by omega
  have hb2 : ¬ j < i := by omega
  have hne : ¬ c = i := by omega
  have he : o * k + i * k = (o + i) * k := (Nat.add_mul ..).symm
  cases lo <;> cases hi <;> simp only at hlo hhi <;> (try subst hlo) <;> (try subst hhi) <;> simp [execOp, *, Instr.sliceAt, Instr.slice, Instr.sliceBounds, run_underlying hU, hS, go_sem, Addr.add_lit] <;> omega
theorem yu {t e : TypeId} {x : Operand} {lo hi : Option Operand} {n c i j : Nat} (hU : P.underlying t = some (.slice e)) (hS : ∀ w, (sizeOf e).run P w = .ok k w) (hx : ev σ x = .slice (some ⟨g, 0, none⟩) n c)
    (hlo : match lo with | some y => ev σ y = .int .i64 (i : Nat) | none => i = 0) (hhi : match hi with | some y => ev σ y = .int .i64 (j : Nat) | none => j = n) (hij : i ≤ j) (hjc : j ≤ c) (hic : i < c)
    (h : K (.slice (some ⟨g, i * k, none⟩) (j - i) (c - i)) w) : opV P ⟨d, .slice t x lo hi none, ty, pos, af, gd⟩ σ w K := by
  refine UV (o := 0) hU hS (by rw [hx, Nat.zero_mul]) hlo hhi hij hjc hic ?_
  rw [Nat.zero_add]; exact h
end
theorem Xw {k : Nat} : ∀ (n : Nat) (l : List Value), l.length = n * k → ∃ CS : List (List Value), CS.length = n ∧ CS.flatten = l ∧ Ck k CS
  | 0, l, h => by
    have h0 : l.length = 0 := by rw [h]; omega
    have h1 := List.length_eq_zero_iff.1 h0
    exact ⟨[], rfl, h1.symm, Ck.nil⟩
  | n + 1, l, h => by
    obtain ⟨CS, h1, h2, h3⟩ := Xw (k := k) n (l.drop k) (by rw [List.length_drop, h, Nat.add_mul]; omega)
    refine ⟨l.take k :: CS, by simp [h1], by rw [List.flatten_cons, h2, List.take_append_drop], fun c hc => ?_⟩
    rcases List.mem_cons.1 hc with rfl | hc
    · rw [List.length_take, h, Nat.add_mul, Nat.one_mul]; exact Nat.min_eq_left (Nat.le_add_left _ _)
    · exact h3 c hc
theorem Yp {k : Nat} (hk : 0 < k) : ∀ {A B : List (List Value)}, Ck k A → Ck k B → A.flatten = B.flatten → A = B
  | [], [], _, _, _ => rfl
  | [], b :: B, _, hB, h => by
    have h1 := hB b (List.mem_cons_self ..)
    have := congrArg List.length h
    simp only [List.flatten_nil, List.length_nil, List.flatten_cons, List.length_append] at this
    omega
  | a :: A, [], hA, _, h => by
    have h1 := hA a (List.mem_cons_self ..)
    have := congrArg List.length h
    simp only [List.flatten_nil, List.length_nil, List.flatten_cons, List.length_append] at this
    omega
  | a :: A, b :: B, hA, hB, h => by
    have h1 := hA a (List.mem_cons_self ..)
    have h2 := hB b (List.mem_cons_self ..)
    simp only [List.flatten_cons] at h
    obtain ⟨e1, e2⟩ := List.append_inj h (by rw [h1, h2])
    rw [e1, Yp hk (fun c hc => hA c (List.mem_cons_of_mem _ hc)) (fun c hc => hB c (List.mem_cons_of_mem _ hc)) e2]

section
variable {G : Nat → Prop} {W w : World} {As : List HP} {g k i n o m : Nat} {CS : List (List Value)} {T : TypeId}
theorem VK (h : Sep G W As w) {q : Nat} (hi : As[q]? = some (CkB g CS T)) (hCS : Ck k CS) : ∀ j u, ((CS.drop o).take m).flatten[j]? = some u → w.cell? ⟨g, o * k + j, none⟩ = some u := fun j u hj => by
  rw [hCS.drop.ftake, hCS.fdrop, List.getElem?_take] at hj
  split at hj
  · rw [List.getElem?_drop] at hj
    exact h.ckAt hi hj
  · cases hj
theorem VW {b : Nat} {c : Array Value} (h : w.heap[b]? = some (.cells c T)) : ∀ j u, ([c.toList] : List (List Value)).flatten[j]? = some u → w.cell? ⟨b, 0 + j, none⟩ = some u := fun j u hj => by
  rw [Nat.zero_add]
  simp only [List.flatten_cons, List.flatten_nil, List.append_nil] at hj
  exact xm h (by simpa using hj)
theorem Wj (h : One (CS.take n)) : One ((CS.drop i).take (n - i)) := fun u hu => h u (by
  obtain ⟨c, hc, huc⟩ := List.mem_flatten.1 hu
  rw [← List.drop_take] at hc
  exact List.mem_flatten.2 ⟨c, List.mem_of_mem_drop hc, huc⟩)
theorem ZP {α : Type} {l S : List α} {o : Nat} (h : o + S.length ≤ l.length) : (spl l o S).take (o + S.length) = l.take o ++ S := by
  unfold spl
  rw [List.take_append_of_le_length (by simp; omega), List.take_of_length_le (by simp; omega)]
theorem VO {α : Type} {l S : List α} {o q : Nat} (h : q ≤ o) (ho : o ≤ l.length) : (spl l o S).take q = l.take q := by
  unfold spl
  rw [List.append_assoc, List.take_append_of_le_length (by simp; omega), List.take_take, Nat.min_eq_left h]
theorem Kd {α : Type} {l : List α} {x : α} {i n : Nat} (hi : i ≤ n) (hn : n < l.length) : (spl (spl l (i + 1) ((l.drop i).take (n - i))) i [x]).take (n + 1) = l.take i ++ [x] ++ (l.drop i).take (n - i) := by
  have hS : ((l.drop i).take (n - i)).length = n - i := by rw [List.length_take, List.length_drop]; omega
  have h1 : spl (spl l (i + 1) ((l.drop i).take (n - i))) i [x] = l.take i ++ [x] ++ ((l.drop i).take (n - i) ++ l.drop (n + 1)) := by
    have e1 : spl l (i + 1) ((l.drop i).take (n - i)) = l.take (i + 1) ++ ((l.drop i).take (n - i) ++ l.drop (n + 1)) := by
      show l.take (i + 1) ++ (l.drop i).take (n - i) ++ l.drop (i + 1 + ((l.drop i).take (n - i)).length) = _
      rw [hS, List.append_assoc, show i + 1 + (n - i) = n + 1 by omega]
    rw [e1]
    show List.take i _ ++ [x] ++ List.drop (i + 1) _ = _
    rw [List.take_append_of_le_length (by rw [List.length_take]; omega), List.take_take, Nat.min_eq_left (Nat.le_succ i), List.drop_left' (by rw [List.length_take]; omega)]
  rw [h1, ← List.append_assoc, List.take_append_of_le_length (by simp; omega), List.take_of_length_le (by simp; omega)]
theorem KW {α : Type} {l : List α} {x z : α} {i n q : Nat} (hi : i ≤ n) (hn : n ≤ l.length) (hq : n + 1 ≤ q) : (spl (spl (l.take i ++ List.replicate (q - i) z) i [x]) (i + 1) ((l.drop i).take (n - i))).take (n + 1) = l.take i ++ [x] ++ (l.drop i).take (n - i) := by
  have hS : ((l.drop i).take (n - i)).length = n - i := by rw [List.length_take, List.length_drop]; omega
  have hl : (l.take i ++ List.replicate (q - i) z).length = q := by rw [List.length_append, List.length_take, List.length_replicate]; omega
  have h1 : (spl (spl (l.take i ++ List.replicate (q - i) z) i [x]) (i + 1) ((l.drop i).take (n - i))).take (i + 1 + ((l.drop i).take (n - i)).length) = (spl (l.take i ++ List.replicate (q - i) z) i [x]).take (i + 1) ++ (l.drop i).take (n - i) := ZP (by rw [yL (by rw [hl]; simp; omega), hl, hS]; omega)
  have h2 : (spl (l.take i ++ List.replicate (q - i) z) i [x]).take (i + [x].length) = (l.take i ++ List.replicate (q - i) z).take i ++ [x] := ZP (by rw [hl]; simp; omega)
  rw [hS, show i + 1 + (n - i) = n + 1 by omega] at h1
  rw [h1]
  have h3 : i + [x].length = i + 1 := rfl
  rw [h3] at h2
  rw [h2, List.take_append_of_le_length (by rw [List.length_take]; omega), List.take_take, Nat.min_self]
end

theorem WB {P : Program} {d : Option Tmp} {ty : TypeId} {pos : String} {af : Array Edge} {gd : Option (Nat × Bool)} {σ : Env} {w : World} {K : Value → World → Prop} {G : Nat → Prop} {W : World} {As : List HP} {g k b o n c : Nat} {CS : List (List Value)} {T Tb : TypeId} {cb : Array Value} {f : FuncId} {fn : Func} {t tR e : TypeId} {fx x y : Operand} {ts : Array TypeId}
    (hf : P.funcs[f]? = some fn) (hname : (fn.name == "runtime.NumGoroutine") = false) (hb : fn.body.isNone = true) (hn : Extern.findNext fn = none) (he : Extern.find fn = some (Extern.SlicesOverlaps.overlaps #[t, t] #[tR])) (hU : P.underlying t = some (.slice e)) (hz : ∀ w, (Go.sizeOf e).run P w = .ok k w)
    (h : Sep G W (CkB g CS T :: Blk b cb Tb :: As) w) (hCS : Ck k CS) (h0 : 0 < CS.length) (hk : 0 < k) (hfn : ev σ fx = .func (.func f) #[] #[]) (hx : ev σ x = .slice (some ⟨b, 0, none⟩) 1 1) (hy : ev σ y = .slice (some ⟨g, o * k, none⟩) n c) (hK : K (.bool false) w) :
    opV P ⟨d, .call ⟨.value fx, #[x, y], ts⟩, ty, pos, af, gd⟩ σ w K := by
  obtain ⟨a, h1, h2⟩ := h.ckb (i := 0) rfl
  have h3 := h.blk (i := 1) rfl
  have hne : b ≠ g := fun hbg => by
    obtain ⟨f1, f2, q1, q2, q3, _⟩ := h.apart2 (i := 0) (j := 1) rfl rfl (by decide)
    exact q3 g q1.choose_spec.2.2 (hbg ▸ q2.2)
  have ha : a.size ≠ 0 := by
    rw [← Array.length_toList, h1, hCS.len]
    exact Nat.mul_ne_zero (by omega) (by omega)
  have hr : (callFunc f #[.slice (some ⟨b, 0, none⟩) 1 1, .slice (some ⟨g, o * k, none⟩) n c]).run P w = .ok (.value (.bool false)) w := by
    rw [run_callFunc_extern hf hname hb hn he,
      Lib.run_overlaps_apart w t tR e hU k hz ⟨b, 0, none⟩ ⟨g, o * k, none⟩ 1 1 n c hne Tb T cb.size a.size (by simp [World.shape?, h3]) (by simp [World.shape?, h2]) ha (frz h3) (frz h3)]
    rfl
  refine zN (v := .bool false) (w' := w) ?_ hK
  simp [execOp, resolve, hfn, Deferred.ofValue, invoke, hx, hy, hr, go_sem]

theorem Wt {k : Nat} : ∀ {CS : List (List Value)}, Ck k CS → ∀ {j q : Nat} {cs : List Value} {u : Value}, CS[j]? = some cs → cs[q]? = some u → CS.flatten[j * k + q]? = some u
  | [], _, j, q, cs, u, h, _ => by simp at h
  | c :: CS, h, 0, q, cs, u, h1, h2 => by
    simp only [List.getElem?_cons_zero, Option.some.injEq] at h1
    subst h1
    rw [List.flatten_cons, Nat.zero_mul, Nat.zero_add, List.getElem?_append_left (List.getElem?_eq_some_iff.1 h2).1]; exact h2
  | c :: CS, h, j + 1, q, cs, u, h1, h2 => by
    have hc := h c (List.mem_cons_self ..)
    have := Wt (CS := CS) (fun c hc => h c (List.mem_cons_of_mem _ hc)) (j := j) (q := q) (by simpa using h1) h2
    rw [List.flatten_cons, List.getElem?_append_right (by rw [hc, Nat.add_mul]; omega), hc, show (j + 1) * k + q - k = j * k + q by rw [Nat.add_mul]; omega]; exact this
theorem Ka {G : Nat → Prop} {W w : World} {As : List HP} {g k j : Nat} {CS : List (List Value)} {T : TypeId} {cs : List Value} (h : Sep G W As w) {q : Nat} (hi : As[q]? = some (CkB g CS T)) (hCS : Ck k CS) (hj : CS[j]? = some cs) : CellsAt w g (j * k) cs := fun q' hq => by
  exact h.ckAt hi (Wt hCS hj (List.getElem?_eq_getElem hq))
theorem Us {P : Program} {d : Option Tmp} {ty : TypeId} {pos : String} {af : Array Edge} {gd : Option (Nat × Bool)} {σ : Env} {w : World} {K : Value → World → Prop} {G : Nat → Prop} {W : World} {As : List HP} {g k o : Nat} {CS : List (List Value)} {T t : TypeId} {x y : Operand} {u : Value} {us : List Value}
    (h : Sep G W (CkB g CS T :: As) w) (hCS : Ck k CS) (hS : ∀ w, (sizeOf t).run P w = .ok us.length w) (hx : ev σ x = .pointer (some ⟨g, o * k, none⟩)) (hy : ev σ y = u) (hu : u.cells.toList = us) (hk : us.length = k) (h1 : ∀ u ∈ us, u.oneCell' = true) (ho : o < CS.length)
    (hK : ∀ w', Sep G W (CkB g (spl CS o [us]) T :: As) w' → K undef w') : opV P ⟨d, .store t x y, ty, pos, af, gd⟩ σ w K := by
  obtain ⟨a, e1, e2⟩ := h.ckb (i := 0) rfl
  have hl : CS.flatten.length = CS.length * k := hCS.len
  have hle : o * k + us.length ≤ CS.flatten.length := by
    rw [hl, hk]
    have : (o + 1) * k ≤ CS.length * k := Nat.mul_le_mul_right _ ho
    rw [Nat.add_mul, Nat.one_mul] at this
    exact this
  have hst := run_storeCells_cells (P := P) g (o * k) us 0 w (fun j hj => by rw [Nat.add_zero]; exact Zr h (by omega)) (fun j _ => frz e2) h1
  simp only [Nat.add_zero] at hst
  have hput := h.ckPut (S := [us]) (o := o) hCS (fun c hc => by rw [List.mem_singleton.1 hc]; exact hk) ho
  have ef : ([us] : List (List Value)).flatten = us := by simp
  rw [ef] at hput
  refine YA (w' := w.setCells g (o * k) us) ?_ (hK _ hput)
  have hsv : (storeVar t ⟨g, o * k, none⟩ u).run P w = .ok () (w.setCells g (o * k) us) := by
    unfold storeVar
    rw [Sem.run_bind, hS, Result.andThen_ok, if_neg (by rw [← Array.length_toList, hu]; simp), hu]
    exact hst
  have e : execOp (ev σ) ⟨d, .store t x y, ty, pos, af, gd⟩ = ((Instr.sureAddr (ev σ x)) >>= fun a => storeVar t a (ev σ y)) >>= fun _ => pure Next.skip := rfl
  rw [e, hx, hy, Sem.run_bind, Sem.run_bind]
  show (((pure (⟨g, o * k, none⟩ : Addr) : Sem Addr).run P w).andThen fun a w => (storeVar t a u).run P w).andThen _ = _
  rw [Sem.run_pure, Result.andThen_ok, hsv]
  rfl
end Go.Proofs.Ytmiihhbeclhaoaa
end

section
/- Rows of events, opened into pieces; where the numbers of all lie. -/
namespace Go.Proofs.Ytmiihhbeclhaoaa
open Go.RowKit

def yr (ps : List EvP) : List (List Value) := ps.map EvP.cells
theorem XB (ps : List EvP) : Ck 10 (yr ps) := fun c hc => by
  obtain ⟨s, _, rfl⟩ := List.mem_map.1 hc; rfl
theorem YR (ps : List EvP) : One (yr ps) := fun u hu => by
  obtain ⟨c, hc, huc⟩ := List.mem_flatten.1 hu
  obtain ⟨s, _, rfl⟩ := List.mem_map.1 hc
  have h1 : ∀ u ∈ s.cells, u.oneCell' = true := yU ⟨rfl, rfl, rfl, s.2.2, rfl, rfl, rfl, rfl, rfl, rfl, trivial⟩
  exact h1 u huc
section
variable {G : Nat → Prop} {W w : World} {As : List HP} {T : TypeId} {v : Value} {l : List Ev}
end
end Go.Proofs.Ytmiihhbeclhaoaa
end

section
/- Rows of events, each with its numbers in a row of their own. -/
namespace Go.Proofs.Ytmiihhbeclhaoaa
open Go.RowKit

section
variable {G : Nat → Prop} {W w : World} {R : List HP} {A : HP} {As Bs : List HP}
theorem Sep.starCons (h : Sep G W (Star (A :: As) :: R) w) : Sep G W (A :: Star As :: R) w := by
  have h1 : Sep G W (A :: (As ++ R)) w := h.openStar
  have h2 : Sep G W (Star [A] :: (As ++ R)) w := Sep.closeStar (Bs := [A]) h1
  have h3 : Sep G W (As ++ (Star [A] :: R)) w := by
    refine h2.map (fun k => if k < As.length then some (k + 1) else if k = As.length then some 0 else some k) (fun k C hC => ?_) (fun i j k hi hj h3 h4 => ?_)
    · left
      by_cases e1 : k < As.length
      · rw [List.getElem?_append_left e1] at hC
        exact ⟨k + 1, by simp [e1], by rw [List.getElem?_cons_succ, List.getElem?_append_left e1]; exact hC⟩
      · by_cases e2 : k = As.length
        · subst e2
          rw [List.getElem?_append_right (Nat.le_refl _), Nat.sub_self] at hC
          exact ⟨0, by simp, hC⟩
        · rw [List.getElem?_append_right (by omega)] at hC
          obtain ⟨q, hq⟩ : ∃ q, k - As.length = q + 1 := ⟨k - As.length - 1, by omega⟩
          rw [hq, List.getElem?_cons_succ] at hC
          obtain ⟨z, hz⟩ : ∃ z, k = z + 1 := ⟨k - 1, by omega⟩
          refine ⟨k, by simp [e1, e2], ?_⟩
          rw [hz, List.getElem?_cons_succ, List.getElem?_append_right (by omega), show z - As.length = q by omega]; exact hC
    · try simp only at h3 h4
      split at h3 <;> split at h4 <;> (try split at h3) <;> (try split at h4) <;> simp_all <;> omega
  have h4 : Sep G W (Star As :: Star [A] :: R) w := Sep.closeStar h3
  exact (h4.sel 2 [1, 0] (Nat.le_add_left _ _) rfl rfl).openStar
theorem Sep.consStar (h : Sep G W (A :: Star As :: R) w) : Sep G W (Star (A :: As) :: R) w := by
  have h1 : Sep G W (Star As :: Star [A] :: R) w := (Sep.closeStar (Bs := [A]) h).sel 2 [1, 0] (Nat.le_add_left _ _) rfl rfl
  have h2 : Sep G W (As ++ (Star [A] :: R)) w := h1.openStar
  have h3 : Sep G W (Star [A] :: (As ++ R)) w := by
    refine h2.map (fun k => if k = 0 then some As.length else if k ≤ As.length then some (k - 1) else some k) (fun k C hC => ?_) (fun i j k hi hj h3 h4 => ?_)
    · left
      cases k with
      | zero =>
        refine ⟨As.length, by simp, ?_⟩
        rw [List.getElem?_append_right (Nat.le_refl _), Nat.sub_self]; exact hC
      | succ k =>
        rw [List.getElem?_cons_succ] at hC
        by_cases e1 : k < As.length
        · rw [List.getElem?_append_left e1] at hC
          exact ⟨k, by simp; omega, by rw [List.getElem?_append_left e1]; exact hC⟩
        · rw [List.getElem?_append_right (by omega)] at hC
          refine ⟨k + 1, by simp; omega, ?_⟩
          rw [List.getElem?_append_right (by omega), show k + 1 - As.length = (k - As.length) + 1 by omega, List.getElem?_cons_succ]; exact hC
    · try simp only at h3 h4
      split at h3 <;> split at h4 <;> (try split at h3) <;> (try split at h4) <;> simp_all <;> omega
  have h4 : Sep G W (([A] ++ As) ++ R) w := h3.openStar
  exact Sep.closeStar (Bs := A :: As) h4
theorem Sep.starPerm (hp : As.Perm Bs) : ∀ {R : List HP}, Sep G W (Star As :: R) w → Sep G W (Star Bs :: R) w := by
  induction hp with
  | nil => exact fun h => h
  | cons x _ ih => exact fun h => (ih (h.starCons.sel 2 [1, 0] (Nat.le_add_left _ _) rfl rfl) |>.sel 2 [1, 0] (Nat.le_add_left _ _) rfl rfl).consStar
  | swap x y l =>
    intro R h
    have h1 := h.starCons
    have h2 := (h1.sel 2 [1, 0] (Nat.le_add_left _ _) rfl rfl).starCons
    exact ((h2.sel 3 [2, 1, 0] (Nat.le_add_left _ _) rfl rfl).consStar.sel 2 [1, 0] (Nat.le_add_left _ _) rfl rfl).consStar
  | trans _ _ h1 h2 => exact fun h => h2 (h1 h)
theorem Sep.starLeft (h : Sep G W (Star (As ++ Bs) :: R) w) : Sep G W (Star As :: R) w := h.impl (i := 0) rfl (fun f ⟨fs, h1, h2⟩ => ⟨fs, fun i C hC => h1 i C (by rw [List.getElem?_append_left (List.getElem?_eq_some_iff.1 hC).1]; exact hC), fun i j hi hj => h2 i j (by simp; omega) (by simp; omega)⟩)
end

def YJ (Ti : TypeId) (ps : List EvP) : List HP := ps.map fun s => RowE (α := Int) own Ti s.2.1 s.1.deps
def StarD (Ti : TypeId) (ps : List EvP) : HP := Star (YJ Ti ps)
def EvW (v : Value) (T Ti : TypeId) (B : List Ev) : HP := Ex1 fun ps : List EvP => KP (ps.map (fun s : EvP => s.1) = B ∧ ∀ s ∈ ps, s.1.Ok) (Star [RowE (α := EvP) own T v ps, StarD Ti ps])
theorem StarD.rd {Ti : TypeId} {ps : List EvP} {w : World} {f : Nat → Prop} (h : (StarD Ti ps).p w f) : ∀ s ∈ ps, RdS w f s.2.1 s.1.deps := fun s hs => by
  obtain ⟨i, hi, rfl⟩ := List.getElem_of_mem hs
  exact RowE.rd (T := Ti) (Star.at_ h (i := i) (by unfold YJ; rw [List.getElem?_map, List.getElem?_eq_getElem hi]; rfl))
theorem EvW.rd {v : Value} {T Ti : TypeId} {B : List Ev} {w : World} {f : Nat → Prop} (h : (EvW v T Ti B).p w f) : RdS w f v B := by
  obtain ⟨ps, ⟨rfl, hok⟩, h⟩ := h
  have h1 := RowE.rd (T := T) (Star.at_ h (i := 0) rfl)
  have h2 := StarD.rd (Star.at_ h (i := 1) rfl)
  refine ⟨by rw [List.length_map]; exact h1.sl, fun hne => h1.foot (fun e => hne (by rw [e]; rfl)), by rw [List.length_map]; exact h1.small, fun i hi => ?_⟩
  have hi' : i < ps.length := by simpa using hi
  obtain ⟨cs, hc, he⟩ := h1.at_ i hi'
  have he' : cs = ps[i].cells := he
  refine ⟨cs, hc, ?_⟩
  rw [List.getElem_map]
  exact ⟨_, he', h2 _ (List.getElem_mem hi'), hok _ (List.getElem_mem hi')⟩
section
variable {G : Nat → Prop} {W w : World} {As : List HP} {T Ti : TypeId} {v : Value} {B : List Ev}
theorem Sep.evwSl (h : Sep G W As w) {i : Nat} (hi : As[i]? = some (EvW v T Ti B)) : IsSl v B.length ∧ B.length * 96 ≤ 140737488355328 := by
  obtain ⟨f, h1, _⟩ := h.get hi
  have := EvW.rd h1
  exact ⟨this.sl, this.small⟩
theorem Sep.evwFlat (h : Sep G W (EvW v T Ti B :: As) w) : ∃ ps : List EvP, ps.map (fun s : EvP => s.1) = B ∧ (∀ s ∈ ps, s.1.Ok) ∧ Sep G W (RowE (α := EvP) own T v ps :: StarD Ti ps :: As) w := by
  obtain ⟨ps, h⟩ := h.openEx
  obtain ⟨⟨h1, h2⟩, h⟩ := h.openAnd
  exact ⟨ps, h1, h2, h.openStar⟩
theorem Sep.evwOf {ps : List EvP} (h : Sep G W (RowE (α := EvP) own T v ps :: StarD Ti ps :: As) w) (hp : ps.map (fun s : EvP => s.1) = B) (hok : ∀ s ∈ ps, s.1.Ok) : Sep G W (EvW v T Ti B :: As) w :=
  Sep.closeEx (A := fun ps : List EvP => KP (ps.map (fun s : EvP => s.1) = B ∧ ∀ s ∈ ps, s.1.Ok) (Star [RowE (α := EvP) own T v ps, StarD Ti ps])) ps (Sep.closeAnd ⟨hp, hok⟩ (Sep.closeStar (Bs := [RowE (α := EvP) own T v ps, StarD Ti ps]) h))
theorem Sep.evwNil (h : Sep G W As w) (T Ti : TypeId) : Sep G W (EvW (.slice none 0 0) T Ti [] :: As) w :=
  Sep.evwOf (ps := []) ((Sep.nilStar h).rowNil own T) rfl (fun _ h => by simp at h)
theorem Ua {w : World} {f : Nat → Prop} : ∀ {css : List (List Value)} {ps : List EvP}, EP (fun cs x => ((own (α := EvP)).el cs x).p w f) css ps → css = yr ps
  | [], [], _ => rfl
  | c :: css, s :: ps, h => by rw [Ua h.2]; have : c = s.cells := h.1; rw [this]; rfl
  | [], _ :: _, h => h.elim
  | _ :: _, [], h => h.elim
theorem WO {w : World} {f : Nat → Prop} : ∀ {ps : List EvP}, EP (fun cs x => ((own (α := EvP)).el cs x).p w f) (yr ps) ps
  | [] => trivial
  | s :: ps => ⟨rfl, WO⟩
theorem Sep.pOpen {ps : List EvP} (h : Sep G W (RowE (α := EvP) own T v ps :: As) w) {n : Nat} (hnl : ps.length = n) (hl : 0 < n) : ∃ (g cap : Nat) (CS : List (List Value)), v = .slice (some ⟨g, 0, none⟩) n cap ∧ Ck 10 CS ∧ CS.length = cap ∧ CS.take n = yr ps ∧ n ≤ cap ∧ cap ≤ maxLen ∧ n * 96 ≤ 140737488355328 ∧ Sep G W (CkB g CS T :: As) w := by
  subst hnl
  obtain ⟨f0, hA0, _⟩ := h.get (i := 0) rfl
  obtain ⟨css0, hE0, hown0, _, _⟩ := hA0
  rcases hown0.2 with ⟨_, h0⟩ | ⟨g, cap, cur, rfl, _, hb, hn, hm, hs, ht⟩
  · omega
  obtain ⟨CS, c1, c2, c3⟩ := Xw (k := 10) cap cur.toList (by rw [Array.length_toList]; exact hs)
  have hc0 := Ua hE0
  have htk : CS.take ps.length = yr ps := by
    refine Yp (k := 10) (by decide) c3.take (XB ps) ?_
    rw [c3.ftake, c2, ← hc0]; exact ht
  refine ⟨g, cap, CS, rfl, c3, c1, htk, hn, hm, (h.row (i := 0) rfl).2, h.impl (i := 0) rfl (fun f hA => ?_)⟩
  obtain ⟨css, hE, hown, hrow, _⟩ := hA
  exact ⟨cur, c2.symm, hb, hrow g rfl⟩
theorem Sep.pClose {g n cap : Nat} {CS : List (List Value)} {qs : List EvP} (h : Sep G W (CkB g CS T :: As) w) (hCS : Ck 10 CS) (hcap : CS.length = cap) (hn : n ≤ cap) (hm : cap ≤ maxLen) (ht : CS.take n = yr qs) (hsm : n * 96 ≤ 140737488355328) (hnl : qs.length = n) :
    Sep G W (RowE (α := EvP) own T (.slice (some ⟨g, 0, none⟩) n cap) qs :: As) w := by
  subst hnl
  refine h.impl (i := 0) rfl (fun f hA => ?_)
  obtain ⟨a, h1, h2, h3⟩ := hA
  refine ⟨yr qs, WO, ?_, fun b hb => ?_, hsm⟩
  · refine ⟨by rw [(XB qs).len]; unfold yr; rw [List.length_map]; rfl, .inr ⟨g, cap, a, rfl, Nat.zero_le _, h2, hn, hm, ?_, ?_⟩⟩
    · rw [← Array.length_toList, h1, hCS.len, hcap]; rfl
    · rw [h1, ← ht, hCS.ftake]; rfl
  · simp only [Value.ownBlock, Option.some.injEq] at hb; subst hb; exact h3
theorem Sep.starIns {ps : List EvP} {p : EvP} {i : Nat} (h : Sep G W (StarD Ti ps :: RowE (α := Int) own Ti p.2.1 p.1.deps :: As) w) : Sep G W (StarD Ti (ps.take i ++ [p] ++ ps.drop i) :: As) w := by
  have h1 : Sep G W (Star (YJ Ti (p :: ps)) :: As) w := (h.sel 2 [1, 0] (Nat.le_add_left _ _) rfl rfl).consStar
  refine h1.starPerm ?_
  unfold YJ
  refine List.Perm.map _ ?_
  have e := List.take_append_drop i ps
  conv => lhs; rw [← e]
  rw [List.append_assoc, List.singleton_append]
  exact List.perm_middle.symm
theorem Sep.starFil {ps : List EvP} (p : EvP → Bool) (h : Sep G W (StarD Ti ps :: As) w) : Sep G W (StarD Ti (ps.filter p) :: As) w := by
  have h1 : Sep G W (Star (YJ Ti (ps.filter p) ++ YJ Ti (ps.filter fun x => !p x)) :: As) w := by
    refine Sep.starPerm ?_ h
    unfold YJ
    rw [← List.map_append]
    exact ((List.filter_append_perm p ps).symm).map _
  exact h1.starLeft
theorem Sep.starOut {ps : List EvP} {i : Nat} (h : Sep G W (StarD Ti ps :: As) w) (hi : i < ps.length) : Sep G W (RowE (α := Int) own Ti (ps.getD i default).2.1 (ps.getD i default).1.deps :: StarD Ti (ps.eraseIdx i) :: As) w := by
  have hp : ps.Perm (ps.getD i default :: ps.eraseIdx i) := by 
    rw [zm _ hi, List.eraseIdx_eq_take_drop_succ]
    conv => lhs; rw [← List.take_append_drop i ps, List.drop_eq_getElem_cons hi]
    exact List.perm_middle
  exact (Sep.starPerm (hp.map _) h).starCons
end
end Go.Proofs.Ytmiihhbeclhaoaa
end

section
/- Steps of the proofs of this seat: part D1. -/
set_option maxRecDepth 8000
set_option maxHeartbeats 4000000
namespace Go.Proofs.Ytmiihhbeclhaoaa
open Go.Proofs Go.RowKit

def BufO (b : Nat) (most : Int) (B : List Ev) : HP := Ex1 fun vl => Star [Blk b #[.int .i64 most, vl] 61, EvW vl 36 3 B]
section
variable {G : Nat → Prop} {W w : World} {As : List HP} {b : Nat} {most : Int} {B : List Ev}
theorem BufO.open (h : Sep G W (BufO b most B :: As) w) : ∃ vl, Sep G W (Blk b #[.int .i64 most, vl] 61 :: EvW vl 36 3 B :: As) w := by
  obtain ⟨vl, h⟩ := h.openEx
  exact ⟨vl, h.openStar⟩
theorem BufO.close {vl : Value} (h : Sep G W (Blk b #[.int .i64 most, vl] 61 :: EvW vl 36 3 B :: As) w) : Sep G W (BufO b most B :: As) w := Sep.closeEx (A := fun vl => Star [Blk b #[.int .i64 most, vl] 61, EvW vl 36 3 B]) vl (Sep.closeStar (Bs := [Blk b #[.int .i64 most, vl] 61, EvW vl 36 3 B]) h)
theorem BufO.sh (h : (BufO b most B).p W G) : ∃ vl, (Blk b #[.int .i64 most, vl] 61).p W G ∧ RdS W G vl B := by
  obtain ⟨vl, h⟩ := h
  exact ⟨vl, Star.at_ h (i := 0) rfl, EvW.rd (T := 36) (Star.at_ h (i := 1) rfl)⟩
end
theorem ZC {G : Nat → Prop} {W w : World} {Rs : List HP} {x : Int} (hx : InR x) (hS0 : Sep G W Rs w) : Ret Try.prog 12 [.int .i64 (x)] w (fun r w' => ∃ (b : Nat), r = (.pointer (some ⟨b, 0, none⟩) : Value) ∧ Sep G W ((BufO b (max 0 (min x 256)) ([] : List Ev)) :: Rs) w') := by
 refine zp (args := [.int .i64 (x)]) Try.func12 rfl rfl ?_
 refine zc ?_
 refine za (by kernel_rfl) (fun _ => ?_)
 refine st (zd (v := .pointer none) rfl ?_)
 refine ze ?_
 refine zc ?_
 refine za (by kernel_rfl) (fun _ => ?_)
 refine st (zb (v := .int .i64 (x)) rfl ?_)
 refine st (Zw (k := .i64) (a := x) (b := 256) rfl rfl ?_)
 refine st (Wb (k := .i64) (a := 0) (b := min x 256) rfl rfl ?_)
 refine st (yP (parts' := [(0, .int .i64 (max 0 (min x 256)))]) (v := .agg #[.int .i64 (max 0 (min x 256)), (.slice none 0 0)]) rfl (by simp [Instr.build, Instr.fill, go_sem]) ?_)
 refine st (yg (v := .agg #[.int .i64 (max 0 (min x 256)), (.slice none 0 0)]) rfl ?_)
 intro w3 b2 hn1
 have hS4 := hS0.new hn1
 refine st (zd (v := .pointer (some ⟨b2, 0, none⟩)) rfl ?_)
 refine ze ?_
 refine zw ?_
 refine zL Try.results12 (show _ = (.pointer (some ⟨b2, 0, none⟩) : Value) from rfl) ?_
 have hS5 : Sep G W ((EvW (.slice none 0 0) 36 3 ([] : List Ev)) :: (Blk b2 #[.int .i64 (max 0 (min x 256)), (.slice none 0 0)] 61) :: Rs) w3 := hS4.evwNil 36 3
 have hS6 := hS5.mv1
 have hS7 : Sep G W ((BufO b2 (max 0 (min x 256)) ([] : List Ev)) :: Rs) w3 := BufO.close (most := (max 0 (min x 256))) (B := ([] : List Ev)) hS6
 refine ⟨b2, rfl, hS7⟩

theorem xl {d : Option Tmp} {ty : TypeId} {pos : String} {af : Array Edge} {g : Option (Nat × Bool)} {σ : Env} {w : World} {K : Value → World → Prop} {x : Operand} {b o : Nat} (hx : ev σ x = .pointer (some ⟨b, o, none⟩)) (h : K (.pointer (some ⟨b, o + 1, none⟩)) w) : opV Try.prog ⟨d, .fieldAddr 61 x 1, ty, pos, af, g⟩ σ w K := zR Try.underlying61 rfl rfl (fun w => ⟨0, Try.sizeOf22 w⟩) hx h
theorem xL {G : Nat → Prop} {W w : World} {Rs : List HP} {b : Nat} {most : Int} {B : List Ev} (hb : (BufO b most B).p W G) (hS0 : Sep G W Rs w) : Ret Try.prog 18 [.pointer (some ⟨b, 0, none⟩)] w (fun r w' => r = (.int .i64 ((B.length : Nat) : Int) : Value) ∧ Sep G W Rs w') := by
 refine zp (args := [.pointer (some ⟨b, 0, none⟩)]) Try.func18 rfl rfl ?_
 obtain ⟨vl1, hb2, hl3⟩ := BufO.sh hb
 have hsm4 : B.length * 96 ≤ 140737488355328 := hl3.small
 refine zc ?_
 refine za (by kernel_rfl) (fun _ => ?_)
 refine st (zd (v := .int .i64 (0)) rfl ?_)
 refine ze ?_
 refine zc ?_
 refine za (by kernel_rfl) (fun _ => ?_)
 refine st (zb (v := .pointer (some ⟨b, 0, none⟩)) rfl ?_)
 refine st (zn (b := b) (o := 0) rfl ?_)
 refine st (xl rfl ?_)
 refine st (zg (v := vl1) Try.isAgg22 rfl (zf (hS0.gblk hb2) rfl) ?_)
 refine st (zJ (n := B.length) Try.underlying22 rfl hl3.sl ?_)
 refine st (zd (v := .int .i64 ((B.length : Nat) : Int)) rfl ?_)
 refine ze ?_
 refine zw ?_
 refine zL Try.results18 (show _ = (.int .i64 ((B.length : Nat) : Int) : Value) from rfl) ?_
 refine ⟨rfl, hS0⟩

theorem WT {G : Nat → Prop} {W w : World} {Rs : List HP} {b : Nat} {most : Int} {B : List Ev} (hS0 : Sep G W ((BufO b most B) :: Rs) w) : Ret Try.prog 26 [.pointer (some ⟨b, 0, none⟩)] w (fun r w' => r = (.tuple #[] : Value) ∧ Sep G W ((BufO b most ([] : List Ev)) :: Rs) w') := by
 refine zp (args := [.pointer (some ⟨b, 0, none⟩)]) Try.func26 rfl rfl ?_
 obtain ⟨vl1, hS2⟩ := BufO.open hS0
 have hS2t : Sep G W ((Blk b #[.int .i64 (most), vl1] 61) :: (EvW vl1 36 3 B) :: Rs) w := hS2
 have hes3 : B.length * 96 ≤ 140737488355328 := (hS2t.evwSl (i := 1) rfl).2
 refine za (by kernel_rfl) (fun _ => ?_)
 refine st (zb (v := .pointer (some ⟨b, 0, none⟩)) rfl ?_)
 refine st (zn (b := b) (o := 0) rfl ?_)
 refine st (xl rfl ?_)
 refine stn (yd (v := (.slice none 0 0)) (c := [.int .i64 (most), vl1]) (c' := [.int .i64 (most), (.slice none 0 0)]) Try.sizeOf22 rfl rfl (hS2t.blk (i := 0) rfl) rfl rfl rfl ?_)
 intro w4 hp5
 have hS6 := hS2t.pt0 hp5
 refine ze ?_
 refine Up Try.results26 ?_
 have hS7 : Sep G W ((EvW (.slice none 0 0) 36 3 ([] : List Ev)) :: (Blk b #[.int .i64 (most), (.slice none 0 0)] 61) :: (EvW vl1 36 3 B) :: Rs) w4 := hS6.evwNil 36 3
 have hS8 := hS7.mv1
 have hS9 : Sep G W ((BufO b most ([] : List Ev)) :: (EvW vl1 36 3 B) :: Rs) w4 := BufO.close (most := most) (B := ([] : List Ev)) hS8
 have hS10 : Sep G W ((BufO b most ([] : List Ev)) :: Rs) w4 := hS9.sel 2 [0] (Nat.le_add_left _ _) rfl rfl
 refine ⟨rfl, hS10⟩

def yC (a b : Ev) : Bool := decide (a.origin = b.origin ∧ a.seq = b.seq)
theorem xp {a b : Ev} : yC a b = true ↔ idE a = idE b := by unfold yC idE; simp
def yf (B : List Ev) (e : Ev) : Bool := B.any fun x => yC x e
theorem Qf {G : Nat → Prop} {W w : World} {Rs : List HP} {a : Ev} {da0 : Value} (hda0 : RdS W G da0 a.deps) (oa : a.Ok) {b : Ev} {db0 : Value} (hdb0 : RdS W G db0 b.deps) (ob : b.Ok) (hS0 : Sep G W Rs w) : Ret Try.prog 43 [.agg (a.cells da0).toArray, .agg (b.cells db0).toArray] w (fun r w' => r = (.int .i64 ((yt a b)) : Value) ∧ Sep G W Rs w') := by
 have hda0s : _ * 8 ≤ _ := hda0.small
 have hdb0s : _ * 8 ≤ _ := hdb0.small
 refine zp (args := [.agg (a.cells da0).toArray, .agg (b.cells db0).toArray]) Try.func43 rfl rfl ?_
 refine zc ?_
 refine za (by kernel_rfl) (fun _ => ?_)
 refine st (yg (v := .agg (a.cells da0).toArray) rfl ?_)
 intro w3 b2 hn1
 have hS4 := hS0.new hn1
 refine st (yg (v := .agg (b.cells db0).toArray) rfl ?_)
 intro w7 b6 hn5
 have hS8 := hS4.new hn5
 refine st (zd (v := .int .i64 (0)) rfl ?_)
 refine ze ?_
 refine zc ?_
 refine zM ((fun TT pp0 => WF [fun vals wq => Sep G W (pp0 :: TT) wq, fun vals wq => (vals 4 = (.int .i64 ((zC a.lam b.lam)) : Value)) ∧ Sep G W (pp0 :: TT) wq, fun vals wq => (vals 4 = (.int .i64 ((zC a.lam b.lam)) : Value)) ∧ (vals 11 = (.int .i64 ((zC a.origin b.origin)) : Value)) ∧ Sep G W (pp0 :: TT) wq, fun vals wq => (vals 4 = (.int .i64 ((zC a.lam b.lam)) : Value)) ∧ (vals 11 = (.int .i64 ((zC a.origin b.origin)) : Value)) ∧ (vals 18 = (.int .i64 ((zC a.seq b.seq)) : Value)) ∧ Sep G W (pp0 :: TT) wq, fun vals wq => ∃ (b165 : Nat), (vals 4 = (.int .i64 ((zC a.lam b.lam)) : Value)) ∧ (vals 11 = (.int .i64 ((zC a.origin b.origin)) : Value)) ∧ (vals 18 = (.int .i64 ((zC a.seq b.seq)) : Value)) ∧ (vals 19 = ((.slice (some ⟨b165, 0, none⟩) 3 3) : Value)) ∧ Sep G W ((Blk b165 #[.int .i64 ((zC a.lam b.lam)), .int .i64 ((zC a.origin b.origin)), .int .i64 ((zC a.seq b.seq))] 3) :: pp0 :: TT) wq, fun vals wq => ∃ (b165 : Nat), (vals 4 = (.int .i64 ((zC a.lam b.lam)) : Value)) ∧ (vals 11 = (.int .i64 ((zC a.origin b.origin)) : Value)) ∧ (vals 18 = (.int .i64 ((zC a.seq b.seq)) : Value)) ∧ (vals 19 = ((.slice (some ⟨b165, 0, none⟩) 3 3) : Value)) ∧ (vals 20 = (.int .i64 ((orL [(zC a.lam b.lam), (zC a.origin b.origin), (zC a.seq b.seq)])) : Value)) ∧ Sep G W ((RowE (α := Int) own 3 (.slice (some ⟨b165, 0, none⟩) 3 3) [(zC a.lam b.lam), (zC a.origin b.origin), (zC a.seq b.seq)]) :: pp0 :: TT) wq]) ((Blk b2 (a.cells da0).toArray 36) :: Rs) (Blk b6 (b.cells db0).toArray 36)) (AF [Vl 0 (.pointer (some ⟨b2, 2, none⟩)), Vl 1 (.int .i64 (a.lam)), Vl 2 (.pointer (some ⟨b6, 2, none⟩)), Vl 3 (.int .i64 (b.lam)), fun _ => True, Vl 5 (.pointer (some ⟨b2, 0, none⟩)), Vl 6 (.pointer (some ⟨b2, 0, none⟩)), Vl 7 (.int .i64 (a.origin)), Vl 8 (.pointer (some ⟨b6, 0, none⟩)), Vl 9 (.pointer (some ⟨b6, 0, none⟩)), Vl 10 (.int .i64 (b.origin)), fun _ => True, Vl 12 (.pointer (some ⟨b2, 0, none⟩)), Vl 13 (.pointer (some ⟨b2, 1, none⟩)), Vl 14 (.int .i64 (a.seq)), Vl 15 (.pointer (some ⟨b6, 0, none⟩)), Vl 16 (.pointer (some ⟨b6, 1, none⟩)), Vl 17 (.int .i64 (b.seq)), fun _ => True, fun _ => True, fun _ => True, Vl 21 (.int .i64 ((orL [(zC a.lam b.lam), (zC a.origin b.origin), (zC a.seq b.seq)])))]) [[], [0], [], [2], [0, 1, 2, 3], [], [5], [5, 6], [], [8], [8, 9], [0, 1, 2, 3, 4, 5, 6, 7, 8, 9, 10], [], [12], [12, 13], [], [15], [15, 16], [0, 1, 2, 3, 4, 5, 6, 7, 8, 9, 10, 11, 12, 13, 14, 15, 16, 17], [0, 1, 2, 3, 4, 5, 6, 7, 8, 9, 10, 11, 12, 13, 14, 15, 16, 17, 18], [0, 1, 2, 3, 4, 5, 6, 7, 8, 9, 10, 11, 12, 13, 14, 15, 16, 17, 18, 19], [0, 1, 2, 3, 4, 5, 6, 7, 8, 9, 10, 11, 12, 13, 14, 15, 16, 17, 18, 19, 20]] [4, 11, 18, 19, 20] [(0, 0), (0, 0), (0, 0), (0, 0), (0, 0), (0, 1), (0, 1), (0, 1), (0, 1), (0, 1), (0, 1), (1, 1), (0, 2), (0, 2), (0, 2), (0, 2), (0, 2), (0, 2), (2, 2), (3, 3), (4, 4), (5, 5)] (by kernel_rfl) (by kernel_rfl) (by kernel_rfl) rfl (by kernel_rfl) (by kernel_rfl) (fun _ h1 h2 h3 h4 _ => hS8.same h1 h2 h3 h4) ?_ (yc ⟨dA, dA, dA, dA, dT, dA, dA, dA, dA, dA, dA, dT, dA, dA, dA, dA, dA, dA, dT, dT, dT, dA, trivial⟩) ⟨?_, ?_, ?_, ?_, ?_, ?_, ?_, ?_, ?_, ?_, ?_, ?_, ?_, ?_, ?_, ?_, ?_, ?_, ?_, ?_, ?_, ?_, trivial⟩ ?_
 ·intro k vals vals' w hv h
  have e : ∀ j ∈ ([4, 11, 18, 19, 20] : List Nat), vals' j = vals j := hv
  match k, h with
  | 0, h => exact h
  | 1, h => exact (by simpa only [WF, List.getElem?_cons_zero, List.getElem?_cons_succ, e 4 (by decide)] using h)
  | 2, h => exact (by simpa only [WF, List.getElem?_cons_zero, List.getElem?_cons_succ, e 4 (by decide), e 11 (by decide)] using h)
  | 3, h => exact (by simpa only [WF, List.getElem?_cons_zero, List.getElem?_cons_succ, e 4 (by decide), e 11 (by decide), e 18 (by decide)] using h)
  | 4, h => exact (by simpa only [WF, List.getElem?_cons_zero, List.getElem?_cons_succ, e 4 (by decide), e 11 (by decide), e 18 (by decide), e 19 (by decide)] using h)
  | 5, h => exact (by simpa only [WF, List.getElem?_cons_zero, List.getElem?_cons_succ, e 4 (by decide), e 11 (by decide), e 18 (by decide), e 19 (by decide), e 20 (by decide)] using h)
  | _ + 6, _ => trivial
 ·intro k196 vals w197 h200 h201 hW199 hA198
  refine obl rfl ?_
  exact yO rfl (fun vals' hv _ => ⟨rfl, hv⟩)
 ·intro k202 vals w203 h206 h207 hW205 hA204
  obtain rfl : k202 = 0 := Nat.le_antisymm h207 h206
  have hS208 : Sep _ _ _ _ := hW205
  have e209 := hA204 0 (by decide)
  refine obl rfl ?_
  exact zg (v := .int .i64 (a.lam)) Try.isAgg3 e209 (zf (hS208.blk (i := 1) rfl) rfl) (fun vals' hv _ => ⟨rfl, hv⟩)
 ·intro k210 vals w211 h214 h215 hW213 hA212
  refine obl rfl ?_
  exact yO rfl (fun vals' hv _ => ⟨rfl, hv⟩)
 ·intro k216 vals w217 h220 h221 hW219 hA218
  obtain rfl : k216 = 0 := Nat.le_antisymm h221 h220
  have hS222 : Sep _ _ _ _ := hW219
  have e223 := hA218 2 (by decide)
  refine obl rfl ?_
  exact zg (v := .int .i64 (b.lam)) Try.isAgg3 e223 (zf (hS222.blk (i := 0) rfl) rfl) (fun vals' hv _ => ⟨rfl, hv⟩)
 ·intro k37 vals w38 h41 h42 hW40 hA39
  obtain rfl : k37 = 0 := Nat.le_antisymm h42 h41
  have hS43 : Sep _ _ _ _ := hW40
  have e44 := hA39 1 (by decide)
  have e45 := hA39 3 (by decide)
  refine obl rfl ?_
  refine (zj (f := 66) (vals := [.int .i64 (a.lam), .int .i64 (b.lam)]) (cap := []) rfl (xc ⟨e44, e45, trivial⟩) Try.call66 (XC  hS43) ?_)
  rintro _ w46 ⟨rfl, hS47⟩
  intro vals' hv hv'
  refine ⟨?_, trivial⟩
  show (vals' 4 = (.int .i64 ((zC a.lam b.lam)) : Value)) ∧ Sep G W ((Blk b6 (b.cells db0).toArray 36) :: (Blk b2 (a.cells da0).toArray 36) :: Rs) w46
  exact ⟨hv, hS47⟩
 ·intro k224 vals w225 h228 h229 hW227 hA226
  refine obl rfl ?_
  exact zS rfl (fun vals' hv _ => ⟨rfl, hv⟩)
 ·intro k230 vals w231 h234 h235 hW233 hA232
  have e236 := hA232 5 (by decide)
  refine obl rfl ?_
  exact yM e236 (fun vals' hv _ => ⟨rfl, hv⟩)
 ·intro k237 vals w238 h241 h242 hW240 hA239
  have hkk : k237 = 0 ∨ k237 = 1 := by have h1 : 0 ≤ k237 := h241; have h2 : k237 ≤ 1 := h242; omega
  rcases hkk with rfl | rfl
  ·skip
   have hS243 : Sep _ _ _ _ := hW240
   have e244 := hA239 6 (by decide)
   refine obl rfl ?_
   exact zg (v := .int .i64 (a.origin)) Try.isAgg3 e244 (zf (hS243.blk (i := 1) rfl) rfl) (fun vals' hv _ => ⟨rfl, hv⟩)
  ·skip
   obtain ⟨he48, hS245⟩ := hW240
   have e246 := hA239 6 (by decide)
   refine obl rfl ?_
   exact zg (v := .int .i64 (a.origin)) Try.isAgg3 e246 (zf (hS245.blk (i := 1) rfl) rfl) (fun vals' hv _ => ⟨rfl, hv⟩)
 ·intro k247 vals w248 h251 h252 hW250 hA249
  refine obl rfl ?_
  exact zS rfl (fun vals' hv _ => ⟨rfl, hv⟩)
 ·intro k253 vals w254 h257 h258 hW256 hA255
  have e259 := hA255 8 (by decide)
  refine obl rfl ?_
  exact yM e259 (fun vals' hv _ => ⟨rfl, hv⟩)
 ·intro k260 vals w261 h264 h265 hW263 hA262
  have hkk : k260 = 0 ∨ k260 = 1 := by have h1 : 0 ≤ k260 := h264; have h2 : k260 ≤ 1 := h265; omega
  rcases hkk with rfl | rfl
  ·skip
   have hS266 : Sep _ _ _ _ := hW263
   have e267 := hA262 9 (by decide)
   refine obl rfl ?_
   exact zg (v := .int .i64 (b.origin)) Try.isAgg3 e267 (zf (hS266.blk (i := 0) rfl) rfl) (fun vals' hv _ => ⟨rfl, hv⟩)
  ·skip
   obtain ⟨he48, hS268⟩ := hW263
   have e269 := hA262 9 (by decide)
   refine obl rfl ?_
   exact zg (v := .int .i64 (b.origin)) Try.isAgg3 e269 (zf (hS268.blk (i := 0) rfl) rfl) (fun vals' hv _ => ⟨rfl, hv⟩)
 ·intro k91 vals w92 h95 h96 hW94 hA93
  obtain rfl : k91 = 1 := Nat.le_antisymm h96 h95
  obtain ⟨he48, hS97⟩ := hW94
  have e98 := hA93 7 (by decide)
  have e99 := hA93 10 (by decide)
  refine obl rfl ?_
  refine (zj (f := 66) (vals := [.int .i64 (a.origin), .int .i64 (b.origin)]) (cap := []) rfl (xc ⟨e98, e99, trivial⟩) Try.call66 (XC  hS97) ?_)
  rintro _ w100 ⟨rfl, hS101⟩
  intro vals' hv hv'
  refine ⟨?_, trivial⟩
  show (vals' 4 = (.int .i64 ((zC a.lam b.lam)) : Value)) ∧ (vals' 11 = (.int .i64 ((zC a.origin b.origin)) : Value)) ∧ Sep G W ((Blk b6 (b.cells db0).toArray 36) :: (Blk b2 (a.cells da0).toArray 36) :: Rs) w100
  exact ⟨(by rw [hv' 4 (by decide)]; exact he48), hv, hS101⟩
 ·intro k270 vals w271 h274 h275 hW273 hA272
  refine obl rfl ?_
  exact zS rfl (fun vals' hv _ => ⟨rfl, hv⟩)
 ·intro k276 vals w277 h280 h281 hW279 hA278
  have e282 := hA278 12 (by decide)
  refine obl rfl ?_
  exact xg e282 (fun vals' hv _ => ⟨rfl, hv⟩)
 ·intro k283 vals w284 h287 h288 hW286 hA285
  have hkk : k283 = 0 ∨ k283 = 1 ∨ k283 = 2 := by have h1 : 0 ≤ k283 := h287; have h2 : k283 ≤ 2 := h288; omega
  rcases hkk with rfl | rfl | rfl
  ·skip
   have hS289 : Sep _ _ _ _ := hW286
   have e290 := hA285 13 (by decide)
   refine obl rfl ?_
   exact zg (v := .int .i64 (a.seq)) Try.isAgg3 e290 (zf (hS289.blk (i := 1) rfl) rfl) (fun vals' hv _ => ⟨rfl, hv⟩)
  ·skip
   obtain ⟨he48, hS291⟩ := hW286
   have e292 := hA285 13 (by decide)
   refine obl rfl ?_
   exact zg (v := .int .i64 (a.seq)) Try.isAgg3 e292 (zf (hS291.blk (i := 1) rfl) rfl) (fun vals' hv _ => ⟨rfl, hv⟩)
  ·skip
   obtain ⟨he48, he102, hS293⟩ := hW286
   have e294 := hA285 13 (by decide)
   refine obl rfl ?_
   exact zg (v := .int .i64 (a.seq)) Try.isAgg3 e294 (zf (hS293.blk (i := 1) rfl) rfl) (fun vals' hv _ => ⟨rfl, hv⟩)
 ·intro k295 vals w296 h299 h300 hW298 hA297
  refine obl rfl ?_
  exact zS rfl (fun vals' hv _ => ⟨rfl, hv⟩)
 ·intro k301 vals w302 h305 h306 hW304 hA303
  have e307 := hA303 15 (by decide)
  refine obl rfl ?_
  exact xg e307 (fun vals' hv _ => ⟨rfl, hv⟩)
 ·intro k308 vals w309 h312 h313 hW311 hA310
  have hkk : k308 = 0 ∨ k308 = 1 ∨ k308 = 2 := by have h1 : 0 ≤ k308 := h312; have h2 : k308 ≤ 2 := h313; omega
  rcases hkk with rfl | rfl | rfl
  ·skip
   have hS314 : Sep _ _ _ _ := hW311
   have e315 := hA310 16 (by decide)
   refine obl rfl ?_
   exact zg (v := .int .i64 (b.seq)) Try.isAgg3 e315 (zf (hS314.blk (i := 0) rfl) rfl) (fun vals' hv _ => ⟨rfl, hv⟩)
  ·skip
   obtain ⟨he48, hS316⟩ := hW311
   have e317 := hA310 16 (by decide)
   refine obl rfl ?_
   exact zg (v := .int .i64 (b.seq)) Try.isAgg3 e317 (zf (hS316.blk (i := 0) rfl) rfl) (fun vals' hv _ => ⟨rfl, hv⟩)
  ·skip
   obtain ⟨he48, he102, hS318⟩ := hW311
   have e319 := hA310 16 (by decide)
   refine obl rfl ?_
   exact zg (v := .int .i64 (b.seq)) Try.isAgg3 e319 (zf (hS318.blk (i := 0) rfl) rfl) (fun vals' hv _ => ⟨rfl, hv⟩)
 ·intro k145 vals w146 h149 h150 hW148 hA147
  obtain rfl : k145 = 2 := Nat.le_antisymm h150 h149
  obtain ⟨he48, he102, hS151⟩ := hW148
  have e152 := hA147 14 (by decide)
  have e153 := hA147 17 (by decide)
  refine obl rfl ?_
  refine (zj (f := 66) (vals := [.int .i64 (a.seq), .int .i64 (b.seq)]) (cap := []) rfl (xc ⟨e152, e153, trivial⟩) Try.call66 (XC  hS151) ?_)
  rintro _ w154 ⟨rfl, hS155⟩
  intro vals' hv hv'
  refine ⟨?_, trivial⟩
  show (vals' 4 = (.int .i64 ((zC a.lam b.lam)) : Value)) ∧ (vals' 11 = (.int .i64 ((zC a.origin b.origin)) : Value)) ∧ (vals' 18 = (.int .i64 ((zC a.seq b.seq)) : Value)) ∧ Sep G W ((Blk b6 (b.cells db0).toArray 36) :: (Blk b2 (a.cells da0).toArray 36) :: Rs) w154
  exact ⟨(by rw [hv' 4 (by decide)]; exact he48), (by rw [hv' 11 (by decide)]; exact he102), hv, hS155⟩
 ·intro k157 vals w158 h161 h162 hW160 hA159
  obtain rfl : k157 = 3 := Nat.le_antisymm h162 h161
  obtain ⟨he48, he102, he156, hS163⟩ := hW160
  refine obl rfl ?_
  refine (zD (k := 1) (parts' := [(0, .int .i64 ((zC a.lam b.lam))), (1, .int .i64 ((zC a.origin b.origin))), (2, .int .i64 ((zC a.seq b.seq)))]) (c := #[.int .i64 ((zC a.lam b.lam)), .int .i64 ((zC a.origin b.origin)), .int .i64 ((zC a.seq b.seq))]) Try.underlying34 Try.sizeOf3 Try.zeroValue3 (by decide) (Ve ⟨rfl, he48, rfl, he102, rfl, he156, trivial⟩) (by kernel_rfl) ?_)
  intro w166 b165 hn164
  have hS167 := hS163.new hn164
  intro vals' hv hv'
  refine ⟨?_, trivial⟩
  show ∃ (b165 : Nat), (vals' 4 = (.int .i64 ((zC a.lam b.lam)) : Value)) ∧ (vals' 11 = (.int .i64 ((zC a.origin b.origin)) : Value)) ∧ (vals' 18 = (.int .i64 ((zC a.seq b.seq)) : Value)) ∧ (vals' 19 = ((.slice (some ⟨b165, 0, none⟩) 3 3) : Value)) ∧ Sep G W ((Blk b165 #[.int .i64 ((zC a.lam b.lam)), .int .i64 ((zC a.origin b.origin)), .int .i64 ((zC a.seq b.seq))] 3) :: (Blk b6 (b.cells db0).toArray 36) :: (Blk b2 (a.cells da0).toArray 36) :: Rs) w166
  exact ⟨b165, (by rw [hv' 4 (by decide)]; exact he48), (by rw [hv' 11 (by decide)]; exact he102), (by rw [hv' 18 (by decide)]; exact he156), hv, hS167⟩
 ·intro k169 vals w170 h173 h174 hW172 hA171
  obtain rfl : k169 = 4 := Nat.le_antisymm h174 h173
  obtain ⟨b165, he48, he102, he156, he168, hS175⟩ := hW172
  refine obl rfl ?_
  have hS176 : Sep G W ((RowE (α := Int) own 3 (.slice (some ⟨b165, 0, none⟩) 3 3) [(zC a.lam b.lam), (zC a.origin b.origin), (zC a.seq b.seq)]) :: (Blk b6 (b.cells db0).toArray 36) :: (Blk b2 (a.cells da0).toArray 36) :: Rs) w170 := Sep.blkRow (src := own) (l := [(zC a.lam b.lam), (zC a.origin b.origin), (zC a.seq b.seq)]) (css := [[.int .i64 ((zC a.lam b.lam))], [.int .i64 ((zC a.origin b.origin))], [.int .i64 ((zC a.seq b.seq))]]) hS175 rfl ⟨fun _ _ => ⟨rfl, (Zq a.lam b.lam)⟩, fun _ _ => ⟨rfl, (Zq a.origin b.origin)⟩, fun _ _ => ⟨rfl, (Zq a.seq b.seq)⟩, trivial⟩ (by first | decide | (simp only [List.length_cons, List.length_nil]; decide)) (show 3 ≤ maxLen by decide)
  have hr177 := hS176.row (i := 0) rfl
  have hr177s : _ * 8 ≤ _ := hr177.2
  obtain ⟨G178, hA180, hB181, hS182, hk183⟩ := hS176.lend
  have hrd184 := RowE.rd hA180
  have hrd184s : _ * 8 ≤ _ := hrd184.small
  refine (zj (f := 65) (vals := [(.slice (some ⟨b165, 0, none⟩) 3 3)]) (cap := []) rfl (xc ⟨he168, trivial⟩) Try.call65 (D_or (l := [(zC a.lam b.lam), (zC a.origin b.origin), (zC a.seq b.seq)]) (vl := (.slice (some ⟨b165, 0, none⟩) 3 3)) hrd184 hS182) ?_)
  rintro _ w185 ⟨rfl, hS186⟩
  have hS187 := hk183 _ _ hS186
  intro vals' hv hv'
  refine ⟨?_, trivial⟩
  show ∃ (b165 : Nat), (vals' 4 = (.int .i64 ((zC a.lam b.lam)) : Value)) ∧ (vals' 11 = (.int .i64 ((zC a.origin b.origin)) : Value)) ∧ (vals' 18 = (.int .i64 ((zC a.seq b.seq)) : Value)) ∧ (vals' 19 = ((.slice (some ⟨b165, 0, none⟩) 3 3) : Value)) ∧ (vals' 20 = (.int .i64 ((orL [(zC a.lam b.lam), (zC a.origin b.origin), (zC a.seq b.seq)])) : Value)) ∧ Sep G W ((RowE (α := Int) own 3 (.slice (some ⟨b165, 0, none⟩) 3 3) [(zC a.lam b.lam), (zC a.origin b.origin), (zC a.seq b.seq)]) :: (Blk b6 (b.cells db0).toArray 36) :: (Blk b2 (a.cells da0).toArray 36) :: Rs) w185
  exact ⟨b165, (by rw [hv' 4 (by decide)]; exact he48), (by rw [hv' 11 (by decide)]; exact he102), (by rw [hv' 18 (by decide)]; exact he156), (by rw [hv' 19 (by decide)]; exact he168), hv, hS187⟩
 ·intro k320 vals w321 h324 h325 hW323 hA322
  obtain rfl : k320 = 5 := Nat.le_antisymm h325 h324
  obtain ⟨b165, he48, he102, he156, he168, he188, hS326⟩ := hW323
  refine obl rfl ?_
  exact zd (v := .int .i64 ((orL [(zC a.lam b.lam), (zC a.origin b.origin), (zC a.seq b.seq)]))) he188 (fun vals' hv _ => ⟨rfl, hv⟩)
 intro vals w327 hW328 hA329
 obtain ⟨b165, he48, he102, he156, he168, he188, hS330⟩ := hW328
 have e331 := hA329 21 (by decide)
 refine yb (kv := [(0, .agg (a.cells da0).toArray), (1, .agg (b.cells db0).toArray), (2, .pointer (some ⟨b2, 0, none⟩)), (3, .pointer (some ⟨b6, 0, none⟩)), (4, .int .i64 ((orL [(zC a.lam b.lam), (zC a.origin b.origin), (zC a.seq b.seq)])))]) ⟨rfl, rfl, rfl, rfl, (by exact e331), trivial⟩ (fun ρw327 => ?_)
 refine ze ?_
 refine zw ?_
 refine zL Try.results43 (show _ = (.int .i64 ((orL [(zC a.lam b.lam), (zC a.origin b.origin), (zC a.seq b.seq)])) : Value) from rfl) ?_
 have hS332 : Sep G W Rs w327 := hS330.sel 3 [] (Nat.le_add_left _ _) rfl rfl
 refine ⟨rfl, hS332⟩

theorem D_is {G : Nat → Prop} {W w : World} {Rs : List HP} {e : Ev} {de0 : Value} (hde0 : RdS W G de0 e.deps) (oe : e.Ok) {bx : Nat} {e2 : Ev} {d2 : Value} (hbx : (Blk bx (e2.cells d2).toArray 36).p W G) (hS0 : Sep G W Rs w) : Ret Try.prog 40 [.agg (e.cells de0).toArray, .pointer (some ⟨bx, 0, none⟩)] w (fun r w' => r = (.bool ((yC e e2)) : Value) ∧ Sep G W Rs w') := by
 have hde0s : _ * 8 ≤ _ := hde0.small
 refine zp (args := [.agg (e.cells de0).toArray, .pointer (some ⟨bx, 0, none⟩)]) Try.func40 rfl rfl ?_
 refine zc ?_
 refine za (by kernel_rfl) (fun _ => ?_)
 refine st (yg (v := .agg (e.cells de0).toArray) rfl ?_)
 intro w3 b2 hn1
 have hS4 := hS0.new hn1
 refine st (zd (v := .bool false) rfl ?_)
 refine ze ?_
 refine zc ?_
 refine za (by kernel_rfl) (fun _ => ?_)
 refine st (zS rfl ?_)
 refine st (zr (k := 2) (cs := [.int .i64 (e.origin), .int .i64 (e.seq)]) Try.isAgg33 Try.sizeOf33 rfl rfl (CellsAt.sub (CellsAt.all (hS4.blk (i := 0) rfl)) 0 (cs2 := [.int .i64 (e.origin), .int .i64 (e.seq)]) rfl) ?_)
 refine st (zS rfl ?_)
 refine st (zr (k := 2) (cs := [.int .i64 (e2.origin), .int .i64 (e2.seq)]) Try.isAgg33 Try.sizeOf33 rfl rfl (CellsAt.sub (CellsAt.all (hS4.gblk hbx)) 0 (cs2 := [.int .i64 (e2.origin), .int .i64 (e2.seq)]) rfl) ?_)
 refine st (ZU (e := decide (e.origin = e2.origin ∧ e.seq = e2.seq)) (xs := #[.int .i64 (e.origin), .int .i64 (e.seq)]) (ys := #[.int .i64 (e2.origin), .int .i64 (e2.seq)]) Wy rfl rfl ?_)
 refine st (zd (v := .bool (decide (e.origin = e2.origin ∧ e.seq = e2.seq))) rfl ?_)
 refine ze ?_
 refine zw ?_
 refine zL Try.results40 (show _ = (.bool (decide (e.origin = e2.origin ∧ e.seq = e2.seq)) : Value) from rfl) ?_
 have hS5 : Sep G W Rs w3 := hS4.sel 1 [] (Nat.le_add_left _ _) rfl rfl
 refine ⟨rfl, hS5⟩

theorem Kx {G : Nat → Prop} {W w : World} {Rs : List HP} {vB : Value} {B : List Ev} (hB : RdS W G vB B) {bx : Nat} {e2 : Ev} {d2 : Value} (hbx : (Blk bx (e2.cells d2).toArray 36).p W G) (hS0 : Sep G W Rs w) : Ret Try.prog 49 [vB, .func (.func 40) #[] #[.pointer (some ⟨bx, 0, none⟩)]] w (fun r w' => ∃ (c : Int), r = (.int .i64 (c) : Value) ∧ (InR c) ∧ (c < 0 ↔ ∀ i, i < B.length → yC (B.getD i default) e2 = false) ∧ Sep G W Rs w') := by
 have hBs : _ * 96 ≤ _ := hB.small
 refine zp (args := [vB, .func (.func 40) #[] #[.pointer (some ⟨bx, 0, none⟩)]]) Try.func49 rfl rfl ?_
 refine zc ?_
 refine za (by kernel_rfl) (fun _ => ?_)
 refine st (zd (v := .int .i64 (0)) rfl ?_)
 refine ze ?_
 refine zc ?_
 refine zc ?_
 refine za (by kernel_rfl) (fun _ => ?_)
 refine st (zb (v := vB) rfl ?_)
 refine st (zJ (n := B.length) Try.underlying22 rfl hB.sl ?_)
 refine st (zb (v := .int .i64 (0)) rfl ?_)
 refine ze ?_
 refine zt ?_
 refine zP (fun mq σ wq => ∃ (k : Nat) (ρ : Env), mq = B.length - k ∧ σ = zQ ρ [(0, vB), (1, .func (.func 40) #[] #[.pointer (some ⟨bx, 0, none⟩)]), (7, .int .i64 ((B.length : Nat) : Int)), (8, .int .i64 ((k : Nat) : Int))] ∧ (k ≤ B.length) ∧ (∀ i, i < k → yC (B.getD i default) e2 = false) ∧ Sep G W Rs wq) ⟨0, _, rfl, zh ⟨rfl, rfl, rfl, rfl, trivial⟩, Nat.zero_le _, (fun i h => absurd h (Nat.not_lt_zero i)), hS0⟩ ?_
 rintro m2 σ3 w1 ⟨k, ρl1, rfl, rfl, hkk, hm, hS4⟩
 refine zc ?_
 refine za (by kernel_rfl) (fun _ => ?_)
 refine st (zH (k := .i64) (a := ((k : Nat) : Int)) (b := ((B.length : Nat) : Int)) rfl rfl ?_)
 refine ze ?_
 refine zc ?_
 cases hc5 : decide (((k : Nat) : Int) < ((B.length : Nat) : Int))
 ·skip
  have hc5 := of_decide_eq_false hc5
  refine zi rfl ?_
  refine zO ?_
  refine zF ?_
  refine zc ?_
  refine za (by kernel_rfl) (fun _ => ?_)
  refine st (zd (v := .int .i64 (-1)) rfl ?_)
  refine ze ?_
  refine zw ?_
  refine zL Try.results49 (show _ = (.int .i64 (-1) : Value) from rfl) ?_
  refine ⟨-1, ?_, ?_, ?_, hS4⟩
  · rfl
  · decide
  · exact ⟨fun _ i hi => hm i (by omega), fun _ => by decide⟩
 ·skip
  have hc5 := of_decide_eq_true hc5
  refine zk rfl ?_
  refine zo ?_
  refine zc ?_
  refine zt ?_
  refine zc ?_
  refine za (by kernel_rfl) (fun _ => ?_)
  refine st (zb (v := .int .i64 ((k : Nat) : Int)) rfl ?_)
  refine st (zd (v := .int .i64 ((k : Nat) : Int)) rfl ?_)
  refine ze ?_
  refine zc ?_
  refine za (by kernel_rfl) (fun _ => ?_)
  refine st (zb (v := .func (.func 40) #[] #[.pointer (some ⟨bx, 0, none⟩)]) rfl ?_)
  refine st (zb (v := vB) rfl ?_)
  refine st (zb (v := .int .i64 ((k : Nat) : Int)) rfl ?_)
  have hi6 : k < B.length := (by first | omega | (simp only [lens]; omega))
  refine st (zl (k := 10) (i := k) Try.underlying22 Try.sizeOf36 rfl hB.sl rfl hi6 ?_)
  have hi8 : k < B.length := (by first | omega | (simp only [lens]; omega))
  obtain ⟨hce7, hde7_0, hoke7⟩ := hB.ev hi8
  rw [← zm default hi8] at hce7 hde7_0 hoke7
  have hsm9 : ((B.getD k default).deps).length * 8 ≤ 140737488355328 := hde7_0.small
  have hcw10 := hS4.cells hce7 (hB.foot (ne_of_lt hi8))
  refine st (zr (k := 10) Try.isAgg36 Try.sizeOf36 rfl rfl hcw10 ?_)
  refine st (zj (f := 40) (vals := [.agg ((B.getD k default).cells (zT W (sb vB) (so vB + k * 10 + 3))).toArray]) (cap := [.pointer (some ⟨bx, 0, none⟩)]) (show _ = (.func (.func 40) #[] #[.pointer (some ⟨bx, 0, none⟩)] : Value) from rfl) rfl Try.call40 (D_is (e := (B.getD k default)) (bx := bx) (e2 := e2) (d2 := d2) hde7_0 hoke7 hbx hS4) ?_)
  rintro _ w11 ⟨rfl, hS12⟩
  refine ze ?_
  cases hc13 : (yC (B.getD k default) e2)
  ·skip
   refine zi rfl ?_
   refine zo ?_
   refine za (by kernel_rfl) (fun _ => ?_)
   have hr14 : InR ((k + 1 : Nat) : Int) := by first | omega | (simp only [lens]; omega)
   refine st (zB (r := ((k + 1 : Nat) : Int)) (k := .i64) (a := ((k : Nat) : Int)) (b := 1) rfl rfl (by rw [show (((k : Nat) : Int) + 1 : Int) = ((k + 1 : Nat) : Int) by first | omega | (simp only [lens]; omega)]; exact zy hr14) ?_)
   refine st (zb (v := .int .i64 ((k + 1 : Nat) : Int)) rfl ?_)
   refine ze ?_
   exact ⟨_, by omega, k + 1, _, rfl, zh ⟨rfl, rfl, rfl, rfl, trivial⟩, by omega, (yE hm hc13), hS12⟩
  ·skip
   refine zk rfl ?_
   refine zc ?_
   refine za (by kernel_rfl) (fun _ => ?_)
   refine st (zb (v := .int .i64 ((k : Nat) : Int)) rfl ?_)
   refine st (zd (v := .int .i64 ((k : Nat) : Int)) rfl ?_)
   refine ze ?_
   refine zw ?_
   refine zL Try.results49 (show _ = (.int .i64 ((k : Nat) : Int) : Value) from rfl) ?_
   refine ⟨((k : Nat) : Int), ?_, ?_, ?_, hS12⟩
   · rfl
   · show InR ((k : Nat) : Int); omega
   · refine ⟨fun h => by omega, fun h => ?_⟩
     have h8 := h k (by omega)
     rw [hc13] at h8; cases h8

theorem KX {B : List Ev} {e : Ev} {c : Int} (h : c < 0 ↔ ∀ i, i < B.length → yC (B.getD i default) e = false) : decide (0 ≤ c) = yf B e := by
  have hn : yf B e = false ↔ ∀ i, i < B.length → yC (B.getD i default) e = false := by
    unfold yf
    rw [List.any_eq_false]
    constructor
    · intro h i hi
      rw [zm _ hi]
      simpa using h B[i] (List.getElem_mem hi)
    · intro h x hx
      obtain ⟨i, hi, rfl⟩ := List.getElem_of_mem hx
      have := h i hi
      rw [zm _ hi] at this
      simpa using this
  cases hb : yf B e
  · exact decide_eq_false (by have := h.2 (hn.1 hb); omega)
  · refine decide_eq_true ?_
    rcases Int.lt_or_le c 0 with h1 | h1
    · rw [hn.2 (h.1 h1)] at hb; cases hb
    · exact h1
theorem KR {G : Nat → Prop} {W w : World} {Rs : List HP} {vB : Value} {B : List Ev} (hB : RdS W G vB B) {bx : Nat} {e2 : Ev} {d2 : Value} (hbx : (Blk bx (e2.cells d2).toArray 36).p W G) (hS0 : Sep G W Rs w) : Ret Try.prog 39 [vB, .func (.func 40) #[] #[.pointer (some ⟨bx, 0, none⟩)]] w (fun r w' => r = (.bool ((yf B e2)) : Value) ∧ Sep G W Rs w') := by
 have hBs : _ * 96 ≤ _ := hB.small
 refine zp (args := [vB, .func (.func 40) #[] #[.pointer (some ⟨bx, 0, none⟩)]]) Try.func39 rfl rfl ?_
 refine zc ?_
 refine za (by kernel_rfl) (fun _ => ?_)
 refine st (zd (v := .bool false) rfl ?_)
 refine ze ?_
 refine zc ?_
 refine za (by kernel_rfl) (fun _ => ?_)
 refine st (zb (v := vB) rfl ?_)
 refine st (zb (v := .func (.func 40) #[] #[.pointer (some ⟨bx, 0, none⟩)]) rfl ?_)
 refine st (zj (f := 49) (vals := [vB, .func (.func 40) #[] #[.pointer (some ⟨bx, 0, none⟩)]]) (cap := []) rfl rfl Try.call49 (Kx (B := B) (vB := vB) (bx := bx) (e2 := e2) (d2 := d2) hB hbx hS0) ?_)
 rintro _ w4 ⟨c1, rfl, hc92, hcn3, hS5⟩
 refine st (xv (k := .i64) (a := c1) (b := 0) rfl rfl ?_)
 refine st (zd (v := .bool (decide (0 ≤ c1))) rfl ?_)
 refine ze ?_
 refine zw ?_
 refine zL Try.results39 (show _ = (.bool (decide (0 ≤ c1)) : Value) from rfl) ?_
 refine ⟨?_, hS5⟩
 congr 1
 exact KX hcn3

end Go.Proofs.Ytmiihhbeclhaoaa
end

section
/- Steps of the proofs of this seat: part D2. -/
set_option maxRecDepth 8000
set_option maxHeartbeats 4000000
namespace Go.Proofs.Ytmiihhbeclhaoaa
open Go.Proofs Go.RowKit

theorem JD {B : List Ev} {e : Ev} (hs : Srt B) {h : Nat} (hh : h < B.length) (hc : yt (B.getD h default) e < 0) : ∀ q, q < h + 1 → yt (B.getD q default) e < 0 := fun q hq => by
  rcases Nat.lt_or_ge q h with h1 | h1
  · refine Zt ?_ hc
    rw [zm _ (by omega), zm _ hh]
    exact List.pairwise_iff_getElem.1 hs q h (by omega) hh h1
  · obtain rfl : q = h := by omega
    exact hc
theorem Ji {B : List Ev} {e : Ev} (hs : Srt B) {h : Nat} (hh : h < B.length) (hc : ¬ yt (B.getD h default) e < 0) : ∀ q, h ≤ q → q < B.length → ¬ yt (B.getD q default) e < 0 := fun q h1 h2 h3 => by
  rcases Nat.lt_or_ge h q with h4 | h4
  · refine hc (Zt ?_ h3)
    rw [zm _ hh, zm _ h2]
    exact List.pairwise_iff_getElem.1 hs h q hh h2 h4
  · obtain rfl : q = h := by omega
    exact hc h3
def zc0 : List Value := (default : EvP).cells
theorem ZY : Ck 10 [zc0] := fun c hc => by rw [List.mem_singleton.1 hc]; rfl
theorem D_bsf {G : Nat → Prop} {W w : World} {Rs : List HP} {vB : Value} {B : List Ev} (hB : RdS W G vB B) {e : Ev} {de0 : Value} (hde0 : RdS W G de0 e.deps) (oe : e.Ok)  (hS0 : Sep G W Rs w) (hsB : Srt B) : Ret Try.prog 42 [vB, .agg (e.cells de0).toArray, .func (.func 43) #[] #[]] w (fun r w' => ∃ (ix : Nat) (fd : Bool), r = (.tuple #[.int .i64 ((ix : Nat) : Int), .bool fd] : Value) ∧ (ix ≤ B.length ∧ (∀ q, q < ix → yt (B.getD q default) e < 0) ∧ (∀ q, ix ≤ q → q < B.length → ¬ yt (B.getD q default) e < 0)) ∧ Sep G W Rs w') := by
 have hBs : _ * 96 ≤ _ := hB.small
 have hde0s : _ * 8 ≤ _ := hde0.small
 refine zp (args := [vB, .agg (e.cells de0).toArray, .func (.func 43) #[] #[]]) Try.func42 rfl rfl ?_
 refine zc ?_
 refine za (by kernel_rfl) (fun _ => ?_)
 refine st (yg (v := .agg (e.cells de0).toArray) rfl ?_)
 intro w3 b2 hn1
 have hS4 := hS0.new hn1
 refine st (zd (v := .int .i64 (0)) rfl ?_)
 refine st (zd (v := .bool false) rfl ?_)
 refine ze ?_
 refine zc ?_
 refine za (by kernel_rfl) (fun _ => ?_)
 refine st (zb (v := vB) rfl ?_)
 refine st (zJ (n := B.length) Try.underlying22 rfl hB.sl ?_)
 refine st (zd (v := .int .i64 ((B.length : Nat) : Int)) rfl ?_)
 refine ze ?_
 refine zc ?_
 refine za (by kernel_rfl) (fun _ => ?_)
 refine st (zb (v := .int .i64 ((B.length : Nat) : Int)) rfl ?_)
 refine st (zd (v := .int .i64 (0)) rfl ?_)
 refine st (zd (v := .int .i64 ((B.length : Nat) : Int)) rfl ?_)
 refine ze ?_
 refine zc ?_
 refine zt ?_
 refine zP (fun mq σ wq => ∃ (i : Nat) (j : Nat) (ρ : Env), mq = j - i ∧ σ = zQ ρ [(0, vB), (2, .func (.func 43) #[] #[]), (4, .pointer (some ⟨b2, 0, none⟩)), (8, .int .i64 ((B.length : Nat) : Int)), (9, .int .i64 ((i : Nat) : Int)), (10, .int .i64 ((j : Nat) : Int))] ∧ (i ≤ j ∧ j ≤ B.length) ∧ (∀ q, q < i → yt (B.getD q default) e < 0) ∧ (∀ q, j ≤ q → q < B.length → ¬ yt (B.getD q default) e < 0) ∧ Sep G W ((Blk b2 (e.cells de0).toArray 36) :: Rs) wq) ⟨0, B.length, _, rfl, zh ⟨rfl, rfl, rfl, rfl, rfl, rfl, trivial⟩, ⟨Nat.zero_le _, Nat.le_refl _⟩, (fun q h => absurd h (Nat.not_lt_zero q)), (fun q h1 h2 => absurd h2 (by omega)), hS4⟩ ?_
 rintro m6 σ7 w5 ⟨i, j, ρl1, rfl, rfl, hij, hlo, hhi, hS8⟩
 refine zc ?_
 refine zc ?_
 refine za (by kernel_rfl) (fun _ => ?_)
 refine st (zb (v := .int .i64 ((i : Nat) : Int)) rfl ?_)
 refine st (zb (v := .int .i64 ((j : Nat) : Int)) rfl ?_)
 refine st (zH (k := .i64) (a := ((i : Nat) : Int)) (b := ((j : Nat) : Int)) rfl rfl ?_)
 refine ze ?_
 cases hc9 : decide (((i : Nat) : Int) < ((j : Nat) : Int))
 ·skip
  have hc9 := of_decide_eq_false hc9
  refine zi rfl ?_
  refine zO ?_
  refine zF ?_
  refine zc ?_
  refine zM ((fun pp0 => WF [fun vals wq => Sep G W (pp0 :: Rs) wq, fun vals wq => (vals 11 = (if (decide (((i : Nat) : Int) < ((B.length : Nat) : Int))) = true then (.int .i64 ((yt (B.getD i default) e)) : Value) else undef)) ∧ Sep G W (pp0 :: Rs) wq]) (Blk b2 (e.cells de0).toArray 36)) (AF [Vl 0 (.int .i64 ((i : Nat) : Int)), Vl 1 (.int .i64 ((i : Nat) : Int)), Vl 2 (.int .i64 ((B.length : Nat) : Int)), Vl 3 (.bool (decide (((i : Nat) : Int) < ((B.length : Nat) : Int)))), Vl 4 (.bool (decide (((i : Nat) : Int) < ((B.length : Nat) : Int)))), Vl 5 (if (decide (((i : Nat) : Int) < ((B.length : Nat) : Int))) = true then .func (.func 43) #[] #[] else undef), Vl 6 (if (decide (((i : Nat) : Int) < ((B.length : Nat) : Int))) = true then vB else undef), Vl 7 (if (decide (((i : Nat) : Int) < ((B.length : Nat) : Int))) = true then .int .i64 ((i : Nat) : Int) else undef), Vl 8 (if (decide (((i : Nat) : Int) < ((B.length : Nat) : Int))) = true then .pointer (some ⟨sb vB, so vB + i * 10, none⟩) else undef), Vl 9 (if (decide (((i : Nat) : Int) < ((B.length : Nat) : Int))) = true then .agg ((B.getD i default).cells (zT W (sb vB) (so vB + i * 10 + 3))).toArray else undef), Vl 10 (if (decide (((i : Nat) : Int) < ((B.length : Nat) : Int))) = true then .agg (e.cells de0).toArray else undef), fun _ => True, Vl 12 (if (decide (((i : Nat) : Int) < ((B.length : Nat) : Int))) = true then .bool (decide ((yt (B.getD i default) e) = 0)) else undef), Vl 13 (.bool ((decide (((i : Nat) : Int) < ((B.length : Nat) : Int))) && (decide ((yt (B.getD i default) e) = 0)))), Vl 14 (.int .i64 ((i : Nat) : Int)), Vl 15 (.bool ((decide (((i : Nat) : Int) < ((B.length : Nat) : Int))) && (decide ((yt (B.getD i default) e) = 0))))]) [[], [], [], [1, 2], [1, 2, 3], [1, 2, 3, 4], [1, 2, 3, 4], [1, 2, 3, 4], [1, 2, 3, 4, 6, 7], [1, 2, 3, 4, 6, 7, 8], [1, 2, 3, 4], [1, 2, 3, 4, 5, 6, 7, 8, 9, 10], [1, 2, 3, 4, 5, 6, 7, 8, 9, 10, 11], [1, 2, 3, 4, 5, 6, 7, 8, 9, 10, 11, 12], [0, 1, 2, 3, 4, 5, 6, 7, 8, 9, 10, 11], [0, 1, 2, 3, 4, 5, 6, 7, 8, 9, 10, 11, 12, 13, 14]] [11] [(0, 1), (0, 0), (0, 0), (0, 0), (0, 0), (0, 0), (0, 0), (0, 0), (0, 0), (0, 0), (0, 0), (0, 0), (1, 1), (1, 1), (1, 1), (1, 1)] (by kernel_rfl) (by kernel_rfl) (by kernel_rfl) rfl (by kernel_rfl) (by kernel_rfl) (fun _ h1 h2 h3 h4 _ => hS8.same h1 h2 h3 h4) ?_ (yc ⟨dA, dA, dA, dA, dA, dA, dA, dA, dA, dA, dA, dT, dA, dA, dA, dA, trivial⟩) ⟨?_, ?_, ?_, ?_, ?_, ?_, ?_, ?_, ?_, ?_, ?_, ?_, ?_, ?_, ?_, ?_, trivial⟩ ?_
  ·intro k vals vals' w hv h
   have e : ∀ j ∈ ([11] : List Nat), vals' j = vals j := hv
   match k, h with
   | 0, h => exact h
   | 1, h => exact (by simpa only [WF, List.getElem?_cons_zero, List.getElem?_cons_succ, e 11 (by decide)] using h)
   | _ + 2, _ => trivial
  ·intro k161 vals w162 h165 h166 hW164 hA163
   refine obl rfl ?_
   exact zb (v := .int .i64 ((i : Nat) : Int)) rfl (fun vals' hv _ => ⟨rfl, hv⟩)
  ·intro k167 vals w168 h171 h172 hW170 hA169
   refine obl rfl ?_
   exact zb (v := .int .i64 ((i : Nat) : Int)) rfl (fun vals' hv _ => ⟨rfl, hv⟩)
  ·intro k173 vals w174 h177 h178 hW176 hA175
   refine obl rfl ?_
   exact zb (v := .int .i64 ((B.length : Nat) : Int)) rfl (fun vals' hv _ => ⟨rfl, hv⟩)
  ·intro k179 vals w180 h183 h184 hW182 hA181
   obtain rfl : k179 = 0 := Nat.le_antisymm h184 h183
   have hS185 : Sep _ _ _ _ := hW182
   have e186 := hA181 1 (by decide)
   have e187 := hA181 2 (by decide)
   refine obl rfl ?_
   exact zH (k := .i64) (a := ((i : Nat) : Int)) (b := ((B.length : Nat) : Int)) e186 e187 (fun vals' hv _ => ⟨rfl, hv⟩)
  ·intro k188 vals w189 h192 h193 hW191 hA190
   have e194 := hA190 3 (by decide)
   refine obl rfl ?_
   exact zb (v := .bool (decide (((i : Nat) : Int) < ((B.length : Nat) : Int)))) e194 (fun vals' hv _ => ⟨rfl, hv⟩)
  ·intro k195 vals w196 h199 h200 hW198 hA197
   have e201 := hA197 4 (by decide)
   refine yT rfl rfl e201 (fun hb202 => ?_) (fun hb202 => fun vals' hv _ => ⟨trivial, hv.trans (if_neg hb202).symm⟩)
   have hl203 := hb202
   have hl203 := of_decide_eq_true hl203
   exact zb (v := .func (.func 43) #[] #[]) rfl (fun vals' hv _ => ⟨rfl, hv.trans (if_pos hb202).symm⟩)
  ·intro k204 vals w205 h208 h209 hW207 hA206
   have e210 := hA206 4 (by decide)
   refine yT rfl rfl e210 (fun hb211 => ?_) (fun hb211 => fun vals' hv _ => ⟨trivial, hv.trans (if_neg hb211).symm⟩)
   have hl212 := hb211
   have hl212 := of_decide_eq_true hl212
   exact zb (v := vB) rfl (fun vals' hv _ => ⟨rfl, hv.trans (if_pos hb211).symm⟩)
  ·intro k213 vals w214 h217 h218 hW216 hA215
   have e219 := hA215 4 (by decide)
   refine yT rfl rfl e219 (fun hb220 => ?_) (fun hb220 => fun vals' hv _ => ⟨trivial, hv.trans (if_neg hb220).symm⟩)
   have hl221 := hb220
   have hl221 := of_decide_eq_true hl221
   exact zb (v := .int .i64 ((i : Nat) : Int)) rfl (fun vals' hv _ => ⟨rfl, hv.trans (if_pos hb220).symm⟩)
  ·intro k222 vals w223 h226 h227 hW225 hA224
   obtain rfl : k222 = 0 := Nat.le_antisymm h227 h226
   have hS228 : Sep _ _ _ _ := hW225
   have e229 := hA224 4 (by decide)
   have e230 : vals 6 = (if (decide (((i : Nat) : Int) < ((B.length : Nat) : Int))) = true then (vB : Value) else undef) := hA224 6 (by decide)
   have e231 : vals 7 = (if (decide (((i : Nat) : Int) < ((B.length : Nat) : Int))) = true then (.int .i64 ((i : Nat) : Int) : Value) else undef) := hA224 7 (by decide)
   refine yT rfl rfl e229 (fun hb232 => ?_) (fun hb232 => fun vals' hv _ => ⟨trivial, hv.trans (if_neg hb232).symm⟩)
   have hl233 := hb232
   have hl233 := of_decide_eq_true hl233
   have hi234 : i < B.length := by omega
   exact zl (k := 10) (i := i) Try.underlying22 Try.sizeOf36 (show _ = (vB : Value) from (Eq.trans e230 (if_pos hb232))) hB.sl (show _ = (.int .i64 ((i : Nat) : Int) : Value) from (Eq.trans e231 (if_pos hb232))) hi234 (fun vals' hv _ => ⟨rfl, hv.trans (if_pos hb232).symm⟩)
  ·intro k235 vals w236 h239 h240 hW238 hA237
   obtain rfl : k235 = 0 := Nat.le_antisymm h240 h239
   have hS241 : Sep _ _ _ _ := hW238
   have e242 := hA237 4 (by decide)
   have e243 : vals 8 = (if (decide (((i : Nat) : Int) < ((B.length : Nat) : Int))) = true then (.pointer (some ⟨sb vB, so vB + i * 10, none⟩) : Value) else undef) := hA237 8 (by decide)
   refine yT rfl rfl e242 (fun hb244 => ?_) (fun hb244 => fun vals' hv _ => ⟨trivial, hv.trans (if_neg hb244).symm⟩)
   have hl245 := hb244
   have hl245 := of_decide_eq_true hl245
   have hi247 : i < B.length := (by first | omega | (simp only [lens]; omega))
   obtain ⟨hce246, hde246_0, hoke246⟩ := hB.ev hi247
   rw [← zm default hi247] at hce246 hde246_0 hoke246
   have hsm248 : ((B.getD i default).deps).length * 8 ≤ 140737488355328 := hde246_0.small
   have hcw249 := hS241.cells hce246 (hB.foot (ne_of_lt hi247))
   exact zr (k := 10) Try.isAgg36 Try.sizeOf36 rfl (show _ = (.pointer (some ⟨sb vB, so vB + i * 10, none⟩) : Value) from (Eq.trans e243 (if_pos hb244))) hcw249 (fun vals' hv _ => ⟨rfl, hv.trans (if_pos hb244).symm⟩)
  ·intro k250 vals w251 h254 h255 hW253 hA252
   obtain rfl : k250 = 0 := Nat.le_antisymm h255 h254
   have hS256 : Sep _ _ _ _ := hW253
   have e257 := hA252 4 (by decide)
   refine yT rfl rfl e257 (fun hb258 => ?_) (fun hb258 => fun vals' hv _ => ⟨trivial, hv.trans (if_neg hb258).symm⟩)
   have hl259 := hb258
   have hl259 := of_decide_eq_true hl259
   exact zr (k := 10) Try.isAgg36 Try.sizeOf36 rfl rfl (CellsAt.all (hS256.blk (i := 0) rfl)) (fun vals' hv _ => ⟨rfl, hv.trans (if_pos hb258).symm⟩)
  ·intro k109 vals w110 h113 h114 hW112 hA111
   obtain rfl : k109 = 0 := Nat.le_antisymm h114 h113
   have hS115 : Sep _ _ _ _ := hW112
   have e116 := hA111 4 (by decide)
   have e117 : vals 5 = (if (decide (((i : Nat) : Int) < ((B.length : Nat) : Int))) = true then (.func (.func 43) #[] #[] : Value) else undef) := hA111 5 (by decide)
   have e118 : vals 9 = (if (decide (((i : Nat) : Int) < ((B.length : Nat) : Int))) = true then (.agg ((B.getD i default).cells (zT W (sb vB) (so vB + i * 10 + 3))).toArray : Value) else undef) := hA111 9 (by decide)
   have e119 : vals 10 = (if (decide (((i : Nat) : Int) < ((B.length : Nat) : Int))) = true then (.agg (e.cells de0).toArray : Value) else undef) := hA111 10 (by decide)
   refine yT rfl rfl e116 (fun hb120 => ?_) (fun hb120 vals' hv hv' => ?_)
   ·skip
    have hl121 := hb120
    have hl121 := of_decide_eq_true hl121
    have hi123 : i < B.length := (by first | omega | (simp only [lens]; omega))
    obtain ⟨hce122, hde122_0, hoke122⟩ := hB.ev hi123
    rw [← zm default hi123] at hce122 hde122_0 hoke122
    have hsm124 : ((B.getD i default).deps).length * 8 ≤ 140737488355328 := hde122_0.small
    have hcw125 := hS115.cells hce122 (hB.foot (ne_of_lt hi123))
    refine (zj (f := 43) (vals := [.agg ((B.getD i default).cells (zT W (sb vB) (so vB + i * 10 + 3))).toArray, .agg (e.cells de0).toArray]) (cap := []) (show _ = (.func (.func 43) #[] #[] : Value) from (Eq.trans e117 (if_pos hb120))) (xc ⟨(show _ = (.agg ((B.getD i default).cells (zT W (sb vB) (so vB + i * 10 + 3))).toArray : Value) from (Eq.trans e118 (if_pos hb120))), (show _ = (.agg (e.cells de0).toArray : Value) from (Eq.trans e119 (if_pos hb120))), trivial⟩) Try.call43 (Qf (a := (B.getD i default)) (b := e) hde122_0 hoke122 hde0 oe hS115) ?_)
    rintro _ w126 ⟨rfl, hS127⟩
    intro vals' hv hv'
    refine ⟨?_, trivial⟩
    show (vals' 11 = (if (decide (((i : Nat) : Int) < ((B.length : Nat) : Int))) = true then (.int .i64 ((yt (B.getD i default) e)) : Value) else undef)) ∧ Sep G W ((Blk b2 (e.cells de0).toArray 36) :: Rs) w126
    exact ⟨(hv.trans (if_pos hb120).symm), hS127⟩
   ·skip
    refine ⟨?_, trivial⟩
    show (vals' 11 = (if (decide (((i : Nat) : Int) < ((B.length : Nat) : Int))) = true then (.int .i64 ((yt (B.getD i default) e)) : Value) else undef)) ∧ Sep G W ((Blk b2 (e.cells de0).toArray 36) :: Rs) w110
    exact ⟨(hv.trans (if_neg hb120).symm), hS115⟩
  ·intro k260 vals w261 h264 h265 hW263 hA262
   obtain rfl : k260 = 1 := Nat.le_antisymm h265 h264
   obtain ⟨he128, hS266⟩ := hW263
   have e267 := hA262 4 (by decide)
   refine yT rfl rfl e267 (fun hb268 => ?_) (fun hb268 => fun vals' hv _ => ⟨trivial, hv.trans (if_neg hb268).symm⟩)
   have hl269 := hb268
   have hl269 := of_decide_eq_true hl269
   exact yq (k := .i64) (a := (yt (B.getD i default) e)) (b := 0) (show _ = (.int .i64 ((yt (B.getD i default) e)) : Value) from (Eq.trans he128 (if_pos hb268))) rfl (fun vals' hv _ => ⟨rfl, hv.trans (if_pos hb268).symm⟩)
  ·intro k270 vals w271 h274 h275 hW273 hA272
   have e276 := hA272 4 (by decide)
   have e277 : vals 12 = (if (decide (((i : Nat) : Int) < ((B.length : Nat) : Int))) = true then (.bool (decide ((yt (B.getD i default) e) = 0)) : Value) else undef) := hA272 12 (by decide)
   refine obl rfl ?_
   exact yp (b := decide (((i : Nat) : Int) < ((B.length : Nat) : Int))) (b' := decide ((yt (B.getD i default) e) = 0)) e276 (fun hbp => (show _ = (.bool (decide ((yt (B.getD i default) e) = 0)) : Value) from (Eq.trans e277 (if_pos hbp)))) (fun vals' hv _ => ⟨rfl, hv⟩)
  ·intro k278 vals w279 h282 h283 hW281 hA280
   have e284 := hA280 0 (by decide)
   refine obl rfl ?_
   exact zd (v := .int .i64 ((i : Nat) : Int)) e284 (fun vals' hv _ => ⟨rfl, hv⟩)
  ·intro k285 vals w286 h289 h290 hW288 hA287
   have e291 := hA287 13 (by decide)
   refine obl rfl ?_
   exact zd (v := .bool ((decide (((i : Nat) : Int) < ((B.length : Nat) : Int))) && (decide ((yt (B.getD i default) e) = 0)))) e291 (fun vals' hv _ => ⟨rfl, hv⟩)
  intro vals w292 hW293 hA294
  obtain ⟨he128, hS295⟩ := hW293
  have e296 := hA294 14 (by decide)
  have e297 := hA294 15 (by decide)
  refine yb (kv := [(0, vB), (2, .func (.func 43) #[] #[]), (4, .pointer (some ⟨b2, 0, none⟩)), (8, .int .i64 ((B.length : Nat) : Int)), (9, .int .i64 ((i : Nat) : Int)), (10, .int .i64 ((j : Nat) : Int)), (15, .int .i64 ((i : Nat) : Int)), (16, .int .i64 ((j : Nat) : Int)), (17, .bool false), (6, .int .i64 ((i : Nat) : Int)), (7, .bool ((decide (((i : Nat) : Int) < ((B.length : Nat) : Int))) && (decide ((yt (B.getD i default) e) = 0))))]) ⟨rfl, rfl, rfl, rfl, rfl, rfl, rfl, rfl, rfl, (by exact e296), (by exact e297), trivial⟩ (fun ρw292 => ?_)
  refine ze ?_
  refine zw ?_
  refine fin2 Try.results42 (show _ = (.int .i64 ((i : Nat) : Int) : Value) from rfl) (show _ = (.bool ((decide (((i : Nat) : Int) < ((B.length : Nat) : Int))) && (decide ((yt (B.getD i default) e) = 0))) : Value) from rfl) ?_
  have hS298 : Sep G W Rs w292 := hS295.sel 1 [] (Nat.le_add_left _ _) rfl rfl
  refine ⟨i, (decide (((i : Nat) : Int) < ((B.length : Nat) : Int))) && (decide ((yt (B.getD i default) e) = 0)), rfl, ?_, hS298⟩
  have hij2 : i = j := by omega
  subst hij2
  exact ⟨hij.2, hlo, hhi⟩
 ·skip
  have hc9 := of_decide_eq_true hc9
  refine zk rfl ?_
  refine zo ?_
  refine zt ?_
  refine zc ?_
  refine za (by kernel_rfl) (fun _ => ?_)
  refine st (zb (v := .int .i64 ((i : Nat) : Int)) rfl ?_)
  refine st (zb (v := .int .i64 ((j : Nat) : Int)) rfl ?_)
  have hr299 : InR ((i + j : Nat) : Int) := by first | omega | (simp only [lens]; omega)
  refine st (zB (r := ((i + j : Nat) : Int)) (k := .i64) (a := ((i : Nat) : Int)) (b := ((j : Nat) : Int)) rfl rfl (by rw [show (((i : Nat) : Int) + ((j : Nat) : Int) : Int) = ((i + j : Nat) : Int) by first | omega | (simp only [lens]; omega)]; exact zy hr299) ?_)
  refine st (Qt (k := .i64) (k2 := .u64) (a := ((i + j : Nat) : Int)) (r := ((i + j : Nat) : Int)) (by rw [Try.underlying3]; rfl) Try.underlying84 rfl (Qc ⟨by omega, by omega⟩) ?_)
  refine st (JA (k := .u64) (yk := .u64) (a := ((i + j : Nat) : Int)) (b := 1) (r := (((i + j) / 2 : Nat) : Int)) rfl rfl (by decide) (by decide) (by show ((i + j : Nat) : Int) / (2 : Int) ^ (1 : Nat) = (((i + j) / 2 : Nat) : Int); omega) ?_)
  refine st (Qt (k := .u64) (k2 := .i64) (a := (((i + j) / 2 : Nat) : Int)) (r := (((i + j) / 2 : Nat) : Int)) (by rw [Try.underlying84]; rfl) Try.underlying3 rfl (zy (by omega)) ?_)
  refine st (zd (v := .int .i64 ((((i + j) / 2 : Nat) : Int))) rfl ?_)
  refine ze ?_
  refine zc ?_
  refine zM ((fun pp0 => WF [fun vals wq => Sep G W (pp0 :: Rs) wq, fun vals wq => (vals 6 = (.int .i64 ((yt (B.getD ((i + j) / 2) default) e)) : Value)) ∧ Sep G W (pp0 :: Rs) wq]) (Blk b2 (e.cells de0).toArray 36)) (AF [Vl 0 (.func (.func 43) #[] #[]), Vl 1 (vB), Vl 2 (.int .i64 ((((i + j) / 2 : Nat) : Int))), Vl 3 (.pointer (some ⟨sb vB, so vB + ((i + j) / 2) * 10, none⟩)), Vl 4 (.agg ((B.getD ((i + j) / 2) default).cells (zT W (sb vB) (so vB + ((i + j) / 2) * 10 + 3))).toArray), Vl 5 (.agg (e.cells de0).toArray), fun _ => True, Vl 7 (.bool (decide ((yt (B.getD ((i + j) / 2) default) e) < 0)))]) [[], [], [], [1, 2], [1, 2, 3], [], [0, 1, 2, 3, 4, 5], [0, 1, 2, 3, 4, 5, 6]] [6] [(0, 0), (0, 0), (0, 0), (0, 0), (0, 0), (0, 0), (0, 0), (1, 1)] (by kernel_rfl) (by kernel_rfl) (by kernel_rfl) rfl (by kernel_rfl) (by kernel_rfl) (fun _ h1 h2 h3 h4 _ => hS8.same h1 h2 h3 h4) ?_ (yc ⟨dA, dA, dA, dA, dA, dA, dT, dA, trivial⟩) ⟨?_, ?_, ?_, ?_, ?_, ?_, ?_, ?_, trivial⟩ ?_
  ·intro k vals vals' w hv h
   have e : ∀ j ∈ ([6] : List Nat), vals' j = vals j := hv
   match k, h with
   | 0, h => exact h
   | 1, h => exact (by simpa only [WF, List.getElem?_cons_zero, List.getElem?_cons_succ, e 6 (by decide)] using h)
   | _ + 2, _ => trivial
  ·intro k371 vals w372 h375 h376 hW374 hA373
   refine obl rfl ?_
   exact zb (v := .func (.func 43) #[] #[]) rfl (fun vals' hv _ => ⟨rfl, hv⟩)
  ·intro k377 vals w378 h381 h382 hW380 hA379
   refine obl rfl ?_
   exact zb (v := vB) rfl (fun vals' hv _ => ⟨rfl, hv⟩)
  ·intro k383 vals w384 h387 h388 hW386 hA385
   refine obl rfl ?_
   exact zb (v := .int .i64 ((((i + j) / 2 : Nat) : Int))) rfl (fun vals' hv _ => ⟨rfl, hv⟩)
  ·intro k389 vals w390 h393 h394 hW392 hA391
   obtain rfl : k389 = 0 := Nat.le_antisymm h394 h393
   have hS395 : Sep _ _ _ _ := hW392
   have e396 := hA391 1 (by decide)
   have e397 := hA391 2 (by decide)
   refine obl rfl ?_
   have hi398 : (i + j) / 2 < B.length := by omega
   exact zl (k := 10) (i := (i + j) / 2) Try.underlying22 Try.sizeOf36 e396 hB.sl e397 hi398 (fun vals' hv _ => ⟨rfl, hv⟩)
  ·intro k399 vals w400 h403 h404 hW402 hA401
   obtain rfl : k399 = 0 := Nat.le_antisymm h404 h403
   have hS405 : Sep _ _ _ _ := hW402
   have e406 := hA401 3 (by decide)
   refine obl rfl ?_
   have hi408 : (i + j) / 2 < B.length := (by first | omega | (simp only [lens]; omega))
   obtain ⟨hce407, hde407_0, hoke407⟩ := hB.ev hi408
   rw [← zm default hi408] at hce407 hde407_0 hoke407
   have hsm409 : ((B.getD ((i + j) / 2) default).deps).length * 8 ≤ 140737488355328 := hde407_0.small
   have hcw410 := hS405.cells hce407 (hB.foot (ne_of_lt hi408))
   exact zr (k := 10) Try.isAgg36 Try.sizeOf36 rfl e406 hcw410 (fun vals' hv _ => ⟨rfl, hv⟩)
  ·intro k411 vals w412 h415 h416 hW414 hA413
   obtain rfl : k411 = 0 := Nat.le_antisymm h416 h415
   have hS417 : Sep _ _ _ _ := hW414
   refine obl rfl ?_
   exact zr (k := 10) Try.isAgg36 Try.sizeOf36 rfl rfl (CellsAt.all (hS417.blk (i := 0) rfl)) (fun vals' hv _ => ⟨rfl, hv⟩)
  ·intro k347 vals w348 h351 h352 hW350 hA349
   obtain rfl : k347 = 0 := Nat.le_antisymm h352 h351
   have hS353 : Sep _ _ _ _ := hW350
   have e354 := hA349 0 (by decide)
   have e355 := hA349 4 (by decide)
   have e356 := hA349 5 (by decide)
   refine obl rfl ?_
   have hi358 : (i + j) / 2 < B.length := (by first | omega | (simp only [lens]; omega))
   obtain ⟨hce357, hde357_0, hoke357⟩ := hB.ev hi358
   rw [← zm default hi358] at hce357 hde357_0 hoke357
   have hsm359 : ((B.getD ((i + j) / 2) default).deps).length * 8 ≤ 140737488355328 := hde357_0.small
   have hcw360 := hS353.cells hce357 (hB.foot (ne_of_lt hi358))
   refine (zj (f := 43) (vals := [.agg ((B.getD ((i + j) / 2) default).cells (zT W (sb vB) (so vB + ((i + j) / 2) * 10 + 3))).toArray, .agg (e.cells de0).toArray]) (cap := []) (show _ = (.func (.func 43) #[] #[] : Value) from e354) (xc ⟨e355, e356, trivial⟩) Try.call43 (Qf (a := (B.getD ((i + j) / 2) default)) (b := e) hde357_0 hoke357 hde0 oe hS353) ?_)
   rintro _ w361 ⟨rfl, hS362⟩
   intro vals' hv hv'
   refine ⟨?_, trivial⟩
   show (vals' 6 = (.int .i64 ((yt (B.getD ((i + j) / 2) default) e)) : Value)) ∧ Sep G W ((Blk b2 (e.cells de0).toArray 36) :: Rs) w361
   exact ⟨hv, hS362⟩
  ·intro k418 vals w419 h422 h423 hW421 hA420
   obtain rfl : k418 = 1 := Nat.le_antisymm h423 h422
   obtain ⟨he363, hS424⟩ := hW421
   refine obl rfl ?_
   exact zH (k := .i64) (a := (yt (B.getD ((i + j) / 2) default) e)) (b := 0) he363 rfl (fun vals' hv _ => ⟨rfl, hv⟩)
  intro vals w425 hW426 hA427
  obtain ⟨he363, hS428⟩ := hW426
  have e429 := hA427 7 (by decide)
  refine yb (kv := [(0, vB), (2, .func (.func 43) #[] #[]), (4, .pointer (some ⟨b2, 0, none⟩)), (8, .int .i64 ((B.length : Nat) : Int)), (9, .int .i64 ((i : Nat) : Int)), (10, .int .i64 ((j : Nat) : Int)), (15, .int .i64 ((i : Nat) : Int)), (16, .int .i64 ((j : Nat) : Int)), (17, .bool true), (18, .int .i64 ((i : Nat) : Int)), (19, .int .i64 ((j : Nat) : Int)), (20, .int .i64 ((i + j : Nat) : Int)), (21, .int .u64 (((i + j : Nat) : Int))), (22, .int .u64 (((i + j) / 2 : Nat) : Int)), (23, .int .i64 ((((i + j) / 2 : Nat) : Int))), (11, .int .i64 ((((i + j) / 2 : Nat) : Int))), (31, .bool (decide ((yt (B.getD ((i + j) / 2) default) e) < 0)))]) ⟨rfl, rfl, rfl, rfl, rfl, rfl, rfl, rfl, rfl, rfl, rfl, rfl, rfl, rfl, rfl, rfl, (by exact e429), trivial⟩ (fun ρw425 => ?_)
  refine ze ?_
  cases hc430 : decide ((yt (B.getD ((i + j) / 2) default) e) < 0)
  ·skip
   have hc430 := of_decide_eq_false hc430
   refine zi rfl ?_
   refine za (by kernel_rfl) (fun _ => ?_)
   refine st (zb (v := .int .i64 ((((i + j) / 2 : Nat) : Int))) rfl ?_)
   refine st (zd (v := .int .i64 ((((i + j) / 2 : Nat) : Int))) rfl ?_)
   refine ze ?_
   exact ⟨_, by omega, i, (i + j) / 2, _, rfl, zh ⟨rfl, rfl, rfl, rfl, rfl, rfl, trivial⟩, by omega, hlo, (Ji hsB (by omega) hc430), hS428⟩
  ·skip
   have hc430 := of_decide_eq_true hc430
   refine zk rfl ?_
   refine za (by kernel_rfl) (fun _ => ?_)
   refine st (zb (v := .int .i64 ((((i + j) / 2 : Nat) : Int))) rfl ?_)
   have hr431 : InR (((i + j) / 2 + 1 : Nat) : Int) := by first | omega | (simp only [lens]; omega)
   refine st (zB (r := (((i + j) / 2 + 1 : Nat) : Int)) (k := .i64) (a := (((i + j) / 2 : Nat) : Int)) (b := 1) rfl rfl (by rw [show ((((i + j) / 2 : Nat) : Int) + 1 : Int) = (((i + j) / 2 + 1 : Nat) : Int) by first | omega | (simp only [lens]; omega)]; exact zy hr431) ?_)
   refine st (zd (v := .int .i64 (((i + j) / 2 + 1 : Nat) : Int)) rfl ?_)
   refine ze ?_
   exact ⟨_, by omega, (i + j) / 2 + 1, j, _, rfl, zh ⟨rfl, rfl, rfl, rfl, rfl, rfl, trivial⟩, by omega, (JD hsB (by omega) hc430), hhi, hS428⟩

end Go.Proofs.Ytmiihhbeclhaoaa
end

section
/- Steps of the proofs of this seat: part D3. -/
set_option maxRecDepth 8000
set_option maxHeartbeats 4000000
namespace Go.Proofs.Ytmiihhbeclhaoaa
open Go.Proofs Go.RowKit

theorem Qz {G : Nat → Prop} {W w : World} {Rs : List HP} {g n cap : Nat} {CS : List (List Value)} (hCS : Ck 10 CS) (hln : CS.length = cap) (hnc : n ≤ cap) (hcm : cap ≤ maxLen) (hone : One (CS.take n)) (hbig : (n + 1) * 96 ≤ 140737488355328) {i : Nat} (hi : i < n) {bv : Nat} {cv : Array Value} (hcv : cv.size = 10) (hcv1 : ∀ u ∈ cv.toList, u.oneCell' = true) (hS0 : Sep G W ((CkB g CS 36) :: (Blk bv cv 36) :: Rs) w) : Ret Try.prog 44 [(.slice (some ⟨g, 0, none⟩) n cap), .int .i64 ((i : Nat) : Int), (.slice (some ⟨bv, 0, none⟩) 1 1)] w (fun r w' => ∃ (g2 : Nat) (c2 : Nat) (CS2 : List (List Value)), r = ((.slice (some ⟨g2, 0, none⟩) (n + 1) c2) : Value) ∧ (Ck 10 CS2) ∧ (CS2.length = c2) ∧ (n + 1 ≤ c2) ∧ (c2 ≤ maxLen) ∧ (CS2.take (n + 1) = CS.take i ++ [cv.toList] ++ (CS.drop i).take (n - i)) ∧ Sep G W ((CkB g2 CS2 36) :: Rs) w') := by
 refine zp (args := [(.slice (some ⟨g, 0, none⟩) n cap), .int .i64 ((i : Nat) : Int), (.slice (some ⟨bv, 0, none⟩) 1 1)]) Try.func44 rfl rfl ?_
 refine zc ?_
 refine za (by kernel_rfl) (fun _ => ?_)
 refine st (zd (v := (.slice none 0 0)) rfl ?_)
 refine ze ?_
 refine zc ?_
 refine za (by kernel_rfl) (fun _ => ?_)
 refine st (zb (v := (.slice (some ⟨g, 0, none⟩) n cap)) rfl ?_)
 refine st (zb (v := .int .i64 ((i : Nat) : Int)) rfl ?_)
 refine st (yu (k := 10) (g := g) (n := n) (c := cap) (i := i) (j := n) Try.underlying22 Try.sizeOf36 rfl (show _ = (.int .i64 ((i : Nat) : Int) : Value) from rfl) rfl (by omega) (by omega) (by omega) ?_)
 refine ze ?_
 refine zc ?_
 refine za (by kernel_rfl) (fun _ => ?_)
 refine st (zb (v := (.slice (some ⟨bv, 0, none⟩) 1 1)) rfl ?_)
 refine st (zJ (n := 1) Try.underlying22 rfl (⟨_, 1, rfl, Nat.le_refl _, fun _ => ⟨_, _, rfl⟩⟩ : IsSl _ 1) ?_)
 refine st (zd (v := .int .i64 ((1 : Nat) : Int)) rfl ?_)
 refine ze ?_
 refine zc ?_
 refine zc ?_
 refine za (by kernel_rfl) (fun _ => ?_)
 refine st (zb (v := .int .i64 ((1 : Nat) : Int)) rfl ?_)
 have hkn1 : (decide (((1 : Nat) : Int) = 0)) = false := by decide
 refine st (ZE (congrArg Value.bool hkn1) (fun K9 h9 => yq (k := .i64) (a := ((1 : Nat) : Int)) (b := 0) rfl rfl h9) ?_)
 refine ze ?_
 refine zi rfl ?_
 refine zo ?_
 refine zc ?_
 refine za (by kernel_rfl) (fun _ => ?_)
 refine st (zb (v := (.slice (some ⟨g, 0, none⟩) n cap)) rfl ?_)
 refine st (zJ (n := n) Try.underlying22 rfl (⟨_, cap, rfl, (by omega), fun _ => ⟨_, _, rfl⟩⟩ : IsSl _ (n)) ?_)
 refine st (zd (v := .int .i64 ((n : Nat) : Int)) rfl ?_)
 refine ze ?_
 refine zc ?_
 refine zc ?_
 refine za (by kernel_rfl) (fun _ => ?_)
 refine st (zb (v := .int .i64 ((i : Nat) : Int)) rfl ?_)
 refine st (zb (v := .int .i64 ((n : Nat) : Int)) rfl ?_)
 have hkn2 : (decide (((i : Nat) : Int) = ((n : Nat) : Int))) = false := decide_eq_false (by omega)
 refine st (ZE (congrArg Value.bool hkn2) (fun K9 h9 => yq (k := .i64) (a := ((i : Nat) : Int)) (b := ((n : Nat) : Int)) rfl rfl h9) ?_)
 refine ze ?_
 refine zi rfl ?_
 refine zo ?_
 refine zc ?_
 refine zc ?_
 refine za (by kernel_rfl) (fun _ => ?_)
 refine st (zb (v := .int .i64 ((n : Nat) : Int)) rfl ?_)
 refine st (zb (v := .int .i64 ((1 : Nat) : Int)) rfl ?_)
 have hr3 : InR ((n + 1 : Nat) : Int) := by first | omega | (simp only [lens]; omega)
 refine st (zB (r := ((n + 1 : Nat) : Int)) (k := .i64) (a := ((n : Nat) : Int)) (b := ((1 : Nat) : Int)) rfl rfl (by rw [show (((n : Nat) : Int) + ((1 : Nat) : Int) : Int) = ((n + 1 : Nat) : Int) by first | omega | (simp only [lens]; omega)]; exact zy hr3) ?_)
 refine st (zb (v := (.slice (some ⟨g, 0, none⟩) n cap)) rfl ?_)
 refine st (JG (c := cap) Try.underlying22 rfl ?_)
 refine st (xC (k := .i64) (a := ((n + 1 : Nat) : Int)) (b := ((cap : Nat) : Int)) rfl rfl ?_)
 refine ze ?_
 cases hc4 : decide (((cap : Nat) : Int) < ((n + 1 : Nat) : Int))
 ·skip
  have hc4r := hc4
  have hc4 := of_decide_eq_false hc4
  refine zi rfl ?_
  refine zo ?_
  refine zc ?_
  refine za (by kernel_rfl) (fun _ => ?_)
  refine st (zb (v := (.slice (some ⟨g, 0, none⟩) n cap)) rfl ?_)
  refine st (zb (v := .int .i64 ((n : Nat) : Int)) rfl ?_)
  refine st (zb (v := .int .i64 ((1 : Nat) : Int)) rfl ?_)
  have hr5 : InR ((n + 1 : Nat) : Int) := by first | omega | (simp only [lens]; omega)
  refine st (zB (r := ((n + 1 : Nat) : Int)) (k := .i64) (a := ((n : Nat) : Int)) (b := ((1 : Nat) : Int)) rfl rfl (by rw [show (((n : Nat) : Int) + ((1 : Nat) : Int) : Int) = ((n + 1 : Nat) : Int) by first | omega | (simp only [lens]; omega)]; exact zy hr5) ?_)
  refine st (yu (k := 10) (g := g) (n := n) (c := cap) (i := 0) (j := n + 1) Try.underlying22 Try.sizeOf36 rfl rfl (show _ = (.int .i64 ((n + 1 : Nat) : Int) : Value) from rfl) (by omega) (by omega) (by omega) ?_)
  refine st (zd (v := (.slice (some ⟨g, 0, none⟩) (n + 1) cap)) rfl ?_)
  refine ze ?_
  refine zc ?_
  refine zc ?_
  refine za (by kernel_rfl) (fun _ => ?_)
  refine st (zb (v := (.slice (some ⟨bv, 0, none⟩) 1 1)) rfl ?_)
  refine st (zb (v := (.slice (some ⟨g, 0, none⟩) (n + 1) cap)) rfl ?_)
  refine st (zb (v := .int .i64 ((i : Nat) : Int)) rfl ?_)
  refine st (zb (v := .int .i64 ((1 : Nat) : Int)) rfl ?_)
  have hr6 : InR ((i + 1 : Nat) : Int) := by first | omega | (simp only [lens]; omega)
  refine st (zB (r := ((i + 1 : Nat) : Int)) (k := .i64) (a := ((i : Nat) : Int)) (b := ((1 : Nat) : Int)) rfl rfl (by rw [show (((i : Nat) : Int) + ((1 : Nat) : Int) : Int) = ((i + 1 : Nat) : Int) by first | omega | (simp only [lens]; omega)]; exact zy hr6) ?_)
  refine st (yu (k := 10) (g := g) (n := n + 1) (c := cap) (i := i + 1) (j := n + 1) Try.underlying22 Try.sizeOf36 rfl (show _ = (.int .i64 ((i + 1 : Nat) : Int) : Value) from rfl) rfl (by omega) (by omega) (by omega) ?_)
  refine st (WB (k := 10) (g := g) (CS := CS) (o := i + 1) (t := 22) (tR := 4) Try.func67 (by kernel_rfl) (by kernel_rfl) (by kernel_rfl) (by kernel_rfl) Try.underlying22 Try.sizeOf36 hS0 hCS (by rw [hln]; omega) (by decide) rfl rfl rfl ?_)
  refine st (yA (a := false) rfl ?_)
  refine ze ?_
  refine zk rfl ?_
  refine zc ?_
  refine zM ((fun TT => WF [fun vals wq => Sep G W ((CkB g CS 36) :: TT) wq, fun vals wq => (vals 8 = (.int .i64 (((((CS.drop i).take (n - i)) : List (List Value)).length : Int)) : Value)) ∧ Sep G W ((CkB g (spl CS (i + 1) ((CS.drop i).take (n - i))) 36) :: TT) wq]) ((Blk bv cv 36) :: Rs)) (AF [Vl 0 ((.slice (some ⟨g, 0, none⟩) (n + 1) cap)), Vl 1 (.int .i64 ((i : Nat) : Int)), Vl 2 (.int .i64 ((1 : Nat) : Int)), Vl 3 (.int .i64 ((i + 1 : Nat) : Int)), Vl 4 ((.slice (some ⟨g, (i + 1) * 10, none⟩) (n + 1 - (i + 1)) (cap - (i + 1)))), Vl 5 ((.slice (some ⟨g, 0, none⟩) (n + 1) cap)), Vl 6 (.int .i64 ((i : Nat) : Int)), Vl 7 ((.slice (some ⟨g, i * 10, none⟩) (n + 1 - i) (cap - i))), fun _ => True]) [[], [], [], [1, 2], [0, 1, 2, 3], [], [], [5, 6], [0, 1, 2, 3, 4, 5, 6, 7]] [8] [(0, 0), (0, 0), (0, 0), (0, 0), (0, 0), (0, 0), (0, 0), (0, 0), (0, 0)] (by kernel_rfl) (by kernel_rfl) (by kernel_rfl) rfl (by kernel_rfl) (by kernel_rfl) (fun _ h1 h2 h3 h4 _ => hS0.same h1 h2 h3 h4) ?_ (yc ⟨dA, dA, dA, dA, dA, dA, dA, dA, dT, trivial⟩) ⟨?_, ?_, ?_, ?_, ?_, ?_, ?_, ?_, ?_, trivial⟩ ?_
  ·intro k vals vals' w hv h
   have e : ∀ j ∈ ([8] : List Nat), vals' j = vals j := hv
   match k, h with
   | 0, h => exact h
   | 1, h => exact (by simpa only [WF, List.getElem?_cons_zero, List.getElem?_cons_succ, e 8 (by decide)] using h)
   | _ + 2, _ => trivial
  ·intro k77 vals w78 h81 h82 hW80 hA79
   refine obl rfl ?_
   exact zb (v := (.slice (some ⟨g, 0, none⟩) (n + 1) cap)) rfl (fun vals' hv _ => ⟨rfl, hv⟩)
  ·intro k83 vals w84 h87 h88 hW86 hA85
   refine obl rfl ?_
   exact zb (v := .int .i64 ((i : Nat) : Int)) rfl (fun vals' hv _ => ⟨rfl, hv⟩)
  ·intro k89 vals w90 h93 h94 hW92 hA91
   refine obl rfl ?_
   exact zb (v := .int .i64 ((1 : Nat) : Int)) rfl (fun vals' hv _ => ⟨rfl, hv⟩)
  ·intro k95 vals w96 h99 h100 hW98 hA97
   obtain rfl : k95 = 0 := Nat.le_antisymm h100 h99
   have hS101 : Sep _ _ _ _ := hW98
   have e102 := hA97 1 (by decide)
   have e103 := hA97 2 (by decide)
   refine obl rfl ?_
   have hr104 : InR ((i + 1 : Nat) : Int) := by first | omega | (simp only [lens]; omega)
   exact zB (r := ((i + 1 : Nat) : Int)) (k := .i64) (a := ((i : Nat) : Int)) (b := ((1 : Nat) : Int)) e102 e103 (by rw [show (((i : Nat) : Int) + ((1 : Nat) : Int) : Int) = ((i + 1 : Nat) : Int) by first | omega | (simp only [lens]; omega)]; exact zy hr104) (fun vals' hv _ => ⟨rfl, hv⟩)
  ·intro k105 vals w106 h109 h110 hW108 hA107
   obtain rfl : k105 = 0 := Nat.le_antisymm h110 h109
   have hS111 : Sep _ _ _ _ := hW108
   have e112 := hA107 0 (by decide)
   have e113 := hA107 3 (by decide)
   refine obl rfl ?_
   exact yu (k := 10) (g := g) (n := n + 1) (c := cap) (i := i + 1) (j := n + 1) Try.underlying22 Try.sizeOf36 e112 (show _ = (.int .i64 ((i + 1 : Nat) : Int) : Value) from e113) rfl (by omega) (by omega) (by omega) (fun vals' hv _ => ⟨rfl, hv⟩)
  ·intro k114 vals w115 h118 h119 hW117 hA116
   refine obl rfl ?_
   exact zb (v := (.slice (some ⟨g, 0, none⟩) (n + 1) cap)) rfl (fun vals' hv _ => ⟨rfl, hv⟩)
  ·intro k120 vals w121 h124 h125 hW123 hA122
   refine obl rfl ?_
   exact zb (v := .int .i64 ((i : Nat) : Int)) rfl (fun vals' hv _ => ⟨rfl, hv⟩)
  ·intro k126 vals w127 h130 h131 hW129 hA128
   obtain rfl : k126 = 0 := Nat.le_antisymm h131 h130
   have hS132 : Sep _ _ _ _ := hW129
   have e133 := hA128 5 (by decide)
   have e134 := hA128 6 (by decide)
   refine obl rfl ?_
   exact yu (k := 10) (g := g) (n := n + 1) (c := cap) (i := i) (j := n + 1) Try.underlying22 Try.sizeOf36 e133 (show _ = (.int .i64 ((i : Nat) : Int) : Value) from e134) rfl (by omega) (by omega) (by omega) (fun vals' hv _ => ⟨rfl, hv⟩)
  ·intro k65 vals w66 h69 h70 hW68 hA67
   obtain rfl : k65 = 0 := Nat.le_antisymm h70 h69
   have hS71 : Sep _ _ _ _ := hW68
   have e72 := hA67 4 (by decide)
   have e73 := hA67 7 (by decide)
   refine obl rfl ?_
   refine (ZD (k := 10) (g := g) (CS := CS) (S := ((CS.drop i).take (n - i))) (o := i + 1) (o2 := i * 10) (dn := (n + 1 - (i + 1))) (dc := (cap - (i + 1))) (sn := (n + 1 - i)) (sc := (cap - i)) Try.underlying22 rfl hS71 hCS (Ck.take (Ck.drop hCS)) (Wj hone) e72 e73 (VK hS71 (q := 0) rfl hCS) (by have hcn9 : ((CS.drop i).take (n - i)).length = (n - i) := (by rw [List.length_take, List.length_drop]; omega); rw [hcn9]; show _ = min _ _; omega) (by have hcn9 : ((CS.drop i).take (n - i)).length = (n - i) := (by rw [List.length_take, List.length_drop]; omega); rw [hcn9, hln]; omega) ?_)
   intro w74 hS75
   intro vals' hv hv'
   refine ⟨?_, trivial⟩
   show (vals' 8 = (.int .i64 (((((CS.drop i).take (n - i)) : List (List Value)).length : Int)) : Value)) ∧ Sep G W ((CkB g (spl CS (i + 1) ((CS.drop i).take (n - i))) 36) :: (Blk bv cv 36) :: Rs) w74
   exact ⟨hv, hS75⟩
  intro vals w135 hW136 hA137
  obtain ⟨he76, hS138⟩ := hW136
  refine yb (kv := [(0, (.slice (some ⟨g, 0, none⟩) (n + 1) cap)), (1, .int .i64 ((i : Nat) : Int)), (2, (.slice (some ⟨bv, 0, none⟩) 1 1)), (6, (.slice none 0 0)), (10, (.slice (some ⟨g, 0, none⟩) n cap)), (11, .int .i64 ((i : Nat) : Int)), (12, (.slice (some ⟨g, i * 10, none⟩) (n - i) (cap - i))), (13, (.slice (some ⟨bv, 0, none⟩) 1 1)), (14, .int .i64 ((1 : Nat) : Int)), (7, .int .i64 ((1 : Nat) : Int)), (15, .int .i64 ((1 : Nat) : Int)), (16, .bool false), (18, (.slice (some ⟨g, 0, none⟩) n cap)), (19, .int .i64 ((n : Nat) : Int)), (8, .int .i64 ((n : Nat) : Int)), (20, .int .i64 ((i : Nat) : Int)), (21, .int .i64 ((n : Nat) : Int)), (22, .bool false), (26, .int .i64 ((n : Nat) : Int)), (27, .int .i64 ((1 : Nat) : Int)), (28, .int .i64 ((n + 1 : Nat) : Int)), (29, (.slice (some ⟨g, 0, none⟩) n cap)), (30, .int .i64 ((cap : Nat) : Int)), (31, .bool false), (56, (.slice (some ⟨g, 0, none⟩) n cap)), (57, .int .i64 ((n : Nat) : Int)), (58, .int .i64 ((1 : Nat) : Int)), (59, .int .i64 ((n + 1 : Nat) : Int)), (60, (.slice (some ⟨g, 0, none⟩) (n + 1) cap)), (61, (.slice (some ⟨bv, 0, none⟩) 1 1)), (62, (.slice (some ⟨g, 0, none⟩) (n + 1) cap)), (63, .int .i64 ((i : Nat) : Int)), (64, .int .i64 ((1 : Nat) : Int)), (65, .int .i64 ((i + 1 : Nat) : Int)), (66, (.slice (some ⟨g, (i + 1) * 10, none⟩) (n + 1 - (i + 1)) (cap - (i + 1)))), (67, .bool false), (68, .bool true)]) ⟨rfl, rfl, rfl, rfl, rfl, rfl, rfl, rfl, rfl, rfl, rfl, rfl, rfl, rfl, rfl, rfl, rfl, rfl, rfl, rfl, rfl, rfl, rfl, rfl, rfl, rfl, rfl, rfl, rfl, rfl, rfl, rfl, rfl, rfl, rfl, rfl, rfl, trivial⟩ (fun ρw135 => ?_)
  refine ze ?_
  refine zc ?_
  refine za (by kernel_rfl) (fun _ => ?_)
  refine st (zb (v := (.slice (some ⟨g, 0, none⟩) (n + 1) cap)) rfl ?_)
  refine st (zb (v := .int .i64 ((i : Nat) : Int)) rfl ?_)
  refine st (yu (k := 10) (g := g) (n := n + 1) (c := cap) (i := i) (j := n + 1) Try.underlying22 Try.sizeOf36 rfl (show _ = (.int .i64 ((i : Nat) : Int) : Value) from rfl) rfl (by omega) (by omega) (by omega) ?_)
  refine st (zb (v := (.slice (some ⟨bv, 0, none⟩) 1 1)) rfl ?_)
  have hbk141 := hS138.blk (i := 1) rfl
  refine st (ZD (k := 10) (g := g) (CS := (spl CS (i + 1) ((CS.drop i).take (n - i)))) (S := [cv.toList]) (o := i) (o2 := 0) (dn := (n + 1 - i)) (dc := (cap - i)) (sn := 1) (sc := 1) Try.underlying22 rfl hS138 (Ck.spl (CS := CS) (A := ((CS.drop i).take (n - i))) (o := (i + 1)) hCS (Ck.take (Ck.drop hCS))) (fun c hc => by rw [List.mem_singleton.1 hc]; simpa using hcv) (fun u hu => hcv1 u (by simpa using hu)) rfl rfl (VW hbk141) (by show 1 = min _ _; omega) (by rw [((yL (l := CS) (S := ((CS.drop i).take (n - i))) (o := (i + 1)) (by have hcn9 : ((CS.drop i).take (n - i)).length = (n - i) := (by rw [List.length_take, List.length_drop]; omega); rw [hcn9, hln]; omega)).trans hln)]; show i + 1 ≤ _; omega) ?_)
  intro w139 hS140
  refine ze ?_
  refine zc ?_
  refine za (by kernel_rfl) (fun _ => ?_)
  refine st (zb (v := (.slice (some ⟨g, 0, none⟩) (n + 1) cap)) rfl ?_)
  refine st (zd (v := (.slice (some ⟨g, 0, none⟩) (n + 1) cap)) rfl ?_)
  refine ze ?_
  refine zw ?_
  refine zL Try.results44 (show _ = ((.slice (some ⟨g, 0, none⟩) (n + 1) cap) : Value) from rfl) ?_
  have hS142 : Sep G W ((CkB g (spl (spl CS (i + 1) ((CS.drop i).take (n - i))) i [cv.toList]) 36) :: Rs) w139 := hS140.sel 2 [0] (Nat.le_add_left _ _) rfl rfl
  refine ⟨g, cap, (spl (spl CS (i + 1) ((CS.drop i).take (n - i))) i [cv.toList]), ?_, ?_, ?_, ?_, ?_, ?_, hS142⟩
  · first | rfl | rw [show i + (n + 1 - i) = n + 1 by omega]
  · exact (Ck.spl (CS := (spl CS (i + 1) ((CS.drop i).take (n - i)))) (A := [cv.toList]) (o := i) (Ck.spl (CS := CS) (A := ((CS.drop i).take (n - i))) (o := (i + 1)) hCS (Ck.take (Ck.drop hCS))) (fun c hc => by rw [List.mem_singleton.1 hc]; simpa using hcv))
  · exact ((yL (l := (spl CS (i + 1) ((CS.drop i).take (n - i)))) (S := [cv.toList]) (o := i) (by rw [((yL (l := CS) (S := ((CS.drop i).take (n - i))) (o := (i + 1)) (by have hcn9 : ((CS.drop i).take (n - i)).length = (n - i) := (by rw [List.length_take, List.length_drop]; omega); rw [hcn9, hln]; omega)).trans hln)]; show i + 1 ≤ _; omega)).trans ((yL (l := CS) (S := ((CS.drop i).take (n - i))) (o := (i + 1)) (by have hcn9 : ((CS.drop i).take (n - i)).length = (n - i) := (by rw [List.length_take, List.length_drop]; omega); rw [hcn9, hln]; omega)).trans hln))
  · omega
  · omega
  · exact Kd (by omega) (by omega)
 ·skip
  have hc4r := hc4
  have hc4 := of_decide_eq_true hc4
  refine zk rfl ?_
  refine zc ?_
  refine za (by kernel_rfl) (fun _ => ?_)
  refine st (zb (v := (.slice (some ⟨g, 0, none⟩) n cap)) rfl ?_)
  refine st (zb (v := .int .i64 ((i : Nat) : Int)) rfl ?_)
  refine st (yu (k := 10) (g := g) (n := n) (c := cap) (i := 0) (j := i) Try.underlying22 Try.sizeOf36 rfl rfl (show _ = (.int .i64 ((i : Nat) : Int) : Value) from rfl) (by omega) (by omega) (by omega) ?_)
  refine st (zb (v := .int .i64 ((n : Nat) : Int)) rfl ?_)
  refine st (zb (v := .int .i64 ((1 : Nat) : Int)) rfl ?_)
  have hr143 : InR ((n + 1 : Nat) : Int) := by first | omega | (simp only [lens]; omega)
  refine st (zB (r := ((n + 1 : Nat) : Int)) (k := .i64) (a := ((n : Nat) : Int)) (b := ((1 : Nat) : Int)) rfl rfl (by rw [show (((n : Nat) : Int) + ((1 : Nat) : Int) : Int) = ((n + 1 : Nat) : Int) by first | omega | (simp only [lens]; omega)]; exact zy hr143) ?_)
  refine st (zb (v := .int .i64 ((i : Nat) : Int)) rfl ?_)
  have hr144 : InR (((n + 1) - i : Nat) : Int) := by first | omega | (simp only [lens]; omega)
  refine st (Za (r := (((n + 1) - i : Nat) : Int)) (k := .i64) (a := ((n + 1 : Nat) : Int)) (b := ((i : Nat) : Int)) rfl rfl (by rw [show (((n + 1 : Nat) : Int) - ((i : Nat) : Int) : Int) = (((n + 1) - i : Nat) : Int) by first | omega | (simp only [lens]; omega)]; exact zy hr144) ?_)
  refine st (Vq (k := 10) (bytes := 96) (g := g) (CS := CS) (n := i) (c := cap) (m := (n + 1) - i) (z := zc0) xZ ⟨_, rfl, _, rfl, rfl⟩ (by decide) ZY Try.underlying3 hS0 hCS rfl rfl (by rw [hln]; omega) (by omega) (by omega) (by omega) (by decide) ?_)
  intro g145 c146 w147 hc148 hm149 hS150
  have hck151 : Ck 10 (CS.take i ++ List.replicate (c146 - i) zc0) := Ck.append (Ck.take hCS) (Ck.rep ZY)
  have hln152 : (CS.take i ++ List.replicate (c146 - i) zc0).length = c146 := by rw [List.length_append, List.length_take, List.length_replicate, hln]; omega
  refine st (zd (v := (.slice (some ⟨g145, 0, none⟩) (i + ((n + 1) - i)) c146)) rfl ?_)
  refine ze ?_
  refine zc ?_
  refine za (by kernel_rfl) (fun _ => ?_)
  refine st (zb (v := (.slice (some ⟨g145, 0, none⟩) (i + ((n + 1) - i)) c146)) rfl ?_)
  refine st (zb (v := .int .i64 ((i : Nat) : Int)) rfl ?_)
  refine st (yu (k := 10) (g := g145) (n := (i + ((n + 1) - i))) (c := c146) (i := i) (j := (i + ((n + 1) - i))) Try.underlying22 Try.sizeOf36 rfl (show _ = (.int .i64 ((i : Nat) : Int) : Value) from rfl) rfl (by omega) (by omega) (by omega) ?_)
  refine st (zb (v := (.slice (some ⟨bv, 0, none⟩) 1 1)) rfl ?_)
  have hbk155 := hS150.blk (i := 2) rfl
  refine st (ZD (k := 10) (g := g145) (CS := (CS.take i ++ List.replicate (c146 - i) zc0)) (S := [cv.toList]) (o := i) (o2 := 0) (dn := ((i + ((n + 1) - i)) - i)) (dc := (c146 - i)) (sn := 1) (sc := 1) Try.underlying22 rfl hS150 hck151 (fun c hc => by rw [List.mem_singleton.1 hc]; simpa using hcv) (fun u hu => hcv1 u (by simpa using hu)) rfl rfl (VW hbk155) (by show 1 = min _ _; omega) (by rw [hln152]; show i + 1 ≤ _; omega) ?_)
  intro w153 hS154
  refine ze ?_
  refine zc ?_
  refine zM ((fun TT => WF [fun vals wq => Sep G W ((CkB g145 (spl (CS.take i ++ List.replicate (c146 - i) zc0) i [cv.toList]) 36) :: TT) wq, fun vals wq => (vals 8 = (.int .i64 (((((CS.drop i).take (n - i)) : List (List Value)).length : Int)) : Value)) ∧ Sep G W ((CkB g145 (spl (spl (CS.take i ++ List.replicate (c146 - i) zc0) i [cv.toList]) (i + 1) ((CS.drop i).take (n - i))) 36) :: TT) wq]) ((CkB g CS 36) :: (Blk bv cv 36) :: Rs)) (AF [Vl 0 ((.slice (some ⟨g145, 0, none⟩) (i + ((n + 1) - i)) c146)), Vl 1 (.int .i64 ((i : Nat) : Int)), Vl 2 (.int .i64 ((1 : Nat) : Int)), Vl 3 (.int .i64 ((i + 1 : Nat) : Int)), Vl 4 ((.slice (some ⟨g145, (i + 1) * 10, none⟩) ((i + ((n + 1) - i)) - (i + 1)) (c146 - (i + 1)))), Vl 5 ((.slice (some ⟨g, 0, none⟩) n cap)), Vl 6 (.int .i64 ((i : Nat) : Int)), Vl 7 ((.slice (some ⟨g, i * 10, none⟩) (n - i) (cap - i))), fun _ => True]) [[], [], [], [1, 2], [0, 1, 2, 3], [], [], [5, 6], [0, 1, 2, 3, 4, 5, 6, 7]] [8] [(0, 0), (0, 0), (0, 0), (0, 0), (0, 0), (0, 0), (0, 0), (0, 0), (0, 0)] (by kernel_rfl) (by kernel_rfl) (by kernel_rfl) rfl (by kernel_rfl) (by kernel_rfl) (fun _ h1 h2 h3 h4 _ => hS154.same h1 h2 h3 h4) ?_ (yc ⟨dA, dA, dA, dA, dA, dA, dA, dA, dT, trivial⟩) ⟨?_, ?_, ?_, ?_, ?_, ?_, ?_, ?_, ?_, trivial⟩ ?_
  ·intro k vals vals' w hv h
   have e : ∀ j ∈ ([8] : List Nat), vals' j = vals j := hv
   match k, h with
   | 0, h => exact h
   | 1, h => exact (by simpa only [WF, List.getElem?_cons_zero, List.getElem?_cons_succ, e 8 (by decide)] using h)
   | _ + 2, _ => trivial
  ·intro k226 vals w227 h230 h231 hW229 hA228
   refine obl rfl ?_
   exact zb (v := (.slice (some ⟨g145, 0, none⟩) (i + ((n + 1) - i)) c146)) rfl (fun vals' hv _ => ⟨rfl, hv⟩)
  ·intro k232 vals w233 h236 h237 hW235 hA234
   refine obl rfl ?_
   exact zb (v := .int .i64 ((i : Nat) : Int)) rfl (fun vals' hv _ => ⟨rfl, hv⟩)
  ·intro k238 vals w239 h242 h243 hW241 hA240
   refine obl rfl ?_
   exact zb (v := .int .i64 ((1 : Nat) : Int)) rfl (fun vals' hv _ => ⟨rfl, hv⟩)
  ·intro k244 vals w245 h248 h249 hW247 hA246
   obtain rfl : k244 = 0 := Nat.le_antisymm h249 h248
   have hS250 : Sep _ _ _ _ := hW247
   have e251 := hA246 1 (by decide)
   have e252 := hA246 2 (by decide)
   refine obl rfl ?_
   have hr253 : InR ((i + 1 : Nat) : Int) := by first | omega | (simp only [lens]; omega)
   exact zB (r := ((i + 1 : Nat) : Int)) (k := .i64) (a := ((i : Nat) : Int)) (b := ((1 : Nat) : Int)) e251 e252 (by rw [show (((i : Nat) : Int) + ((1 : Nat) : Int) : Int) = ((i + 1 : Nat) : Int) by first | omega | (simp only [lens]; omega)]; exact zy hr253) (fun vals' hv _ => ⟨rfl, hv⟩)
  ·intro k254 vals w255 h258 h259 hW257 hA256
   obtain rfl : k254 = 0 := Nat.le_antisymm h259 h258
   have hS260 : Sep _ _ _ _ := hW257
   have e261 := hA256 0 (by decide)
   have e262 := hA256 3 (by decide)
   refine obl rfl ?_
   exact yu (k := 10) (g := g145) (n := (i + ((n + 1) - i))) (c := c146) (i := i + 1) (j := (i + ((n + 1) - i))) Try.underlying22 Try.sizeOf36 e261 (show _ = (.int .i64 ((i + 1 : Nat) : Int) : Value) from e262) rfl (by omega) (by omega) (by omega) (fun vals' hv _ => ⟨rfl, hv⟩)
  ·intro k263 vals w264 h267 h268 hW266 hA265
   refine obl rfl ?_
   exact zb (v := (.slice (some ⟨g, 0, none⟩) n cap)) rfl (fun vals' hv _ => ⟨rfl, hv⟩)
  ·intro k269 vals w270 h273 h274 hW272 hA271
   refine obl rfl ?_
   exact zb (v := .int .i64 ((i : Nat) : Int)) rfl (fun vals' hv _ => ⟨rfl, hv⟩)
  ·intro k275 vals w276 h279 h280 hW278 hA277
   obtain rfl : k275 = 0 := Nat.le_antisymm h280 h279
   have hS281 : Sep _ _ _ _ := hW278
   have e282 := hA277 5 (by decide)
   have e283 := hA277 6 (by decide)
   refine obl rfl ?_
   exact yu (k := 10) (g := g) (n := n) (c := cap) (i := i) (j := n) Try.underlying22 Try.sizeOf36 e282 (show _ = (.int .i64 ((i : Nat) : Int) : Value) from e283) rfl (by omega) (by omega) (by omega) (fun vals' hv _ => ⟨rfl, hv⟩)
  ·intro k214 vals w215 h218 h219 hW217 hA216
   obtain rfl : k214 = 0 := Nat.le_antisymm h219 h218
   have hS220 : Sep _ _ _ _ := hW217
   have e221 := hA216 4 (by decide)
   have e222 := hA216 7 (by decide)
   refine obl rfl ?_
   refine (ZD (k := 10) (g := g145) (CS := (spl (CS.take i ++ List.replicate (c146 - i) zc0) i [cv.toList])) (S := ((CS.drop i).take (n - i))) (o := i + 1) (o2 := i * 10) (dn := ((i + ((n + 1) - i)) - (i + 1))) (dc := (c146 - (i + 1))) (sn := (n - i)) (sc := (cap - i)) Try.underlying22 rfl hS220 (Ck.spl (CS := (CS.take i ++ List.replicate (c146 - i) zc0)) (A := [cv.toList]) (o := i) hck151 (fun c hc => by rw [List.mem_singleton.1 hc]; simpa using hcv)) (Ck.take (Ck.drop hCS)) (Wj hone) e221 e222 (VK hS220 (q := 1) rfl hCS) (by have hcn9 : ((CS.drop i).take (n - i)).length = (n - i) := (by rw [List.length_take, List.length_drop]; omega); rw [hcn9]; show _ = min _ _; omega) (by have hcn9 : ((CS.drop i).take (n - i)).length = (n - i) := (by rw [List.length_take, List.length_drop]; omega); rw [hcn9, ((yL (l := (CS.take i ++ List.replicate (c146 - i) zc0)) (S := [cv.toList]) (o := i) (by rw [hln152]; show i + 1 ≤ _; omega)).trans hln152)]; omega) ?_)
   intro w223 hS224
   intro vals' hv hv'
   refine ⟨?_, trivial⟩
   show (vals' 8 = (.int .i64 (((((CS.drop i).take (n - i)) : List (List Value)).length : Int)) : Value)) ∧ Sep G W ((CkB g145 (spl (spl (CS.take i ++ List.replicate (c146 - i) zc0) i [cv.toList]) (i + 1) ((CS.drop i).take (n - i))) 36) :: (CkB g CS 36) :: (Blk bv cv 36) :: Rs) w223
   exact ⟨hv, hS224⟩
  intro vals w284 hW285 hA286
  obtain ⟨he225, hS287⟩ := hW285
  refine yb (kv := [(0, (.slice (some ⟨g, 0, none⟩) n cap)), (1, .int .i64 ((i : Nat) : Int)), (2, (.slice (some ⟨bv, 0, none⟩) 1 1)), (6, (.slice none 0 0)), (10, (.slice (some ⟨g, 0, none⟩) n cap)), (11, .int .i64 ((i : Nat) : Int)), (12, (.slice (some ⟨g, i * 10, none⟩) (n - i) (cap - i))), (13, (.slice (some ⟨bv, 0, none⟩) 1 1)), (14, .int .i64 ((1 : Nat) : Int)), (7, .int .i64 ((1 : Nat) : Int)), (15, .int .i64 ((1 : Nat) : Int)), (16, .bool false), (18, (.slice (some ⟨g, 0, none⟩) n cap)), (19, .int .i64 ((n : Nat) : Int)), (8, .int .i64 ((n : Nat) : Int)), (20, .int .i64 ((i : Nat) : Int)), (21, .int .i64 ((n : Nat) : Int)), (22, .bool false), (26, .int .i64 ((n : Nat) : Int)), (27, .int .i64 ((1 : Nat) : Int)), (28, .int .i64 ((n + 1 : Nat) : Int)), (29, (.slice (some ⟨g, 0, none⟩) n cap)), (30, .int .i64 ((cap : Nat) : Int)), (31, .bool true), (32, (.slice (some ⟨g, 0, none⟩) n cap)), (33, .int .i64 ((i : Nat) : Int)), (34, (.slice (some ⟨g, 0, none⟩) i cap)), (35, .int .i64 ((n : Nat) : Int)), (36, .int .i64 ((1 : Nat) : Int)), (37, .int .i64 ((n + 1 : Nat) : Int)), (38, .int .i64 ((i : Nat) : Int)), (39, .int .i64 (((n + 1) - i : Nat) : Int)), (40, (.slice (some ⟨g145, 0, none⟩) (i + ((n + 1) - i)) c146)), (9, (.slice (some ⟨g145, 0, none⟩) (i + ((n + 1) - i)) c146)), (41, (.slice (some ⟨g145, 0, none⟩) (i + ((n + 1) - i)) c146)), (42, .int .i64 ((i : Nat) : Int)), (43, (.slice (some ⟨g145, i * 10, none⟩) ((i + ((n + 1) - i)) - i) (c146 - i))), (44, (.slice (some ⟨bv, 0, none⟩) 1 1)), (45, .int .i64 ((([cv.toList] : List (List Value)).length : Int)))]) ⟨rfl, rfl, rfl, rfl, rfl, rfl, rfl, rfl, rfl, rfl, rfl, rfl, rfl, rfl, rfl, rfl, rfl, rfl, rfl, rfl, rfl, rfl, rfl, rfl, rfl, rfl, rfl, rfl, rfl, rfl, rfl, rfl, rfl, rfl, rfl, rfl, rfl, rfl, rfl, trivial⟩ (fun ρw284 => ?_)
  refine ze ?_
  refine zc ?_
  refine za (by kernel_rfl) (fun _ => ?_)
  refine st (zb (v := (.slice (some ⟨g145, 0, none⟩) (i + ((n + 1) - i)) c146)) rfl ?_)
  refine st (zd (v := (.slice (some ⟨g145, 0, none⟩) (i + ((n + 1) - i)) c146)) rfl ?_)
  refine ze ?_
  refine zw ?_
  refine zL Try.results44 (show _ = ((.slice (some ⟨g145, 0, none⟩) (i + ((n + 1) - i)) c146) : Value) from rfl) ?_
  have hS288 : Sep G W ((CkB g145 (spl (spl (CS.take i ++ List.replicate (c146 - i) zc0) i [cv.toList]) (i + 1) ((CS.drop i).take (n - i))) 36) :: Rs) w284 := hS287.sel 3 [0] (Nat.le_add_left _ _) rfl rfl
  refine ⟨g145, c146, (spl (spl (CS.take i ++ List.replicate (c146 - i) zc0) i [cv.toList]) (i + 1) ((CS.drop i).take (n - i))), ?_, ?_, ?_, ?_, ?_, ?_, hS288⟩
  · first | rfl | rw [show i + (n + 1 - i) = n + 1 by omega]
  · exact (Ck.spl (CS := (spl (CS.take i ++ List.replicate (c146 - i) zc0) i [cv.toList])) (A := ((CS.drop i).take (n - i))) (o := (i + 1)) (Ck.spl (CS := (CS.take i ++ List.replicate (c146 - i) zc0)) (A := [cv.toList]) (o := i) hck151 (fun c hc => by rw [List.mem_singleton.1 hc]; simpa using hcv)) (Ck.take (Ck.drop hCS)))
  · exact ((yL (l := (spl (CS.take i ++ List.replicate (c146 - i) zc0) i [cv.toList])) (S := ((CS.drop i).take (n - i))) (o := (i + 1)) (by have hcn9 : ((CS.drop i).take (n - i)).length = (n - i) := (by rw [List.length_take, List.length_drop]; omega); rw [hcn9, ((yL (l := (CS.take i ++ List.replicate (c146 - i) zc0)) (S := [cv.toList]) (o := i) (by rw [hln152]; show i + 1 ≤ _; omega)).trans hln152)]; omega)).trans ((yL (l := (CS.take i ++ List.replicate (c146 - i) zc0)) (S := [cv.toList]) (o := i) (by rw [hln152]; show i + 1 ≤ _; omega)).trans hln152))
  · omega
  · omega
  · exact KW (by omega) (by omega) (by omega)

end Go.Proofs.Ytmiihhbeclhaoaa
end

section
/- Steps of the proofs of this seat: part D4. -/
set_option maxRecDepth 8000
set_option maxHeartbeats 4000000
namespace Go.Proofs.Ytmiihhbeclhaoaa
open Go.Proofs Go.RowKit

theorem QW {G : Nat → Prop} {W w : World} {Rs : List HP} {vps : Value} {ps : List EvP}  {bv : Nat} {e : Ev} {d : Value} (hd1 : d.oneCell' = true) (hS0 : Sep G W ((RowE (α := EvP) own 36 vps ps) :: (Blk bv (e.cells d).toArray 36) :: Rs) w) (hbig : (ps.length + 1) * 96 ≤ 140737488355328) : Ret Try.prog 44 [vps, .int .i64 ((ps.length : Nat) : Int), (.slice (some ⟨bv, 0, none⟩) 1 1)] w (fun r w' => ∃ (v2 : Value), r = (v2 : Value) ∧ Sep G W ((RowE (α := EvP) own 36 v2 (ps ++ [((e, ⟨d, hd1⟩) : EvP)])) :: Rs) w') := by
 refine zp (args := [vps, .int .i64 ((ps.length : Nat) : Int), (.slice (some ⟨bv, 0, none⟩) 1 1)]) Try.func44 rfl rfl ?_
 have hr1 := hS0.row (i := 0) rfl
 have hr1s : _ * 96 ≤ _ := hr1.2
 refine zc ?_
 refine za (by kernel_rfl) (fun _ => ?_)
 refine st (zd (v := (.slice none 0 0)) rfl ?_)
 refine ze ?_
 refine zc ?_
 refine za (by kernel_rfl) (fun _ => ?_)
 refine st (zb (v := vps) rfl ?_)
 refine st (zb (v := .int .i64 ((ps.length : Nat) : Int)) rfl ?_)
 refine st (Vv (i := ps.length) (k := 10) (n := ps.length) Try.underlying22 Try.sizeOf36 rfl hr1.1 rfl (by first | omega | (simp only [lens]; omega)) ?_)
 refine ze ?_
 refine zc ?_
 refine za (by kernel_rfl) (fun _ => ?_)
 refine st (zb (v := (.slice (some ⟨bv, 0, none⟩) 1 1)) rfl ?_)
 refine st (zJ (n := 1) Try.underlying22 rfl (⟨_, 1, rfl, Nat.le_refl _, fun _ => ⟨_, _, rfl⟩⟩ : IsSl _ 1) ?_)
 refine st (zd (v := .int .i64 ((1 : Nat) : Int)) rfl ?_)
 refine ze ?_
 refine zc ?_
 refine zc ?_
 refine za (by kernel_rfl) (fun _ => ?_)
 refine st (zb (v := .int .i64 ((1 : Nat) : Int)) rfl ?_)
 have hkn2 : (decide (((1 : Nat) : Int) = 0)) = false := by decide
 refine st (ZE (congrArg Value.bool hkn2) (fun K9 h9 => yq (k := .i64) (a := ((1 : Nat) : Int)) (b := 0) rfl rfl h9) ?_)
 refine ze ?_
 refine zi rfl ?_
 refine zo ?_
 refine zc ?_
 refine za (by kernel_rfl) (fun _ => ?_)
 refine st (zb (v := vps) rfl ?_)
 refine st (zJ (n := ps.length) Try.underlying22 rfl hr1.1 ?_)
 refine st (zd (v := .int .i64 ((ps.length : Nat) : Int)) rfl ?_)
 refine ze ?_
 refine zc ?_
 refine zc ?_
 refine za (by kernel_rfl) (fun _ => ?_)
 refine st (zb (v := .int .i64 ((ps.length : Nat) : Int)) rfl ?_)
 refine st (zb (v := .int .i64 ((ps.length : Nat) : Int)) rfl ?_)
 have hkn3 : (decide (((ps.length : Nat) : Int) = ((ps.length : Nat) : Int))) = true := decide_eq_true rfl
 refine st (ZE (congrArg Value.bool hkn3) (fun K9 h9 => yq (k := .i64) (a := ((ps.length : Nat) : Int)) (b := ((ps.length : Nat) : Int)) rfl rfl h9) ?_)
 refine ze ?_
 refine zk rfl ?_
 refine zc ?_
 refine za (by kernel_rfl) (fun _ => ?_)
 refine st (zb (v := vps) rfl ?_)
 refine st (zb (v := (.slice (some ⟨bv, 0, none⟩) 1 1)) rfl ?_)
 have hbk7 := hS0.blk (i := 1) rfl
 have hS8 : Sep G W ((RowE (α := EvP) own 36 vps ps) :: Rs) w := hS0.sel 2 [0] (Nat.le_add_left _ _) rfl rfl
 have hS9 : Sep G W ((RowE (α := EvP) own 36 vps ps) :: Emp :: Rs) w := hS8.emp1
 refine st (zZ (src := own) (bytes := 96) (x1 := ((e, ⟨d, hd1⟩) : EvP)) hS9 xZ rfl rfl hbk7 (fun _ _ _ => (show _ from rfl)) (by first | omega | (simp only [List.length_append, List.length_cons, List.length_nil, List.length_take, List.length_drop]; omega)) rfl ?_)
 intro v5 w4 hS6
 have hr10 := hS6.row (i := 0) rfl
 have hr10s : _ * 96 ≤ _ := hr10.2
 refine st (zd (v := v5) rfl ?_)
 refine ze ?_
 refine zw ?_
 refine zL Try.results44 (show _ = (v5 : Value) from rfl) ?_
 refine ⟨v5, rfl, hS6⟩

theorem UR {CS : List (List Value)} {ps : List EvP} {p : EvP} {n i : Nat} (ht : CS.take n = yr ps) (hi : i ≤ n) : CS.take i ++ [p.cells] ++ (CS.drop i).take (n - i) = yr (ps.take i ++ [p] ++ ps.drop i) := by
  have h1 : CS.take i = yr (ps.take i) := by
    unfold yr at ht ⊢
    rw [List.map_take, ← ht, List.take_take, Nat.min_eq_left hi]
  have h2 : (CS.drop i).take (n - i) = yr (ps.drop i) := by
    unfold yr at ht ⊢
    rw [List.map_drop, ← ht, List.drop_take]
  rw [h1, h2]
  unfold yr
  simp
theorem D_ins {G : Nat → Prop} {W w : World} {Rs : List HP} {vB : Value} {B : List Ev} {i : Nat} (hi : i ≤ B.length) {bv : Nat} {e : Ev} {d : Value} (oe : e.Ok) (hS0 : Sep G W ((EvW vB 36 3 B) :: (Blk bv (e.cells d).toArray 36) :: (RowE (α := Int) own 3 d e.deps) :: Rs) w) (hbig : (B.length + 1) * 96 ≤ 140737488355328) : Ret Try.prog 44 [vB, .int .i64 ((i : Nat) : Int), (.slice (some ⟨bv, 0, none⟩) 1 1)] w (fun r w' => ∃ (v2 : Value), r = (v2 : Value) ∧ Sep G W ((EvW v2 36 3 (B.take i ++ [e] ++ B.drop i)) :: Rs) w') := by
  have hd1 := (hS0.row (i := 2) rfl).1.one
  obtain ⟨ps, hp, hok, hS1⟩ := hS0.evwFlat
  have hps : ps.length = B.length := by rw [← hp, List.length_map]
  have hok2 : ∀ s ∈ ps.take i ++ [((e, ⟨d, hd1⟩) : EvP)] ++ ps.drop i, s.1.Ok := fun s hs => by
    simp only [List.mem_append, List.mem_singleton] at hs
    rcases hs with (hs | hs) | hs
    · exact hok _ (List.mem_of_mem_take hs)
    · rw [hs]; exact oe
    · exact hok _ (List.mem_of_mem_drop hs)
  have e9 : (ps.take i ++ [((e, ⟨d, hd1⟩) : EvP)] ++ ps.drop i).map (fun s : EvP => s.1) = B.take i ++ [e] ++ B.drop i := by rw [← hp]; simp [List.map_take, List.map_drop]
  rcases Nat.lt_or_ge i B.length with hlt | hge
  · obtain ⟨g, cap, CS, rfl, hCS, hln, htk, hnc, hcm, hsm, hS2⟩ := hS1.pOpen hps (by omega)
    refine Ret.mono (Qz (CS := CS) (i := i) (bv := bv) (cv := (e.cells d).toArray) hCS hln hnc hcm (by rw [htk]; exact YR ps) hbig hlt rfl (fun u hu => ?_) (hS2.sel 4 [0, 2, 1, 3] (Nat.le_add_left _ _) rfl rfl)) ?_
    · have h9 : ∀ u ∈ e.cells d, u.oneCell' = true := yU ⟨rfl, rfl, rfl, hd1, rfl, rfl, rfl, rfl, rfl, rfl, trivial⟩
      exact h9 u hu
    · rintro _ w2 ⟨g2, c2, CS2, rfl, hck, hl2, hn2, hm2, ht2, hS3⟩
      have hS4 := Sep.pClose (n := B.length + 1) (qs := ps.take i ++ [((e, ⟨d, hd1⟩) : EvP)] ++ ps.drop i) hS3 hck hl2 hn2 hm2 (by rw [ht2]; exact UR (p := ((e, ⟨d, hd1⟩) : EvP)) htk (Nat.le_of_lt hlt)) hbig (by simp; omega)
      have hS5 := Sep.starIns (p := ((e, ⟨d, hd1⟩) : EvP)) (i := i) (hS4.sel 3 [1, 2, 0] (Nat.le_add_left _ _) rfl rfl)
      exact ⟨_, rfl, Sep.evwOf (hS5.sel 2 [1, 0] (Nat.le_add_left _ _) rfl rfl) e9 hok2⟩
  · obtain rfl : i = B.length := by omega
    rw [← hps] at hbig ⊢
    refine Ret.mono (QW (e := e) (d := d) hd1 (hS1.sel 4 [0, 2, 1, 3] (Nat.le_add_left _ _) rfl rfl) hbig) ?_
    rintro r w2 ⟨v2, hr, hS2⟩
    refine ⟨v2, hr, ?_⟩
    have hS5 := Sep.starIns (p := ((e, ⟨d, hd1⟩) : EvP)) (i := B.length) (hS2.sel 3 [1, 2, 0] (Nat.le_add_left _ _) rfl rfl)
    rw [← hps] at hok2 e9 hS5
    have e8 : ps.take ps.length ++ [((e, ⟨d, hd1⟩) : EvP)] ++ ps.drop ps.length = ps ++ [((e, ⟨d, hd1⟩) : EvP)] := by rw [List.take_length, List.drop_length, List.append_nil]
    rw [e8] at hok2 e9 hS5
    exact Sep.evwOf (hS5.sel 2 [1, 0] (Nat.le_add_left _ _) rfl rfl) e9 hok2

end Go.Proofs.Ytmiihhbeclhaoaa
end
