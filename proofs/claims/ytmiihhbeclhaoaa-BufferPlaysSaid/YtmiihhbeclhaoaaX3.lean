/- Texts of this claim, part 3. -/
import Derived.Test.YtmiihhbeclhaoaaX2
import Derived.ProofKit
set_option linter.unusedSimpArgs false
set_option linter.unusedVariables false
set_option linter.unusedSectionVars false
/- The arguments of a law opened; a law's contract carried to its row. -/
namespace Go.Proofs.Ytmiihhbeclhaoaa
open Go.ChangeShapes Go.WideShapes Go.ChangeAt Go.RowKit

abbrev trodW {H : Type} (enc : TypeId × Value → H) (P : Program) (w : World) (fuel : Nat) (T : TypeId) (cs : List Value) : Option (DataW H × List MemPlace) :=
  DataW.trod enc P w 0 (fun _ => true) true fuel T cs
abbrev light {H : Type} (P : Program) (T : TypeId) (d : DataW H) : Prop := ∀ n ∈ d.weights P T, n ≤ reachBytes
abbrev inHeap (w : World) : Nat → Prop := fun b => b < w.heap.size

/-- What reads as data of type T reads as an α. -/
def Opens (P : Program) (T : TypeId) (α : Type) [Rep α] : Prop :=
  ∀ (H : Type) (enc : TypeId × Value → H) (w : World) (fuel : Nat) (cs : List Value) (x : DataW H × List MemPlace),
    trodW enc P w fuel T cs = some x → light P T x.1 → ∃ a : α, Rep.rd w (inHeap w) cs a

theorem inR_of_wf {n : Int} (h : (Lit.int .i64 n).wf = true) : InR n := by
  simp [Lit.wf] at h
  have h1 : IntKind.i64.min = -9223372036854775808 := by decide
  have h2 : IntKind.i64.max = 9223372036854775807 := by decide
  exact ⟨by omega, by omega⟩

theorem opens_int {P : Program} {T : TypeId} (ht : P.underlying T = some (.int .i64)) : Opens P T Int := by
  intro H enc w fuel cs x h _
  obtain ⟨n, rfl, _, hw⟩ := DataW.trod_int ht h
  exact ⟨n, rfl, inR_of_wf hw⟩
theorem weightsAll_mem {H : Type} {P : Program} {e : TypeId} {l : List (DataW H)} {d : DataW H} (hd : d ∈ l) {n : Nat} (hn : n ∈ d.weights P e) : n ∈ DataW.weightsAll P e l := by
  induction l with
  | nil => cases hd
  | cons y l ih =>
    simp only [DataW.weightsAll, List.mem_append]
    rcases List.mem_cons.1 hd with rfl | hd
    · exact Or.inl hn
    · exact Or.inr (ih hd)

theorem cell_spot {w : World} {a : Addr} {v : Value} (h : w.cell? a = some v) : a = ⟨a.block, a.off, none⟩ := by
  obtain ⟨b, o, s⟩ := a
  cases s with
  | none => rfl
  | some s =>
    exfalso
    unfold World.cell? at h
    cases hb : w.heap[b]? with
    | none => simp [hb] at h
    | some ob => cases ob <;> simp [hb] at h

theorem addr_add {b o i : Nat} : Addr.add ⟨b, o, none⟩ i = ⟨b, o + i, none⟩ := by
  unfold Addr.add
  split
  · rename_i h; subst h; rfl
  · rfl
theorem cells_spot {w : World} {base : Nat} {a : Addr} {n : Nat} {cs : List Value} (h : w.cells? base (a.add 0) n = some cs) (hn : 0 < n) : ∃ b o, a = ⟨b, o, none⟩ := by
  obtain ⟨_, hl, hc⟩ := World.cells?_some h
  have h0 := hc 0 hn
  rw [List.getElem?_eq_getElem (by omega)] at h0
  have e : (a.add 0).add 0 = a := by simp [Addr.add]
  rw [e] at h0
  exact ⟨_, _, cell_spot h0⟩

theorem choose_list {α : Type} [Inhabited α] {n : Nat} {p : Nat → α → Prop} (h : ∀ i, i < n → ∃ a, p i a) : ∃ l : List α, l.length = n ∧ ∀ i (hi : i < l.length), p i l[i] := by
  induction n with
  | zero => exact ⟨[], rfl, fun i hi => absurd hi (Nat.not_lt_zero i)⟩
  | succ n ih =>
    obtain ⟨l, hl, hp⟩ := ih fun i hi => h i (by omega)
    obtain ⟨a, ha⟩ := h n (by omega)
    refine ⟨l ++ [a], by simp [hl], fun i hi => ?_⟩
    rw [List.getElem_append]
    split
    · exact hp i _
    · have : i = n := by simp at hi; omega
      subst this
      simpa [hl] using ha

theorem opens_slice {P : Program} {T e : TypeId} {α : Type} [Rep α] [Inhabited α] (ht : P.underlying T = some (.slice e)) (ho : Opens P e α) (hc : P.cellsOf e = Rep.k α) (hb : P.bytesOf e = Rep.bytes α) :
    ∀ (H : Type) (enc : TypeId × Value → H) (w : World) (fuel : Nat) (v : Value) (x : DataW H × List MemPlace),
      trodW enc P w fuel T [v] = some x → light P T x.1 → ∃ l : List α, RdS w (inHeap w) v l := by
  intro H enc w fuel v x h hx
  rcases DataW.trod_slice ht h with ⟨hv, _⟩ | ⟨a, len, cap, elems, rest, n, _, hv, rfl, _, hl, hm, hlen, hel, hsp, _⟩
  · obtain rfl := List.cons.inj hv |>.1
    exact ⟨[], RdS.nil _ _⟩
  · obtain rfl := List.cons.inj hv |>.1
    simp only [light, DataW.weights, ht, List.length_map, List.mem_cons, List.mem_append, forall_eq_or_imp] at hx
    have hpos : 0 < P.cellsOf e := by rw [hc]; exact Rep.kpos
    have hpart : ∀ i, i < len → ∃ cs y, w.cells? 0 (a.add (i * P.cellsOf e)) (P.cellsOf e) = some cs ∧ trodW enc P w n e cs = some y ∧ y ∈ elems := by
      intro i hi
      have h1 := hel i hi
      rw [List.getElem?_eq_getElem (by omega), Option.bind_eq_some_iff] at h1
      obtain ⟨cs, hcs, hy⟩ := h1
      exact ⟨cs, _, hcs, hy, List.getElem_mem _⟩
    have key : ∀ i, i < len → ∃ z : α, ∃ cs, a = ⟨a.block, a.off, none⟩ ∧ CellsAt w a.block (a.off + i * Rep.k α) cs ∧ Rep.rd w (inHeap w) cs z := by
      intro i hi
      have hs : ∃ b o, a = ⟨b, o, none⟩ := by
        obtain ⟨cs, _, h0, _⟩ := hpart 0 (by omega)
        rw [Nat.zero_mul] at h0
        exact cells_spot h0 hpos
      obtain ⟨b, o, rfl⟩ := hs
      obtain ⟨cs, y, hcs, hy, hmem⟩ := hpart i hi
      obtain ⟨z, hz⟩ := ho H enc w n cs y hy (fun m hm => hx.2 m (Or.inl (weightsAll_mem (List.mem_map_of_mem hmem) hm)))
      obtain ⟨_, hk, hcell⟩ := World.cells?_some hcs
      refine ⟨z, cs, rfl, fun j hj => ?_, hz⟩
      have := hcell j (by omega)
      rw [addr_add, addr_add, hc, List.getElem?_eq_getElem hj] at this
      exact this
    obtain ⟨l, hl1, hl2⟩ := choose_list key
    refine ⟨l, ⟨⟨_, _, by rw [hl1], by omega, fun h0 => ?_⟩, fun hne => ?_, ?_, fun i hi => ?_⟩⟩
    · obtain ⟨_, ha, _⟩ := hl2 0 h0
      exact ⟨_, _, congrArg some ha⟩
    · have h0 : 0 < l.length := List.length_pos_iff.2 hne
      obtain ⟨cs, ha, hcs, hr⟩ := hl2 0 h0
      refine hcs.lt ?_
      have := Rep.len hr
      have := Rep.kpos (α := α)
      intro he; subst he; simp at *; omega
    · have h1 := hx.1
      rw [hb, hlen] at h1
      have h2 : l.length * Rep.bytes α ≤ (len + rest.length) * Rep.bytes α := Nat.mul_le_mul_right _ (by omega)
      exact Nat.le_trans h2 (Nat.le_trans h1 (by decide))
    · obtain ⟨cs, ha, hcs, hr⟩ := hl2 i hi
      exact ⟨cs, hcs, hr⟩

theorem opens_list {P : Program} {T e : TypeId} {α : Type} [Rep α] [Inhabited α] (ht : P.underlying T = some (.slice e)) (ho : Opens P e α) (hc : P.cellsOf e = Rep.k α) (hb : P.bytesOf e = Rep.bytes α) : Opens P T (List α) := by
  intro H enc w fuel cs x h hx
  have hv : ∃ v, cs = [v] := by
    rcases DataW.trod_slice ht h with ⟨hv, _⟩ | ⟨a, len, cap, _, _, _, _, hv, _⟩
    · exact ⟨_, hv⟩
    · exact ⟨_, hv⟩
  obtain ⟨v, rfl⟩ := hv
  obtain ⟨l, hl⟩ := opens_slice ht ho hc hb H enc w fuel v x h hx
  exact ⟨l, v, rfl, hl⟩

/-- A field of a struct. -/
theorem light_field {H : Type} {P : Program} {T : TypeId} {fs : Array Field} (ht : P.underlying T = some (.struct fs)) {ds : List (DataW H)} (hx : light P T (.agg ds)) {i : Nat} {f : Field} {d : DataW H} (hf : fs[i]? = some f) (hd : ds[i]? = some d) : light P f.type d := by
  intro n hn
  refine hx n ?_
  simp only [DataW.weights, ht]
  exact DataW.weights_mem_each (by rw [List.getElem?_map]; simp [hf]) hd n hn

theorem open_field {H : Type} {enc : TypeId × Value → H} {P : Program} {w : World} {fuel : Nat} {cs : List Value} {x : DataW H × List MemPlace} {T : TypeId} {fs : Array Field} {α : Type} [Rep α]
    (ht : P.underlying T = some (.struct fs)) (h : trodW enc P w fuel T cs = some x) (hx : light P T x.1) {i : Nat} {f : Field} (hf : fs[i]? = some f) (hk : P.cellsOf f.type = Rep.k α) (ho : Opens P f.type α) :
    ∃ a : α, Rep.rd w (inHeap w) ((cs.drop f.offset).take (Rep.k α)) a := by
  obtain ⟨xs, n, _, rfl, _, hl, hfs⟩ := DataW.trod_struct ht h
  have hi : i < xs.length := by rw [hl]; exact (Array.getElem?_eq_some_iff.1 hf).1
  have h1 := hfs i f hf
  rw [List.getElem?_eq_getElem hi, hk] at h1
  exact ho H enc w n _ _ h1 (light_field ht hx hf (by rw [List.getElem?_map, List.getElem?_eq_getElem hi]; rfl))

theorem list_two {α : Type} {l : List α} (h : l.length = 2) : ∃ a b, l = [a, b] := by
  match l, h with
  | [a, b], _ => exact ⟨a, b, rfl⟩
instance : Rep (Int × Int) where
  k := 2
  rd _ _ cs x := cs = [.int .i64 x.1, .int .i64 x.2] ∧ InR x.1 ∧ InR x.2
  bytes := 16
  bpos := by decide
  kpos := by decide
  len h := by rw [h.1]; rfl
  one h := by rw [h.1]; exact all1 ⟨rfl, rfl, trivial⟩
  mono h _ := h
theorem opens_pair {P : Program} {T : TypeId} {fs : Array Field} {f0 f1 : Field} (ht : P.underlying T = some (.struct fs)) (hc : P.cellsOf T = 2) (h0 : fs[0]? = some f0) (h1 : fs[1]? = some f1)
    (o0 : f0.offset = 0) (o1 : f1.offset = 1) (c0 : P.cellsOf f0.type = 1) (c1 : P.cellsOf f1.type = 1) (i0 : Opens P f0.type Int) (i1 : Opens P f1.type Int) : Opens P T (Int × Int) := by
  intro H enc w fuel cs x h hx
  obtain ⟨_, _, _, _, hl, _⟩ := DataW.trod_struct ht h
  obtain ⟨a, b, rfl⟩ := list_two (hl.trans hc)
  obtain ⟨m, hm, rm⟩ := open_field (α := Int) ht h hx h0 c0 i0
  obtain ⟨n, hn, rn⟩ := open_field (α := Int) ht h hx h1 c1 i1
  rw [o0] at hm
  rw [o1] at hn
  obtain rfl : a = _ := List.cons.inj hm |>.1
  obtain rfl : b = _ := List.cons.inj hn |>.1
  exact ⟨(m, n), rfl, rm, rn⟩

/-- A law's contract, carried to its row. -/
theorem trodAll_stays {H : Type} {enc : TypeId × Value → H} {P : Program} (hl : laidOutB P = true) {W W' : World} (hb : Below W.heap.size W W') :
    ∀ {ts : List TypeId} {vs : List Value} {ds : List (DataW H)} {ps : List MemPlace}, (∀ t ∈ ts, P.readableRec t = true ∧ t < P.types.size) →
      DataW.TrodAll enc P W 0 (fun _ => true) true ts vs ds ps → (∀ x ∈ ps, x.block < W.heap.size) → DataW.TrodAll enc P W' 0 (fun b => decide (b < W.heap.size)) true ts vs ds ps
  | [], _, _, _, _, h, _ => by
    obtain ⟨rfl, rfl, rfl⟩ := trodAll_nil h
    exact trodAll_mk0
  | t :: ts, _, _, _, hr, h, hlt => by
    obtain ⟨v, vs1, d, ds1, a, b, rfl, rfl, rfl, h1, h2⟩ := trodAll_cons h
    have ht := hr t (List.mem_cons_self ..)
    exact ⟨a, b, Below.trod hl ht.1 ht.2 h1 hb (fun x hx => hlt x (List.mem_append_left _ hx)),
      trodAll_stays hl hb (fun t' ht' => hr t' (List.mem_cons_of_mem _ ht')) h2 (fun x hx => hlt x (List.mem_append_right _ hx)), rfl⟩

theorem law_lifted {H : Type} {enc : TypeId × Value → H} {C : Checked} {os : Os} {f : FuncId} {fn : Func} {s : ChangeSpec} {tb : TypeId}
    (own : ownKnob C.prog.godebug = none) (started : os.Started) (noInit : C.prog.inits.idxOf? f = none) (hfn : C.prog.funcs[f]? = some fn)
    (hl : laidOutB C.prog = true) (hrt : fn.resultTypes = #[tb]) (htb : C.prog.underlying tb = some .bool) (hsv : s.vars = [])
    (hsf : ∀ ds : List (DataW H), ds.length = fn.params.size → s.fn H ds = { results := [.lit (.bool true)], args := ds })
    (hps : ∀ t ∈ fn.params.toList, C.prog.readableRec t = true ∧ t < C.prog.types.size)
    (witness : ∃ (w : World) (tape : Tape) (i : Input), w.os = os ∧ (w.forCall tape i).Shaped C.prog ∧ i.vars = [] ∧ Input.okWide C.prog (w.forCall tape i) .any w.heap.size f i ∧
      s.pre6 enc C.prog fn [] false (w.forCall tape i).memory i.args ∧ ({} : Assume).holds C.prog (lone (Frame.enter C.prog f i.args .normal) [] (w.forCall tape i)))
    (contract : ∀ (W : World) (base : Nat) (args : Array Value) (ds : List (DataW H)) (ps : List MemPlace),
      (∀ (j : Nat) t v, fn.params[j]? = some t → args[j]? = some v → Value.okWide C.prog W .any base t v) →
      DataW.TrodAll enc C.prog W 0 (fun _ => true) true fn.params.toList args.toList ds ps →
      (∀ (j : Nat) t d, fn.params.toList[j]? = some t → ds[j]? = some d → light C.prog t d) →
      Ret C.prog f args.toList W (fun r w' => r = .bool true ∧ Ext W w')) :
    ReturnsInHanded {} C os f .any (s.pre6 enc C.prog fn [] false) (s.post enc C.prog fn false true false false) := by
  refine returnsInHanded_of_change_sized own started noInit hfn witness ?_
  intro W base args ds gs before hval hW _ hsz _
  have hW' := hW
  obtain ⟨p, q, hA, hV, rfl, hfz, hnd⟩ := hW
  have hlt := hW'.lt
  rw [hsv] at hV
  obtain ⟨rfl, rfl⟩ := trodVars_none hV
  simp only [List.append_nil] at hW' hlt
  have hlen : ds.length = fn.params.size := by
    have : ∀ {ts : List TypeId} {vs : List Value} {ds : List (DataW H)} {ps : List MemPlace}, DataW.TrodAll enc C.prog W 0 (fun _ => true) true ts vs ds ps → ds.length = ts.length := by
      intro ts
      induction ts with
      | nil => intro vs ds ps h; obtain ⟨_, rfl, _⟩ := trodAll_nil h; rfl
      | cons t ts ih => intro vs ds ps h; obtain ⟨_, _, _, ds1, _, _, _, rfl, _, _, h2⟩ := trodAll_cons h; simp [ih h2]
    simpa using this hA
  have hc := contract W base args ds p hval hA (fun j t d ht hd n hn => by
    have := List.all_eq_true.1 hsz n (by
      rw [List.append_nil]
      refine DataW.weights_mem_each (j := j) (t := t) ?_ hd n hn
      rw [List.getElem?_append_left (by exact (List.getElem?_eq_some_iff.1 ht).1)]
      exact ht)
    simpa using this)
  have hc' : Calls C.prog f args W fun e w' => ∃ v, e = .returned v ∧ v = .bool true ∧ Ext W w' := by
    have : args.toList.toArray = args := by simp
    rw [← this]; exact hc
  refine hc'.mono fun e W' ⟨v, he, hv, hx⟩ => ⟨v, he, ?_⟩
  subst hv
  have hb := hx.below
  refine ⟨ds, [], p, [], p, [], hW', ?_, ?_, ?_, hb.frame _, fun h => by cases h⟩
  · rw [List.append_nil, hsf ds hlen, hrt]
    exact trodAll_mk1 (shut_bool htb _)
  · rw [List.append_nil, hsf ds hlen]
    exact trodAll_stays hl hb hps hA (fun x hx => hlt x hx)
  · rw [List.append_nil, hsf ds hlen, hsv]
    rfl
end Go.Proofs.Ytmiihhbeclhaoaa
