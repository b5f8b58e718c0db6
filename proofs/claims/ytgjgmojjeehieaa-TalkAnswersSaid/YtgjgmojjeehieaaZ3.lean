/- Texts of this claim, part 3. -/
import Derived.Test.YtgjgmojjeehieaaZ2
import Derived.ProofKit
set_option linter.unusedSimpArgs false
set_option linter.unusedVariables false
set_option linter.unusedSectionVars false
section
/- The arguments of a law opened; a law's contract carried to its row. -/
namespace Go.Proofs.Ytgjgmojjeehieaa
open Go.ChangeShapes Go.WideShapes Go.ChangeAt Go.RowKit

abbrev WJ {H : Type} (enc : TypeId × Value → H) (P : Program) (w : World) (fuel : Nat) (T : TypeId) (cs : List Value) : Option (DataW H × List MemPlace) :=
  DataW.trod enc P w 0 (fun _ => true) true fuel T cs
abbrev xP {H : Type} (P : Program) (T : TypeId) (d : DataW H) : Prop := ∀ n ∈ d.weights P T, n ≤ reachBytes
abbrev xj (w : World) : Nat → Prop := fun b => b < w.heap.size

def xv (P : Program) (T : TypeId) (α : Type) [Rep α] : Prop :=
  ∀ (H : Type) (enc : TypeId × Value → H) (w : World) (fuel : Nat) (cs : List Value) (x : DataW H × List MemPlace),
    WJ enc P w fuel T cs = some x → xP P T x.1 → ∃ a : α, Rep.rd w (xj w) cs a

theorem Vi {n : Int} (h : (Lit.int .i64 n).wf = true) : InR n := by
  simp [Lit.wf] at h
  have h1 : IntKind.i64.min = -9223372036854775808 := by decide
  have h2 : IntKind.i64.max = 9223372036854775807 := by decide
  exact ⟨by omega, by omega⟩

theorem Vb {P : Program} {T : TypeId} (ht : P.underlying T = some (.int .i64)) : xv P T Int := by
  intro H enc w fuel cs x h _
  obtain ⟨n, rfl, _, hw⟩ := DataW.trod_int ht h
  exact ⟨n, rfl, Vi hw⟩
theorem ZT {H : Type} {P : Program} {e : TypeId} {l : List (DataW H)} {d : DataW H} (hd : d ∈ l) {n : Nat} (hn : n ∈ d.weights P e) : n ∈ DataW.weightsAll P e l := by
  induction l with
  | nil => cases hd
  | cons y l ih =>
    simp only [DataW.weightsAll, List.mem_append]
    rcases List.mem_cons.1 hd with rfl | hd
    · exact Or.inl hn
    · exact Or.inr (ih hd)

theorem WR {w : World} {a : Addr} {v : Value} (h : w.cell? a = some v) : a = ⟨a.block, a.off, none⟩ := by
  obtain ⟨b, o, s⟩ := a
  cases s with
  | none => rfl
  | some s =>
    exfalso
    unfold World.cell? at h
    cases hb : w.heap[b]? with
    | none => simp [hb] at h
    | some ob => cases ob <;> simp [hb] at h

theorem Yh {b o i : Nat} : Addr.add ⟨b, o, none⟩ i = ⟨b, o + i, none⟩ := by
  unfold Addr.add
  split
  · rename_i h; subst h; rfl
  · rfl
theorem Wm {w : World} {base : Nat} {a : Addr} {n : Nat} {cs : List Value} (h : w.cells? base (a.add 0) n = some cs) (hn : 0 < n) : ∃ b o, a = ⟨b, o, none⟩ := by
  obtain ⟨_, hl, hc⟩ := World.cells?_some h
  have h0 := hc 0 hn
  rw [List.getElem?_eq_getElem (by omega)] at h0
  have e : (a.add 0).add 0 = a := by simp [Addr.add]
  rw [e] at h0
  exact ⟨_, _, WR h0⟩

theorem Xz {α : Type} [Inhabited α] {n : Nat} {p : Nat → α → Prop} (h : ∀ i, i < n → ∃ a, p i a) : ∃ l : List α, l.length = n ∧ ∀ i (hi : i < l.length), p i l[i] := by
  induction n with
  | zero => exact ⟨[], rfl, fun i hi => absurd hi (Nat.not_lt_zero i)⟩
  | succ n ih =>
    obtain ⟨l, hl, hp⟩ := ih fun i hi => h i (by omega)
    obtain ⟨a, ha⟩ := h n (by omega)
    refine ⟨l ++ [a], by simp [hl], fun i hi => ?_⟩
    rw [List.getElem_append]
    split
    · exact hp i _
    · have : i = n := by simp at hi; omega
      subst this
      simpa [hl] using ha

theorem XM {P : Program} {T e : TypeId} {α : Type} [Rep α] [Inhabited α] (ht : P.underlying T = some (.slice e)) (ho : xv P e α) (hc : P.cellsOf e = Rep.k α) (hb : P.bytesOf e = Rep.bytes α) :
    ∀ (H : Type) (enc : TypeId × Value → H) (w : World) (fuel : Nat) (v : Value) (x : DataW H × List MemPlace),
      WJ enc P w fuel T [v] = some x → xP P T x.1 → ∃ l : List α, RdS w (xj w) v l := by
  intro H enc w fuel v x h hx
  rcases DataW.trod_slice ht h with ⟨hv, _⟩ | ⟨a, len, cap, elems, rest, n, _, hv, rfl, _, hl, hm, hlen, hel, hsp, _⟩
  · obtain rfl := List.cons.inj hv |>.1
    exact ⟨[], RdS.nil _ _⟩
  · obtain rfl := List.cons.inj hv |>.1
    simp only [xP, DataW.weights, ht, List.length_map, List.mem_cons, List.mem_append, forall_eq_or_imp] at hx
    have hpos : 0 < P.cellsOf e := by rw [hc]; exact Rep.kpos
    have hpart : ∀ i, i < len → ∃ cs y, w.cells? 0 (a.add (i * P.cellsOf e)) (P.cellsOf e) = some cs ∧ WJ enc P w n e cs = some y ∧ y ∈ elems := by
      intro i hi
      have h1 := hel i hi
      rw [List.getElem?_eq_getElem (by omega), Option.bind_eq_some_iff] at h1
      obtain ⟨cs, hcs, hy⟩ := h1
      exact ⟨cs, _, hcs, hy, List.getElem_mem _⟩
    have key : ∀ i, i < len → ∃ z : α, ∃ cs, a = ⟨a.block, a.off, none⟩ ∧ CellsAt w a.block (a.off + i * Rep.k α) cs ∧ Rep.rd w (xj w) cs z := by
      intro i hi
      have hs : ∃ b o, a = ⟨b, o, none⟩ := by
        obtain ⟨cs, _, h0, _⟩ := hpart 0 (by omega)
        rw [Nat.zero_mul] at h0
        exact Wm h0 hpos
      obtain ⟨b, o, rfl⟩ := hs
      obtain ⟨cs, y, hcs, hy, hmem⟩ := hpart i hi
      obtain ⟨z, hz⟩ := ho H enc w n cs y hy (fun m hm => hx.2 m (Or.inl (ZT (List.mem_map_of_mem hmem) hm)))
      obtain ⟨_, hk, hcell⟩ := World.cells?_some hcs
      refine ⟨z, cs, rfl, fun j hj => ?_, hz⟩
      have := hcell j (by omega)
      rw [Yh, Yh, hc, List.getElem?_eq_getElem hj] at this
      exact this
    obtain ⟨l, hl1, hl2⟩ := Xz key
    refine ⟨l, ⟨⟨_, _, by rw [hl1], by omega, fun h0 => ?_⟩, fun hne => ?_, ?_, fun i hi => ?_⟩⟩
    · obtain ⟨_, ha, _⟩ := hl2 0 h0
      exact ⟨_, _, congrArg some ha⟩
    · have h0 : 0 < l.length := List.length_pos_iff.2 hne
      obtain ⟨cs, ha, hcs, hr⟩ := hl2 0 h0
      refine hcs.lt ?_
      have := Rep.len hr
      have := Rep.kpos (α := α)
      intro he; subst he; simp at *; omega
    · have h1 := hx.1
      rw [hb, hlen] at h1
      have h2 : l.length * Rep.bytes α ≤ (len + rest.length) * Rep.bytes α := Nat.mul_le_mul_right _ (by omega)
      exact Nat.le_trans h2 (Nat.le_trans h1 (by decide))
    · obtain ⟨cs, ha, hcs, hr⟩ := hl2 i hi
      exact ⟨cs, hcs, hr⟩

theorem ZZ {P : Program} {T e : TypeId} {α : Type} [Rep α] [Inhabited α] (ht : P.underlying T = some (.slice e)) (ho : xv P e α) (hc : P.cellsOf e = Rep.k α) (hb : P.bytesOf e = Rep.bytes α) : xv P T (List α) := by
  intro H enc w fuel cs x h hx
  have hv : ∃ v, cs = [v] := by
    rcases DataW.trod_slice ht h with ⟨hv, _⟩ | ⟨a, len, cap, _, _, _, _, hv, _⟩
    · exact ⟨_, hv⟩
    · exact ⟨_, hv⟩
  obtain ⟨v, rfl⟩ := hv
  obtain ⟨l, hl⟩ := XM ht ho hc hb H enc w fuel v x h hx
  exact ⟨l, v, rfl, hl⟩

theorem XE {H : Type} {P : Program} {T : TypeId} {fs : Array Field} (ht : P.underlying T = some (.struct fs)) {ds : List (DataW H)} (hx : xP P T (.agg ds)) {i : Nat} {f : Field} {d : DataW H} (hf : fs[i]? = some f) (hd : ds[i]? = some d) : xP P f.type d := by
  intro n hn
  refine hx n ?_
  simp only [DataW.weights, ht]
  exact DataW.weights_mem_each (by rw [List.getElem?_map]; simp [hf]) hd n hn

theorem yi {H : Type} {enc : TypeId × Value → H} {P : Program} {w : World} {fuel : Nat} {cs : List Value} {x : DataW H × List MemPlace} {T : TypeId} {fs : Array Field} {α : Type} [Rep α]
    (ht : P.underlying T = some (.struct fs)) (h : WJ enc P w fuel T cs = some x) (hx : xP P T x.1) {i : Nat} {f : Field} (hf : fs[i]? = some f) (hk : P.cellsOf f.type = Rep.k α) (ho : xv P f.type α) :
    ∃ a : α, Rep.rd w (xj w) ((cs.drop f.offset).take (Rep.k α)) a := by
  obtain ⟨xs, n, _, rfl, _, hl, hfs⟩ := DataW.trod_struct ht h
  have hi : i < xs.length := by rw [hl]; exact (Array.getElem?_eq_some_iff.1 hf).1
  have h1 := hfs i f hf
  rw [List.getElem?_eq_getElem hi, hk] at h1
  exact ho H enc w n _ _ h1 (XE ht hx hf (by rw [List.getElem?_map, List.getElem?_eq_getElem hi]; rfl))

theorem VT {α : Type} {l : List α} (h : l.length = 2) : ∃ a b, l = [a, b] := by
  match l, h with
  | [a, b], _ => exact ⟨a, b, rfl⟩
instance : Rep (Int × Int) where
  k := 2
  rd _ _ cs x := cs = [.int .i64 x.1, .int .i64 x.2] ∧ InR x.1 ∧ InR x.2
  bytes := 16
  bpos := by decide
  kpos := by decide
  len h := by rw [h.1]; rfl
  one h := by rw [h.1]; exact yz ⟨rfl, rfl, trivial⟩
  mono h _ := h
theorem Wh {P : Program} {T : TypeId} {fs : Array Field} {f0 f1 : Field} (ht : P.underlying T = some (.struct fs)) (hc : P.cellsOf T = 2) (h0 : fs[0]? = some f0) (h1 : fs[1]? = some f1)
    (o0 : f0.offset = 0) (o1 : f1.offset = 1) (c0 : P.cellsOf f0.type = 1) (c1 : P.cellsOf f1.type = 1) (i0 : xv P f0.type Int) (i1 : xv P f1.type Int) : xv P T (Int × Int) := by
  intro H enc w fuel cs x h hx
  obtain ⟨_, _, _, _, hl, _⟩ := DataW.trod_struct ht h
  obtain ⟨a, b, rfl⟩ := VT (hl.trans hc)
  obtain ⟨m, hm, rm⟩ := yi (α := Int) ht h hx h0 c0 i0
  obtain ⟨n, hn, rn⟩ := yi (α := Int) ht h hx h1 c1 i1
  rw [o0] at hm
  rw [o1] at hn
  obtain rfl : a = _ := List.cons.inj hm |>.1
  obtain rfl : b = _ := List.cons.inj hn |>.1
  exact ⟨(m, n), rfl, rm, rn⟩

theorem xX {H : Type} {enc : TypeId × Value → H} {P : Program} (hl : laidOutB P = true) {W W' : World} (hb : Below W.heap.size W W') :
    ∀ {ts : List TypeId} {vs : List Value} {ds : List (DataW H)} {ps : List MemPlace}, (∀ t ∈ ts, P.readableRec t = true ∧ t < P.types.size) →
      DataW.TrodAll enc P W 0 (fun _ => true) true ts vs ds ps → (∀ x ∈ ps, x.block < W.heap.size) → DataW.TrodAll enc P W' 0 (fun b => decide (b < W.heap.size)) true ts vs ds ps
  | [], _, _, _, _, h, _ => by
    obtain ⟨rfl, rfl, rfl⟩ := trodAll_nil h
    exact trodAll_mk0
  | t :: ts, _, _, _, hr, h, hlt => by
    obtain ⟨v, vs1, d, ds1, a, b, rfl, rfl, rfl, h1, h2⟩ := trodAll_cons h
    have ht := hr t (List.mem_cons_self ..)
    exact ⟨a, b, Below.trod hl ht.1 ht.2 h1 hb (fun x hx => hlt x (List.mem_append_left _ hx)),
      xX hl hb (fun t' ht' => hr t' (List.mem_cons_of_mem _ ht')) h2 (fun x hx => hlt x (List.mem_append_right _ hx)), rfl⟩

theorem Wf {H : Type} {enc : TypeId × Value → H} {C : Checked} {os : Os} {f : FuncId} {fn : Func} {s : ChangeSpec} {tb : TypeId}
    (own : ownKnob C.prog.godebug = none) (started : os.Started) (noInit : C.prog.inits.idxOf? f = none) (hfn : C.prog.funcs[f]? = some fn)
    (hl : laidOutB C.prog = true) (hrt : fn.resultTypes = #[tb]) (htb : C.prog.underlying tb = some .bool) (hsv : s.vars = [])
    (hsf : ∀ ds : List (DataW H), ds.length = fn.params.size → s.fn H ds = { results := [.lit (.bool true)], args := ds })
    (hps : ∀ t ∈ fn.params.toList, C.prog.readableRec t = true ∧ t < C.prog.types.size)
    (witness : ∃ (w : World) (tape : Tape) (i : Input), w.os = os ∧ (w.forCall tape i).Shaped C.prog ∧ i.vars = [] ∧ Input.okWide C.prog (w.forCall tape i) .any w.heap.size f i ∧
      s.pre6 enc C.prog fn [] false (w.forCall tape i).memory i.args ∧ ({} : Assume).holds C.prog (lone (Frame.enter C.prog f i.args .normal) [] (w.forCall tape i)))
    (contract : ∀ (W : World) (base : Nat) (args : Array Value) (ds : List (DataW H)) (ps : List MemPlace),
      (∀ (j : Nat) t v, fn.params[j]? = some t → args[j]? = some v → Value.okWide C.prog W .any base t v) →
      DataW.TrodAll enc C.prog W 0 (fun _ => true) true fn.params.toList args.toList ds ps →
      (∀ (j : Nat) t d, fn.params.toList[j]? = some t → ds[j]? = some d → xP C.prog t d) →
      Ret C.prog f args.toList W (fun r w' => r = .bool true ∧ Ext W w')) :
    ReturnsInHanded {} C os f .any (s.pre6 enc C.prog fn [] false) (s.post enc C.prog fn false true false false) := by
  refine returnsInHanded_of_change_sized own started noInit hfn witness ?_
  intro W base args ds gs before hval hW _ hsz _
  have hW' := hW
  obtain ⟨p, q, hA, hV, rfl, hfz, hnd⟩ := hW
  have hlt := hW'.lt
  rw [hsv] at hV
  obtain ⟨rfl, rfl⟩ := trodVars_none hV
  simp only [List.append_nil] at hW' hlt
  have hlen : ds.length = fn.params.size := by
    have : ∀ {ts : List TypeId} {vs : List Value} {ds : List (DataW H)} {ps : List MemPlace}, DataW.TrodAll enc C.prog W 0 (fun _ => true) true ts vs ds ps → ds.length = ts.length := by
      intro ts
      induction ts with
      | nil => intro vs ds ps h; obtain ⟨_, rfl, _⟩ := trodAll_nil h; rfl
      | cons t ts ih => intro vs ds ps h; obtain ⟨_, _, _, ds1, _, _, _, rfl, _, _, h2⟩ := trodAll_cons h; simp [ih h2]
    simpa using this hA
  have hc := contract W base args ds p hval hA (fun j t d ht hd n hn => by
    have := List.all_eq_true.1 hsz n (by
      rw [List.append_nil]
      refine DataW.weights_mem_each (j := j) (t := t) ?_ hd n hn
      rw [List.getElem?_append_left (by exact (List.getElem?_eq_some_iff.1 ht).1)]
      exact ht)
    simpa using this)
  have hc' : Calls C.prog f args W fun e w' => ∃ v, e = .returned v ∧ v = .bool true ∧ Ext W w' := by
    have : args.toList.toArray = args := by simp
    rw [← this]; exact hc
  refine hc'.mono fun e W' ⟨v, he, hv, hx⟩ => ⟨v, he, ?_⟩
  subst hv
  have hb := hx.below
  refine ⟨ds, [], p, [], p, [], hW', ?_, ?_, ?_, hb.frame _, fun h => by cases h⟩
  · rw [List.append_nil, hsf ds hlen, hrt]
    exact trodAll_mk1 (shut_bool htb _)
  · rw [List.append_nil, hsf ds hlen]
    exact xX hl hb hps hA (fun x hx => hlt x hx)
  · rw [List.append_nil, hsf ds hlen, hsv]
    rfl
end Go.Proofs.Ytgjgmojjeehieaa
end

section
/- More operations: parts of slices, slices that are made, remainders. -/
namespace Go.Proofs.Ytgjgmojjeehieaa
open Go.RowKit

def Yg (k : Nat) (v : Value) (i j : Nat) : Value := match v with
  | .slice a _ c => .slice (if c = i then a else a.map (·.add (i * k))) (j - i) (c - i)
  | v => v
theorem OwnS.bool {T : TypeId} {lo : Nat} {w : World} {F : Nat → Prop} {v : Value} {l : List Bool} (h : OwnS T lo w F v l) {i : Nat} (hi : i < l.length) : CellsAt w (sb v) (so v + i * 1) [.bool l[i]] := by
  obtain ⟨cs, hc, hr⟩ := h.elem hi
  cases hr
  exact hc
theorem OwnS.int {T : TypeId} {lo : Nat} {w : World} {F : Nat → Prop} {v : Value} {l : List Int} (h : OwnS T lo w F v l) {i : Nat} (hi : i < l.length) : CellsAt w (sb v) (so v + i * 1) [.int .i64 l[i]] ∧ InR l[i] := by
  obtain ⟨cs, hc, rfl, hr⟩ := h.elem hi
  exact ⟨hc, hr⟩
theorem Xt (c : List Value) (hc : 0 < c.length) : ∀ n j, j < n * c.length → (List.replicate n c).flatten[j]? = c[j % c.length]?
  | 0, j, h => by omega
  | n + 1, j, h => by
    rw [List.replicate_succ, List.flatten_cons, List.getElem?_append]
    split
    · rename_i hj; rw [Nat.mod_eq_of_lt hj]
    · rename_i hj
      rw [Xt c hc n (j - c.length) (by rw [Nat.add_mul] at h; omega), Nat.mod_eq_sub_mod (a := j) (by omega)]
section
variable {P : Program} {d : Option Tmp} {ty : TypeId} {pos : String} {af : Array Edge} {g : Option (Nat × Bool)} {σ : Env} {w : World} {K : Value → World → Prop}
theorem XQ {t e : TypeId} {k : Nat} {x y : Operand} {v : Value} {n j : Nat} {ki : IntKind} (hU : P.underlying t = some (.slice e)) (hS : ∀ w, (sizeOf e).run P w = .ok k w) (hx : ev σ x = v) (hv : IsSl v n) (hy : ev σ y = .int ki (j : Int))
    (hj : j ≤ n) (h : K (Yg k v 0 j) w) : opV P ⟨d, .slice t x none (some y) none, ty, pos, af, g⟩ σ w K := by
  obtain ⟨a, c, rfl, hc, _⟩ := hv
  refine zV (v := Yg k (.slice a n c) 0 j) (w' := w) ?_ h
  have hb : ¬ c < j := by omega
  have hb' : j ≤ c := by omega
  simp [execOp, hx, hy, Instr.sliceAt, Instr.slice, Instr.sliceBounds, run_underlying hU, hb, hb', hS, Yg, go_sem]
theorem Zi {α : Type} [Rep α] {t T : TypeId} {bytes n : Nat} {x y : Operand} {x1 : α} {ki kj : IntKind} (hU : P.underlying t = some (.slice T))
    (hz : ∃ i z, P.info? T = some i ∧ i.zero = some z ∧ i.size = Rep.k α ∧ i.bytes = bytes ∧ z.cells.size = Rep.k α ∧ ∀ w F, Rep.rd w F z.cells.toList x1)
    (hx : ev σ x = .int ki (n : Int)) (hy : ev σ y = .int kj (n : Int)) (hb0 : bytes = Rep.bytes α) (hb : n * Rep.bytes α ≤ 140737488355328)
    (h : ∀ w1 b, Ext w w1 → w.heap.size = b → b < w1.heap.size → OwnS T w.heap.size w1 (fun _ => False) (.slice (some ⟨b, 0, none⟩) n n) (List.replicate n x1) → K (.slice (some ⟨b, 0, none⟩) n n) w1) :
    opV P ⟨d, .makeSlice t x y, ty, pos, af, g⟩ σ w K := by
  obtain ⟨i, z, hi, hz, hsz, hby, hzc, hrd⟩ := hz
  have hn := Yl (α := α) hb
  have hb1 : i.bytes * n ≤ 281474976710656 := by rw [hby, hb0, Nat.mul_comm]; omega
  have hb2 : (i.bytes : Int) * (n : Int) ≤ 281474976710656 := by rw [← Int.natCast_mul]; omega
  have hr := run_make (P := P) w t T i z hU hi hz ki kj (n : Int) (n : Int) (by omega) (Int.le_refl _) hb2 (by omega)
  simp only [Int.toNat_natCast] at hr
  have hw : Ext w (w.alloc (.cells (madeCells z.cells (n * i.size)) T)) := ⟨rfl, rfl, rfl, by simp, fun b hb _ => heap_alloc_old w _ hb, SoftStep.push (w := w) rfl, Nat.le_refl _⟩
  refine zV (v := .slice (some ⟨w.heap.size, 0, none⟩) n n) (w' := w.alloc (.cells (madeCells z.cells (n * i.size)) T)) ?_ (h _ _ hw rfl (by simp) ?_)
  · simp [execOp, hx, hy, hr, go_sem]
  have hEls : ∀ (w : World) n, Els w (fun _ => False) (List.replicate n z.cells.toList) (List.replicate n x1) := by
    intro w n
    induction n with
    | zero => trivial
    | succ n ih => exact ⟨hrd _ _, ih⟩
  have hlen : (List.replicate n z.cells.toList).flatten.length = n * Rep.k α := by simpa using (hEls w n).flat
  refine ⟨⟨List.replicate n z.cells.toList, hEls _ n, by simpa using hlen, .inr ⟨w.heap.size, n, madeCells z.cells (n * i.size), by simp, Nat.le_refl _, heap_alloc_new w _, by simp, by unfold maxLen; omega, ?_, ?_⟩⟩, fun _ _ h => h, fun _ h => h.elim, by simpa using hb⟩
  · simp [madeCells, hsz]
  · rw [List.length_replicate]
    have h1 : (madeCells z.cells (n * i.size)).toList.length = n * Rep.k α := by simp [madeCells, hsz]
    rw [List.take_of_length_le (by omega)]
    refine List.ext_getElem (by rw [h1, hlen]) (fun j h2 h3 => ?_)
    have hk : 0 < Rep.k α := Rep.kpos
    have hj : j < n * Rep.k α := by omega
    have hz' : z.cells.toList.length = Rep.k α := by simpa using hzc
    have e1 := Xt z.cells.toList (by omega) n j (by rw [hz']; exact hj)
    have e2 : j % z.cells.size < z.cells.size := Nat.mod_lt _ (by omega)
    rw [List.getElem?_eq_getElem h3, hz', ← hzc, Array.getElem?_toList, Array.getElem?_eq_getElem e2] at e1
    rw [Option.some.inj e1]
    simp [madeCells, e2]
theorem Qs {x y : Operand} {a b r : Int} {t t2 : TypeId} (hx : ev σ x = .int .i64 a) (hy : ev σ y = .int .i64 b) (h0 : 0 < b) (hr : a.tmod b = r) (h : K (.int .i64 r) w) : opV P ⟨d, .binOp .rem t x y t2, ty, pos, af, g⟩ σ w K := by
  subst hr
  refine zV (v := .int .i64 (a.tmod b)) (w' := w) ?_ h
  have hne : b ≠ 0 := by omega
  simp [execOp, hx, hy, eqGuard_rem, binOp_rem, Op.intDiv, hne, go_sem]
end
end Go.Proofs.Ytgjgmojjeehieaa
end

section
/- The program's structs. -/
namespace Go.Proofs.Ytgjgmojjeehieaa
open Go.RowKit

structure Msg where
  kind : Int
  frm : Int
  dst : Int
  vec : List Int
  evs : List Ev
  deriving DecidableEq, Inhabited
structure Msg.Ok (e : Msg) : Prop where
  kind : InR e.kind
  frm : InR e.frm
  dst : InR e.dst
def Msg.cells (e : Msg) (d1 : Value) (d2 : Value) : List Value := [.int .i64 e.kind, .int .i64 e.frm, .int .i64 e.dst, d1, d2]
instance : Rep Msg where
  k := 5
  bytes := 72
  bpos := by decide
  kpos := by decide
  rd w F cs e := ∃ d1 d2, cs = e.cells d1 d2 ∧ RdS w F d1 e.vec ∧ RdS w F d2 e.evs ∧ e.Ok
  len h := by obtain ⟨d1, d2, rfl, h1, h2, ho⟩ := h; rfl
  one h := by obtain ⟨d1, d2, rfl, h1, h2, ho⟩ := h; exact yz ⟨rfl, rfl, rfl, h1.sl.one, h2.sl.one, trivial⟩
  mono h hF := by obtain ⟨d1, d2, rfl, h1, h2, ho⟩ := h; exact ⟨d1, d2, rfl, h1.mono hF, h2.mono hF, ho⟩
theorem RdS.msg {w : World} {F : Nat → Prop} {v : Value} {l : List Msg} (h : RdS w F v l) {i : Nat} (hi : i < l.length) :
    CellsAt w (sb v) (so v + i * 5) (l[i].cells (zR w (sb v) (so v + i * 5 + 3)) (zR w (sb v) (so v + i * 5 + 4))) ∧ RdS w F (zR w (sb v) (so v + i * 5 + 3)) l[i].vec ∧ RdS w F (zR w (sb v) (so v + i * 5 + 4)) l[i].evs ∧ l[i].Ok := by
  obtain ⟨cs, hc, d1, d2, rfl, h1, h2, ho⟩ := h.at_ i hi
  have ed1 : (zR w (sb v) (so v + i * 5 + 3)) = d1 := by
    have : w.cell? ⟨sb v, so v + i * 5 + 3, none⟩ = some d1 := hc.get (j := 3) rfl
    simp only [zR, this]; rfl
  have ed2 : (zR w (sb v) (so v + i * 5 + 4)) = d2 := by
    have : w.cell? ⟨sb v, so v + i * 5 + 4, none⟩ = some d2 := hc.get (j := 4) rfl
    simp only [zR, this]; rfl
  rw [ed1, ed2]
  exact ⟨hc, h1, h2, ho⟩
theorem Msg.eq_iff {a b : Msg} : a = b ↔ a.kind = b.kind ∧ a.frm = b.frm ∧ a.dst = b.dst ∧ a.vec = b.vec ∧ a.evs = b.evs := by
  cases a; cases b; simp
end Go.Proofs.Ytgjgmojjeehieaa
end

section
/- The program's structs. -/
namespace Go.Proofs.Ytgjgmojjeehieaa
open Go.RowKit

structure Idr where
  io : Int
  iq : Int
  deriving DecidableEq, Inhabited
structure Idr.Ok (e : Idr) : Prop where
  io : InR e.io
  iq : InR e.iq
def Idr.cells (e : Idr) : List Value := [.int .i64 e.io, .int .i64 e.iq]
instance : Rep Idr where
  k := 2
  bytes := 16
  bpos := by decide
  kpos := by decide
  rd w F cs e := cs = e.cells ∧ e.Ok
  len h := by obtain ⟨rfl, ho⟩ := h; rfl
  one h := by obtain ⟨rfl, ho⟩ := h; exact yz ⟨rfl, rfl, trivial⟩
  mono h hF := by obtain ⟨rfl, ho⟩ := h; exact ⟨rfl, ho⟩
end Go.Proofs.Ytgjgmojjeehieaa
end
