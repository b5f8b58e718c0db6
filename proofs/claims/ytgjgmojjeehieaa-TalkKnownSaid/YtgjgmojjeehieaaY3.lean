/- Texts of this claim, part 3. -/
import Derived.Test.YtgjgmojjeehieaaY2
import Derived.ProofKit
set_option linter.unusedSimpArgs false
set_option linter.unusedVariables false
section
/- The arguments of a law opened; a law's contract carried to its row. -/
namespace Go.Proofs.Ytgjgmojjeehieaa
open Go.ChangeShapes Go.WideShapes Go.ChangeAt Go.RowKit

abbrev light {H : Type} (P : Program) (T : TypeId) (d : DataW H) : Prop := ∀ n ∈ d.weights P T, n ≤ reachBytes
abbrev inHeap (w : World) : Nat → Prop := fun b => b < w.heap.size

theorem addr_add {b o i : Nat} : Addr.add ⟨b, o, none⟩ i = ⟨b, o + i, none⟩ := by
  unfold Addr.add
  split
  · rename_i h; subst h; rfl
  · rfl
instance : Rep (Int × Int) where
  k := 2
  rd _ _ cs x := cs = [.int .i64 x.1, .int .i64 x.2] ∧ InR x.1 ∧ InR x.2
  bytes := 16
  bpos := by decide
  kpos := by decide
  len h := by rw [h.1]; rfl
  one h := by rw [h.1]; exact all1 ⟨rfl, rfl, trivial⟩
  mono h _ := h
/-- A law's contract, carried to its row. -/
theorem trodAll_stays {H : Type} {enc : TypeId × Value → H} {P : Program} (hl : laidOutB P = true) {W W' : World} (hb : Below W.heap.size W W') :
    ∀ {ts : List TypeId} {vs : List Value} {ds : List (DataW H)} {ps : List MemPlace}, (∀ t ∈ ts, P.readableRec t = true ∧ t < P.types.size) →
      DataW.TrodAll enc P W 0 (fun _ => true) true ts vs ds ps → (∀ x ∈ ps, x.block < W.heap.size) → DataW.TrodAll enc P W' 0 (fun b => decide (b < W.heap.size)) true ts vs ds ps
  | [], _, _, _, _, h, _ => by
    obtain ⟨rfl, rfl, rfl⟩ := trodAll_nil h
    exact trodAll_mk0
  | t :: ts, _, _, _, hr, h, hlt => by
    obtain ⟨v, vs1, d, ds1, a, b, rfl, rfl, rfl, h1, h2⟩ := trodAll_cons h
    have ht := hr t (List.mem_cons_self ..)
    exact ⟨a, b, Below.trod hl ht.1 ht.2 h1 hb (fun x hx => hlt x (List.mem_append_left _ hx)),
      trodAll_stays hl hb (fun t' ht' => hr t' (List.mem_cons_of_mem _ ht')) h2 (fun x hx => hlt x (List.mem_append_right _ hx)), rfl⟩

theorem law_lifted {H : Type} {enc : TypeId × Value → H} {C : Checked} {os : Os} {f : FuncId} {fn : Func} {s : ChangeSpec} {tb : TypeId}
    (own : ownKnob C.prog.godebug = none) (started : os.Started) (noInit : C.prog.inits.idxOf? f = none) (hfn : C.prog.funcs[f]? = some fn)
    (hl : laidOutB C.prog = true) (hrt : fn.resultTypes = #[tb]) (htb : C.prog.underlying tb = some .bool) (hsv : s.vars = [])
    (hsf : ∀ ds : List (DataW H), ds.length = fn.params.size → s.fn H ds = { results := [.lit (.bool true)], args := ds })
    (hps : ∀ t ∈ fn.params.toList, C.prog.readableRec t = true ∧ t < C.prog.types.size)
    (witness : ∃ (w : World) (tape : Tape) (i : Input), w.os = os ∧ (w.forCall tape i).Shaped C.prog ∧ i.vars = [] ∧ Input.okWide C.prog (w.forCall tape i) .any w.heap.size f i ∧
      s.pre6 enc C.prog fn [] false (w.forCall tape i).memory i.args ∧ ({} : Assume).holds C.prog (lone (Frame.enter C.prog f i.args .normal) [] (w.forCall tape i)))
    (contract : ∀ (W : World) (base : Nat) (args : Array Value) (ds : List (DataW H)) (ps : List MemPlace),
      (∀ (j : Nat) t v, fn.params[j]? = some t → args[j]? = some v → Value.okWide C.prog W .any base t v) →
      DataW.TrodAll enc C.prog W 0 (fun _ => true) true fn.params.toList args.toList ds ps →
      (∀ (j : Nat) t d, fn.params.toList[j]? = some t → ds[j]? = some d → light C.prog t d) →
      Ret C.prog f args.toList W (fun r w' => r = .bool true ∧ Ext W w')) :
    ReturnsInHanded {} C os f .any (s.pre6 enc C.prog fn [] false) (s.post enc C.prog fn false true false false) := by
  refine returnsInHanded_of_change_sized own started noInit hfn witness ?_
  intro W base args ds gs before hval hW _ hsz _
  have hW' := hW
  obtain ⟨p, q, hA, hV, rfl, hfz, hnd⟩ := hW
  have hlt := hW'.lt
  rw [hsv] at hV
  obtain ⟨rfl, rfl⟩ := trodVars_none hV
  simp only [List.append_nil] at hW' hlt
  have hlen : ds.length = fn.params.size := by
    have : ∀ {ts : List TypeId} {vs : List Value} {ds : List (DataW H)} {ps : List MemPlace}, DataW.TrodAll enc C.prog W 0 (fun _ => true) true ts vs ds ps → ds.length = ts.length := by
      intro ts
      induction ts with
      | nil => intro vs ds ps h; obtain ⟨_, rfl, _⟩ := trodAll_nil h; rfl
      | cons t ts ih => intro vs ds ps h; obtain ⟨_, _, _, ds1, _, _, _, rfl, _, _, h2⟩ := trodAll_cons h; simp [ih h2]
    simpa using this hA
  have hc := contract W base args ds p hval hA (fun j t d ht hd n hn => by
    have := List.all_eq_true.1 hsz n (by
      rw [List.append_nil]
      refine DataW.weights_mem_each (j := j) (t := t) ?_ hd n hn
      rw [List.getElem?_append_left (by exact (List.getElem?_eq_some_iff.1 ht).1)]
      exact ht)
    simpa using this)
  have hc' : Calls C.prog f args W fun e w' => ∃ v, e = .returned v ∧ v = .bool true ∧ Ext W w' := by
    have : args.toList.toArray = args := by simp
    rw [← this]; exact hc
  refine hc'.mono fun e W' ⟨v, he, hv, hx⟩ => ⟨v, he, ?_⟩
  subst hv
  have hb := hx.below
  refine ⟨ds, [], p, [], p, [], hW', ?_, ?_, ?_, hb.frame _, fun h => by cases h⟩
  · rw [List.append_nil, hsf ds hlen, hrt]
    exact trodAll_mk1 (shut_bool htb _)
  · rw [List.append_nil, hsf ds hlen]
    exact trodAll_stays hl hb hps hA (fun x hx => hlt x hx)
  · rw [List.append_nil, hsf ds hlen, hsv]
    rfl
end Go.Proofs.Ytgjgmojjeehieaa
end

section
/- More operations: parts of slices, slices that are made, remainders. -/
set_option linter.unusedSimpArgs false
set_option linter.unusedVariables false
namespace Go.Proofs.Ytgjgmojjeehieaa
open Go.RowKit

/-- The part of a slice from i to j. -/
def subV (k : Nat) (v : Value) (i j : Nat) : Value := match v with
  | .slice a _ c => .slice (if c = i then a else a.map (·.add (i * k))) (j - i) (c - i)
  | v => v
theorem RdS.sub {α : Type} [Rep α] {w : World} {F : Nat → Prop} {v : Value} {l : List α} (h : RdS w F v l) {i j : Nat} (hi : i ≤ j) (hj : j ≤ l.length) : RdS w F (subV (Rep.k α) v i j) ((l.take j).drop i) := by
  have hlen : ((l.take j).drop i).length = j - i := by simp; omega
  obtain ⟨a, c, rfl, hc, ha⟩ := h.sl
  by_cases h0 : i < j
  · obtain ⟨b, o, rfl⟩ := ha (by omega)
    have hci : ¬ c = i := by omega
    have e : subV (Rep.k α) (.slice (some ⟨b, o, none⟩) l.length c) i j = .slice (some ⟨b, o + i * Rep.k α, none⟩) (j - i) (c - i) := by
      simp only [subV, if_neg hci, Option.map_some, addr_add]
    rw [e]
    refine ⟨⟨_, _, by rw [hlen], by omega, fun _ => ⟨_, _, rfl⟩⟩, fun _ => h.foot (by intro e; subst e; simp at hj; omega), Nat.le_trans (Nat.mul_le_mul_right _ (by omega)) h.small, fun x hx => ?_⟩
    obtain ⟨cs, h1, h2⟩ := h.at_ (i + x) (by omega)
    refine ⟨cs, ?_, ?_⟩
    · have e2 : o + (i + x) * Rep.k α = o + i * Rep.k α + x * Rep.k α := by rw [Nat.add_mul, Nat.add_assoc]
      simp only [sb, so] at h1 ⊢
      rw [e2] at h1
      exact h1
    · rw [List.getElem_drop, List.getElem_take]; exact h2
  · have e : (l.take j).drop i = [] := List.length_eq_zero_iff.1 (by omega)
    rw [e]
    refine ⟨⟨(if c = i then a else a.map (·.add (i * Rep.k α))), c - i, ?_, Nat.zero_le (c - i), fun h => absurd h (Nat.lt_irrefl 0)⟩, fun h => (h rfl).elim, by simp, fun x hx => absurd hx (Nat.not_lt_zero x)⟩
    simp only [subV, List.length_nil]
    rw [show j - i = 0 by omega]
theorem RdS.sub_hi {α : Type} [Rep α] {w : World} {F : Nat → Prop} {v : Value} {l : List α} (h : RdS w F v l) {j : Nat} (hj : j ≤ l.length) : RdS w F (subV (Rep.k α) v 0 j) (l.take j) := by
  have := h.sub (Nat.zero_le j) hj
  rwa [List.drop_zero] at this
theorem OwnS.bool {T : TypeId} {lo : Nat} {w : World} {F : Nat → Prop} {v : Value} {l : List Bool} (h : OwnS T lo w F v l) {i : Nat} (hi : i < l.length) : CellsAt w (sb v) (so v + i * 1) [.bool l[i]] := by
  obtain ⟨cs, hc, hr⟩ := h.elem hi
  cases hr
  exact hc
theorem OwnS.int {T : TypeId} {lo : Nat} {w : World} {F : Nat → Prop} {v : Value} {l : List Int} (h : OwnS T lo w F v l) {i : Nat} (hi : i < l.length) : CellsAt w (sb v) (so v + i * 1) [.int .i64 l[i]] ∧ InR l[i] := by
  obtain ⟨cs, hc, rfl, hr⟩ := h.elem hi
  exact ⟨hc, hr⟩
theorem flat_rep (c : List Value) (hc : 0 < c.length) : ∀ n j, j < n * c.length → (List.replicate n c).flatten[j]? = c[j % c.length]?
  | 0, j, h => by omega
  | n + 1, j, h => by
    rw [List.replicate_succ, List.flatten_cons, List.getElem?_append]
    split
    · rename_i hj; rw [Nat.mod_eq_of_lt hj]
    · rename_i hj
      rw [flat_rep c hc n (j - c.length) (by rw [Nat.add_mul] at h; omega), Nat.mod_eq_sub_mod (a := j) (by omega)]
section
variable {P : Program} {d : Option Tmp} {ty : TypeId} {pos : String} {af : Array Edge} {g : Option (Nat × Bool)} {σ : Env} {w : World} {K : Value → World → Prop}
theorem ov_sliceHi {t e : TypeId} {k : Nat} {x y : Operand} {v : Value} {n j : Nat} {ki : IntKind} (hU : P.underlying t = some (.slice e)) (hS : ∀ w, (sizeOf e).run P w = .ok k w) (hx : ev σ x = v) (hv : IsSl v n) (hy : ev σ y = .int ki (j : Int))
    (hj : j ≤ n) (h : K (subV k v 0 j) w) : opV P ⟨d, .slice t x none (some y) none, ty, pos, af, g⟩ σ w K := by
  obtain ⟨a, c, rfl, hc, _⟩ := hv
  refine ov_run (v := subV k (.slice a n c) 0 j) (w' := w) ?_ h
  have hb : ¬ c < j := by omega
  have hb' : j ≤ c := by omega
  simp [execOp, hx, hy, Instr.sliceAt, Instr.slice, Instr.sliceBounds, run_underlying hU, hb, hb', hS, subV, go_sem]
/-- A slice that is made, of n like elements. -/
theorem ov_makeSlice {α : Type} [Rep α] {t T : TypeId} {bytes n : Nat} {x y : Operand} {x1 : α} {ki kj : IntKind} (hU : P.underlying t = some (.slice T))
    (hz : ∃ i z, P.info? T = some i ∧ i.zero = some z ∧ i.size = Rep.k α ∧ i.bytes = bytes ∧ z.cells.size = Rep.k α ∧ ∀ w F, Rep.rd w F z.cells.toList x1)
    (hx : ev σ x = .int ki (n : Int)) (hy : ev σ y = .int kj (n : Int)) (hb0 : bytes = Rep.bytes α) (hb : n * Rep.bytes α ≤ 140737488355328)
    (h : ∀ w1 b, Ext w w1 → w.heap.size = b → b < w1.heap.size → OwnS T w.heap.size w1 (fun _ => False) (.slice (some ⟨b, 0, none⟩) n n) (List.replicate n x1) → K (.slice (some ⟨b, 0, none⟩) n n) w1) :
    opV P ⟨d, .makeSlice t x y, ty, pos, af, g⟩ σ w K := by
  obtain ⟨i, z, hi, hz, hsz, hby, hzc, hrd⟩ := hz
  have hn := small_lt (α := α) hb
  have hb1 : i.bytes * n ≤ 281474976710656 := by rw [hby, hb0, Nat.mul_comm]; omega
  have hb2 : (i.bytes : Int) * (n : Int) ≤ 281474976710656 := by rw [← Int.natCast_mul]; omega
  have hr := run_make (P := P) w t T i z hU hi hz ki kj (n : Int) (n : Int) (by omega) (Int.le_refl _) hb2 (by omega)
  simp only [Int.toNat_natCast] at hr
  have hw : Ext w (w.alloc (.cells (madeCells z.cells (n * i.size)) T)) := ⟨rfl, rfl, rfl, by simp, fun b hb _ => heap_alloc_old w _ hb, SoftStep.push (w := w) rfl, Nat.le_refl _⟩
  refine ov_run (v := .slice (some ⟨w.heap.size, 0, none⟩) n n) (w' := w.alloc (.cells (madeCells z.cells (n * i.size)) T)) ?_ (h _ _ hw rfl (by simp) ?_)
  · simp [execOp, hx, hy, hr, go_sem]
  have hEls : ∀ (w : World) n, Els w (fun _ => False) (List.replicate n z.cells.toList) (List.replicate n x1) := by
    intro w n
    induction n with
    | zero => trivial
    | succ n ih => exact ⟨hrd _ _, ih⟩
  have hlen : (List.replicate n z.cells.toList).flatten.length = n * Rep.k α := by simpa using (hEls w n).flat
  refine ⟨⟨List.replicate n z.cells.toList, hEls _ n, by simpa using hlen, .inr ⟨w.heap.size, n, madeCells z.cells (n * i.size), by simp, Nat.le_refl _, heap_alloc_new w _, by simp, by unfold maxLen; omega, ?_, ?_⟩⟩, fun _ _ h => h, fun _ h => h.elim, by simpa using hb⟩
  · simp [madeCells, hsz]
  · rw [List.length_replicate]
    have h1 : (madeCells z.cells (n * i.size)).toList.length = n * Rep.k α := by simp [madeCells, hsz]
    rw [List.take_of_length_le (by omega)]
    refine List.ext_getElem (by rw [h1, hlen]) (fun j h2 h3 => ?_)
    have hk : 0 < Rep.k α := Rep.kpos
    have hj : j < n * Rep.k α := by omega
    have hz' : z.cells.toList.length = Rep.k α := by simpa using hzc
    have e1 := flat_rep z.cells.toList (by omega) n j (by rw [hz']; exact hj)
    have e2 : j % z.cells.size < z.cells.size := Nat.mod_lt _ (by omega)
    rw [List.getElem?_eq_getElem h3, hz', ← hzc, Array.getElem?_toList, Array.getElem?_eq_getElem e2] at e1
    rw [Option.some.inj e1]
    simp [madeCells, e2]
theorem ov_rem {x y : Operand} {a b r : Int} {t t2 : TypeId} (hx : ev σ x = .int .i64 a) (hy : ev σ y = .int .i64 b) (h0 : 0 < b) (hr : a.tmod b = r) (h : K (.int .i64 r) w) : opV P ⟨d, .binOp .rem t x y t2, ty, pos, af, g⟩ σ w K := by
  subst hr
  refine ov_run (v := .int .i64 (a.tmod b)) (w' := w) ?_ h
  have hne : b ≠ 0 := by omega
  simp [execOp, hx, hy, eqGuard_rem, binOp_rem, Op.intDiv, hne, go_sem]
end
end Go.Proofs.Ytgjgmojjeehieaa
end

section
/- The program's structs. -/
set_option linter.unusedSimpArgs false
set_option linter.unusedVariables false
namespace Go.Proofs.Ytgjgmojjeehieaa
open Go.RowKit

structure Msg where
  kind : Int
  frm : Int
  dst : Int
  vec : List Int
  evs : List Ev
  deriving DecidableEq, Inhabited
structure Msg.Ok (e : Msg) : Prop where
  kind : InR e.kind
  frm : InR e.frm
  dst : InR e.dst
def Msg.cells (e : Msg) (d1 : Value) (d2 : Value) : List Value := [.int .i64 e.kind, .int .i64 e.frm, .int .i64 e.dst, d1, d2]
instance : Rep Msg where
  k := 5
  bytes := 72
  bpos := by decide
  kpos := by decide
  rd w F cs e := ∃ d1 d2, cs = e.cells d1 d2 ∧ RdS w F d1 e.vec ∧ RdS w F d2 e.evs ∧ e.Ok
  len h := by obtain ⟨d1, d2, rfl, h1, h2, ho⟩ := h; rfl
  one h := by obtain ⟨d1, d2, rfl, h1, h2, ho⟩ := h; exact all1 ⟨rfl, rfl, rfl, h1.sl.one, h2.sl.one, trivial⟩
  mono h hF := by obtain ⟨d1, d2, rfl, h1, h2, ho⟩ := h; exact ⟨d1, d2, rfl, h1.mono hF, h2.mono hF, ho⟩
theorem RdS.msg {w : World} {F : Nat → Prop} {v : Value} {l : List Msg} (h : RdS w F v l) {i : Nat} (hi : i < l.length) :
    CellsAt w (sb v) (so v + i * 5) (l[i].cells (cellV w (sb v) (so v + i * 5 + 3)) (cellV w (sb v) (so v + i * 5 + 4))) ∧ RdS w F (cellV w (sb v) (so v + i * 5 + 3)) l[i].vec ∧ RdS w F (cellV w (sb v) (so v + i * 5 + 4)) l[i].evs ∧ l[i].Ok := by
  obtain ⟨cs, hc, d1, d2, rfl, h1, h2, ho⟩ := h.at_ i hi
  have ed1 : (cellV w (sb v) (so v + i * 5 + 3)) = d1 := by
    have : w.cell? ⟨sb v, so v + i * 5 + 3, none⟩ = some d1 := hc.get (j := 3) rfl
    simp only [cellV, this]; rfl
  have ed2 : (cellV w (sb v) (so v + i * 5 + 4)) = d2 := by
    have : w.cell? ⟨sb v, so v + i * 5 + 4, none⟩ = some d2 := hc.get (j := 4) rfl
    simp only [cellV, this]; rfl
  rw [ed1, ed2]
  exact ⟨hc, h1, h2, ho⟩
end Go.Proofs.Ytgjgmojjeehieaa
end

section
/- The program's structs. -/
set_option linter.unusedSimpArgs false
set_option linter.unusedVariables false
namespace Go.Proofs.Ytgjgmojjeehieaa
open Go.RowKit

structure Idr where
  io : Int
  iq : Int
  deriving DecidableEq, Inhabited
structure Idr.Ok (e : Idr) : Prop where
  io : InR e.io
  iq : InR e.iq
def Idr.cells (e : Idr) : List Value := [.int .i64 e.io, .int .i64 e.iq]
instance : Rep Idr where
  k := 2
  bytes := 16
  bpos := by decide
  kpos := by decide
  rd w F cs e := cs = e.cells ∧ e.Ok
  len h := by obtain ⟨rfl, ho⟩ := h; rfl
  one h := by obtain ⟨rfl, ho⟩ := h; exact all1 ⟨rfl, rfl, trivial⟩
  mono h hF := by obtain ⟨rfl, ho⟩ := h; exact ⟨rfl, ho⟩
end Go.Proofs.Ytgjgmojjeehieaa
end
