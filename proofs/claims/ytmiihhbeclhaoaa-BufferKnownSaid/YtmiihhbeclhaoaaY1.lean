/- Texts of this claim, part 1. -/
import Derived.WalkKit
set_option linter.unusedSimpArgs false
set_option linter.unusedVariables false
set_option linter.unusedSectionVars false
section
/- The engine: a weakest precondition over environments (slot -> value), with rules for code, regions, loops and calls. -/
namespace Go.Proofs.Ytmiihhbeclhaoaa

abbrev Env := Nat → Value
def upd (σ : Env) (d : Nat) (v : Value) : Env := fun i => bif Nat.beq i d then v else σ i
def Zd (σ : Env) : Option Nat → Value → Env
  | some d, v => upd σ d v
  | none, _ => σ
def ev (σ : Env) : Operand → Value
  | .tmp t => σ t
  | .const v => v
  | .global g => .pointer (some ⟨g, 0, none⟩)
  | .func f => .func (.func f) #[] #[]

structure Sim (n : Nat) (σ : Env) (a : Act) : Prop where
  size : a.tmps.size = n
  defers : a.defers = []
  get : ∀ i, a.tmps.getD i undef = σ i

theorem YH (σ : Env) (d : Nat) (v : Value) : upd σ d v d = v := by simp [upd]
theorem Vz (σ : Env) {d i : Nat} (v : Value) (h : i ≠ d) : upd σ d v i = σ i := by
  have : Nat.beq i d = false := by
    cases hb : Nat.beq i d with
    | false => rfl
    | true => exact absurd (Nat.eq_of_beq_eq_true hb) h
  simp [upd, this]

theorem Sim.eval {n : Nat} {σ : Env} {a : Act} (h : Sim n σ a) : a.eval = ev σ := by
  funext x; cases x <;> simp [Act.eval, ev, ← h.get]

theorem Sim.put {n : Nat} {σ : Env} {a : Act} (h : Sim n σ a) {dst : Option Nat} (hd : ∀ d, dst = some d → d < n) (v : Value) : Sim n (Zd σ dst v) (a.put dst v) := by
  cases dst with
  | none => exact h
  | some d =>
    refine ⟨by simp [Act.put, h.size], h.defers, fun i => ?_⟩
    have hlt := hd d rfl
    by_cases hi : i = d
    · subst hi
      have : i < a.tmps.size := by rw [h.size]; exact hlt
      simp [Act.put, Zd, YH, this]
    · rw [show Zd σ (some d) v i = σ i from Vz σ v hi, ← h.get i]
      simp [Act.put, Array.getElem?_setIfInBounds_ne (Ne.symm hi)]

def yl (ops : Array Oper) (σ : Env) (j : Nat) : Option Bool :=
  match (ops[j]?).bind (·.dst) with
  | some d => match σ d with
    | .bool b => some b
    | _ => none
  | none => none

theorem Sim.yielded {n : Nat} {σ : Env} {a : Act} (h : Sim n σ a) (ops : Array Oper) : yielded ops a.tmps = yl ops σ := by
  funext j
  unfold Go.yielded yl
  cases (ops[j]?).bind (·.dst) with
  | none => rfl
  | some d =>
    have := h.get d
    simp only [Option.bind_some]
    rw [← this]
    simp only [Array.getD_eq_getD_getElem?]
    cases a.tmps[d]? with
    | none => simp [undef]
    | some v => simp only [Option.getD_some]; cases v <;> rfl

abbrev xR := Exit → Env → World → Prop

def WP (P : Program) (n : Nat) (c : Code) (Q : xR) (σ : Env) (w : World) : Prop :=
  ∀ a, Sim n σ a → c.wp P (fun e a' w' => ∃ σ', Sim n σ' a' ∧ Q e σ' w') a w

def opV (P : Program) (o : Oper) (σ : Env) (w : World) (K : Value → World → Prop) : Prop :=
  match (execOp (ev σ) o).run P w with
  | .ok (.value v) w' => K v w'
  | .ok .skip w' => K undef w'
  | .ok (.enter f args) w' => Calls P f args w' fun e w'' => ∃ v, e = .returned v ∧ K v w''
  | _ => False
def opP (P : Program) (o : Oper) (K : Env → World → Prop) (σ : Env) (w : World) : Prop := opV P o σ w fun v w' => K (Zd σ o.dst v) w'

def xe (n : Nat) (ops : List Oper) : Bool := ops.all fun o => match o.dst with | some d => Nat.blt d n | none => true

def WPs (P : Program) (ops : Array Oper) (K : Env → World → Prop) : List Oper → Env → World → Prop
  | [], σ, w => K σ w
  | o :: rest, σ, w => if Region.wanted o (yl ops σ) then opP P o (WPs P ops K rest) σ w else WPs P ops K rest (Zd σ o.dst undef) w

section
variable {P : Program} {n : Nat} {Q : xR} {σ : Env} {w : World} {ops : Array Oper}

theorem QO {o : Oper} {a : Act} {K : Env → World → Prop} {next : Act → World → Prop} {Q' : Exit → Act → World → Prop} (hs : Sim n σ a)
    (hn : ∀ a' σ' w', Sim n σ' a' → K σ' w' → next a' w') (hd : ∀ d, o.dst = some d → d < n) (h : opP P o K σ w) : o.wp P a w next Q' := by
  unfold opP opV at h
  unfold Oper.wp
  rw [hs.eval]
  generalize (execOp (ev σ) o).run P w = r at *
  cases r with
  | halt x w' => cases x <;> exact h.elim
  | ok x w' =>
    cases x <;> try exact h.elim
    case value v => exact hn _ _ _ (hs.put hd v) h
    case skip => exact hn _ _ _ (hs.put hd undef) h
    case enter f args =>
      refine Calls.mono h fun e w'' => ?_
      rintro ⟨v, rfl, hk⟩
      exact hn _ _ _ (hs.put hd v) hk

theorem WC {K : Env → World → Prop} {Q' : Exit → Act → World → Prop} (hK : ∀ a σ w, Sim n σ a → K σ w → Q' .normal a w) :
    ∀ (l : List Oper), xe n l = true → ∀ (σ : Env) (a : Act) (w : World), Sim n σ a → WPs P ops K l σ w → wpList P ops Q' l a w
  | [], _, σ, a, w, hs, h => hK a σ w hs h
  | o :: rest, hd, σ, a, w, hs, h => by
    simp only [xe, List.all_cons, Bool.and_eq_true] at hd
    have hd1 : ∀ d, o.dst = some d → d < n := by
      intro d hd'
      have := hd.1
      rw [hd'] at this
      simpa using this
    have ih := WC hK rest (by simpa [xe] using hd.2)
    simp only [WPs] at h
    simp only [wpList, hs.yielded]
    split
    · rename_i hw
      rw [if_pos hw] at h
      exact .inl (QO hs (fun a' σ' w' hs' hk => ih σ' a' w' hs' hk) hd1 h)
    · rename_i hw
      rw [if_neg hw] at h
      exact ih _ _ _ (hs.put hd1 undef) h

theorem zW {id : Nat} {l : List Oper} (hd : xe n l = true) (h : WPs P l.toArray (Q .normal) l σ w) : WP P n (.region id l.toArray false) Q σ w := by
  intro a hs
  exact wp_region_lit (WC (fun a σ w hs hk => ⟨σ, hs, hk⟩) l hd σ a w hs h)

theorem za {id : Nat} {l : List Oper} (hd : xe n l = true) (h : ∀ ops, WPs P ops (Q .normal) l σ w) : WP P n (.region id l.toArray false) Q σ w := zW hd (h _)

abbrev Un (next : Env → World → Prop) (Q : xR) : xR := fun e σ w => match e with
  | .normal => next σ w
  | e => Q e σ w

theorem zc {x y : Code} (h : WP P n x (Un (WP P n y Q) Q) σ w) : WP P n (.seq x y) Q σ w := by
  intro a hs
  refine wp_seq (wp_mono (h a hs) ?_)
  rintro e a' w' ⟨σ', hs', hq⟩
  cases e <;> first | exact hq a' hs' | exact ⟨σ', hs', hq⟩

theorem zo (h : Q .normal σ w) : WP P n .skip Q σ w := fun _ hs => wp_skip ⟨σ, hs, h⟩
theorem zO {id : Nat} (h : Q (.exit id) σ w) : WP P n (.exit id) Q σ w := fun _ hs => wp_exit ⟨σ, hs, h⟩
theorem zw (h : Q .ret σ w) : WP P n .ret Q σ w := fun _ hs => wp_ret ⟨σ, hs, h⟩

theorem Ul {c : Operand} {x y : Code} {t : Bool} (hc : ev σ c = .bool t) (ht : t = true → WP P n x Q σ w) (hf : t = false → WP P n y Q σ w) : WP P n (.cond c x y) Q σ w := by
  intro a hs
  cases t
  · exact wp_cond_false (by rw [hs.eval]; exact hc) (hf rfl a hs)
  · exact wp_cond_true (by rw [hs.eval]; exact hc) (ht rfl a hs)
theorem zk {c : Operand} {x y : Code} (hc : ev σ c = .bool true) (ht : WP P n x Q σ w) : WP P n (.cond c x y) Q σ w := Ul hc (fun _ => ht) (fun h => Bool.noConfusion h)
theorem zi {c : Operand} {x y : Code} (hc : ev σ c = .bool false) (hf : WP P n y Q σ w) : WP P n (.cond c x y) Q σ w := Ul hc (fun h => Bool.noConfusion h) (fun _ => hf)

abbrev ZX (id : Nat) (Q : xR) : xR := fun e σ w => match e with
  | .exit id' => if id' = id then Q .normal σ w else Q (.exit id') σ w
  | e => Q e σ w

theorem zt {id : Nat} {c : Code} (h : WP P n c (ZX id Q) σ w) : WP P n (.block id c) Q σ w := by
  intro a hs
  refine wp_block (wp_mono (h a hs) ?_)
  rintro e a' w' ⟨σ', hs', hq⟩
  cases e <;> try exact ⟨σ', hs', hq⟩
  case exit id' =>
    simp only [ZX] at hq
    simp only [Exit.inBlock]
    split <;> rename_i hid
    · rw [if_pos hid] at hq; exact ⟨σ', hs', hq⟩
    · rw [if_neg hid] at hq; exact ⟨σ', hs', hq⟩

theorem zP {c : Code} (I : Nat → Env → World → Prop) {m : Nat} (h0 : I m σ w)
    (round : ∀ m σ w, I m σ w → WP P n c (Un (fun σ' w' => ∃ m', m' < m ∧ I m' σ' w') Q) σ w) : WP P n (.loop c) Q σ w := by
  have key : ∀ m σ w, I m σ w → ∀ a, Sim n σ a → ∀ (b : Frame) (k : List Item) (cs : List Frame),
      ∃ e a' w', (∃ σ', Sim n σ' a' ∧ Q e σ' w') ∧ Arrives P (lone (b.at a (.code c :: .inLoop c :: k)) cs w) b k cs e a' w' := by
    intro m
    induction m using Nat.strongRecOn with
    | _ m ih =>
      intro σ w hI a hs b k cs
      obtain ⟨e, a₁, w₁, ⟨σ₁, hs₁, hq⟩, harr⟩ := round m σ w hI a hs b (.inLoop c :: k) cs
      cases e with
      | normal =>
        obtain ⟨m', hlt, hI'⟩ := hq
        obtain ⟨e₂, a₂, w₂, hq₂, harr₂⟩ := ih m' hlt σ₁ w₁ hI' a₁ hs₁ b k cs
        exact ⟨e₂, a₂, w₂, hq₂, .of_steps (Steps.trans harr (.one step_inLoop)) harr₂⟩
      | exit id => exact ⟨_, a₁, w₁, ⟨σ₁, hs₁, hq⟩, .pass (x := .inLoop c) rfl (fun _ _ => .inl (by simp)) harr⟩
      | goto l => exact ⟨_, a₁, w₁, ⟨σ₁, hs₁, hq⟩, .pass (x := .inLoop c) rfl (fun _ _ => .inl (by simp)) harr⟩
      | ret => exact ⟨_, a₁, w₁, ⟨σ₁, hs₁, hq⟩, .pass (x := .inLoop c) rfl (fun _ _ => .inl (by simp)) harr⟩
      | panic ch => exact ⟨_, a₁, w₁, ⟨σ₁, hs₁, hq⟩, .pass (x := .inLoop c) rfl (fun _ _ => .inl (by simp)) harr⟩
      | outgrown => exact ⟨_, a₁, w₁, ⟨σ₁, hs₁, hq⟩, .pass (x := .inLoop c) rfl (fun _ _ => .inl (by simp)) harr⟩
  intro a hs b k cs
  obtain ⟨e, a', w', hq, harr⟩ := key m σ w h0 a hs b k cs
  exact ⟨e, a', w', hq, .of_steps (.one step_loop) harr⟩

theorem zF {id : Nat} (h : Q .normal σ w) : ZX id Q (.exit id) σ w := by simp only [ZX, if_true]; exact h
section
variable {K : Env → World → Prop} {rest : List Oper} {d : Nat} {op : Op} {ty : TypeId} {pos : String} {af : Array Edge}
theorem st (h : opV P ⟨some d, op, ty, pos, af, none⟩ σ w (fun v w' => WPs P ops K rest (upd σ d v) w')) : WPs P ops K (⟨some d, op, ty, pos, af, none⟩ :: rest) σ w := h
theorem stn (h : opV P ⟨none, op, ty, pos, af, none⟩ σ w (fun _ w' => WPs P ops K rest σ w')) : WPs P ops K (⟨none, op, ty, pos, af, none⟩ :: rest) σ w := h
theorem ze (h : K σ w) : WPs P ops K [] σ w := h
theorem sty {j t : Nat} {b : Bool} (hd : ((ops[j]?).bind (·.dst)) = some t) (ht : σ t = .bool b) (h : opV P ⟨some d, op, ty, pos, af, some (j, b)⟩ σ w (fun v w' => WPs P ops K rest (upd σ d v) w')) : WPs P ops K (⟨some d, op, ty, pos, af, some (j, b)⟩ :: rest) σ w := by
  have hw : Region.wanted ⟨some d, op, ty, pos, af, some (j, b)⟩ (yl ops σ) = true := by simp [Region.wanted, yl, hd, ht]
  simp only [WPs, hw, if_true]; exact h
theorem stc {j t : Nat} {b want : Bool} {V : Value} (hd : ((ops[j]?).bind (·.dst)) = some t) (ht : σ t = .bool b) (h : b = want → opV P ⟨some d, op, ty, pos, af, some (j, want)⟩ σ w (fun v w' => v = V ∧ w' = w))
    (hn : WPs P ops K rest (upd σ d (if b = want then V else undef)) w) : WPs P ops K (⟨some d, op, ty, pos, af, some (j, want)⟩ :: rest) σ w := by
  simp only [WPs]
  by_cases hb : b = want
  · have hw : Region.wanted ⟨some d, op, ty, pos, af, some (j, want)⟩ (yl ops σ) = true := by simp [Region.wanted, yl, hd, ht, hb]
    simp only [hw, if_true]
    rw [if_pos hb] at hn
    have := h hb
    unfold opP
    revert this
    unfold opV
    generalize (execOp (ev σ) _).run P w = r
    cases r with
    | halt x w' => cases x <;> exact fun h => h
    | ok x w' =>
      cases x <;> try exact fun h => h
      case value v => rintro ⟨rfl, rfl⟩; exact hn
      case skip => rintro ⟨h1, rfl⟩; simp only [Zd]; rw [h1]; exact hn
      case enter f args =>
        intro h1
        refine Calls.mono h1 fun e w'' => ?_
        rintro ⟨v, rfl, rfl, rfl⟩
        exact ⟨_, rfl, hn⟩
  · have hw : Region.wanted ⟨some d, op, ty, pos, af, some (j, want)⟩ (yl ops σ) = false := by simp [Region.wanted, yl, hd, ht, hb]
    simp only [hw]
    rw [if_neg hb] at hn
    exact hn
theorem stcw {j t : Nat} {b want : Bool} {V : Value} (R : World → World → Prop) (hR : R w w) (hd : ((ops[j]?).bind (·.dst)) = some t) (ht : σ t = .bool b) (h : b = want → opV P ⟨some d, op, ty, pos, af, some (j, want)⟩ σ w (fun v w' => v = V ∧ R w w'))
    (hn : ∀ w', R w w' → WPs P ops K rest (upd σ d (if b = want then V else undef)) w') : WPs P ops K (⟨some d, op, ty, pos, af, some (j, want)⟩ :: rest) σ w := by
  simp only [WPs]
  by_cases hb : b = want
  · have hw : Region.wanted ⟨some d, op, ty, pos, af, some (j, want)⟩ (yl ops σ) = true := by simp [Region.wanted, yl, hd, ht, hb]
    simp only [hw, if_true]
    rw [if_pos hb] at hn
    have := h hb
    unfold opP
    revert this
    unfold opV
    generalize (execOp (ev σ) _).run P w = r
    cases r with
    | halt x w' => cases x <;> exact fun h => h
    | ok x w' =>
      cases x <;> try exact fun h => h
      case value v => rintro ⟨rfl, hw'⟩; exact hn _ hw'
      case skip => rintro ⟨h1, hw'⟩; simp only [Zd]; rw [h1]; exact hn _ hw'
      case enter f args =>
        intro h1
        refine Calls.mono h1 fun e w'' => ?_
        rintro ⟨v, rfl, rfl, hw'⟩
        exact ⟨_, rfl, hn _ hw'⟩
  · have hw : Region.wanted ⟨some d, op, ty, pos, af, some (j, want)⟩ (yl ops σ) = false := by simp [Region.wanted, yl, hd, ht, hb]
    simp only [hw]
    rw [if_neg hb] at hn
    exact hn w hR
theorem stx {j t : Nat} {b : Bool} (hd : ((ops[j]?).bind (·.dst)) = some t) (ht : σ t = .bool (!b)) (h : WPs P ops K rest (upd σ d undef) w) : WPs P ops K (⟨some d, op, ty, pos, af, some (j, b)⟩ :: rest) σ w := by
  have hw : Region.wanted ⟨some d, op, ty, pos, af, some (j, b)⟩ (yl ops σ) = false := by cases b <;> simp [Region.wanted, yl, hd, ht]
  simp only [WPs, hw]; exact h
end

def zQ (ρ : Env) : List (Nat × Value) → Env
  | [] => ρ
  | (d, v) :: l => upd (zQ ρ l) d v
def Ud (σ : Env) : List (Nat × Value) → Prop
  | [] => True
  | (d, v) :: l => σ d = v ∧ Ud σ l
theorem zh {l : List (Nat × Value)} (h : Ud σ l) : σ = zQ σ l := by
  induction l with
  | nil => rfl
  | cons p l ih =>
    obtain ⟨d, v⟩ := p
    funext i
    have := congrFun (ih h.2) i
    by_cases hi : i = d
    · subst hi; simp only [zQ, YH]; exact h.1
    · simp only [zQ]; rw [Vz _ _ hi]; exact this

theorem yb {K : Env → World → Prop} {l : List Oper} {kv : List (Nat × Value)} (hk : Ud σ kv) (h : ∀ ρ, WPs P ops K l (zQ ρ kv) w) : WPs P ops K l σ w := by
  rw [zh hk]; exact h σ
def MapL (f : Operand → Value) : List Operand → List Value → Prop
  | [], [] => True
  | a :: as, v :: vs => f a = v ∧ MapL f as vs
  | _, _ => False
theorem xc {f : Operand → Value} : ∀ {as : List Operand} {vs : List Value}, MapL f as vs → as.map f = vs
  | [], [], _ => rfl
  | _ :: _, _ :: _, h => by rw [List.map_cons, h.1, xc h.2]
  | [], _ :: _, h => h.elim
  | _ :: _, [], h => h.elim
def MapP (f : Operand → Value) : List (Nat × Operand) → List (Nat × Value) → Prop
  | [], [] => True
  | a :: as, v :: vs => a.1 = v.1 ∧ f a.2 = v.2 ∧ MapP f as vs
  | _, _ => False
theorem Ve {f : Operand → Value} : ∀ {as : List (Nat × Operand)} {vs : List (Nat × Value)}, MapP f as vs → (as.map fun p => (p.1, f p.2)) = vs
  | [], [], _ => rfl
  | _ :: _, _ :: _, h => by rw [List.map_cons, h.1, h.2.1, Ve h.2.2]
  | [], _ :: _, h => h.elim
  | _ :: _, [], h => h.elim

def Yr (P : Program) (fn : Func) (R : Value → World → Prop) : xR := fun e σ w => match e with
  | .normal | .ret => ∃ v, (∀ tmps : Array Value, (∀ i, tmps.getD i undef = σ i) → (results fn tmps).run P w = .ok v w) ∧ R v w
  | _ => False

def Ko (args : List Value) : Env := fun i => args.getD i undef

def Ret (P : Program) (f : FuncId) (args : List Value) (w : World) (R : Value → World → Prop) : Prop := Calls P f args.toArray w (fun e w' => ∃ v, e = .returned v ∧ R v w')
theorem Ret.mono {P : Program} {f : FuncId} {args : List Value} {w : World} {R R' : Value → World → Prop} (h : Ret P f args w R) (hr : ∀ v w', R v w' → R' v w') : Ret P f args w R' :=
  Calls.mono h fun _ _ ⟨v, he, hR⟩ => ⟨v, he, hr _ _ hR⟩

theorem zp {f : FuncId} {fn : Func} {c : Code} {args : List Value} {w : World} {R : Value → World → Prop}
    (hf : P.funcs[f]? = some fn) (hb : fn.body = some c) (hn : Nat.ble args.length fn.ntmps = true)
    (h : WP P fn.ntmps c (Yr P fn R) (Ko args) w) : Ret P f args w R := by
  have hn' : args.length ≤ fn.ntmps := Nat.le_of_ble_eq_true hn
  refine calls_of_wp hf hb (wp_mono (h _ ⟨?_, rfl, fun i => ?_⟩) ?_)
  · simp; omega
  · simp only [Ko, Array.getD_eq_getD_getElem?, List.getD_eq_getElem?_getD]
    by_cases hi : i < args.length
    · simp [Array.getElem?_append, hi]
    · simp only [Array.getElem?_append, List.size_toArray, hi, if_false]
      rw [List.getElem?_eq_none (by omega)]
      simp only [Option.getD_none]
      rw [Array.getElem?_replicate]
      split <;> simp
  · rintro e a' w' ⟨σ', hs', hq⟩
    cases e <;> try exact hq.elim
    case normal => obtain ⟨v, hr, hR⟩ := hq; exact ⟨hs'.defers, v, hr _ hs'.get, v, rfl, hR⟩
    case ret => obtain ⟨v, hr, hR⟩ := hq; exact ⟨hs'.defers, v, hr _ hs'.get, v, rfl, hR⟩
end

theorem yx {p : Prop} [Decidable p] (h : (!decide p) = true) : ¬ p := by simpa using h
theorem yh {p : Prop} [Decidable p] (h : (!decide p) = false) : p := by simpa using h
end Go.Proofs.Ytmiihhbeclhaoaa
end

section
/- A region that draws its order: an assertion for each operation that needs it, then the last operations in their order. -/
namespace Go.Proofs.Ytmiihhbeclhaoaa

theorem Qx {P : Program} {o : Oper} {σ : Env} {w : World} {K K' : Value → World → Prop} (h : ∀ v w', K v w' → K' v w') (hh : opV P o σ w K) : opV P o σ w K' := by
  unfold opV at *
  generalize (execOp (ev σ) o).run P w = r at *
  cases r with
  | halt x w' => cases x <;> exact hh.elim
  | ok x w' =>
    cases x <;> try exact hh.elim
    case value v => exact h _ _ hh
    case skip => exact h _ _ hh
    case enter f args =>
      refine Calls.mono hh fun e w'' => ?_
      rintro ⟨v, rfl, hk⟩
      exact ⟨v, rfl, h _ _ hk⟩

def xa (ops : List Oper) (t j : Nat) : Bool := match ops[j]? with
  | some o => match o.dst with
    | some d => Nat.beq d t
    | none => false
  | none => false

def VI (ops : List Oper) (pre : List Nat) (σ : Env) (vals : Nat → Value) : Env := fun t =>
  match pre.find? (xa ops t) with
  | some j => vals j
  | none => σ t

def Yv (pre : List (List Nat)) (i : Nat) (o : Oper) : Bool :=
  (o.after.toList.all fun e => !Region.binds .any e || Nat.blt e.on i) &&
  (pre.getD i []).all fun j => Nat.blt j i && o.after.toList.any fun e => Region.binds .any e && (Nat.beq e.on j || (pre.getD e.on []).contains j)
def Ug (ops : List Oper) (pre : List (List Nat)) (i : Nat) (o : Oper) : Bool :=
  (o.looksAt ops.toArray).all fun t => ((pre.getD i []).any (xa ops t)) || (List.range ops.length).all fun j => !xa ops t j || Nat.beq j i || (pre.getD j []).contains i
def Wm (ops : List Oper) : Bool := (List.range ops.length).all fun i => (List.range i).all fun j => match ops[i]? with
  | some o => (match o.dst with | some d => !xa ops d j | none => true)
  | none => true
def Je (o : Oper) : Bool := match o.op with | .select .. => false | _ => true
def drawOk (ops : List Oper) (pre : List (List Nat)) (k : Nat) : Bool :=
  Nat.ble k ops.length && Wm ops && ops.zipIdx.all fun (o, i) => Je o && Yv pre i o && Ug ops pre i o && (Nat.blt i k || (List.range i).all fun j => (pre.getD i []).contains j)

theorem obl {P : Program} {ops : Array Oper} {o : Oper} {σ : Env} {w : World} {K : Value → World → Prop} {X : Prop} (hg : o.guard = none) (h : opV P o σ w K) : (if Region.wanted o (yl ops σ) then opV P o σ w K else X) := by
  rw [if_pos (by simp [Region.wanted, hg])]; exact h
theorem yT {P : Program} {ops : Array Oper} {o : Oper} {σ : Env} {w : World} {K : Value → World → Prop} {X : Prop} {j t : Nat} {want b : Bool} (hg : o.guard = some (j, want)) (hd : ((ops[j]?).bind (·.dst)) = some t) (ht : σ t = .bool b)
    (h : b = want → opV P o σ w K) (hx : b ≠ want → X) : (if Region.wanted o (yl ops σ) then opV P o σ w K else X) := by
  by_cases hb : b = want
  · rw [if_pos (by simp [Region.wanted, hg, yl, hd, ht, hb])]; exact h hb
  · rw [if_neg (by simp [Region.wanted, hg, yl, hd, ht, hb])]; exact hx hb

theorem xD {P : Program} {ops : Array Oper} {o : Oper} {σ : Env} {w : World} {K : Value → World → Prop} {X : Prop} {j t : Nat} {want b : Bool} {p : Prop} [Decidable p] (hg : o.guard = some (j, want)) (hd : ((ops[j]?).bind (·.dst)) = some t) (ht : σ t = if p then .bool b else undef)
    (h : p ∧ b = want → opV P o σ w K) (hx : ¬ (p ∧ b = want) → X) : (if Region.wanted o (yl ops σ) then opV P o σ w K else X) := by
  by_cases hp : p
  · rw [if_pos hp] at ht
    exact yT hg hd ht (fun hb => h ⟨hp, hb⟩) (fun hb => hx (fun h => hb h.2))
  · rw [if_neg hp] at ht
    rw [if_neg (by simp [Region.wanted, hg, yl, hd, ht, undef])]
    exact hx (fun h => hp h.1)

def behind (ops : List Oper) (vals : Nat → Value) (σ : Env) : Nat → Env
  | 0 => σ
  | k + 1 => match ops[k]? with
    | some o => Zd (behind ops vals σ k) o.dst (vals k)
    | none => behind ops vals σ k

section
variable {P : Program} {n : Nat} {Q : xR} {σ : Env} {w : World} {ops : List Oper} {pre : List (List Nat)} {k : Nat} {R : World → World → Prop} {A : Nat → Value → World → Prop}

structure Fit (ops : List Oper) (pre : List (List Nat)) (k : Nat) : Prop where
  k_le : k ≤ ops.length
  sel : ∀ (i : Nat) (o : Oper), ops[i]? = some o → ∀ (cs : Array SelectCase) (b : Bool), o.op ≠ .select cs b
  edge : ∀ (i : Nat) (o : Oper), ops[i]? = some o → ∀ e ∈ o.after, Region.binds .any e = true → e.on < i
  lt : ∀ (i : Nat) (o : Oper), ops[i]? = some o → ∀ j ∈ pre.getD i [], j < i
  prec : ∀ (i : Nat) (o : Oper), ops[i]? = some o → ∀ j ∈ pre.getD i [], ∃ e ∈ o.after, Region.binds .any e = true ∧ (e.on = j ∨ j ∈ pre.getD e.on [])
  looks : ∀ (i : Nat) (o : Oper), ops[i]? = some o → ∀ t ∈ o.looksAt ops.toArray, (∃ j ∈ pre.getD i [], xa ops t j = true) ∨ ∀ j, xa ops t j = true → j = i ∨ i ∈ pre.getD j []
  uniq : ∀ t i j, xa ops t i = true → xa ops t j = true → i = j
  late : ∀ (i : Nat) (o : Oper), ops[i]? = some o → k ≤ i → ∀ j, j < i → j ∈ pre.getD i []

theorem QU {a b : Nat} : Nat.beq a b = true ↔ a = b := ⟨Nat.eq_of_beq_eq_true, fun h => by subst h; exact Nat.beq_refl a⟩

theorem Zn {t j : Nat} : xa ops t j = true ↔ ∃ o, ops[j]? = some o ∧ o.dst = some t := by
  unfold xa
  cases h : ops[j]? with
  | none => simp
  | some o =>
    cases hd : o.dst with
    | none => simp [hd]
    | some d => simp only [QU, Option.some.injEq, exists_eq_left', hd]

theorem YS {t j : Nat} (h : xa ops t j = true) : j < ops.length := by
  obtain ⟨o, ho, _⟩ := Zn.1 h
  exact (List.getElem?_eq_some_iff.1 ho).1

theorem drawOk.fit (h : drawOk ops pre k = true) : Fit ops pre k := by
  simp only [drawOk, Bool.and_eq_true, List.all_eq_true] at h
  obtain ⟨⟨hk, hu⟩, hall⟩ := h
  have at_ : ∀ i o, ops[i]? = some o → (o, i) ∈ ops.zipIdx := by
    intro i o ho
    rw [List.mem_zipIdx_iff_getElem?]
    exact ho
  refine ⟨Nat.le_of_ble_eq_true hk, ?_, ?_, ?_, ?_, ?_, ?_, ?_⟩
  · intro i o ho cs b hs
    have := (hall _ (at_ i o ho)).1.1.1
    simp [Je, hs] at this
  · intro i o ho e he hb
    have := (hall _ (at_ i o ho)).1.1.2
    simp only [Yv, Bool.and_eq_true, List.all_eq_true] at this
    have h1 := this.1 e (by simpa using he)
    simpa [hb, Nat.blt_eq] using h1
  · intro i o ho j hj
    have := (hall _ (at_ i o ho)).1.1.2
    simp only [Yv, Bool.and_eq_true, List.all_eq_true] at this
    have h1 := (this.2 j hj).1
    simpa [Nat.blt_eq] using h1
  · intro i o ho j hj
    have := (hall _ (at_ i o ho)).1.1.2
    simp only [Yv, Bool.and_eq_true, List.all_eq_true] at this
    have h1 := (this.2 j hj).2
    simp only [List.any_eq_true, Bool.and_eq_true, Bool.or_eq_true, QU, List.contains_iff_mem] at h1
    obtain ⟨e, he, hb, hj'⟩ := h1
    exact ⟨e, by simpa using he, hb, hj'⟩
  · intro i o ho t ht
    have := (hall _ (at_ i o ho)).1.2
    simp only [Ug, List.all_eq_true] at this
    have h1 := this t ht
    simp only [Bool.or_eq_true, List.any_eq_true, List.all_eq_true, List.mem_range, Bool.not_eq_true', QU, List.contains_iff_mem] at h1
    rcases h1 with ⟨j, hj, hd⟩ | h1
    · exact .inl ⟨j, hj, hd⟩
    · refine .inr fun j hj => ?_
      rcases h1 j (YS hj) with (h2 | h2) | h2
      · rw [hj] at h2; cases h2
      · exact .inl h2
      · exact .inr h2
  · have key : ∀ t i j, j < i → xa ops t i = true → xa ops t j = true → False := by
      intro t i j hji hi hj
      obtain ⟨o, ho, hd⟩ := Zn.1 hi
      simp only [Wm, List.all_eq_true, List.mem_range] at hu
      have := hu i (YS hi) j hji
      simp only [ho, hd, hj] at this
      cases this
    intro t i j hi hj
    rcases Nat.lt_trichotomy i j with h | h | h
    · exact (key t j i h hj hi).elim
    · exact h
    · exact (key t i j h hi hj).elim
  · intro i o ho hki j hj
    have := (hall _ (at_ i o ho)).2
    simp only [Bool.or_eq_true, List.all_eq_true, List.mem_range, List.contains_iff_mem] at this
    rcases this with h1 | h1
    · have : i < k := by simpa [Nat.blt_eq] using h1
      omega
    · exact h1 j hj

def mixed (ops : List Oper) (done : Nat → Bool) (vals : Nat → Value) (σ : Env) : Env := fun t =>
  match (List.range ops.length).find? (fun j => xa ops t j && done j) with
  | some j => vals j
  | none => σ t

theorem xS (hf : Fit ops pre k) {done : Nat → Bool} {vals : Nat → Value} {t j : Nat} (hd : xa ops t j = true) (hj : done j = true) : mixed ops done vals σ t = vals j := by
  unfold mixed
  cases h : (List.range ops.length).find? (fun j => xa ops t j && done j) with
  | none =>
    have := List.find?_eq_none.1 h j (List.mem_range.2 (YS hd))
    simp [hd, hj] at this
  | some j' =>
    have := List.find?_some h
    simp only [Bool.and_eq_true] at this
    rw [hf.uniq t j' j this.1 hd]

theorem xq {done : Nat → Bool} {vals : Nat → Value} {t : Nat} (h : ∀ j, xa ops t j = true → done j = false) : mixed ops done vals σ t = σ t := by
  unfold mixed
  cases h' : (List.range ops.length).find? (fun j => xa ops t j && done j) with
  | none => rfl
  | some j' =>
    have := List.find?_some h'
    simp only [Bool.and_eq_true] at this
    rw [h j' this.1] at this
    cases this.2

theorem Uy {o : Oper} {σ σ' : Env} {K : Value → World → Prop} (hs : ∀ cs b, o.op ≠ .select cs b) (h : ∀ t ∈ o.looksAt ops.toArray, σ' t = σ t) : opV P o σ' w K = opV P o σ w K := by
  have : execOp (ev σ') o = execOp (ev σ) o := execOp_congr o hs fun x hx => by
    cases x with
    | tmp t => exact h t (List.mem_append_left _ (List.mem_filterMap.2 ⟨.tmp t, by simpa using hx, rfl⟩))
    | _ => rfl
  unfold opV
  rw [this]

theorem XN {o : Oper} {σ σ' : Env} (h : ∀ t ∈ o.looksAt ops.toArray, σ' t = σ t) : Region.wanted o (yl ops.toArray σ') = Region.wanted o (yl ops.toArray σ) := by
  unfold Region.wanted
  cases hg : o.guard with
  | none => rfl
  | some gw =>
    obtain ⟨g, want⟩ := gw
    have : yl ops.toArray σ' g = yl ops.toArray σ g := by
      unfold yl
      cases ht : (ops.toArray[g]?).bind (·.dst) with
      | none => rfl
      | some t =>
        have := h t (by simp only [Oper.looksAt, hg, ht, Option.toList_some, List.mem_append]; exact .inr (List.mem_singleton.2 rfl))
        simp only [this]
    simp only [this]

def Zz (pre : List (List Nat)) (done : Nat → Bool) : Prop := ∀ i, done i = true → ∀ j ∈ pre.getD i [], done j = true

theorem Vu (hf : Fit ops pre k) {done : Nat → Bool} {vals : Nat → Value} {i : Nat} {o : Oper} (ho : ops[i]? = some o) (hc : Zz pre done) (hi : done i = false)
    (hp : ∀ j ∈ pre.getD i [], done j = true) : ∀ t ∈ o.looksAt ops.toArray, mixed ops done vals σ t = VI ops (pre.getD i []) σ vals t := by
  intro t ht
  unfold VI
  cases hfd : (pre.getD i []).find? (xa ops t) with
  | some j =>
    have h1 := List.find?_some hfd
    have h2 := List.mem_of_find?_eq_some hfd
    exact xS hf h1 (hp j h2)
  | none =>
    have hno := List.find?_eq_none.1 hfd
    refine xq fun j hj => ?_
    rcases hf.looks i o ho t ht with ⟨j', hj', hd'⟩ | h
    · exact (hno j' hj' hd').elim
    · rcases h j hj with rfl | h
      · exact hi
      · cases hdj : done j with
        | false => rfl
        | true => have := hc j hdj i h; rw [hi] at this; cases this

theorem Ws (hf : Fit ops pre k) {done : Nat → Bool} {vals : Nat → Value} {i : Nat} {o : Oper} (ho : ops[i]? = some o) (hi : done i = false) (v : Value) :
    Zd (mixed ops done vals σ) o.dst v = mixed ops (fun j => done j || j == i) (fun j => if j = i then v else vals j) σ := by
  funext t
  by_cases hd : xa ops t i = true
  · obtain ⟨o', ho', hd'⟩ := Zn.1 hd
    rw [ho] at ho'; cases ho'
    rw [xS hf hd (by simp), hd']
    simp [Zd, YH]
  · have h1 : Zd (mixed ops done vals σ) o.dst v t = mixed ops done vals σ t := by
      cases hdst : o.dst with
      | none => rfl
      | some d =>
        refine Vz _ _ ?_
        rintro rfl
        exact hd (Zn.2 ⟨o, ho, hdst⟩)
    rw [h1]
    by_cases hex : ∃ j, xa ops t j = true ∧ done j = true
    · obtain ⟨j, hj, hdj⟩ := hex
      have hji : j ≠ i := by rintro rfl; rw [hi] at hdj; cases hdj
      rw [xS hf hj hdj, xS hf hj (by simp [hdj])]
      simp [hji]
    · rw [xq (fun j hj => by cases h : done j with | false => rfl | true => exact (hex ⟨j, hj, h⟩).elim),
        xq (fun j hj => ?_)]
      cases h : done j with
      | true => exact (hex ⟨j, hj, h⟩).elim
      | false =>
        have : j ≠ i := by rintro rfl; exact hd hj
        simp [this]

theorem ZM (hf : Fit ops pre k) {vals : Nat → Value} : ∀ m, m ≤ ops.length → behind ops vals σ m = mixed ops (fun j => decide (j < m)) vals σ
  | 0, _ => by funext t; simp only [behind]; exact (xq (fun j _ => by simp)).symm
  | m + 1, h => by
    have ho : ops[m]? = some ops[m] := List.getElem?_eq_getElem (by omega)
    simp only [behind, ho]
    rw [ZM hf m (by omega), Ws hf ho (by simp)]
    congr 1
    · funext j
      rw [Bool.eq_iff_iff]
      simp only [Bool.or_eq_true, decide_eq_true_eq, beq_iff_eq]
      omega
    · funext j; split
      · subst_vars; rfl
      · rfl

def cnt (done : Nat → Bool) (m : Nat) : Nat := (List.range m).countP done
theorem ZG (done : Nat → Bool) (m : Nat) : cnt done (m + 1) = cnt done m + if done m = true then 1 else 0 := by
  simp [cnt, List.range_succ, List.countP_append, List.countP_cons]
theorem VV {done : Nat → Bool} {i : Nat} (hi : done i = false) : ∀ m, cnt (fun j => done j || j == i) m = cnt done m + if i < m then 1 else 0
  | 0 => by simp [cnt]
  | m + 1 => by
    rw [ZG, ZG, VV hi m]
    by_cases h : m = i
    · subst h; simp [hi]
    · have h2 : (i < m + 1) ↔ (i < m) := by omega
      simp only [h2]
      cases done m <;> simp [h] <;> omega
theorem QK (done : Nat → Bool) : ∀ m, cnt done m ≤ m
  | 0 => by simp [cnt]
  | m + 1 => by rw [ZG]; have := QK done m; split <;> omega
theorem Wx {done : Nat → Bool} : ∀ {m}, m ≤ cnt done m → ∀ j, j < m → done j = true
  | 0, _, j, hj => by omega
  | m + 1, h, j, hj => by
    rw [ZG] at h
    have hle := QK done m
    by_cases hm : done m = true
    · rw [if_pos hm] at h
      by_cases hjm : j = m
      · subst hjm; exact hm
      · exact Wx (m := m) (by omega) j (by omega)
    · rw [if_neg hm] at h; omega

theorem YX {done : Nat → Bool} : ∀ m, (∃ j, j < m ∧ done j = false) → ∃ i, i < m ∧ done i = false ∧ ∀ j, j < i → done j = true
  | 0, ⟨j, hj, _⟩ => by omega
  | m + 1, ⟨j, hj, hd⟩ => by
    by_cases h : ∃ j, j < m ∧ done j = false
    · obtain ⟨i, hi, h1, h2⟩ := YX m h
      exact ⟨i, by omega, h1, h2⟩
    · have hjm : j = m := by
        rcases Nat.lt_or_ge j m with h' | h'
        · exact (h ⟨j, h', hd⟩).elim
        · omega
      subst hjm
      refine ⟨j, hj, hd, fun i hi => ?_⟩
      cases hdi : done i with
      | true => rfl
      | false => exact (h ⟨i, hi, hdi⟩).elim

def dn (listed : Array Bool) (j : Nat) : Bool := listed.getD j false

theorem Yc {listed : Array Bool} (hs : listed.size = ops.length) {i : Nat} : i ∈ Region.ready .any ops.toArray listed ↔
    dn listed i = false ∧ ∃ o, ops[i]? = some o ∧ ∀ e ∈ o.after, Region.binds .any e = true → dn listed e.on = true := by
  rw [mem_ready]
  simp only [List.getElem?_toArray]
  constructor
  · rintro ⟨h1, o, ho, h2⟩
    have hlt : i < listed.size := by rw [hs]; exact (List.getElem?_eq_some_iff.1 ho).1
    refine ⟨?_, o, ho, h2⟩
    simp [dn, hlt] at h1 ⊢
    exact h1
  · rintro ⟨h1, o, ho, h2⟩
    have hlt : i < listed.size := by rw [hs]; exact (List.getElem?_eq_some_iff.1 ho).1
    refine ⟨?_, o, ho, h2⟩
    simp [dn, hlt] at h1 ⊢
    exact h1

theorem Jk {listed : Array Bool} (hs : listed.size = ops.length) {i : Nat} {o : Oper} (ho : ops[i]? = some o) : dn (listed.setIfInBounds i true) = fun j => dn listed j || j == i := by
  funext j
  have hlt : i < listed.size := by rw [hs]; exact (List.getElem?_eq_some_iff.1 ho).1
  by_cases h : i = j
  · subst h; simp [dn, hlt]
  · have h' : ¬ j = i := fun e => h e.symm
    simp [dn, Array.getElem?_setIfInBounds_ne h, h']

theorem UX (hf : Fit ops pre k) {listed : Array Bool} (hs : listed.size = ops.length) (h : Region.ready .any ops.toArray listed = []) : ∀ j, j < ops.length → dn listed j = true := by
  intro j hj
  cases hd : dn listed j with
  | true => rfl
  | false =>
    obtain ⟨i, hi, h1, h2⟩ := YX ops.length ⟨j, hj, hd⟩
    have ho : ops[i]? = some ops[i] := List.getElem?_eq_getElem hi
    have : i ∈ Region.ready .any ops.toArray listed := (Yc hs).2 ⟨h1, _, ho, fun e he hb => h2 _ (hf.edge i _ ho e he hb)⟩
    rw [h] at this
    cases this

theorem UZ (hf : Fit ops pre k) {listed : Array Bool} (hs : listed.size = ops.length) (hc : Zz pre (dn listed)) {i : Nat} (h : i ∈ Region.ready .any ops.toArray listed) :
    ∃ o, ops[i]? = some o ∧ dn listed i = false ∧ ∀ j ∈ pre.getD i [], dn listed j = true := by
  obtain ⟨h1, o, ho, h2⟩ := (Yc hs).1 h
  refine ⟨o, ho, h1, fun j hj => ?_⟩
  obtain ⟨e, he, hb, hj'⟩ := hf.prec i o ho j hj
  have h3 := h2 e he hb
  rcases hj' with rfl | hj'
  · exact h3
  · exact hc _ h3 j hj'

end
end Go.Proofs.Ytmiihhbeclhaoaa
end

section
/- A region that draws its order and stores: readers ahead of the first store, what is pure anywhere, the stores one behind the other. -/
namespace Go.Proofs.Ytmiihhbeclhaoaa

section
variable {P : Program} {n : Nat} {Q : xR} {σ : Env} {w : World} {ops : List Oper} {pre : List (List Nat)}

def yV (ss : List Nat) (done : Nat → Bool) : Nat := ss.countP done

structure Stg (pre : List (List Nat)) (ss : List Nat) (i : Nat) (a b : Nat) : Prop where
  now : ∀ done, Zz pre done → done i = false → (∀ j ∈ pre.getD i [], done j = true) → yV ss done = a
  next : ∀ done, Zz pre done → done i = false → (∀ j ∈ pre.getD i [], done j = true) → yV ss (fun j => done j || j == i) = b

theorem Zk {ss : List Nat} {d : Nat → Bool} (h : ∀ s ∈ ss, d s = false) : ss.countP d = 0 := List.countP_eq_zero.2 fun s hs => by simp [h s hs]
theorem Zx {ss : List Nat} {d : Nat → Bool} {i : Nat} (h : i ∉ ss) : ss.countP (fun j => d j || j == i) = ss.countP d := by
  refine List.countP_congr fun s hs => ?_
  have : s ≠ i := fun e => h (e ▸ hs)
  simp [this]

end
end Go.Proofs.Ytmiihhbeclhaoaa
end

section
/- Memory: what a step may change; readings of values as data. -/
namespace Go.Proofs.Ytmiihhbeclhaoaa
open Go.RowKit

def Soft (w : World) (b : Nat) : Prop := ∃ c T, w.heap[b]? = some (.cells c T)
def SoftStep (w w' : World) : Prop := ∀ b, Soft w b → Soft w' b
theorem SoftStep.refl (w : World) : SoftStep w w := fun _ h => h
theorem SoftStep.trans {a b c : World} (h : SoftStep a b) (k : SoftStep b c) : SoftStep a c := fun i hi => k i (h i hi)
theorem SoftStep.push {w w' : World} {o : Obj} (h : w'.heap = w.heap.push o) : SoftStep w w' := by
  rintro b ⟨c, T, hb⟩
  have hlt := (Array.getElem?_eq_some_iff.1 hb).1
  exact ⟨c, T, by rw [h, Array.getElem?_push, if_neg (Nat.ne_of_lt hlt)]; exact hb⟩
theorem SoftStep.setRow {w : World} {g : Nat} {c : Array Value} : SoftStep w (w.setRow g c) := by
  rintro b ⟨c', T, hb⟩
  by_cases hg : b = g
  · subst hg; exact ⟨c, T, setRow_heap w b c' c T (0, 0) hb⟩
  · exact ⟨c', T, by rw [setRow_other w g b c hg]; exact hb⟩

structure Chg (O : Nat → Prop) (w w' : World) : Prop where
  os : w'.os = w.os
  tape : w'.tape = w.tape
  output : w'.output = w.output
  size : w.heap.size ≤ w'.heap.size
  block : ∀ b, b < w.heap.size → ¬ O b → w'.heap[b]? = w.heap[b]?
  soft : SoftStep w w'
  drawn : w.drawn ≤ w'.drawn
abbrev Ext : World → World → Prop := Chg (fun _ => False)
theorem Chg.refl (O : Nat → Prop) (w : World) : Chg O w w := ⟨rfl, rfl, rfl, Nat.le_refl _, fun _ _ _ => rfl, SoftStep.refl w, Nat.le_refl _⟩
theorem Chg.trans {O : Nat → Prop} {a b c : World} (h : Chg O a b) (k : Chg O b c) : Chg O a c :=
  ⟨k.os.trans h.os, k.tape.trans h.tape, k.output.trans h.output, Nat.le_trans h.size k.size, fun i hi hO => (k.block i (Nat.lt_of_lt_of_le hi h.size) hO).trans (h.block i hi hO), h.soft.trans k.soft, Nat.le_trans h.drawn k.drawn⟩
theorem Chg.weak {O O' : Nat → Prop} {a b : World} (h : Chg O a b) (hO : ∀ i, i < a.heap.size → O i → O' i) : Chg O' a b :=
  ⟨h.os, h.tape, h.output, h.size, fun i hi h' => h.block i hi (fun ho => h' (hO i hi ho)), h.soft, h.drawn⟩
theorem Chg.keep {O : Nat → Prop} {w w' : World} {b : Nat} {o : Obj} (h : Chg O w w') (hb : w.heap[b]? = some o) (hO : ¬ O b) : w'.heap[b]? = some o := by
  rw [h.block b (Array.getElem?_eq_some_iff.1 hb).1 hO]; exact hb
theorem Chg.below {w w' : World} (h : Ext w w') : Below w.heap.size w w' := ⟨h.os, h.tape, h.output, h.size, fun b hb => h.block b hb (fun h => h)⟩
theorem Chg.same {O : Nat → Prop} {a b c : World} (h : Chg O b c) (h1 : b.heap = a.heap) (h2 : b.os = a.os) (h3 : b.tape = a.tape) (h4 : b.output = a.output ∧ a.drawn ≤ b.drawn) : Chg O a c :=
  ⟨h.os.trans h2, h.tape.trans h3, h.output.trans h4.1, h1 ▸ h.size, by rw [← h1]; exact h.block, fun i ⟨c, T, hi⟩ => h.soft i ⟨c, T, by rw [h1]; exact hi⟩, Nat.le_trans h4.2 h.drawn⟩

theorem WQ {w w0 : World} (h1 : w0.heap = w.heap) (h2 : w0.os = w.os) (h3 : w0.tape = w.tape) (h4 : w0.output = w.output ∧ w.drawn ≤ w0.drawn) : Ext w w0 :=
  (Chg.refl _ w0).same h1 h2 h3 h4
theorem yK {w : World} {b : Nat} {o : Obj} (h : w.heap[b]? = some o) : b < w.heap.size := (Array.getElem?_eq_some_iff.1 h).1

structure New (w w1 : World) (b : Nat) (o : Obj) : Prop where
  ext : Ext w w1
  eq : b = w.heap.size
  size : w1.heap.size = b + 1
  at_ : w1.heap[b]? = some o
theorem New.mk' (w : World) (o : Obj) : New w { w with heap := w.heap.push o } w.heap.size o :=
  ⟨⟨rfl, rfl, rfl, by simp, fun b hb _ => by simp [Array.getElem?_push, Nat.ne_of_lt hb], SoftStep.push rfl, Nat.le_refl _⟩, rfl, by simp, by simp⟩

def CellsAt (w : World) (b off : Nat) (cs : List Value) : Prop := ∀ j (h : j < cs.length), w.cell? ⟨b, off + j, none⟩ = some cs[j]

theorem xW {w w' : World} {b off : Nat} (h : w'.heap[b]? = w.heap[b]?) : w'.cell? ⟨b, off, none⟩ = w.cell? ⟨b, off, none⟩ := by
  unfold World.cell?; simp only [h]
theorem ZL {w : World} {b off : Nat} {v : Value} (h : w.cell? ⟨b, off, none⟩ = some v) : b < w.heap.size := by
  rcases Nat.lt_or_ge b w.heap.size with hb | hb
  · exact hb
  · rw [World.cell?, Array.getElem?_eq_none hb] at h; cases h
theorem xm {w : World} {b off : Nat} {c : Array Value} {t : TypeId} {fz : Nat × Nat} {v : Value} (h : w.heap[b]? = some (.cells c t fz)) (hc : c[off]? = some v) : w.cell? ⟨b, off, none⟩ = some v := by
  unfold World.cell?; simp [h, hc]
theorem zf {w : World} {b off : Nat} {c : List Value} {t : TypeId} {fz : Nat × Nat} {v : Value} (h : w.heap[b]? = some (.cells c.toArray t fz)) (hc : c[off]? = some v) : w.cell? ⟨b, off, none⟩ = some v := xm h (by simpa using hc)
theorem CellsAt.of_block {w : World} {b off : Nat} {c : Array Value} {t : TypeId} {fz : Nat × Nat} {cs : List Value} (h : w.heap[b]? = some (.cells c t fz)) (hc : ∀ j (h : j < cs.length), c[off + j]? = some cs[j]) : CellsAt w b off cs :=
  fun j hj => xm h (hc j hj)
theorem CellsAt.all {w : World} {b : Nat} {c : Array Value} {t : TypeId} {fz : Nat × Nat} (h : w.heap[b]? = some (.cells c t fz)) : CellsAt w b 0 c.toList :=
  .of_block h fun j hj => by simp at hj ⊢
theorem CellsAt.lt {w : World} {b off : Nat} {cs : List Value} (h : CellsAt w b off cs) (hne : cs ≠ []) : b < w.heap.size := by
  cases cs with
  | nil => exact (hne rfl).elim
  | cons x l => exact ZL (h 0 (by simp))
theorem CellsAt.mono {w w' : World} {b off : Nat} {cs : List Value} (h : CellsAt w b off cs) (hb : b < w.heap.size → w'.heap[b]? = w.heap[b]?) : CellsAt w' b off cs := by
  intro j hj
  have h1 := h j hj
  rw [xW (hb (ZL h1))]; exact h1

theorem CellsAt.get {w : World} {b off : Nat} {cs : List Value} (h : CellsAt w b off cs) {j : Nat} {v : Value} (hj : cs[j]? = some v) : w.cell? ⟨b, off + j, none⟩ = some v := by
  obtain ⟨hlt, rfl⟩ := List.getElem?_eq_some_iff.1 hj
  exact h j hlt
theorem CellsAt.sub {w : World} {b off : Nat} {cs cs2 : List Value} (h : CellsAt w b off cs) (i : Nat) (hs : (cs.drop i).take cs2.length = cs2) : CellsAt w b (off + i) cs2 := by
  intro j hj
  have h1 : cs2[j]? = cs[i + j]? := by rw [← hs, List.getElem?_take, if_pos hj, List.getElem?_drop]
  rw [List.getElem?_eq_getElem hj] at h1
  have := h.get h1.symm
  rw [show off + i + j = off + (i + j) by omega]
  exact this
def All1 : List Value → Prop
  | [] => True
  | v :: l => v.oneCell' = true ∧ All1 l
theorem yU {l : List Value} (h : All1 l) : ∀ u ∈ l, u.oneCell' = true := by
  induction l with
  | nil => intro u hu; cases hu
  | cons x l ih => intro u hu; rcases List.mem_cons.1 hu with rfl | hu; exact h.1; exact ih h.2 u hu

class Rep (α : Type) where
  k : Nat
  rd : World → (Nat → Prop) → List Value → α → Prop
  bytes : Nat
  kpos : 0 < k
  bpos : 0 < bytes
  len : ∀ {w F cs x}, rd w F cs x → cs.length = k
  one : ∀ {w F cs x}, rd w F cs x → ∀ u ∈ cs, u.oneCell' = true
  mono : ∀ {w w' F F' cs x}, rd w F cs x → (∀ b, F b → b < w.heap.size → w'.heap[b]? = w.heap[b]? ∧ F' b) → rd w' F' cs x

abbrev InR (n : Int) : Prop := -9223372036854775808 ≤ n ∧ n < 9223372036854775808

instance : Rep Int where
  k := 1
  rd _ _ cs n := cs = [.int .i64 n] ∧ InR n
  bytes := 8
  bpos := by decide
  kpos := by decide
  len h := by rw [h.1]; rfl
  one h := by rw [h.1]; simp [Value.oneCell']
  mono h _ := h
instance : Rep Bool where
  k := 1
  rd _ _ cs n := cs = [.bool n]
  bytes := 1
  bpos := by decide
  kpos := by decide
  len h := by rw [h]; rfl
  one h := by rw [h]; simp [Value.oneCell']
  mono h _ := h

def sb : Value → Nat
  | .slice (some a) _ _ => a.block
  | _ => 0
def so : Value → Nat
  | .slice (some a) _ _ => a.off
  | _ => 0
def IsSl (v : Value) (n : Nat) : Prop := ∃ a cap, v = .slice a n cap ∧ n ≤ cap ∧ (0 < n → ∃ b o, a = some ⟨b, o, none⟩)

theorem IsSl.one {v : Value} {n : Nat} (h : IsSl v n) : v.oneCell' = true := by obtain ⟨a, cap, rfl, _⟩ := h; rfl

structure RdS {α : Type} [Rep α] (w : World) (F : Nat → Prop) (v : Value) (l : List α) : Prop where
  sl : IsSl v l.length
  foot : l ≠ [] → F (sb v)
  small : l.length * Rep.bytes α ≤ 140737488355328
  at_ : ∀ i (h : i < l.length), ∃ cs, CellsAt w (sb v) (so v + i * Rep.k α) cs ∧ Rep.rd w F cs l[i]

theorem YM {α : Type} [Rep α] {n : Nat} (h : n * Rep.bytes α ≤ 140737488355328) : n ≤ 140737488355328 :=
  Nat.le_trans (Nat.le_mul_of_pos_right _ Rep.bpos) h
theorem RdS.mono {α : Type} [Rep α] {w w' : World} {F F' : Nat → Prop} {v : Value} {l : List α} (h : RdS w F v l) (hF : ∀ b, F b → b < w.heap.size → w'.heap[b]? = w.heap[b]? ∧ F' b) : RdS w' F' v l := by
  have key : ∀ i (h' : i < l.length), sb v < w.heap.size := fun i hi => by
    obtain ⟨cs, h1, h2⟩ := h.at_ i hi
    refine h1.lt ?_
    have := Rep.len h2
    have := Rep.kpos (α := α)
    intro he; subst he; simp at *; omega
  refine ⟨h.sl, fun hne => ?_, h.small, fun i hi => ?_⟩
  · have hlt : 0 < l.length := List.length_pos_iff.2 hne
    exact (hF _ (h.foot hne) (key 0 hlt)).2
  · obtain ⟨cs, h1, h2⟩ := h.at_ i hi
    exact ⟨cs, h1.mono (fun hb => (hF _ (h.foot (by intro e; subst e; simp at hi)) hb).1), Rep.mono h2 hF⟩

instance {α : Type} [Rep α] : Rep (List α) where
  k := 1
  rd w F cs l := ∃ v, cs = [v] ∧ RdS w F v l
  bytes := 24
  bpos := by decide
  kpos := by decide
  len h := by obtain ⟨v, rfl, _⟩ := h; rfl
  one h := by obtain ⟨v, rfl, h⟩ := h; intro u hu; simp at hu; subst hu; exact h.sl.one
  mono h hF := by obtain ⟨v, rfl, h⟩ := h; exact ⟨v, rfl, h.mono hF⟩

theorem RdS.chg {α : Type} [Rep α] {w w' : World} {O F : Nat → Prop} {v : Value} {l : List α} (h : RdS w F v l) (hx : Chg O w w') (hO : ∀ b, b < w.heap.size → F b → ¬ O b) : RdS w' F v l :=
  h.mono fun b hb hlt => ⟨hx.block b hlt (hO b hlt hb), hb⟩
theorem RdS.weak {α : Type} [Rep α] {w : World} {F F' : Nat → Prop} {v : Value} {l : List α} (h : RdS w F v l) (hF : ∀ b, b < w.heap.size → F b → F' b) : RdS w F' v l :=
  h.mono fun b hb hlt => ⟨rfl, hF b hlt hb⟩
theorem RdS.nil {α : Type} [Rep α] (w : World) (F : Nat → Prop) : RdS (α := α) w F (.slice none 0 0) [] :=
  ⟨⟨none, 0, rfl, Nat.le_refl _, fun h => absurd h (Nat.lt_irrefl 0)⟩, fun h => (h rfl).elim, by rw [List.length_nil, Nat.zero_mul]; exact Nat.zero_le _, fun i h => absurd h (Nat.not_lt_zero i)⟩

theorem IsSl.eq {v : Value} {n : Nat} (h : IsSl v n) (hn : 0 < n) : ∃ cap, v = .slice (some ⟨sb v, so v, none⟩) n cap ∧ n ≤ cap := by
  obtain ⟨a, cap, rfl, h1, h2⟩ := h
  obtain ⟨b, o, rfl⟩ := h2 hn
  exact ⟨cap, rfl, h1⟩

end Go.Proofs.Ytmiihhbeclhaoaa
end

section
/- What each operation does. -/
namespace Go.Proofs.Ytmiihhbeclhaoaa
open Go.RowKit

section
variable {P : Program} {d : Option Tmp} {ty : TypeId} {pos : String} {af : Array Edge} {g : Option (Nat × Bool)} {σ : Env} {w : World} {K : Value → World → Prop}

theorem zN {o : Oper} {v : Value} {w' : World} (hr : (execOp (ev σ) o).run P w = .ok (.value v) w') (h : K v w') : opV P o σ w K := by
  unfold opV; rw [hr]; exact h
theorem YA {o : Oper} {w' : World} (hr : (execOp (ev σ) o).run P w = .ok .skip w') (h : K undef w') : opV P o σ w K := by
  unfold opV; rw [hr]; exact h

theorem zb {x : Operand} {v : Value} (hx : ev σ x = v) (h : K v w) : opV P ⟨d, .move x, ty, pos, af, g⟩ σ w K := zN (by simp [execOp, hx]) h
theorem zd {x : Operand} {v : Value} (hx : ev σ x = v) (h : K v w) : opV P ⟨d, .assign x, ty, pos, af, g⟩ σ w K := zN (by simp [execOp, hx]) h
theorem yw {c a b : Operand} {v : Value} (hc : ev σ c = .bool true) (hx : ev σ a = v) (h : K v w) : opV P ⟨d, .pick c a b, ty, pos, af, g⟩ σ w K :=
  zN (v := v) (w' := w) (by simp [execOp, hc, hx, asBool, go_sem]) h
theorem yo {c a b : Operand} {v : Value} (hc : ev σ c = .bool false) (hx : ev σ b = v) (h : K v w) : opV P ⟨d, .pick c a b, ty, pos, af, g⟩ σ w K :=
  zN (v := v) (w' := w) (by simp [execOp, hc, hx, asBool, go_sem]) h

theorem yp {c a : Operand} {b b' : Bool} (hc : ev σ c = .bool b) (hx : b = true → ev σ a = .bool b') (h : K (.bool (b && b')) w) : opV P ⟨d, .pick c a (.const (.bool false)), ty, pos, af, g⟩ σ w K := by
  cases b
  · exact yo hc rfl h
  · exact yw hc (hx rfl) (by simpa using h)
theorem zX {c a : Operand} {b b' : Bool} (hc : ev σ c = .bool b) (hx : b = false → ev σ a = .bool b') (h : K (.bool (b || b')) w) : opV P ⟨d, .pick c (.const (.bool true)) a, ty, pos, af, g⟩ σ w K := by
  cases b
  · exact yo hc (hx rfl) (by simpa using h)
  · exact yw hc rfl h

theorem yg {x : Operand} {v : Value} {t : TypeId} (hx : ev σ x = v) (h : ∀ w1 b, New w w1 b (.cells v.cells t) → K (.pointer (some ⟨b, 0, none⟩)) w1) : opV P ⟨d, .box t x, ty, pos, af, g⟩ σ w K :=
  zN (v := .pointer (some ⟨w.heap.size, 0, none⟩)) (w' := { w with heap := w.heap.push (.cells v.cells t) }) (by simp [execOp, hx, Instr.box, newVar, newRow, newObj, Sem.run, go_sem]) (h _ _ (New.mk' _ _))
theorem ye {t : TypeId} {z : Value} (hz : ∀ w, (zeroValue t).run P w = .ok z w) (h : ∀ w1 b, New w w1 b (.cells z.cells t) → K (.pointer (some ⟨b, 0, none⟩)) w1) : opV P ⟨d, .alloc t, ty, pos, af, g⟩ σ w K :=
  zN (v := .pointer (some ⟨w.heap.size, 0, none⟩)) (w' := { w with heap := w.heap.push (.cells z.cells t) }) (by simp [execOp, Instr.alloc, newVar, newRow, newObj, Sem.run, go_sem, hz]) (h _ _ (New.mk' _ _))

theorem zg {t : TypeId} {x : Operand} {b o : Nat} {v : Value} (hA : ∀ w, (isAgg t).run P w = .ok false w) (hx : ev σ x = .pointer (some ⟨b, o, none⟩)) (hc : w.cell? ⟨b, o, none⟩ = some v) (h : K v w) :
    opV P ⟨d, .load t x, ty, pos, af, g⟩ σ w K :=
  zN (v := v) (w' := w) (by simp [execOp, hx, Instr.loadAt, Instr.sureAddr, loadVar, hA, load, Sem.run, hc, go_sem]) h

theorem yW (b o : Nat) : ∀ (cs : List Value) (i : Nat) (acc : Array Value), (∀ j (h : j < cs.length), w.cell? ⟨b, o + (i + j), none⟩ = some cs[j]) →
    (loadCellsFrom ⟨b, o, none⟩ i cs.length acc).run P w = .ok (acc ++ cs.toArray) w
  | [], i, acc, _ => by simp [loadCellsFrom]
  | c :: cs, i, acc, h => by
    have h0 := h 0 (by simp)
    have ih := yW b o cs (i + 1) (acc.push c) (fun j hj => by
      have := h (j + 1) (by simpa using hj)
      rw [show o + (i + (j + 1)) = o + (i + 1 + j) by omega] at this
      exact this)
    have ha : (⟨b, o, none⟩ : Addr).add i = ⟨b, o + i, none⟩ := by unfold Addr.add; split <;> simp_all
    simp only [Nat.add_zero, List.getElem_cons_zero] at h0
    simp only [List.length_cons, loadCellsFrom, load, Sem.run_bind, Sem.run, ha, h0, Result.andThen_ok, ih]
    simp

theorem zr {t : TypeId} {x : Operand} {b o k : Nat} {cs : List Value} (hA : ∀ w, (isAgg t).run P w = .ok true w) (hS : ∀ w, (sizeOf t).run P w = .ok k w) (hk : cs.length = k)
    (hx : ev σ x = .pointer (some ⟨b, o, none⟩)) (hc : CellsAt w b o cs) (h : K (.agg cs.toArray) w) : opV P ⟨d, .load t x, ty, pos, af, g⟩ σ w K := by
  subst hk
  refine zN (v := .agg cs.toArray) (w' := w) ?_ h
  have := yW (P := P) (w := w) b o cs 0 #[] (fun j hj => by simpa using hc j hj)
  simp [execOp, hx, Instr.loadAt, Instr.sureAddr, loadVar, hA, hS, loadCells, this, go_sem]

theorem zB {x y : Operand} {t t2 : TypeId} {k : IntKind} {a b r : Int} (hx : ev σ x = .int k a) (hy : ev σ y = .int k b) (hr : k.wrap (a + b) = r) (h : K (.int k r) w) : opV P ⟨d, .binOp .add t x y t2, ty, pos, af, g⟩ σ w K :=
  zN (v := .int k r) (w' := w) (by subst hr; simp [execOp, hx, hy, eqGuard, binOp, Op.intArith, go_sem]) h
theorem Za {x y : Operand} {t t2 : TypeId} {k : IntKind} {a b r : Int} (hx : ev σ x = .int k a) (hy : ev σ y = .int k b) (hr : k.wrap (a - b) = r) (h : K (.int k r) w) : opV P ⟨d, .binOp .sub t x y t2, ty, pos, af, g⟩ σ w K :=
  zN (v := .int k r) (w' := w) (by subst hr; simp [execOp, hx, hy, eqGuard, binOp, Op.intArith, go_sem]) h
theorem Jh {x y : Operand} {t t2 : TypeId} {k : IntKind} {a b r : Int} (hx : ev σ x = .int k a) (hy : ev σ y = .int k b) (hr : k.wrap (a * b) = r) (h : K (.int k r) w) : opV P ⟨d, .binOp .mul t x y t2, ty, pos, af, g⟩ σ w K :=
  zN (v := .int k r) (w' := w) (by subst hr; simp [execOp, hx, hy, eqGuard, binOp, Op.intArith, go_sem]) h
theorem zy {n : Int} (h : InR n) : IntKind.i64.wrap n = n := Go.IntWalk.i64_in n (by unfold InR at h; omega)

theorem Qc {n : Int} (h : 0 ≤ n ∧ n < 18446744073709551616) : IntKind.u64.wrap n = n := Go.IntWalk.u64_in n (by omega)
theorem Qt {x : Operand} {t t2 : TypeId} {k k2 : IntKind} {a r : Int} (hs : (P.underlying t).isSome = true) (hu : P.underlying t2 = some (.int k2)) (hx : ev σ x = .int k a) (hr : k2.wrap a = r) (h : K (.int k2 r) w) : opV P ⟨d, .convert t t2 x, ty, pos, af, g⟩ σ w K := by
  have hk : P.intKind t2 = k2 := by simp [Program.intKind, hu]
  have := run_convert_int (P := P) w t t2 k a hs (by rw [hk]; exact hu)
  rw [hk, hr] at this
  exact zN (v := .int k2 r) (w' := w) (by simp [execOp, hx, this, go_sem]) h
theorem JA {x y : Operand} {t t2 : TypeId} {k yk : IntKind} {a b r : Int} (hx : ev σ x = .int k a) (hy : ev σ y = .int yk b) (h0 : 0 ≤ b) (h1 : b ≤ k.bits) (hr : a / 2 ^ b.toNat = r) (h : K (.int k r) w) : opV P ⟨d, .binOp .shr t x y t2, ty, pos, af, g⟩ σ w K :=
  zN (v := .int k r) (w' := w) (by subst hr; simp [execOp, hx, hy, eqGuard, binOp, shift_shr k yk a b h0 h1, go_sem]) h

def b2 (b : Bool) : Value := .bool b
theorem zH {x y : Operand} {t t2 : TypeId} {k : IntKind} {a b : Int} (hx : ev σ x = .int k a) (hy : ev σ y = .int k b) (h : K (.bool (decide (a < b))) w) : opV P ⟨d, .binOp .lss t x y t2, ty, pos, af, g⟩ σ w K :=
  zN (v := .bool (decide (a < b))) (w' := w) (by simp [execOp, hx, hy, eqGuard, binOp, Op.intCmp, go_sem]) h
theorem xC {x y : Operand} {t t2 : TypeId} {k : IntKind} {a b : Int} (hx : ev σ x = .int k a) (hy : ev σ y = .int k b) (h : K (.bool (decide (b < a))) w) : opV P ⟨d, .binOp .gtr t x y t2, ty, pos, af, g⟩ σ w K :=
  zN (v := .bool (decide (b < a))) (w' := w) (by simp [execOp, hx, hy, eqGuard, binOp, Op.intCmp, go_sem]) h
theorem xv {x y : Operand} {t t2 : TypeId} {k : IntKind} {a b : Int} (hx : ev σ x = .int k a) (hy : ev σ y = .int k b) (h : K (.bool (decide (b ≤ a))) w) : opV P ⟨d, .binOp .geq t x y t2, ty, pos, af, g⟩ σ w K :=
  zN (v := .bool (decide (b ≤ a))) (w' := w) (by simp [execOp, hx, hy, eqGuard, binOp, Op.intCmp, go_sem]) h
theorem yq {x y : Operand} {t t2 : TypeId} {k : IntKind} {a b : Int} (hx : ev σ x = .int k a) (hy : ev σ y = .int k b) (h : K (.bool (decide (a = b))) w) : opV P ⟨d, .binOp .eql t x y t2, ty, pos, af, g⟩ σ w K :=
  zN (v := .bool (decide (a = b))) (w' := w) (by simp [execOp, hx, hy, eqGuard, binOp, Op.intCmp, go_sem]; rfl) h
theorem yH {x y : Operand} {t t2 : TypeId} {k : IntKind} {a b : Int} (hx : ev σ x = .int k a) (hy : ev σ y = .int k b) (h : K (.bool (!decide (a = b))) w) : opV P ⟨d, .binOp .neq t x y t2, ty, pos, af, g⟩ σ w K :=
  zN (v := .bool (!decide (a = b))) (w' := w) (by simp [execOp, hx, hy, eqGuard, binOp, Op.intCmp, go_sem]; rfl) h
theorem KO {x y : Operand} {t t2 : TypeId} {a b : Bool} (hU : P.underlying t = some .bool) (hx : ev σ x = .bool a) (hy : ev σ y = .bool b) (h : K (.bool (a == b)) w) : opV P ⟨d, .binOp .eql t x y t2, ty, pos, af, g⟩ σ w K :=
  zN (v := .bool (a == b)) (w' := w) (by simp [execOp, hx, hy, eqGuard, run_eql_bool w t a b hU, go_sem]) h
theorem Uh {x y : Operand} {t t2 : TypeId} {a b : Bool} (hU : P.underlying t = some .bool) (hx : ev σ x = .bool a) (hy : ev σ y = .bool b) (h : K (.bool (!(a == b))) w) : opV P ⟨d, .binOp .neq t x y t2, ty, pos, af, g⟩ σ w K :=
  zN (v := .bool (!(a == b))) (w' := w) (by simp [execOp, hx, hy, eqGuard, run_neq_bool w t a b hU, go_sem]) h
theorem yA {x : Operand} {t : TypeId} {a : Bool} (hx : ev σ x = .bool a) (h : K (.bool (!a)) w) : opV P ⟨d, .unOp .not t x, ty, pos, af, g⟩ σ w K :=
  zN (v := .bool (!a)) (w' := w) (by simp [execOp, hx, Op.unary, go_sem]) h
theorem ZU {x y : Operand} {t t2 : TypeId} {xs ys : Array Value} {e : Bool} (hE : ∀ w, (do eqGuard .eql t x y (.agg xs) (.agg ys); binOp .eql t (.agg xs) (.agg ys) : Sem Value).run P w = .ok (.bool e) w) (hx : ev σ x = .agg xs) (hy : ev σ y = .agg ys) (h : K (.bool e) w) : opV P ⟨d, .binOp .eql t x y t2, ty, pos, af, g⟩ σ w K := by
  have e' : execOp (ev σ) ⟨d, .binOp .eql t x y t2, ty, pos, af, g⟩ = ((do eqGuard .eql t x y (ev σ x) (ev σ y); binOp .eql t (ev σ x) (ev σ y) : Sem Value)) >>= fun v => pure (Next.value v) := rfl
  exact zN (v := .bool e) (w' := w) (by rw [e', hx, hy, Sem.run_bind, hE]; rfl) h
theorem zJ {x : Operand} {t e : TypeId} {v : Value} {n : Nat} (hU : P.underlying t = some (.slice e)) (hx : ev σ x = v) (hv : IsSl v n) (h : K (.int .i64 n) w) :
    opV P ⟨d, .call ⟨.builtin .len, #[x], #[t]⟩, ty, pos, af, g⟩ σ w K := by
  obtain ⟨a, cap, rfl, _, _⟩ := hv
  exact zN (v := .int .i64 n) (w' := w) (by simp [hx, Builtin.len_, run_underlying hU, goInt, go_sem]) h
theorem Wb {x y : Operand} {t t' : TypeId} {k : IntKind} {a b : Int} (hx : ev σ x = .int k a) (hy : ev σ y = .int k b) (h : K (.int k (max a b)) w) :
    opV P ⟨d, .call ⟨.builtin .max, #[x, y], #[t, t']⟩, ty, pos, af, g⟩ σ w K :=
  zN (v := .int k (max a b)) (w' := w) (by
    have : (if b > a then b else a) = max a b := by split <;> omega
    simp [hx, hy, Builtin.max_, Builtin.max2, go_sem, this]) h
theorem Zw {x y : Operand} {t t' : TypeId} {k : IntKind} {a b : Int} (hx : ev σ x = .int k a) (hy : ev σ y = .int k b) (h : K (.int k (min a b)) w) :
    opV P ⟨d, .call ⟨.builtin .min, #[x, y], #[t, t']⟩, ty, pos, af, g⟩ σ w K :=
  zN (v := .int k (min a b)) (w' := w) (by
    have : (if b < a then b else a) = min a b := by split <;> omega
    simp [hx, hy, Builtin.min_, Builtin.min2, go_sem, this]) h

theorem zR {s : TypeId} {f : Nat} {x : Operand} {b o off : Nat} {fields : Array Field} {fd : Field} (hU : P.underlying s = some (.struct fields)) (hf : fields[f]? = some fd) (ho : fd.offset = off) (hz : ∀ w, ∃ k, (sizeOf fd.type).run P w = .ok (k + 1) w)
    (hx : ev σ x = .pointer (some ⟨b, o, none⟩)) (h : K (.pointer (some ⟨b, o + off, none⟩)) w) : opV P ⟨d, .fieldAddr s x f, ty, pos, af, g⟩ σ w K := by
  subst ho
  obtain ⟨k, hk⟩ := hz w
  exact zN (v := .pointer (some ⟨b, o + fd.offset, none⟩)) (w' := w) (by simp [execOp, hx, Instr.fieldAt, run_underlying hU, hf, Instr.sureAddr, fieldPlace, hk, go_sem]) h

theorem yv {t e : TypeId} {k : Nat} {x y : Operand} {v : Value} {n : Nat} {i : Int} {ki : IntKind} (hU : P.underlying t = some (.slice e)) (hS : ∀ w, (sizeOf e).run P w = .ok k w) (hx : ev σ x = v) (hv : IsSl v n) (hy : ev σ y = .int ki i)
    (hi : 0 ≤ i ∧ i < n) (h : K (.pointer (some ⟨sb v, so v + i.toNat * k, none⟩)) w) : opV P ⟨d, .indexAddr t x y, ty, pos, af, g⟩ σ w K := by
  obtain ⟨cap, he, _⟩ := hv.eq (n := n) (by omega)
  rw [he] at hx
  exact zN (v := .pointer (some ⟨sb v, so v + i.toNat * k, none⟩)) (w' := w) (by simp [execOp, hx, hy, Instr.indexAt, asIntOf, run_underlying hU, hi, hS, go_sem]) h
theorem zl {t e : TypeId} {k : Nat} {x y : Operand} {v : Value} {n i : Nat} {ki : IntKind} (hU : P.underlying t = some (.slice e)) (hS : ∀ w, (sizeOf e).run P w = .ok k w) (hx : ev σ x = v) (hv : IsSl v n) (hy : ev σ y = .int ki (i : Int))
    (hi : i < n) (h : K (.pointer (some ⟨sb v, so v + i * k, none⟩)) w) : opV P ⟨d, .indexAddr t x y, ty, pos, af, g⟩ σ w K :=
  yv hU hS hx hv hy (by omega) (by simpa using h)
structure Put (w w1 : World) (b : Nat) (c : Array Value) (t : TypeId) : Prop where
  chg : Chg (fun i => i = b) w w1
  size : w1.heap.size = w.heap.size
  at_ : w1.heap[b]? = some (.cells c t)
def Yl (c : Array Value) (o : Nat) (l : List Value) : Array Value := (c.toList.take o ++ l ++ c.toList.drop (o + l.length)).toArray

theorem Vh {b : Nat} {c c' : Array Value} {t : TypeId} (hb : w.heap[b]? = some (.cells c t)) : Put w (w.setRow b c') b c' t :=
  ⟨⟨rfl, rfl, rfl, by simp [World.setRow], fun i _ h => setRow_other w b i c' h, SoftStep.setRow, Nat.le_refl _⟩, by simp [World.setRow], setRow_heap w b c c' t (0, 0) hb⟩

theorem zY {t T : TypeId} {x y : Operand} {b o : Nat} {v : Value} {c c' : Array Value} (hS : ∀ w, (sizeOf t).run P w = .ok v.cells.size w) (hx : ev σ x = .pointer (some ⟨b, o, none⟩)) (hy : ev σ y = v)
    (hb : w.heap[b]? = some (.cells c T)) (h1 : ∀ u ∈ v.cells.toList, u.oneCell' = true) (hfit : o + v.cells.toList.length ≤ c.size) (hc : Yl c o v.cells.toList = c') (h : ∀ w1, Put w w1 b c' T → K undef w1) :
    opV P ⟨d, .store t x y, ty, pos, af, g⟩ σ w K := by
  subst hc
  have hst := run_storeCells_at (P := P) b o T v.cells.toList 0 c w hb (by simpa using hfit) h1
  simp only [Nat.add_zero] at hst
  refine YA (w' := w.setRow b (Yl c o v.cells.toList)) ?_ (h _ (Vh hb))
  have hsv : (storeVar t ⟨b, o, none⟩ v).run P w = .ok () (w.setRow b (Yl c o v.cells.toList)) := by
    unfold storeVar
    rw [Sem.run_bind, hS, Result.andThen_ok, if_neg (by simp)]
    exact hst
  have e : execOp (ev σ) ⟨d, .store t x y, ty, pos, af, g⟩ = ((Instr.sureAddr (ev σ x)) >>= fun a => storeVar t a (ev σ y)) >>= fun _ => pure Next.skip := rfl
  rw [e, hx, hy, Sem.run_bind, Sem.run_bind]
  show (((pure (⟨b, o, none⟩ : Addr) : Sem Addr).run P w).andThen fun a w => (storeVar t a v).run P w).andThen _ = _
  rw [Sem.run_pure, Result.andThen_ok, hsv]
  rfl

theorem Xj {v : Value} (h : v.oneCell' = true) : v.cells = #[v] := by cases v <;> first | rfl | cases h
theorem yd {t T : TypeId} {x y : Operand} {b o : Nat} {v : Value} {c c' : List Value} (hS : ∀ w, (sizeOf t).run P w = .ok 1 w) (hx : ev σ x = .pointer (some ⟨b, o, none⟩)) (hy : ev σ y = v)
    (hb : w.heap[b]? = some (.cells c.toArray T)) (h1 : v.oneCell' = true) (hfit : Nat.blt o c.length = true) (hc : c.set o v = c') (h : ∀ w1, Put w w1 b c'.toArray T → K undef w1) : opV P ⟨d, .store t x y, ty, pos, af, g⟩ σ w K := by
  have hcl := Xj h1
  have hlt : o < c.length := by simpa [Nat.blt_eq] using hfit
  refine zY (v := v) (by intro w; rw [hS, hcl]; rfl) hx hy hb (by rw [hcl]; intro u hu; simp at hu; subst hu; exact h1) (by rw [hcl]; simp; omega) ?_ h
  subst hc
  rw [hcl, Yl]
  simp only [List.cons_append, List.nil_append, List.length_cons, List.length_nil, Nat.zero_add]
  rw [List.set_eq_take_append_cons_drop, if_pos hlt]
  simp

theorem zD {t e : TypeId} {n k : Nat} {parts : List (Nat × Operand)} {parts' : List (Nat × Value)} {z : Value} {c : Array Value} (hU : P.underlying t = some (.slice e)) (hS : ∀ w, (sizeOf e).run P w = .ok k w) (hZ : ∀ w, (zeroValue e).run P w = .ok z w) (hn : n * k ≤ 16777216)
    (hp : (parts.map fun p => (p.1, ev σ p.2)) = parts') (hc : Instr.fill (fun i => some (i * k, k)) ((Array.range (n * k)).map ((if n * k = 0 then #[] else z.cells)[· % (if n * k = 0 then #[] else z.cells).size]!)) parts' = some c)
    (h : ∀ w1 b, New w w1 b (.cells c e) → K (.slice (some ⟨b, 0, none⟩) n n) w1) : opV P ⟨d, .buildSlice t n parts.toArray, ty, pos, af, g⟩ σ w K := by
  have hp' : (parts.toArray.map fun (i, x) => (i, ev σ x)) = parts'.toArray := by rw [← hp]; simp
  refine zN (v := .slice (some ⟨w.heap.size, 0, none⟩) n n) (w' := { w with heap := w.heap.push (.cells c e) }) ?_ (h _ _ (New.mk' _ _))
  have hbs : (Instr.buildSlice t n parts'.toArray).run P w = .ok (.slice (some ⟨w.heap.size, 0, none⟩) n n) { w with heap := w.heap.push (.cells c e) } := by
    unfold Instr.buildSlice
    rw [Sem.run_bind, run_underlying hU, Result.andThen_ok]
    simp only []
    rw [Sem.run_bind, hS, Result.andThen_ok, if_neg (by omega)]
    by_cases h0 : n * k = 0
    · rw [if_pos h0, Sem.run_bind, Sem.run_pure, Result.andThen_ok]
      simp only [if_pos h0] at hc
      simp only [hc]
      rfl
    · rw [if_neg h0, Sem.run_bind, hZ, Result.andThen_ok, Sem.run_bind, Sem.run_pure, Result.andThen_ok]
      simp only [if_neg h0] at hc
      simp only [hc]
      rfl
  have e' : execOp (ev σ) ⟨d, .buildSlice t n parts.toArray, ty, pos, af, g⟩ = (Instr.buildSlice t n (parts.toArray.map fun (i, x) => (i, ev σ x))) >>= fun v => pure (Next.value v) := rfl
  rw [e', hp', Sem.run_bind, hbs]
  rfl

theorem yP {t : TypeId} {parts : List (Nat × Operand)} {parts' : List (Nat × Value)} {v : Value} (hp : (parts.map fun p => (p.1, ev σ p.2)) = parts') (hr : (Instr.build t parts'.toArray).run P w = .ok v w) (h : K v w) : opV P ⟨d, .build t parts.toArray, ty, pos, af, g⟩ σ w K := by
  have hp' : (parts.toArray.map fun (i, x) => (i, ev σ x)) = parts'.toArray := by rw [← hp]; simp
  have e' : execOp (ev σ) ⟨d, .build t parts.toArray, ty, pos, af, g⟩ = (Instr.build t (parts.toArray.map fun (i, x) => (i, ev σ x))) >>= fun v => pure (Next.value v) := rfl
  exact zN (v := v) (w' := w) (by rw [e', hp', Sem.run_bind, hr]; rfl) h

theorem zj {f : FuncId} {x : Operand} {as : List Operand} {ts : Array TypeId} {vals : List Value} {cap : List Value} {R : Value → World → Prop} (hf : ev σ x = .func (.func f) #[] cap.toArray) (ha : as.map (ev σ) = vals)
    (hcall : ∀ args w, (callFunc f args).run P w = .ok (.enter f args) w) (hc : Ret P f (vals ++ cap) w R) (h : ∀ v w', R v w' → K v w') :
    opV P ⟨d, .call ⟨.value x, as.toArray, ts⟩, ty, pos, af, g⟩ σ w K := by
  have hr : (execOp (ev σ) ⟨d, .call ⟨.value x, as.toArray, ts⟩, ty, pos, af, g⟩).run P w = .ok (.enter f (vals ++ cap).toArray) w := by
    simp [execOp, resolve, hf, Deferred.ofValue, invoke, hcall, ← ha, go_sem]
  unfold opV
  rw [hr]
  exact Calls.mono hc fun _ _ ⟨v, he, hR⟩ => ⟨v, he, h _ _ hR⟩

theorem zL {fn : Func} {t : Tmp} {R : Value → World → Prop} {v : Value} (hr : fn.results = #[.tmp t]) (hv : σ t = v) (h : R v w) : Yr P fn R .ret σ w :=
  ⟨v, fun tmps ht => by rw [results_tmp hr, ht, hv], h⟩
theorem fin2 {fn : Func} {t u : Tmp} {R : Value → World → Prop} {v v' : Value} (hr : fn.results = #[.tmp t, .tmp u]) (hv : σ t = v) (hv' : σ u = v') (h : R (.tuple #[v, v']) w) : Yr P fn R .ret σ w :=
  ⟨_, fun tmps ht => by rw [results_tmp2 hr, ht, ht, hv, hv'], h⟩
theorem Up {fn : Func} {R : Value → World → Prop} (hr : fn.results = #[]) (h : R (.tuple #[]) w) : Yr P fn R .normal σ w :=
  ⟨_, fun tmps _ => by rw [results_none hr], h⟩
theorem KC {fn : Func} {a : Tmp} {t : TypeId} {R : Value → World → Prop} {b k : Nat} {cs : List Value} (hr : fn.results = #[.cell a t]) (hA : ∀ w, (isAgg t).run P w = .ok true w) (hS : ∀ w, (sizeOf t).run P w = .ok k w) (hk : cs.length = k)
    (hv : σ a = .pointer (some ⟨b, 0, none⟩)) (hc : CellsAt w b 0 cs) (h : R (.agg cs.toArray) w) : Yr P fn R .ret σ w := by
  subst hk
  refine ⟨_, fun tmps ht => ?_, h⟩
  have := yW (P := P) (w := w) b 0 cs 0 #[] (fun j hj => by simpa using hc j hj)
  have e : tmps[a]?.getD undef = .pointer (some ⟨b, 0, none⟩) := by rw [← hv, ← ht a]; simp
  simp [results, hr, e, asAddr, loadVar, hA, hS, loadCells, this, go_sem]
end
end Go.Proofs.Ytmiihhbeclhaoaa
end

section
/- Slices that a function has made itself, and appends to them. -/
namespace Go.Proofs.Ytmiihhbeclhaoaa
open Go.RowKit

section
variable {α : Type} [Rep α]
def Els (w : World) (F : Nat → Prop) : List (List Value) → List α → Prop
  | [], [] => True
  | cs :: css, x :: l => Rep.rd w F cs x ∧ Els w F css l
  | _, _ => False

theorem Els.mono {w w' : World} {F F' : Nat → Prop} (hF : ∀ b, F b → b < w.heap.size → w'.heap[b]? = w.heap[b]? ∧ F' b) : ∀ {css : List (List Value)} {l : List α}, Els w F css l → Els w' F' css l
  | [], [], _ => trivial
  | _ :: _, _ :: _, h => ⟨Rep.mono h.1 hF, Els.mono hF h.2⟩
  | [], _ :: _, h => h.elim
  | _ :: _, [], h => h.elim
theorem Els.map {w : World} {F F' : Nat → Prop} (hG : ∀ cs (x : α), Rep.rd w F cs x → Rep.rd w F' cs x) : ∀ {css : List (List Value)} {l : List α}, Els w F css l → Els w F' css l
  | [], [], _ => trivial
  | _ :: _, _ :: _, h => ⟨hG _ _ h.1, Els.map hG h.2⟩
  | [], _ :: _, h => h.elim
  | _ :: _, [], h => h.elim
theorem Els.length {w : World} {F : Nat → Prop} : ∀ {css : List (List Value)} {l : List α}, Els w F css l → css.length = l.length
  | [], [], _ => rfl
  | _ :: _, _ :: _, h => by simp [Els.length h.2]
  | [], _ :: _, h => h.elim
  | _ :: _, [], h => h.elim
theorem Els.flat {w : World} {F : Nat → Prop} : ∀ {css : List (List Value)} {l : List α}, Els w F css l → css.flatten.length = l.length * Rep.k α
  | [], [], _ => by simp
  | _ :: _, _ :: _, h => by simp only [List.flatten_cons, List.length_append, List.length_cons, Els.flat h.2, Rep.len h.1]; rw [Nat.add_mul]; omega
  | [], _ :: _, h => h.elim
  | _ :: _, [], h => h.elim
theorem Els.one {w : World} {F : Nat → Prop} : ∀ {css : List (List Value)} {l : List α}, Els w F css l → ∀ u ∈ css.flatten, u.oneCell' = true
  | [], [], _ => by simp
  | _ :: _, _ :: _, h => by
    intro u hu
    simp only [List.flatten_cons, List.mem_append] at hu
    rcases hu with hu | hu
    · exact Rep.one h.1 u hu
    · exact Els.one h.2 u hu
  | [], _ :: _, h => h.elim
  | _ :: _, [], h => h.elim
theorem Els.at_ {w : World} {F : Nat → Prop} : ∀ {css : List (List Value)} {l : List α}, Els w F css l → ∀ i (h : i < l.length), ∃ cs, Rep.rd w F cs l[i] ∧ ∀ j (hj : j < cs.length), css.flatten[i * Rep.k α + j]? = some cs[j]
  | [], [], _, i, h => absurd h (Nat.not_lt_zero i)
  | cs :: css, x :: l, h, 0, _ => ⟨cs, h.1, fun j hj => by simp [List.getElem?_append, hj]⟩
  | cs :: css, x :: l, h, i + 1, hi => by
    obtain ⟨c, h1, h2⟩ := Els.at_ h.2 i (by simpa using hi)
    refine ⟨c, by simpa using h1, fun j hj => ?_⟩
    have hl := Rep.len h.1
    rw [List.flatten_cons, List.getElem?_append_right (by rw [hl, Nat.add_mul]; omega), hl, show (i + 1) * Rep.k α + j - Rep.k α = i * Rep.k α + j by rw [Nat.add_mul]; omega]
    exact h2 j hj
  | [], _ :: _, h, _, _ => h.elim
  | _ :: _, [], h, _, _ => h.elim
theorem RdS.els {w : World} {F : Nat → Prop} {v : Value} {l : List α} (h : RdS w F v l) : ∃ css, Els w F css l ∧ ∀ j u, css.flatten[j]? = some u → w.cell? ⟨sb v, so v + j, none⟩ = some u := by
  suffices key : ∀ (l' : List α) (k : Nat), (∀ i (hi : i < l'.length), ∃ cs, CellsAt w (sb v) (so v + (k + i) * Rep.k α) cs ∧ Rep.rd w F cs l'[i]) →
      ∃ css, Els w F css l' ∧ ∀ j u, css.flatten[j]? = some u → w.cell? ⟨sb v, so v + (k * Rep.k α + j), none⟩ = some u by
    obtain ⟨css, h1, h2⟩ := key l 0 (fun i hi => by simpa using h.at_ i hi)
    exact ⟨css, h1, fun j u hu => by simpa using h2 j u hu⟩
  intro l'
  induction l' with
  | nil => intro k _; exact ⟨[], trivial, fun j u hu => by simp at hu⟩
  | cons x l' ih =>
    intro k hk
    obtain ⟨cs, hc, hr⟩ := hk 0 (by simp)
    obtain ⟨css, h1, h2⟩ := ih (k + 1) (fun i hi => by
      have := hk (i + 1) (by simpa using hi)
      rw [show k + (i + 1) = k + 1 + i by omega] at this
      simpa using this)
    have hl := Rep.len hr
    refine ⟨cs :: css, ⟨by simpa using hr, h1⟩, fun j u hu => ?_⟩
    rw [List.flatten_cons] at hu
    by_cases hj : j < cs.length
    · rw [List.getElem?_append_left hj] at hu
      have := hc j hj
      rw [List.getElem?_eq_getElem hj] at hu
      rw [Option.some.inj hu] at this
      rw [show so v + (k + 0) * Rep.k α + j = so v + (k * Rep.k α + j) by rw [Nat.add_zero]; omega] at this
      exact this
    · rw [List.getElem?_append_right (by omega)] at hu
      have := h2 _ u hu
      rw [hl, Nat.add_mul, Nat.one_mul] at this
      rw [show so v + (k * Rep.k α + Rep.k α + (j - Rep.k α)) = so v + (k * Rep.k α + j) by omega] at this
      exact this

structure OwnS (T : TypeId) (lo : Nat) (w : World) (F : Nat → Prop) (v : Value) (l : List α) : Prop where
  css : ∃ css, Els w F css l ∧ w.ownsRow lo T (Rep.k α) v l.length css.flatten
  apart : ∀ b, v.ownBlock = some b → ¬ F b
  bound : ∀ b, F b → b < w.heap.size ∧ (lo ≤ b → Soft w b)
  small : l.length * Rep.bytes α ≤ 140737488355328

theorem OwnS.isSl {T : TypeId} {lo : Nat} {w : World} {F : Nat → Prop} {v : Value} {l : List α} (h : OwnS T lo w F v l) : IsSl v l.length := by
  obtain ⟨css, h1, h2⟩ := h.css
  rcases h2.2 with ⟨rfl, h0⟩ | ⟨g, cap, cur, rfl, _, _, hn, _⟩
  · exact ⟨none, 0, by rw [h0], by omega, fun h => by omega⟩
  · exact ⟨_, cap, rfl, hn, fun _ => ⟨g, 0, rfl⟩⟩
theorem OwnS.lt {T : TypeId} {lo : Nat} {w : World} {F : Nat → Prop} {v : Value} {l : List α} (h : OwnS T lo w F v l) : ∀ b, v.ownBlock = some b → lo ≤ b ∧ b < w.heap.size := by
  obtain ⟨css, h1, h2⟩ := h.css
  exact h2.lt
theorem OwnS.toRd {T : TypeId} {lo : Nat} {w : World} {F F' : Nat → Prop} {v : Value} {l : List α} (h : OwnS T lo w F v l) (hF : ∀ b, F b → F' b) (hv : ∀ b, v.ownBlock = some b → F' b) : RdS w F' v l := by
  obtain ⟨css, h1, h2⟩ := h.css
  refine ⟨h.isSl, fun hne => ?_, h.small, fun i hi => ?_⟩
  · rcases h2.2 with ⟨rfl, h0⟩ | ⟨g, cap, cur, rfl, _⟩
    · exact (hne (List.length_eq_zero_iff.1 h0)).elim
    · exact hv g rfl
  · rcases h2.2 with ⟨rfl, h0⟩ | ⟨g, cap, cur, rfl, hg, hb, hn, hm, hs, ht⟩
    · omega
    · obtain ⟨cs, hr, hc⟩ := h1.at_ i hi
      refine ⟨cs, ?_, Rep.mono hr (fun b hb _ => ⟨rfl, hF b hb⟩)⟩
      intro j hj
      have h3 := hc j hj
      rw [← ht, List.getElem?_take] at h3
      split at h3
      · show w.cell? ⟨g, 0 + i * Rep.k α + j, none⟩ = _
        rw [Nat.zero_add]
        exact xm hb (by simpa using h3)
      · cases h3
theorem OwnS.mono {T : TypeId} {lo lo' : Nat} {w w' : World} {F F' : Nat → Prop} {v : Value} {l : List α} (h : OwnS T lo w F v l) (hlo : lo' ≤ lo) (hsz : w.heap.size ≤ w'.heap.size) (hF : ∀ b, F b → b < w.heap.size → w'.heap[b]? = w.heap[b]? ∧ F' b)
    (hrow : ∀ b, v.ownBlock = some b → b < w.heap.size → w'.heap[b]? = w.heap[b]? ∧ ¬ F' b) (hB : ∀ b, F' b → b < w'.heap.size ∧ (lo' ≤ b → Soft w' b)) : OwnS T lo' w' F' v l := by
  obtain ⟨css, h1, h2⟩ := h.css
  refine ⟨⟨css, h1.mono hF, h2.1, ?_⟩, fun b hb => (hrow b hb (h2.lt b hb).2).2, hB, h.small⟩
  rcases h2.2 with hn | ⟨g, cap, cur, rfl, hg, hgg, r⟩
  · exact .inl hn
  · exact .inr ⟨g, cap, cur, rfl, Nat.le_trans hlo hg, by rw [(hrow g rfl (h2.lt g rfl).2).1]; exact hgg, r⟩
theorem OwnS.weak {T : TypeId} {lo : Nat} {w : World} {F F' : Nat → Prop} {v : Value} {l : List α} (h : OwnS T lo w F v l) (hF : ∀ b, F b → F' b) (ha : ∀ b, v.ownBlock = some b → ¬ F' b) (hB : ∀ b, F' b → b < w.heap.size ∧ (lo ≤ b → Soft w b)) : OwnS T lo w F' v l :=
  h.mono (Nat.le_refl _) (Nat.le_refl _) (fun b hb _ => ⟨rfl, hF b hb⟩) (fun b hb _ => ⟨rfl, ha b hb⟩) hB

section
variable {P : Program}
theorem Yk {w : World} {B B' : Nat} {e : TypeId} {size : Nat} {v : Value} {n : Nat} {xs : List Value} (h : w.ownsRow B e size v n xs) (hB : B' ≤ B) : w.ownsRow B' e size v n xs := by
  refine ⟨h.1, ?_⟩
  rcases h.2 with hn | ⟨g, cap, cur, rfl, hg, r⟩
  · exact .inl hn
  · exact .inr ⟨g, cap, cur, rfl, Nat.le_trans hB hg, r⟩

theorem YG (w : World) (base : Nat) (t ty e : TypeId) (i : TypeInfo) (z : Value) (size bytes : Nat) (ht : P.underlying t = some (.slice e)) (hi : P.info? e = some i) (hz : i.zero = some z)
    (hsize : i.size = size) (hby : i.bytes = bytes) (hzs : z.cells.size = size) (_hsz : 0 < size)
    (v : Value) (n : Nat) (xs : List Value) (hown : w.ownsRow base e size v n xs)
    (a : Addr) (m c : Nat) (news : List Value) (hl : news.length = m * size) (hnews : ∀ j u, news[j]? = some u → w.cell? (a.add j) = some u) (h1 : ∀ u ∈ news, u.oneCell' = true)
    (h63 : n + m ≤ maxLen) (hbytes : (n + m) * bytes ≤ 140737488355328) (hbase : base ≤ w.heap.size) :
    ∃ v' w', (Builtin.append_ #[t, t] ty #[v, .slice (some a) m c]).run P w = .ok v' w' ∧ w'.ownsRow base e size v' (n + m) (xs ++ news) ∧ w.grownBy w' v.ownBlock ∧
      (v'.ownBlock = v.ownBlock ∨ ∀ g, v'.ownBlock = some g → w.heap.size ≤ g) ∧ SoftStep w w' ∧ w.drawn ≤ w'.drawn := by
  rcases hown.2 with ⟨rfl, rfl⟩ | ⟨g, cap, cur, rfl, hbg, hg, hnc, hcm, hcs, htake⟩
  · have hx : xs = [] := List.eq_nil_of_length_eq_zero (by simpa using hown.1)
    subst hx
    obtain ⟨v', w', h1', h2, h3, _⟩ := run_append_own (P := P) w w.heap.size t ty e i z size bytes ht hi hz hsize hby hzs _hsz (.slice none 0 0) 0 [] (World.ownsRow_nil w _ e size) a m c news hl hnews h1 h63 hbytes (Nat.le_refl _)
    refine ⟨v', w', h1', Yk h2 hbase, h3, .inr fun g hg => (h2.lt g hg).1, ?_⟩
    subst hsize
    subst hby
    by_cases hm : m = 0
    · subst hm
      have e : (Builtin.append_ #[t, t] ty #[.slice none 0 0, .slice (some a) 0 c]).run P w = .ok (.slice none 0 0) w := by
        simp [Builtin.append_, run_underlying ht, sizeOf, typeInfo, hi, Builtin.lenOf, Builtin.firstCells, loadCells, loadCellsFrom, storeCells, go_sem]
      rw [e] at h1'
      cases h1'
      exact ⟨SoftStep.refl _, Nat.le_refl _⟩
    · have hr := run_append_nil (P := P) w t ty e i z ht hi hz a m c news hl hnews (by omega) (by simp only [maxLen] at h63; omega) (by have hb := hbytes; simp only [Nat.zero_add] at hb; omega)
      rw [hr] at h1'
      cases h1'
      exact ⟨SoftStep.push (w := w) rfl, Nat.le_succ _⟩
  · obtain ⟨v', w', h1', h2, h3, _⟩ := run_append_own (P := P) w base t ty e i z size bytes ht hi hz hsize hby hzs _hsz _ n xs hown a m c news hl hnews h1 h63 hbytes hbase
    suffices key : (v'.ownBlock = (Value.slice (some ⟨g, 0, none⟩) n cap).ownBlock ∨ ∀ g, v'.ownBlock = some g → w.heap.size ≤ g) ∧ SoftStep w w' ∧ w.drawn ≤ w'.drawn from ⟨v', w', h1', h2, h3, key.1, key.2⟩
    subst hsize
    subst hby
    by_cases hroom : n + m ≤ cap
    · have hfit : n * i.size + news.length ≤ cur.size := by rw [hl, hcs, ← Nat.add_mul]; exact Nat.mul_le_mul_right _ hroom
      have hr := run_append_room (P := P) w t ty e i ht hi g n cap cur hg a m c news hl hnews h1 hroom hfit
      rw [hr] at h1'
      cases h1'
      exact ⟨.inl rfl, SoftStep.setRow, Nat.le_refl _⟩
    · have holds : ∀ j u, xs[j]? = some u → w.cell? ((⟨g, 0, none⟩ : Addr).add j) = some u := hown.cells (g := g) rfl
      have h63' : n + m ≤ 9223372036854775807 := by simp only [maxLen] at h63; omega
      have hr := run_append_grow (P := P) w t ty e i z ht hi hz ⟨g, 0, none⟩ n cap xs hown.1 holds a m c news hl hnews (by omega) (by omega) (growslice_fits (by omega) hbytes)
      rw [hr] at h1'
      cases h1'
      exact ⟨.inr fun g' hg' => by simp [Value.ownBlock] at hg'; omega, SoftStep.push (w := w) rfl, Nat.le_succ _⟩

theorem Yu (w : World) (t ty e : TypeId) (i : TypeInfo) (ht : P.underlying t = some (.slice e)) (hi : P.info? e = some i) (b : Option Addr) (n cap cap2 : Nat) (hn : n ≤ cap) :
    (Builtin.append_ #[t, t] ty #[.slice b n cap, .slice none 0 cap2]).run P w = .ok (.slice b n cap) w := by
  cases b <;> simp [Builtin.append_, run_underlying ht, sizeOf, typeInfo, hi, Builtin.lenOf, Builtin.firstCells, hn, storeCells, go_sem]

structure Elem (P : Program) (t T : TypeId) (k bytes : Nat) : Prop where
  und : P.underlying t = some (.slice T)
  info : ∃ i z, P.info? T = some i ∧ i.zero = some z ∧ i.size = k ∧ i.bytes = bytes ∧ z.cells.size = k

variable {d : Option Tmp} {ty : TypeId} {pos : String} {af : Array Edge} {gd : Option (Nat × Bool)} {σ : Env} {w : World} {K : Value → World → Prop}

theorem xA {t : TypeId} {s x : Operand} {v v2 v' : Value} {w' : World} (hs : ev σ s = v) (hx : ev σ x = v2) (hr : (Builtin.append_ #[t, t] ty #[v, v2]).run P w = .ok v' w') :
    (execOp (ev σ) ⟨d, .call ⟨.builtin .append, #[s, x], #[t, t]⟩, ty, pos, af, gd⟩).run P w = .ok (.value v') w' := by
  unfold execOp
  simp only [resolve, invoke, builtin, Sem.run_bind, Sem.run_pure, Result.andThen_ok, List.map_toArray, List.map_cons, List.map_nil, hs, hx, hr]

theorem Els.set {F : Nat → Prop} : ∀ {css : List (List Value)} {l : List α}, Els w F css l → ∀ (i : Nat) {cs : List Value} {x : α}, Rep.rd w F cs x → Els w F (css.set i cs) (l.set i x)
  | [], [], _, _, _, _, _ => trivial
  | _ :: _, _ :: _, h, 0, _, _, hx => ⟨hx, h.2⟩
  | _ :: _, _ :: _, h, _ + 1, _, _, hx => ⟨h.1, Els.set h.2 _ hx⟩
  | [], _ :: _, h, _, _, _, _ => h.elim
  | _ :: _, [], h, _, _, _, _ => h.elim
end
end
end Go.Proofs.Ytmiihhbeclhaoaa
end
