/- The engine: a weakest precondition over environments (slot -> value), with rules for code, regions, loops and calls. -/
import Derived.WalkKit
namespace Go.Proofs.Ytgjgmojjeehieaa

abbrev Env := Nat → Value
def upd (σ : Env) (d : Nat) (v : Value) : Env := fun i => bif Nat.beq i d then v else σ i
def updO (σ : Env) : Option Nat → Value → Env
  | some d, v => upd σ d v
  | none, _ => σ
def ev (σ : Env) : Operand → Value
  | .tmp t => σ t
  | .const v => v
  | .global g => .pointer (some ⟨g, 0, none⟩)
  | .func f => .func (.func f) #[] #[]

structure Sim (n : Nat) (σ : Env) (a : Act) : Prop where
  size : a.tmps.size = n
  defers : a.defers = []
  get : ∀ i, a.tmps.getD i undef = σ i

theorem upd_same (σ : Env) (d : Nat) (v : Value) : upd σ d v d = v := by simp [upd]
theorem upd_ne (σ : Env) {d i : Nat} (v : Value) (h : i ≠ d) : upd σ d v i = σ i := by
  have : Nat.beq i d = false := by
    cases hb : Nat.beq i d with
    | false => rfl
    | true => exact absurd (Nat.eq_of_beq_eq_true hb) h
  simp [upd, this]

theorem Sim.eval {n : Nat} {σ : Env} {a : Act} (h : Sim n σ a) : a.eval = ev σ := by
  funext x; cases x <;> simp [Act.eval, ev, ← h.get]

theorem Sim.put {n : Nat} {σ : Env} {a : Act} (h : Sim n σ a) {dst : Option Nat} (hd : ∀ d, dst = some d → d < n) (v : Value) : Sim n (updO σ dst v) (a.put dst v) := by
  cases dst with
  | none => exact h
  | some d =>
    refine ⟨by simp [Act.put, h.size], h.defers, fun i => ?_⟩
    have hlt := hd d rfl
    by_cases hi : i = d
    · subst hi
      have : i < a.tmps.size := by rw [h.size]; exact hlt
      simp [Act.put, updO, upd_same, this]
    · rw [show updO σ (some d) v i = σ i from upd_ne σ v hi, ← h.get i]
      simp [Act.put, Array.getElem?_setIfInBounds_ne (Ne.symm hi)]

def yl (ops : Array Oper) (σ : Env) (j : Nat) : Option Bool :=
  match (ops[j]?).bind (·.dst) with
  | some d => match σ d with
    | .bool b => some b
    | _ => none
  | none => none

theorem Sim.yielded {n : Nat} {σ : Env} {a : Act} (h : Sim n σ a) (ops : Array Oper) : yielded ops a.tmps = yl ops σ := by
  funext j
  unfold Go.yielded yl
  cases (ops[j]?).bind (·.dst) with
  | none => rfl
  | some d =>
    have := h.get d
    simp only [Option.bind_some]
    rw [← this]
    simp only [Array.getD_eq_getD_getElem?]
    cases a.tmps[d]? with
    | none => simp [undef]
    | some v => simp only [Option.getD_some]; cases v <;> rfl

abbrev Post := Exit → Env → World → Prop

def WP (P : Program) (n : Nat) (c : Code) (Q : Post) (σ : Env) (w : World) : Prop :=
  ∀ a, Sim n σ a → c.wp P (fun e a' w' => ∃ σ', Sim n σ' a' ∧ Q e σ' w') a w

/-- An operation, carried out: K of the value that it gives, and of the world behind it. -/
def opV (P : Program) (o : Oper) (σ : Env) (w : World) (K : Value → World → Prop) : Prop :=
  match (execOp (ev σ) o).run P w with
  | .ok (.value v) w' => K v w'
  | .ok .skip w' => K undef w'
  | .ok (.enter f args) w' => Calls P f args w' fun e w'' => ∃ v, e = .returned v ∧ K v w''
  | _ => False
def opP (P : Program) (o : Oper) (K : Env → World → Prop) (σ : Env) (w : World) : Prop := opV P o σ w fun v w' => K (updO σ o.dst v) w'

def dstsOk (n : Nat) (ops : List Oper) : Bool := ops.all fun o => match o.dst with | some d => Nat.blt d n | none => true

def WPs (P : Program) (ops : Array Oper) (K : Env → World → Prop) : List Oper → Env → World → Prop
  | [], σ, w => K σ w
  | o :: rest, σ, w => if Region.wanted o (yl ops σ) then opP P o (WPs P ops K rest) σ w else WPs P ops K rest (updO σ o.dst undef) w

section
variable {P : Program} {n : Nat} {Q : Post} {σ : Env} {w : World} {ops : Array Oper}

theorem opP_wp {o : Oper} {a : Act} {K : Env → World → Prop} {next : Act → World → Prop} {Q' : Exit → Act → World → Prop} (hs : Sim n σ a)
    (hn : ∀ a' σ' w', Sim n σ' a' → K σ' w' → next a' w') (hd : ∀ d, o.dst = some d → d < n) (h : opP P o K σ w) : o.wp P a w next Q' := by
  unfold opP opV at h
  unfold Oper.wp
  rw [hs.eval]
  generalize (execOp (ev σ) o).run P w = r at *
  cases r with
  | halt x w' => cases x <;> exact h.elim
  | ok x w' =>
    cases x <;> try exact h.elim
    case value v => exact hn _ _ _ (hs.put hd v) h
    case skip => exact hn _ _ _ (hs.put hd undef) h
    case enter f args =>
      refine Calls.mono h fun e w'' => ?_
      rintro ⟨v, rfl, hk⟩
      exact hn _ _ _ (hs.put hd v) hk

theorem WPs_list {K : Env → World → Prop} {Q' : Exit → Act → World → Prop} (hK : ∀ a σ w, Sim n σ a → K σ w → Q' .normal a w) :
    ∀ (l : List Oper), dstsOk n l = true → ∀ (σ : Env) (a : Act) (w : World), Sim n σ a → WPs P ops K l σ w → wpList P ops Q' l a w
  | [], _, σ, a, w, hs, h => hK a σ w hs h
  | o :: rest, hd, σ, a, w, hs, h => by
    simp only [dstsOk, List.all_cons, Bool.and_eq_true] at hd
    have hd1 : ∀ d, o.dst = some d → d < n := by
      intro d hd'
      have := hd.1
      rw [hd'] at this
      simpa using this
    have ih := WPs_list hK rest (by simpa [dstsOk] using hd.2)
    simp only [WPs] at h
    simp only [wpList, hs.yielded]
    split
    · rename_i hw
      rw [if_pos hw] at h
      exact .inl (opP_wp hs (fun a' σ' w' hs' hk => ih σ' a' w' hs' hk) hd1 h)
    · rename_i hw
      rw [if_neg hw] at h
      exact ih _ _ _ (hs.put hd1 undef) h

theorem WP_region {id : Nat} {l : List Oper} (hd : dstsOk n l = true) (h : WPs P l.toArray (Q .normal) l σ w) : WP P n (.region id l.toArray false) Q σ w := by
  intro a hs
  exact wp_region_lit (WPs_list (fun a σ w hs hk => ⟨σ, hs, hk⟩) l hd σ a w hs h)

/-- A region without guards. -/
theorem WP_region0 {id : Nat} {l : List Oper} (hd : dstsOk n l = true) (h : ∀ ops, WPs P ops (Q .normal) l σ w) : WP P n (.region id l.toArray false) Q σ w := WP_region hd (h _)

abbrev thenQ (next : Env → World → Prop) (Q : Post) : Post := fun e σ w => match e with
  | .normal => next σ w
  | e => Q e σ w

theorem WP_seq {x y : Code} (h : WP P n x (thenQ (WP P n y Q) Q) σ w) : WP P n (.seq x y) Q σ w := by
  intro a hs
  refine wp_seq (wp_mono (h a hs) ?_)
  rintro e a' w' ⟨σ', hs', hq⟩
  cases e <;> first | exact hq a' hs' | exact ⟨σ', hs', hq⟩

theorem WP_skip (h : Q .normal σ w) : WP P n .skip Q σ w := fun _ hs => wp_skip ⟨σ, hs, h⟩
theorem WP_exit {id : Nat} (h : Q (.exit id) σ w) : WP P n (.exit id) Q σ w := fun _ hs => wp_exit ⟨σ, hs, h⟩
theorem WP_ret (h : Q .ret σ w) : WP P n .ret Q σ w := fun _ hs => wp_ret ⟨σ, hs, h⟩

theorem WP_cond {c : Operand} {x y : Code} {t : Bool} (hc : ev σ c = .bool t) (ht : t = true → WP P n x Q σ w) (hf : t = false → WP P n y Q σ w) : WP P n (.cond c x y) Q σ w := by
  intro a hs
  cases t
  · exact wp_cond_false (by rw [hs.eval]; exact hc) (hf rfl a hs)
  · exact wp_cond_true (by rw [hs.eval]; exact hc) (ht rfl a hs)
theorem WP_cond_t {c : Operand} {x y : Code} (hc : ev σ c = .bool true) (ht : WP P n x Q σ w) : WP P n (.cond c x y) Q σ w := WP_cond hc (fun _ => ht) (fun h => nomatch h)
theorem WP_cond_f {c : Operand} {x y : Code} (hc : ev σ c = .bool false) (hf : WP P n y Q σ w) : WP P n (.cond c x y) Q σ w := WP_cond hc (fun h => nomatch h) (fun _ => hf)

abbrev blockQ (id : Nat) (Q : Post) : Post := fun e σ w => match e with
  | .exit id' => if id' = id then Q .normal σ w else Q (.exit id') σ w
  | e => Q e σ w

theorem WP_block {id : Nat} {c : Code} (h : WP P n c (blockQ id Q) σ w) : WP P n (.block id c) Q σ w := by
  intro a hs
  refine wp_block (wp_mono (h a hs) ?_)
  rintro e a' w' ⟨σ', hs', hq⟩
  cases e <;> try exact ⟨σ', hs', hq⟩
  case exit id' =>
    simp only [blockQ] at hq
    simp only [Exit.inBlock]
    split <;> rename_i hid
    · rw [if_pos hid] at hq; exact ⟨σ', hs', hq⟩
    · rw [if_neg hid] at hq; exact ⟨σ', hs', hq⟩

/-- A loop: an invariant over (a ghost that names the measure), the environment, the world. -/
theorem WP_loop {c : Code} (I : Nat → Env → World → Prop) {m : Nat} (h0 : I m σ w)
    (round : ∀ m σ w, I m σ w → WP P n c (thenQ (fun σ' w' => ∃ m', m' < m ∧ I m' σ' w') Q) σ w) : WP P n (.loop c) Q σ w := by
  have key : ∀ m σ w, I m σ w → ∀ a, Sim n σ a → ∀ (b : Frame) (k : List Item) (cs : List Frame),
      ∃ e a' w', (∃ σ', Sim n σ' a' ∧ Q e σ' w') ∧ Arrives P (lone (b.at a (.code c :: .inLoop c :: k)) cs w) b k cs e a' w' := by
    intro m
    induction m using Nat.strongRecOn with
    | _ m ih =>
      intro σ w hI a hs b k cs
      obtain ⟨e, a₁, w₁, ⟨σ₁, hs₁, hq⟩, harr⟩ := round m σ w hI a hs b (.inLoop c :: k) cs
      cases e with
      | normal =>
        obtain ⟨m', hlt, hI'⟩ := hq
        obtain ⟨e₂, a₂, w₂, hq₂, harr₂⟩ := ih m' hlt σ₁ w₁ hI' a₁ hs₁ b k cs
        exact ⟨e₂, a₂, w₂, hq₂, .of_steps (Steps.trans harr (.one step_inLoop)) harr₂⟩
      | exit id => exact ⟨_, a₁, w₁, ⟨σ₁, hs₁, hq⟩, .pass (x := .inLoop c) rfl (fun _ _ => .inl (by simp)) harr⟩
      | goto l => exact ⟨_, a₁, w₁, ⟨σ₁, hs₁, hq⟩, .pass (x := .inLoop c) rfl (fun _ _ => .inl (by simp)) harr⟩
      | ret => exact ⟨_, a₁, w₁, ⟨σ₁, hs₁, hq⟩, .pass (x := .inLoop c) rfl (fun _ _ => .inl (by simp)) harr⟩
      | panic ch => exact ⟨_, a₁, w₁, ⟨σ₁, hs₁, hq⟩, .pass (x := .inLoop c) rfl (fun _ _ => .inl (by simp)) harr⟩
      | outgrown => exact ⟨_, a₁, w₁, ⟨σ₁, hs₁, hq⟩, .pass (x := .inLoop c) rfl (fun _ _ => .inl (by simp)) harr⟩
  intro a hs b k cs
  obtain ⟨e, a', w', hq, harr⟩ := key m σ w h0 a hs b k cs
  exact ⟨e, a', w', hq, .of_steps (.one step_loop) harr⟩

theorem blk_exit {id : Nat} (h : Q .normal σ w) : blockQ id Q (.exit id) σ w := by simp only [blockQ, if_true]; exact h
theorem blk_pass {id id' : Nat} (hne : id' ≠ id) (h : Q (.exit id') σ w) : blockQ id Q (.exit id') σ w := by simp only [blockQ, if_neg hne]; exact h

section
variable {K : Env → World → Prop} {rest : List Oper} {d : Nat} {op : Op} {ty : TypeId} {pos : String} {af : Array Edge}
theorem st (h : opV P ⟨some d, op, ty, pos, af, none⟩ σ w (fun v w' => WPs P ops K rest (upd σ d v) w')) : WPs P ops K (⟨some d, op, ty, pos, af, none⟩ :: rest) σ w := h
theorem stn (h : opV P ⟨none, op, ty, pos, af, none⟩ σ w (fun _ w' => WPs P ops K rest σ w')) : WPs P ops K (⟨none, op, ty, pos, af, none⟩ :: rest) σ w := h
theorem st_nil (h : K σ w) : WPs P ops K [] σ w := h
/-- A guarded operation: its guard says yes. -/
theorem sty {j t : Nat} {b : Bool} (hd : ((ops[j]?).bind (·.dst)) = some t) (ht : σ t = .bool b) (h : opV P ⟨some d, op, ty, pos, af, some (j, b)⟩ σ w (fun v w' => WPs P ops K rest (upd σ d v) w')) : WPs P ops K (⟨some d, op, ty, pos, af, some (j, b)⟩ :: rest) σ w := by
  have hw : Region.wanted ⟨some d, op, ty, pos, af, some (j, b)⟩ (yl ops σ) = true := by simp [Region.wanted, yl, hd, ht]
  simp only [WPs, hw, if_true]; exact h
/-- A guarded operation that leaves the world: one way on. -/
theorem stc {j t : Nat} {b want : Bool} {V : Value} (hd : ((ops[j]?).bind (·.dst)) = some t) (ht : σ t = .bool b) (h : b = want → opV P ⟨some d, op, ty, pos, af, some (j, want)⟩ σ w (fun v w' => v = V ∧ w' = w))
    (hn : WPs P ops K rest (upd σ d (if b = want then V else undef)) w) : WPs P ops K (⟨some d, op, ty, pos, af, some (j, want)⟩ :: rest) σ w := by
  simp only [WPs]
  by_cases hb : b = want
  · have hw : Region.wanted ⟨some d, op, ty, pos, af, some (j, want)⟩ (yl ops σ) = true := by simp [Region.wanted, yl, hd, ht, hb]
    simp only [hw, if_true]
    rw [if_pos hb] at hn
    have := h hb
    unfold opP
    revert this
    unfold opV
    generalize (execOp (ev σ) _).run P w = r
    cases r with
    | halt x w' => cases x <;> exact fun h => h
    | ok x w' =>
      cases x <;> try exact fun h => h
      case value v => rintro ⟨rfl, rfl⟩; exact hn
      case skip => rintro ⟨h1, rfl⟩; simp only [updO]; rw [h1]; exact hn
      case enter f args =>
        intro h1
        refine Calls.mono h1 fun e w'' => ?_
        rintro ⟨v, rfl, rfl, rfl⟩
        exact ⟨_, rfl, hn⟩
  · have hw : Region.wanted ⟨some d, op, ty, pos, af, some (j, want)⟩ (yl ops σ) = false := by simp [Region.wanted, yl, hd, ht, hb]
    simp only [hw]
    rw [if_neg hb] at hn
    exact hn
/-- A guarded operation that may move the world on, by a relation. -/
theorem stcw {j t : Nat} {b want : Bool} {V : Value} (R : World → World → Prop) (hR : R w w) (hd : ((ops[j]?).bind (·.dst)) = some t) (ht : σ t = .bool b) (h : b = want → opV P ⟨some d, op, ty, pos, af, some (j, want)⟩ σ w (fun v w' => v = V ∧ R w w'))
    (hn : ∀ w', R w w' → WPs P ops K rest (upd σ d (if b = want then V else undef)) w') : WPs P ops K (⟨some d, op, ty, pos, af, some (j, want)⟩ :: rest) σ w := by
  simp only [WPs]
  by_cases hb : b = want
  · have hw : Region.wanted ⟨some d, op, ty, pos, af, some (j, want)⟩ (yl ops σ) = true := by simp [Region.wanted, yl, hd, ht, hb]
    simp only [hw, if_true]
    rw [if_pos hb] at hn
    have := h hb
    unfold opP
    revert this
    unfold opV
    generalize (execOp (ev σ) _).run P w = r
    cases r with
    | halt x w' => cases x <;> exact fun h => h
    | ok x w' =>
      cases x <;> try exact fun h => h
      case value v => rintro ⟨rfl, hw'⟩; exact hn _ hw'
      case skip => rintro ⟨h1, hw'⟩; simp only [updO]; rw [h1]; exact hn _ hw'
      case enter f args =>
        intro h1
        refine Calls.mono h1 fun e w'' => ?_
        rintro ⟨v, rfl, rfl, hw'⟩
        exact ⟨_, rfl, hn _ hw'⟩
  · have hw : Region.wanted ⟨some d, op, ty, pos, af, some (j, want)⟩ (yl ops σ) = false := by simp [Region.wanted, yl, hd, ht, hb]
    simp only [hw]
    rw [if_neg hb] at hn
    exact hn w hR
/-- The same, where the guard itself is known only where p holds. -/
theorem stcP {j t : Nat} {b want : Bool} {V : Value} {p : Prop} [Decidable p] (hd : ((ops[j]?).bind (·.dst)) = some t) (ht : σ t = if p then .bool b else undef) (h : p ∧ b = want → opV P ⟨some d, op, ty, pos, af, some (j, want)⟩ σ w (fun v w' => v = V ∧ w' = w))
    (hn : WPs P ops K rest (upd σ d (if p ∧ b = want then V else undef)) w) : WPs P ops K (⟨some d, op, ty, pos, af, some (j, want)⟩ :: rest) σ w := by
  by_cases hp : p
  · rw [if_pos hp] at ht
    have e : (p ∧ b = want) = (b = want) := by simp [hp]
    refine stc (V := V) hd ht (fun hb => h ⟨hp, hb⟩) ?_
    simpa only [e] using hn
  · rw [if_neg hp] at ht
    have hw : Region.wanted ⟨some d, op, ty, pos, af, some (j, want)⟩ (yl ops σ) = false := by simp [Region.wanted, yl, hd, ht, undef]
    simp only [WPs, hw]
    rw [if_neg (fun h => hp h.1)] at hn
    exact hn
theorem stcwP {j t : Nat} {b want : Bool} {V : Value} {p : Prop} [Decidable p] (R : World → World → Prop) (hR : R w w) (hd : ((ops[j]?).bind (·.dst)) = some t) (ht : σ t = if p then .bool b else undef) (h : p ∧ b = want → opV P ⟨some d, op, ty, pos, af, some (j, want)⟩ σ w (fun v w' => v = V ∧ R w w'))
    (hn : ∀ w', R w w' → WPs P ops K rest (upd σ d (if p ∧ b = want then V else undef)) w') : WPs P ops K (⟨some d, op, ty, pos, af, some (j, want)⟩ :: rest) σ w := by
  by_cases hp : p
  · rw [if_pos hp] at ht
    have e : (p ∧ b = want) = (b = want) := by simp [hp]
    refine stcw (V := V) R hR hd ht (fun hb => h ⟨hp, hb⟩) ?_
    simpa only [e] using hn
  · rw [if_neg hp] at ht
    have hw : Region.wanted ⟨some d, op, ty, pos, af, some (j, want)⟩ (yl ops σ) = false := by simp [Region.wanted, yl, hd, ht, undef]
    simp only [WPs, hw]
    have := hn w hR
    rw [if_neg (fun h => hp h.1)] at this
    exact this
/-- Its guard says no. -/
theorem stx {j t : Nat} {b : Bool} (hd : ((ops[j]?).bind (·.dst)) = some t) (ht : σ t = .bool (!b)) (h : WPs P ops K rest (upd σ d undef) w) : WPs P ops K (⟨some d, op, ty, pos, af, some (j, b)⟩ :: rest) σ w := by
  have hw : Region.wanted ⟨some d, op, ty, pos, af, some (j, b)⟩ (yl ops σ) = false := by cases b <;> simp [Region.wanted, yl, hd, ht]
  simp only [WPs, hw]; exact h
end

/-- Some slots' values. -/
def setAll (ρ : Env) : List (Nat × Value) → Env
  | [] => ρ
  | (d, v) :: l => upd (setAll ρ l) d v
def allEq (σ : Env) : List (Nat × Value) → Prop
  | [] => True
  | (d, v) :: l => σ d = v ∧ allEq σ l
theorem setAll_self {l : List (Nat × Value)} (h : allEq σ l) : σ = setAll σ l := by
  induction l with
  | nil => rfl
  | cons p l ih =>
    obtain ⟨d, v⟩ := p
    funext i
    have := congrFun (ih h.2) i
    by_cases hi : i = d
    · subst hi; simp only [setAll, upd_same]; exact h.1
    · simp only [setAll]; rw [upd_ne _ _ hi]; exact this

theorem st_env {K : Env → World → Prop} {l : List Oper} {kv : List (Nat × Value)} (hk : allEq σ kv) (h : ∀ ρ, WPs P ops K l (setAll ρ kv) w) : WPs P ops K l σ w := by
  rw [setAll_self hk]; exact h σ
theorem WP_env {c : Code} {kv : List (Nat × Value)} (hk : allEq σ kv) (h : ∀ ρ, WP P n c Q (setAll ρ kv) w) : WP P n c Q σ w := by
  rw [setAll_self hk]; exact h σ

def MapL (f : Operand → Value) : List Operand → List Value → Prop
  | [], [] => True
  | a :: as, v :: vs => f a = v ∧ MapL f as vs
  | _, _ => False
theorem mapL {f : Operand → Value} : ∀ {as : List Operand} {vs : List Value}, MapL f as vs → as.map f = vs
  | [], [], _ => rfl
  | _ :: _, _ :: _, h => by rw [List.map_cons, h.1, mapL h.2]
  | [], _ :: _, h => h.elim
  | _ :: _, [], h => h.elim
def MapP (f : Operand → Value) : List (Nat × Operand) → List (Nat × Value) → Prop
  | [], [] => True
  | a :: as, v :: vs => a.1 = v.1 ∧ f a.2 = v.2 ∧ MapP f as vs
  | _, _ => False
theorem mapP {f : Operand → Value} : ∀ {as : List (Nat × Operand)} {vs : List (Nat × Value)}, MapP f as vs → (as.map fun p => (p.1, f p.2)) = vs
  | [], [], _ => rfl
  | _ :: _, _ :: _, h => by rw [List.map_cons, h.1, h.2.1, mapP h.2.2]
  | [], _ :: _, h => h.elim
  | _ :: _, [], h => h.elim

/-- A function's body. -/
def bodyQ (P : Program) (fn : Func) (R : Value → World → Prop) : Post := fun e σ w => match e with
  | .normal | .ret => ∃ v, (∀ tmps : Array Value, (∀ i, tmps.getD i undef = σ i) → (results fn tmps).run P w = .ok v w) ∧ R v w
  | _ => False

def env0 (args : List Value) : Env := fun i => args.getD i undef

/-- What a call comes to. -/
def Ret (P : Program) (f : FuncId) (args : List Value) (w : World) (R : Value → World → Prop) : Prop := Calls P f args.toArray w (fun e w' => ∃ v, e = .returned v ∧ R v w')
theorem Ret.mono {P : Program} {f : FuncId} {args : List Value} {w : World} {R R' : Value → World → Prop} (h : Ret P f args w R) (hr : ∀ v w', R v w' → R' v w') : Ret P f args w R' :=
  Calls.mono h fun _ _ ⟨v, he, hR⟩ => ⟨v, he, hr _ _ hR⟩

theorem Calls_of_WP {f : FuncId} {fn : Func} {c : Code} {args : List Value} {w : World} {R : Value → World → Prop}
    (hf : P.funcs[f]? = some fn) (hb : fn.body = some c) (hn : Nat.ble args.length fn.ntmps = true)
    (h : WP P fn.ntmps c (bodyQ P fn R) (env0 args) w) : Ret P f args w R := by
  have hn' : args.length ≤ fn.ntmps := Nat.le_of_ble_eq_true hn
  refine calls_of_wp hf hb (wp_mono (h _ ⟨?_, rfl, fun i => ?_⟩) ?_)
  · simp; omega
  · simp only [env0, Array.getD_eq_getD_getElem?, List.getD_eq_getElem?_getD]
    by_cases hi : i < args.length
    · simp [Array.getElem?_append, hi]
    · simp only [Array.getElem?_append, List.size_toArray, hi, if_false]
      rw [List.getElem?_eq_none (by omega)]
      simp only [Option.getD_none]
      rw [Array.getElem?_replicate]
      split <;> simp
  · rintro e a' w' ⟨σ', hs', hq⟩
    cases e <;> try exact hq.elim
    case normal => obtain ⟨v, hr, hR⟩ := hq; exact ⟨hs'.defers, v, hr _ hs'.get, v, rfl, hR⟩
    case ret => obtain ⟨v, hr, hR⟩ := hq; exact ⟨hs'.defers, v, hr _ hs'.get, v, rfl, hR⟩
end

theorem ndec_true {p : Prop} [Decidable p] (h : (!decide p) = true) : ¬ p := by simpa using h
theorem ndec_false {p : Prop} [Decidable p] (h : (!decide p) = false) : p := by simpa using h
end Go.Proofs.Ytgjgmojjeehieaa
