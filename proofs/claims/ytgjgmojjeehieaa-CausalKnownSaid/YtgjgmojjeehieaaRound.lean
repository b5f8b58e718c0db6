/- A loop over a function that is handed the loop's body: what a round comes to, and what the statement comes to. -/
import Derived.Test.YtgjgmojjeehieaaSep2
import Derived.Test.YtgjgmojjeehieaaDraw4
import Derived.RangeFuncLeaves
import Derived.RangeFuncMany
import Derived.OrdersIn
import Derived.TacticsIn
set_option linter.unusedSimpArgs false
set_option linter.unusedVariables false
namespace Go.Proofs.Ytgjgmojjeehieaa
open Go.RowKit

abbrev FR (r : Option Nat) : Fence := { Fence.wide with round := r }
structure SimD (ds : List Deferred) (n : Nat) (σ : Env) (a : Act) : Prop where
  size : a.tmps.size = n
  defers : a.defers = ds
  get : ∀ i, a.tmps.getD i undef = σ i
section
variable {P : Program} {n : Nat} {Q : Post} {σ : Env} {w : World} {ds : List Deferred} {r : Option Nat} {a : Act}
theorem SimD.sim (h : SimD [] n σ a) : Sim n σ a := ⟨h.size, h.defers, h.get⟩
theorem SimD.of (h : Sim n σ a) : SimD [] n σ a := ⟨h.size, h.defers, h.get⟩
theorem SimD.low (h : SimD ds n σ a) : Sim n σ { a with defers := [] } := ⟨h.size, rfl, h.get⟩
theorem SimD.eval (h : SimD ds n σ a) : a.eval = ev σ := h.low.eval
theorem SimD.put (h : SimD ds n σ a) {dst : Option Nat} (hd : ∀ d, dst = some d → d < n) (v : Value) : SimD ds n (updO σ dst v) (a.put dst v) := by
  have h1 := h.low.put hd v
  refine ⟨?_, ?_, ?_⟩
  · have := h1.size; cases dst <;> exact this
  · have := h.defers; cases dst <;> exact this
  · have := h1.get; cases dst <;> exact this
theorem SimD.yielded (h : SimD ds n σ a) (ops : Array Oper) : yielded ops a.tmps = yl ops σ := h.low.yielded ops

/-- An operation that may be the call of a round. -/
def opX (P : Program) (o : Oper) (σ : Env) (w : World) (K : Value → World → Prop) : Prop :=
  match (execOp (ev σ) o).run P w with
  | .ok (.value v) w' => K v w'
  | .ok .skip w' => K undef w'
  | .ok (.enter f args) w' => Calls P f args w' fun e w'' => ∃ v, e = .returned v ∧ K v w''
  | .ok (.round l f tmps assign body) w' => RoundIn (FR none) 0 P l f tmps assign body w' fun e w'' => ∃ v, e = .returned v ∧ K v w''
  | _ => False
theorem opX_of {o : Oper} {K : Value → World → Prop} (h : opV P o σ w K) : opX P o σ w K := by
  unfold opV at h
  unfold opX
  generalize (execOp (ev σ) o).run P w = q at *
  cases q with
  | halt x w' => cases x <;> exact h.elim
  | ok x w' => cases x <;> first | exact h | exact h.elim
def noDefer (o : Oper) : Bool := match o.op with | .defer _ => false | _ => true
theorem noDefer_ne {o : Oper} (h : noDefer o = true) : ∀ c, o.op ≠ .defer c := by
  intro c hc
  unfold noDefer at h
  rw [hc] at h
  cases h
theorem callsR {f : FuncId} {args : Array Value} {R : Ending → World → Prop} (h : Calls P f args w R) : CallsIn (FR r) 0 P f args w R := callsIn_wide.2 h
theorem opX_wpIn {o : Oper} {K : Value → World → Prop} {next : Act → World → Prop} {Q' : Exit → Act → World → Prop} (hs : SimD ds n σ a) (hnd : noDefer o = true)
    (hn : ∀ a' v w', SimD ds n (updO σ o.dst v) a' → K v w' → next a' w') (hd : ∀ d, o.dst = some d → d < n) (h : opX P o σ w K) : o.wpIn (FR r) 0 P a w next Q' := by
  unfold Oper.wpIn
  refine ⟨fun _ _ => trivial, ?_⟩
  rw [Oper.semAt_eq _ _ _ (noDefer_ne hnd), hs.eval]
  unfold opX at h
  generalize (execOp (ev σ) o).run P w = q at *
  cases q with
  | halt x w' => cases x <;> exact h.elim
  | ok x w' =>
    cases x <;> try exact h.elim
    case value v => exact hn _ _ _ (hs.put hd v) h
    case skip => exact hn _ _ _ (hs.put hd undef) h
    case enter f args =>
      refine ⟨fun h => (by cases h), CallsIn.mono (callsR h) fun e w'' => ?_⟩
      rintro ⟨v, rfl, hk⟩
      exact hn _ _ _ (hs.put hd v) hk
    case round l f tmps assign body =>
      refine ⟨fun h => (by cases h), RoundIn.mono h fun e w'' => ?_⟩
      rintro ⟨v, rfl, hk⟩
      exact hn _ _ _ (hs.put hd v) hk

def WPsX (P : Program) (ops : Array Oper) (K : Env → World → Prop) : List Oper → Env → World → Prop
  | [], σ, w => K σ w
  | o :: rest, σ, w => if Region.wanted o (yl ops σ) then opX P o σ w (fun v w' => WPsX P ops K rest (updO σ o.dst v) w') else WPsX P ops K rest (updO σ o.dst undef) w
theorem opX_mono {o : Oper} {K K' : Value → World → Prop} (h : ∀ v w', K v w' → K' v w') (hh : opX P o σ w K) : opX P o σ w K' := by
  unfold opX at *
  generalize (execOp (ev σ) o).run P w = q at *
  cases q with
  | halt x w' => cases x <;> exact hh.elim
  | ok x w' =>
    cases x <;> try exact hh.elim
    case value v => exact h _ _ hh
    case skip => exact h _ _ hh
    case enter f args =>
      refine Calls.mono hh fun e w'' => ?_
      rintro ⟨v, rfl, hk⟩
      exact ⟨v, rfl, h _ _ hk⟩
    case round l f tmps assign body =>
      refine RoundIn.mono hh fun e w'' => ?_
      rintro ⟨v, rfl, hk⟩
      exact ⟨v, rfl, h _ _ hk⟩
theorem WPsX_of {ops : Array Oper} {K : Env → World → Prop} : ∀ {l : List Oper} {σ : Env} {w : World}, WPs P ops K l σ w → WPsX P ops K l σ w
  | [], _, _, h => h
  | o :: rest, σ, w, h => by
    simp only [WPs] at h
    simp only [WPsX]
    split
    · rename_i hw
      rw [if_pos hw] at h
      exact opX_mono (fun v w' hk => WPsX_of hk) (opX_of h)
    · rename_i hw
      rw [if_neg hw] at h
      exact WPsX_of h
theorem stX {ops : Array Oper} {K : Env → World → Prop} {rest : List Oper} {d : Nat} {op : Op} {ty : TypeId} {pos : String} {af : Array Edge} (h : opX P ⟨some d, op, ty, pos, af, none⟩ σ w (fun v w' => WPsX P ops K rest (upd σ d v) w')) : WPsX P ops K (⟨some d, op, ty, pos, af, none⟩ :: rest) σ w := h
theorem stXv {ops : Array Oper} {K : Env → World → Prop} {rest : List Oper} {d : Nat} {op : Op} {ty : TypeId} {pos : String} {af : Array Edge} (h : opV P ⟨some d, op, ty, pos, af, none⟩ σ w (fun v w' => WPsX P ops K rest (upd σ d v) w')) : WPsX P ops K (⟨some d, op, ty, pos, af, none⟩ :: rest) σ w := opX_of h
theorem stX_nil {ops : Array Oper} {K : Env → World → Prop} (h : K σ w) : WPsX P ops K [] σ w := h
theorem WPsX_list {ops : Array Oper} {K : Env → World → Prop} {Q' : Exit → Act → World → Prop} (hK : ∀ a σ w, SimD ds n σ a → K σ w → Q' .normal a w) :
    ∀ (l : List Oper), dstsOk n l = true → l.all noDefer = true → ∀ (σ : Env) (a : Act) (w : World), SimD ds n σ a → WPsX P ops K l σ w → wpListIn (FR r) 0 P ops Q' l a w
  | [], _, _, σ, a, w, hs, h => hK a σ w hs h
  | o :: rest, hd, hnd, σ, a, w, hs, h => by
    simp only [dstsOk, List.all_cons, Bool.and_eq_true] at hd hnd
    have hd1 : ∀ d, o.dst = some d → d < n := by
      intro d hd'
      have := hd.1
      rw [hd'] at this
      simpa using this
    have ih := WPsX_list (ops := ops) hK rest (by simpa [dstsOk] using hd.2) hnd.2
    simp only [WPsX] at h
    simp only [wpListIn, hs.yielded]
    split
    · rename_i hw
      rw [if_pos hw] at h
      exact opX_wpIn hs hnd.1 (fun a' v w' hs' hk => ih _ a' w' hs' hk) hd1 h
    · rename_i hw
      rw [if_neg hw] at h
      exact ⟨fun _ _ => trivial, ih _ _ _ (hs.put hd1 undef) h⟩

/-- The calculus in a round, or where calls are put off. -/
def WPX (r : Option Nat) (ds : List Deferred) (P : Program) (n : Nat) (c : Code) (Q : Post) (σ : Env) (w : World) : Prop :=
  ∀ a, SimD ds n σ a → c.wpIn (FR r) 0 P (fun e a' w' => ∃ σ', SimD ds n σ' a' ∧ Q e σ' w') a w
theorem WP_of_X {c : Code} (h : WPX none [] P n c Q σ w) : WP P n c Q σ w := fun a hs =>
  wp_mono (wpIn_wide.1 (h a (.of hs))) (by rintro e a' w' ⟨σ', h1, h2⟩; exact ⟨σ', h1.sim, h2⟩)
theorem WPX_regionX {id : Nat} {l : List Oper} (hd : (dstsOk n l && l.all noDefer) = true) (h : WPsX P l.toArray (Q .normal) l σ w) : WPX r ds P n (.region id l.toArray false) Q σ w := by
  intro a hs
  rw [Bool.and_eq_true] at hd
  exact wpIn_region_lit (WPsX_list (fun a σ w hs hk => ⟨σ, hs, hk⟩) l hd.1 hd.2 σ a w hs h)
theorem WPX_region {id : Nat} {l : List Oper} (hd : (dstsOk n l && l.all noDefer) = true) (h : WPs P l.toArray (Q .normal) l σ w) : WPX r ds P n (.region id l.toArray false) Q σ w := WPX_regionX hd (WPsX_of h)
theorem WPX_region0 {id : Nat} {l : List Oper} (hd : (dstsOk n l && l.all noDefer) = true) (h : ∀ ops, WPs P ops (Q .normal) l σ w) : WPX r ds P n (.region id l.toArray false) Q σ w := WPX_region hd (h _)
theorem WPX_seq {x y : Code} (h : WPX r ds P n x (thenQ (WPX r ds P n y Q) Q) σ w) : WPX r ds P n (.seq x y) Q σ w := by
  intro a hs
  refine wpIn_seq (wpIn_mono (h a hs) ?_)
  rintro e a' w' ⟨σ', hs', hq⟩
  cases e <;> first | exact hq a' hs' | exact ⟨σ', hs', hq⟩
theorem WPX_skip (h : Q .normal σ w) : WPX r ds P n .skip Q σ w := fun _ hs => wpIn_skip ⟨σ, hs, h⟩
theorem WPX_ret (h : Q .ret σ w) : WPX r ds P n .ret Q σ w := fun _ hs => wpIn_ret ⟨σ, hs, h⟩
theorem WPX_cond {c : Operand} {x y : Code} {t : Bool} (hc : ev σ c = .bool t) (ht : t = true → WPX r ds P n x Q σ w) (hf : t = false → WPX r ds P n y Q σ w) : WPX r ds P n (.cond c x y) Q σ w := by
  intro a hs
  cases t
  · exact wpIn_cond_false (by rw [hs.eval]; exact hc) (hf rfl a hs)
  · exact wpIn_cond_true (by rw [hs.eval]; exact hc) (ht rfl a hs)
theorem WPX_cond_t {c : Operand} {x y : Code} (hc : ev σ c = .bool true) (ht : WPX r ds P n x Q σ w) : WPX r ds P n (.cond c x y) Q σ w := WPX_cond hc (fun _ => ht) (fun h => nomatch h)
theorem WPX_cond_f {c : Operand} {x y : Code} (hc : ev σ c = .bool false) (hf : WPX r ds P n y Q σ w) : WPX r ds P n (.cond c x y) Q σ w := WPX_cond hc (fun h => nomatch h) (fun _ => hf)
theorem WPX_block {id : Nat} {c : Code} (h : WPX r ds P n c (blockQ id Q) σ w) : WPX r ds P n (.block id c) Q σ w := by
  intro a hs
  refine wpIn_block (wpIn_mono (h a hs) ?_)
  rintro e a' w' ⟨σ', hs', hq⟩
  cases e <;> try exact ⟨σ', hs', hq⟩
  case exit id' =>
    simp only [blockQ] at hq
    simp only [Exit.inBlock]
    split <;> rename_i hid
    · rw [if_pos hid] at hq; exact ⟨σ', hs', hq⟩
    · rw [if_neg hid] at hq; exact ⟨σ', hs', hq⟩

theorem WPX_env {c : Code} {kv : List (Nat × Value)} (hk : allEq σ kv) (h : ∀ ρ, WPX r ds P n c Q (setAll ρ kv) w) : WPX r ds P n c Q σ w := by
  rw [setAll_self hk]; exact h σ

theorem opIn_of {o : Oper} {w : World} {K : Act → World → Prop} {Q' : Exit → Act → World → Prop} (hnd : noDefer o = true) (h : o.wp P a w K Q') : o.wpIn (FR r) 0 P a w K Q' := by
  unfold Oper.wp at h
  unfold Oper.wpIn
  refine ⟨fun _ _ => trivial, ?_⟩
  rw [Oper.semAt_eq _ _ _ (noDefer_ne hnd)]
  generalize (execOp a.eval o).run P w = q at *
  cases q with
  | halt x w' => cases x <;> exact h
  | ok x w' =>
    cases x <;> try exact h
    case enter f args => exact ⟨fun h => (by cases h), callsR h⟩
    case row row args =>
      refine ⟨fun h => (by cases h), fun c cs _ => ?_⟩
      obtain ⟨v, w', h1, h2⟩ := h c cs
      exact ⟨v, w', h1, stepsIn_wide.2 h2⟩
    case round => exact False.elim h
theorem anyIn_of {ops : Array Oper} {Q' : Exit → Act → World → Prop} (hnd : ∀ (i : Nat) (o : Oper), ops[i]? = some o → noDefer o = true) (hQ : ¬ LetsOut Q') : ∀ (fuel : Nat) (listed : Array Bool) (a : Act) (w : World), wpAny P .any ops Q' fuel listed a w → wpAnyIn (FR r) 0 P .any ops Q' fuel listed a w
  | 0, _, _, _, h => h
  | fuel + 1, listed, a, w, h => by
    refine ⟨h.1, fun i hi => ?_⟩
    have h1 := h.2 i hi
    unfold wpOp at h1
    unfold wpOpIn
    split
    · rename_i ho
      simp only [ho] at h1
      exact anyIn_of hnd hQ fuel _ _ _ h1
    · rename_i o ho
      simp only [ho] at h1
      split
      · rename_i hw
        rw [if_pos hw] at h1
        rcases h1 with h1 | h1
        · exact Oper.wpIn_mono (fun a w hk => anyIn_of hnd hQ fuel _ _ _ hk) (opIn_of (hnd _ _ ho) h1)
        · exact (hQ h1.2).elim
      · rename_i hw
        rw [if_neg hw] at h1
        exact ⟨fun _ _ => trivial, anyIn_of hnd hQ fuel _ _ _ h1⟩
theorem WPX_draw4 {ops : List Oper} {id : Nat} (W : Nat → (Nat → Value) → World → Prop) (A : Nat → (Nat → Value) → Prop) (pre : List (List Nat)) (ss : List Nat) (sees : List (Nat × Nat)) (hm : P.follows .mixedOrders = true) (hd : (dstsOk n ops && ops.all noDefer) = true) (hok : drawOk ops pre ops.length = true)
    (hkl : sees.length = ops.length) (hk : seesOk pre ss sees = true) (hsl : (ss.all fun s => Nat.blt s ops.length) = true)
    (hW : ∀ w0 : World, w0.heap = w.heap → w0.os = w.os → w0.tape = w.tape → w0.output = w.output ∧ w.drawn ≤ w0.drawn → ∀ vals, W 0 vals w0)
    (hloc : ∀ k vals vals' w, (∀ s ∈ ss, vals' s = vals s) → W k vals w → W k vals' w)
    (hlocA : ∀ i vals vals', (∀ j, j = i ∨ j ∈ pre.getD i [] → vals' j = vals j) → A i vals → A i vals')
    (hob : Obls4 P ops pre ss sees W A σ 0 ops)
    (hfin : ∀ vals w', W ss.length vals w' → (∀ j, j < ops.length → A j vals) → WPs P ops.toArray (Q .normal) [] (behind ops vals σ ops.length) w')
    (hQ : ∀ σ w, ¬ Q .outgrown σ w := by intro σ w h; exact h) :
    WPX r [] P n (.region id ops.toArray true) Q σ w := by
  intro a hs
  rw [Bool.and_eq_true] at hd
  have hf := drawOk.fit hok
  have hz : dn (Array.replicate ops.toArray.size false) = fun _ => false := by
    funext i
    simp [dn, Array.getElem?_replicate]
    split <;> rfl
  refine wpIn_mono (wpIn_region_any hm (anyIn_of (Q' := fun e a' w' => ∃ σ'', Sim n σ'' a' ∧ Q e σ'' w') (fun i o ho => (List.all_eq_true.1 hd.2) o (List.mem_of_getElem? (by simpa using ho))) (by rintro ⟨a0, w0, σ0, _, h0⟩; exact hQ _ _ h0) _ _ _ _ ?_)) (by rintro e a' w' ⟨σ', h1, h2⟩; exact ⟨σ', .of h1, h2⟩)
  refine phase4 (ss := ss) (vals := fun _ => undef) hf hd.1 hkl hk (fun s hs => by
    have := (List.all_eq_true.1 hsl) s hs; simpa [Nat.blt_eq] using this) hloc hlocA hob hfin _ _ a _ (by simp) ?_ ?_ ?_ ?_ ?_ ?_
  · intro i hi; rw [hz] at hi; cases hi
  · intro i hi; rw [hz] at hi; cases hi
  · simp
  · have : mixed ops (dn (Array.replicate ops.toArray.size false)) (fun _ => undef) σ = σ := by
      funext t
      exact mixed_none fun j _ => by rw [hz]
    rw [this]; exact hs.sim
  · have : stage ss (dn (Array.replicate ops.toArray.size false)) = 0 := countP_none fun s _ => by rw [hz]
    rw [this]; exact hW { w with drawn := w.drawn + 1 } rfl rfl rfl ⟨rfl, Nat.le_succ _⟩ _
  · intro i hi; rw [hz] at hi; cases hi

abbrev onlyN (K : Env → World → Prop) : Post := fun e σ w => match e with
  | .normal => K σ w
  | _ => False
/-- One round. -/
theorem round_of {l p : Nat} {f : FuncId} {tm : Array Value} {v : Value} {assign body : Code} {R : Ending → World → Prop} (hs : tm.size = n ∧ ∀ i, tm.getD i undef = σ i) (hp : p < n)
    (h : WPX (some l) [] P n assign (onlyN fun σ1 w1 => ∃ w2, (Instr.beginRound l).run P w1 = .ok () w2 ∧ WPX (some l) [] P n body (onlyN fun σ2 w3 => ∃ v' w4, (Instr.endRound l none).run P w3 = .ok v' w4 ∧ R (.returned v') w4) σ1 w2) (upd σ p v) w) :
    RoundIn (FR none) 0 P l f ((#[p].zip #[v]).foldl (fun t (p, v) => t.setIfInBounds p v) tm) assign body w R := by
  have hs' : SimD [] n (upd σ p v) { tmps := (#[p].zip #[v]).foldl (fun t (p, v) => t.setIfInBounds p v) tm, defers := [] } := by
    have h1 : SimD [] n σ { tmps := tm, defers := [] } := ⟨hs.1, rfl, hs.2⟩
    have h2 := h1.put (dst := some p) (fun d hd => by cases hd; exact hp) v
    have e : (#[p].zip #[v]).foldl (fun t (p, v) => t.setIfInBounds p v) tm = tm.setIfInBounds p v := by simp
    rw [e]; exact h2
  refine roundIn_of_wpIn trivial (wpIn_mono (h _ hs') ?_)
  rintro e a' w' ⟨σ', hs'', hq⟩
  cases e <;> try exact hq.elim
  obtain ⟨w2, hb, hq⟩ := hq
  refine ⟨w2, hb, wpIn_mono (hq _ hs'') ?_⟩
  rintro e a'' w'' ⟨σ'', hs3, hq2⟩
  cases e <;> try exact hq2.elim
  exact hq2

/-- What a frame keeps for its end when it has gone through such a loop. -/
def mkD (D : Nat) : Deferred := { target := .collected D, args := #[] }
/-- A body that holds one such loop. -/
def WPZ (P : Program) (n : Nat) (c : Code) (Q : Nat → Post) (σ : Env) (w : World) : Prop :=
  ∀ a, SimD [] n σ a → c.wpIn (FR none) 0 P (fun e a' w' => ∃ D σ', SimD [mkD D] n σ' a' ∧ Q D e σ' w') a w
theorem WPZ_pre {x y : Code} {Q : Nat → Post} (h : WP P n x (onlyN fun σ w => WPZ P n y Q σ w) σ w) : WPZ P n (.seq x y) Q σ w := by
  intro a hs
  refine wpIn_seq (wpIn_mono (wpIn_wide.2 (h a hs.sim)) ?_)
  rintro e a' w' ⟨σ', hs', hq⟩
  cases e <;> try exact hq.elim
  exact hq _ (.of hs')
theorem WPZ_post {x y : Code} {Q : Nat → Post} (h : WPZ P n x (fun D => onlyN fun σ w => WPX none [mkD D] P n y (Q D) σ w) σ w) : WPZ P n (.seq x y) Q σ w := by
  intro a hs
  refine wpIn_seq (wpIn_mono (h a hs) ?_)
  rintro e a' w' ⟨D, σ', hs', hq⟩
  cases e <;> try exact hq.elim
  exact wpIn_mono (hq _ hs') (by rintro e a'' w'' ⟨σ'', h1, h2⟩; exact ⟨D, σ'', h1, h2⟩)
theorem WPZ_block {c : Code} {id : Nat} {Q : Nat → Post} (h : WPZ P n c (fun D => onlyN (Q D .normal)) σ w) : WPZ P n (.block id c) Q σ w := by
  intro a hs
  refine wpIn_block (wpIn_mono (h a hs) ?_)
  rintro e a' w' ⟨D, σ', hs', hq⟩
  cases e <;> try exact hq.elim
  exact ⟨D, σ', hs', hq⟩
/-- The statement: its record is laid; the one call. -/
theorem WPZ_rangeFunc {g : Operand} {p : Tmp} {assign body : Code} {gf : FuncId} {lb : List Value} {Q : Nat → Post}
    (hg : ev σ g = .func (.func gf) #[] lb.toArray) (eg : ∀ args w, (callFunc gf args).run P w = .ok (.enter gf args) w)
    (h : ∀ fn (tm : Array Value), (tm.size = n ∧ ∀ i, tm.getD i undef = σ i) → Ret P gf (.func (.yield (w.heap.size + 1)) #[] #[] :: lb) ((w.alloc (.deferred (some []))).alloc (.loop { state := .ready, pending := none, fn, tmps := tm, params := #[p], assign, body, defers := w.heap.size }))
      (fun _ w2 => ∃ w3, (Instr.endLoop (w.heap.size + 1)).run P w2 = .ok none w3 ∧ Q w.heap.size .normal σ w3)) : WPZ P n (.rangeFunc g #[p] assign body) Q σ w := by
  intro a hs
  refine wpIn_rangeFunc ?_
  intro fn hfn
  have hs2 : a.tmps.size = n ∧ ∀ i, a.tmps.getD i undef = σ i := ⟨hs.size, hs.get⟩
  refine ⟨w.heap.size + 1, [mkD w.heap.size], (w.alloc (.deferred (some []))).alloc (.loop { state := .ready, pending := none, fn, tmps := a.tmps, params := #[p], assign, body, defers := w.heap.size }), { target := .fn (.func gf) lb.toArray, args := #[.func (.yield (w.heap.size + 1)) #[] #[]] }, (w.alloc (.deferred (some []))).alloc (.loop { state := .ready, pending := none, fn, tmps := a.tmps, params := #[p], assign, body, defers := w.heap.size }), gf,
    #[.func (.yield (w.heap.size + 1)) #[] #[]] ++ lb.toArray, (w.alloc (.deferred (some []))).alloc (.loop { state := .ready, pending := none, fn, tmps := a.tmps, params := #[p], assign, body, defers := w.heap.size }), run_enterLoop_outer _ _ _ _ _, ?_, fun _ _ => trivial, ?_, fun h => (by cases h), ?_⟩
  · simp only [resolve, hs.eval, hg]
    simp [go_sem]
    rfl
  · simp [invoke, go_sem, eg]
  · have h1 := h fn a.tmps hs2
    unfold Ret at h1
    rw [show (Value.func (.yield (w.heap.size + 1)) #[] #[] :: lb).toArray = #[.func (.yield (w.heap.size + 1)) #[] #[]] ++ lb.toArray by simp] at h1
    refine CallsIn.mono (callsR h1) ?_
    rintro e w2 ⟨v, rfl, w3, h3, h4⟩
    exact ⟨none, w3, h3, w.heap.size, σ, ⟨hs.size, by simp [hs.defers], hs.get⟩, h4⟩
/-- A function whose body holds one such loop. -/
theorem Ret_of_WPZ {f : FuncId} {fn : Func} {c : Code} {args : List Value} {w : World} {R : Value → World → Prop}
    (hf : P.funcs[f]? = some fn) (hb : fn.body = some c) (hn : Nat.ble args.length fn.ntmps = true)
    (h : WPZ P fn.ntmps c (fun D e σ w => match e with
      | .normal | .ret => ∃ w', (Instr.takeDeferred D).run P w = .ok [] w' ∧ bodyQ P fn R .ret σ w'
      | _ => False) (env0 args) w) : Ret P f args w R := by
  have hn' : args.length ≤ fn.ntmps := Nat.le_of_ble_eq_true hn
  refine callsIn_wide.1 (callsIn_of_wp_marks (n := 0) hf hb trivial (wpIn_mono (h _ ⟨?_, rfl, fun i => ?_⟩) ?_))
  · simp; omega
  · simp only [env0, Array.getD_eq_getD_getElem?, List.getD_eq_getElem?_getD]
    by_cases hi : i < args.length
    · simp [Array.getElem?_append, hi]
    · simp only [Array.getElem?_append, List.size_toArray, hi, if_false]
      rw [List.getElem?_eq_none (by omega)]
      simp only [Option.getD_none]
      rw [Array.getElem?_replicate]
      split <;> simp
  · rintro e a' w' ⟨D, σ', hs', hq⟩
    have key : ∀ w', (∃ w'', (Instr.takeDeferred D).run P w' = .ok [] w'' ∧ bodyQ P fn R .ret σ' w'') → LeavesInM Fence.wide 0 P fn a'.tmps (fun e w' => ∃ v, e = .returned v ∧ R v w') a'.defers .returning w' := by
      rintro w' ⟨w'', h1, v, hr, hR⟩
      rw [hs'.defers]
      exact ⟨by simp, .inl ⟨D, w'', rfl, h1, v, hr _ hs'.get, v, rfl, hR⟩⟩
    cases e <;> try exact hq.elim
    case normal => exact key _ hq
    case ret => exact key _ hq

/-- Something that is no cells. -/
def ObjAt (b : Nat) (o : Obj) : HP := ⟨fun w f => w.heap[b]? = some o ∧ f b, fun ⟨h1, h2⟩ hf => ⟨((hf b h2 (blk_lt h1)).1).trans h1, (hf b h2 (blk_lt h1)).2⟩⟩
def hard : Obj → Bool
  | .cells .. => false
  | _ => true
variable {G : Nat → Prop} {W w' : World} {As : List HP} {o o' : Obj} {b : Nat}
theorem Sep.objNew (h : Sep G W As w) (hn : New w w' b o) : Sep G W (ObjAt b o :: As) w' := h.push hn.ext (f := fun i => i = b) ⟨hn.at_, rfl⟩ (fun i hi => by have := hn.eq; omega)
theorem Sep.obj (h : Sep G W As w) {i : Nat} (hi : As[i]? = some (ObjAt b o)) : w.heap[b]? = some o := by
  obtain ⟨f, h1, _⟩ := h.get hi; exact h1.1
theorem chg_hard {es : Obj} (hb : w.heap[b]? = some o) (ho : hard o = true) : Chg (fun i => i = b) w (w.putObj b o') := by
  refine ⟨rfl, rfl, rfl, by simp [World.putObj], fun i hi hne => World.putObj_heap_other hne, ?_, Nat.le_refl _⟩
  rintro i ⟨c, T, hc⟩
  have hne : i ≠ b := fun e => by subst e; rw [hb] at hc; cases hc; cases ho
  exact ⟨c, T, by rw [World.putObj_heap_other hne]; exact hc⟩
theorem Sep.objPut (h : Sep G W As w) {i : Nat} (hi : As[i]? = some (ObjAt b o)) (ho : hard o = true) : Sep G W (As.set i (ObjAt b o')) (w.putObj b o') :=
  h.upd hi (fun f hA _ => ⟨(chg_hard (es := o) hA.1 ho).weak (fun j _ hj => by subst hj; exact hA.2), f, ⟨World.putObj_heap_same (blk_lt hA.1), hA.2⟩, fun _ hb => .inl hb⟩)
theorem ret_alloc (w : World) (o : Obj) : New w (w.alloc o) w.heap.size o := New.mk' w o
end
end Go.Proofs.Ytgjgmojjeehieaa
