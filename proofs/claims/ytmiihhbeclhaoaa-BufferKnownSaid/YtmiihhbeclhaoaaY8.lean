/- Texts of this claim, part 8. -/
import Derived.Test.YtmiihhbeclhaoaaY7
import Derived.RangeFuncLeaves
import Derived.RangeFuncMany
import Derived.OrdersIn
import Derived.TacticsIn
set_option linter.unusedSimpArgs false
set_option linter.unusedVariables false
set_option linter.unusedSectionVars false
section
/- A loop over a function that is handed the loop's body: what a round comes to, and what the statement comes to. -/
namespace Go.Proofs.Ytmiihhbeclhaoaa
open Go.RowKit

abbrev FR (r : Option Nat) : Fence := { Fence.wide with round := r }
structure SimD (ds : List Deferred) (n : Nat) (σ : Env) (a : Act) : Prop where
  size : a.tmps.size = n
  defers : a.defers = ds
  get : ∀ i, a.tmps.getD i undef = σ i
section
variable {P : Program} {n : Nat} {Q : xR} {σ : Env} {w : World} {ds : List Deferred} {r : Option Nat} {a : Act}
theorem SimD.sim (h : SimD [] n σ a) : Sim n σ a := ⟨h.size, h.defers, h.get⟩
theorem SimD.of (h : Sim n σ a) : SimD [] n σ a := ⟨h.size, h.defers, h.get⟩
theorem SimD.low (h : SimD ds n σ a) : Sim n σ { a with defers := [] } := ⟨h.size, rfl, h.get⟩
theorem SimD.eval (h : SimD ds n σ a) : a.eval = ev σ := h.low.eval
theorem SimD.put (h : SimD ds n σ a) {dst : Option Nat} (hd : ∀ d, dst = some d → d < n) (v : Value) : SimD ds n (Zd σ dst v) (a.put dst v) := by
  have h1 := h.low.put hd v
  refine ⟨?_, ?_, ?_⟩
  · have := h1.size; cases dst <;> exact this
  · have := h.defers; cases dst <;> exact this
  · have := h1.get; cases dst <;> exact this
theorem SimD.yielded (h : SimD ds n σ a) (ops : Array Oper) : yielded ops a.tmps = yl ops σ := h.low.yielded ops

def opX (P : Program) (o : Oper) (σ : Env) (w : World) (K : Value → World → Prop) : Prop :=
  match (execOp (ev σ) o).run P w with
  | .ok (.value v) w' => K v w'
  | .ok .skip w' => K undef w'
  | .ok (.enter f args) w' => Calls P f args w' fun e w'' => ∃ v, e = .returned v ∧ K v w''
  | .ok (.round l f tmps assign body) w' => RoundIn (FR none) 0 P l f tmps assign body w' fun e w'' => ∃ v, e = .returned v ∧ K v w''
  | _ => False
theorem Qj {o : Oper} {K : Value → World → Prop} (h : opV P o σ w K) : opX P o σ w K := by
  unfold opV at h
  unfold opX
  generalize (execOp (ev σ) o).run P w = q at *
  cases q with
  | halt x w' => cases x <;> exact h.elim
  | ok x w' => cases x <;> first | exact h | exact h.elim
def xx (o : Oper) : Bool := match o.op with | .defer _ => false | _ => true
theorem YO {o : Oper} (h : xx o = true) : ∀ c, o.op ≠ .defer c := by
  intro c hc
  unfold xx at h
  rw [hc] at h
  cases h
theorem Vj {f : FuncId} {args : Array Value} {R : Ending → World → Prop} (h : Calls P f args w R) : CallsIn (FR r) 0 P f args w R := callsIn_wide.2 h
theorem Qh {o : Oper} {K : Value → World → Prop} {next : Act → World → Prop} {Q' : Exit → Act → World → Prop} (hs : SimD ds n σ a) (hnd : xx o = true)
    (hn : ∀ a' v w', SimD ds n (Zd σ o.dst v) a' → K v w' → next a' w') (hd : ∀ d, o.dst = some d → d < n) (h : opX P o σ w K) : o.wpIn (FR r) 0 P a w next Q' := by
  unfold Oper.wpIn
  refine ⟨fun _ _ => trivial, ?_⟩
  rw [Oper.semAt_eq _ _ _ (YO hnd), hs.eval]
  unfold opX at h
  generalize (execOp (ev σ) o).run P w = q at *
  cases q with
  | halt x w' => cases x <;> exact h.elim
  | ok x w' =>
    cases x <;> try exact h.elim
    case value v => exact hn _ _ _ (hs.put hd v) h
    case skip => exact hn _ _ _ (hs.put hd undef) h
    case enter f args =>
      refine ⟨fun h => (by cases h), CallsIn.mono (Vj h) fun e w'' => ?_⟩
      rintro ⟨v, rfl, hk⟩
      exact hn _ _ _ (hs.put hd v) hk
    case round l f tmps assign body =>
      refine ⟨fun h => (by cases h), RoundIn.mono h fun e w'' => ?_⟩
      rintro ⟨v, rfl, hk⟩
      exact hn _ _ _ (hs.put hd v) hk

def Yt (P : Program) (ops : Array Oper) (K : Env → World → Prop) : List Oper → Env → World → Prop
  | [], σ, w => K σ w
  | o :: rest, σ, w => if Region.wanted o (yl ops σ) then opX P o σ w (fun v w' => Yt P ops K rest (Zd σ o.dst v) w') else Yt P ops K rest (Zd σ o.dst undef) w
theorem Qd {o : Oper} {K K' : Value → World → Prop} (h : ∀ v w', K v w' → K' v w') (hh : opX P o σ w K) : opX P o σ w K' := by
  unfold opX at *
  generalize (execOp (ev σ) o).run P w = q at *
  cases q with
  | halt x w' => cases x <;> exact hh.elim
  | ok x w' =>
    cases x <;> try exact hh.elim
    case value v => exact h _ _ hh
    case skip => exact h _ _ hh
    case enter f args =>
      refine Calls.mono hh fun e w'' => ?_
      rintro ⟨v, rfl, hk⟩
      exact ⟨v, rfl, h _ _ hk⟩
    case round l f tmps assign body =>
      refine RoundIn.mono hh fun e w'' => ?_
      rintro ⟨v, rfl, hk⟩
      exact ⟨v, rfl, h _ _ hk⟩
theorem XX {ops : Array Oper} {K : Env → World → Prop} : ∀ {l : List Oper} {σ : Env} {w : World}, WPs P ops K l σ w → Yt P ops K l σ w
  | [], _, _, h => h
  | o :: rest, σ, w, h => by
    simp only [WPs] at h
    simp only [Yt]
    split
    · rename_i hw
      rw [if_pos hw] at h
      exact Qd (fun v w' hk => XX hk) (Qj h)
    · rename_i hw
      rw [if_neg hw] at h
      exact XX h
theorem stX {ops : Array Oper} {K : Env → World → Prop} {rest : List Oper} {d : Nat} {op : Op} {ty : TypeId} {pos : String} {af : Array Edge} (h : opX P ⟨some d, op, ty, pos, af, none⟩ σ w (fun v w' => Yt P ops K rest (upd σ d v) w')) : Yt P ops K (⟨some d, op, ty, pos, af, none⟩ :: rest) σ w := h
theorem Jz {ops : Array Oper} {K : Env → World → Prop} {rest : List Oper} {d : Nat} {op : Op} {ty : TypeId} {pos : String} {af : Array Edge} (h : opV P ⟨some d, op, ty, pos, af, none⟩ σ w (fun v w' => Yt P ops K rest (upd σ d v) w')) : Yt P ops K (⟨some d, op, ty, pos, af, none⟩ :: rest) σ w := Qj h
theorem KY {ops : Array Oper} {K : Env → World → Prop} (h : K σ w) : Yt P ops K [] σ w := h
theorem XI {ops : Array Oper} {K : Env → World → Prop} {Q' : Exit → Act → World → Prop} (hK : ∀ a σ w, SimD ds n σ a → K σ w → Q' .normal a w) :
    ∀ (l : List Oper), xe n l = true → l.all xx = true → ∀ (σ : Env) (a : Act) (w : World), SimD ds n σ a → Yt P ops K l σ w → wpListIn (FR r) 0 P ops Q' l a w
  | [], _, _, σ, a, w, hs, h => hK a σ w hs h
  | o :: rest, hd, hnd, σ, a, w, hs, h => by
    simp only [xe, List.all_cons, Bool.and_eq_true] at hd hnd
    have hd1 : ∀ d, o.dst = some d → d < n := by
      intro d hd'
      have := hd.1
      rw [hd'] at this
      simpa using this
    have ih := XI (ops := ops) hK rest (by simpa [xe] using hd.2) hnd.2
    simp only [Yt] at h
    simp only [wpListIn, hs.yielded]
    split
    · rename_i hw
      rw [if_pos hw] at h
      exact Qh hs hnd.1 (fun a' v w' hs' hk => ih _ a' w' hs' hk) hd1 h
    · rename_i hw
      rw [if_neg hw] at h
      exact ⟨fun _ _ => trivial, ih _ _ _ (hs.put hd1 undef) h⟩

def WPX (r : Option Nat) (ds : List Deferred) (P : Program) (n : Nat) (c : Code) (Q : xR) (σ : Env) (w : World) : Prop :=
  ∀ a, SimD ds n σ a → c.wpIn (FR r) 0 P (fun e a' w' => ∃ σ', SimD ds n σ' a' ∧ Q e σ' w') a w
theorem Kv {c : Code} (h : WPX none [] P n c Q σ w) : WP P n c Q σ w := fun a hs =>
  wp_mono (wpIn_wide.1 (h a (.of hs))) (by rintro e a' w' ⟨σ', h1, h2⟩; exact ⟨σ', h1.sim, h2⟩)
theorem Yo {id : Nat} {l : List Oper} (hd : (xe n l && l.all xx) = true) (h : Yt P l.toArray (Q .normal) l σ w) : WPX r ds P n (.region id l.toArray false) Q σ w := by
  intro a hs
  rw [Bool.and_eq_true] at hd
  exact wpIn_region_lit (XI (fun a σ w hs hk => ⟨σ, hs, hk⟩) l hd.1 hd.2 σ a w hs h)
theorem Vs {id : Nat} {l : List Oper} (hd : (xe n l && l.all xx) = true) (h : WPs P l.toArray (Q .normal) l σ w) : WPX r ds P n (.region id l.toArray false) Q σ w := Yo hd (XX h)
theorem xJ {id : Nat} {l : List Oper} (hd : (xe n l && l.all xx) = true) (h : ∀ ops, WPs P ops (Q .normal) l σ w) : WPX r ds P n (.region id l.toArray false) Q σ w := Vs hd (h _)
theorem Wg {x y : Code} (h : WPX r ds P n x (Un (WPX r ds P n y Q) Q) σ w) : WPX r ds P n (.seq x y) Q σ w := by
  intro a hs
  refine wpIn_seq (wpIn_mono (h a hs) ?_)
  rintro e a' w' ⟨σ', hs', hq⟩
  cases e <;> first | exact hq a' hs' | exact ⟨σ', hs', hq⟩
theorem QS (h : Q .normal σ w) : WPX r ds P n .skip Q σ w := fun _ hs => wpIn_skip ⟨σ, hs, h⟩
theorem KU (h : Q .ret σ w) : WPX r ds P n .ret Q σ w := fun _ hs => wpIn_ret ⟨σ, hs, h⟩
theorem WS {c : Operand} {x y : Code} {t : Bool} (hc : ev σ c = .bool t) (ht : t = true → WPX r ds P n x Q σ w) (hf : t = false → WPX r ds P n y Q σ w) : WPX r ds P n (.cond c x y) Q σ w := by
  intro a hs
  cases t
  · exact wpIn_cond_false (by rw [hs.eval]; exact hc) (hf rfl a hs)
  · exact wpIn_cond_true (by rw [hs.eval]; exact hc) (ht rfl a hs)
theorem Vt {c : Operand} {x y : Code} (hc : ev σ c = .bool true) (ht : WPX r ds P n x Q σ w) : WPX r ds P n (.cond c x y) Q σ w := WS hc (fun _ => ht) (fun h => Bool.noConfusion h)
theorem VE {c : Operand} {x y : Code} (hc : ev σ c = .bool false) (hf : WPX r ds P n y Q σ w) : WPX r ds P n (.cond c x y) Q σ w := WS hc (fun h => Bool.noConfusion h) (fun _ => hf)
theorem UW {id : Nat} {c : Code} (h : WPX r ds P n c (ZX id Q) σ w) : WPX r ds P n (.block id c) Q σ w := by
  intro a hs
  refine wpIn_block (wpIn_mono (h a hs) ?_)
  rintro e a' w' ⟨σ', hs', hq⟩
  cases e <;> try exact ⟨σ', hs', hq⟩
  case exit id' =>
    simp only [ZX] at hq
    simp only [Exit.inBlock]
    split <;> rename_i hid
    · rw [if_pos hid] at hq; exact ⟨σ', hs', hq⟩
    · rw [if_neg hid] at hq; exact ⟨σ', hs', hq⟩

theorem KF {c : Code} {kv : List (Nat × Value)} (hk : Ud σ kv) (h : ∀ ρ, WPX r ds P n c Q (zQ ρ kv) w) : WPX r ds P n c Q σ w := by
  rw [zh hk]; exact h σ

theorem Kw {o : Oper} {w : World} {K : Act → World → Prop} {Q' : Exit → Act → World → Prop} (hnd : xx o = true) (h : o.wp P a w K Q') : o.wpIn (FR r) 0 P a w K Q' := by
  unfold Oper.wp at h
  unfold Oper.wpIn
  refine ⟨fun _ _ => trivial, ?_⟩
  rw [Oper.semAt_eq _ _ _ (YO hnd)]
  generalize (execOp a.eval o).run P w = q at *
  cases q with
  | halt x w' => cases x <;> exact h
  | ok x w' =>
    cases x <;> try exact h
    case enter f args => exact ⟨fun h => (by cases h), Vj h⟩
    case row row args =>
      refine ⟨fun h => (by cases h), fun c cs _ => ?_⟩
      obtain ⟨v, w', h1, h2⟩ := h c cs
      exact ⟨v, w', h1, stepsIn_wide.2 h2⟩
    case round => exact False.elim h
theorem ZO {ops : Array Oper} {Q' : Exit → Act → World → Prop} (hnd : ∀ (i : Nat) (o : Oper), ops[i]? = some o → xx o = true) (hQ : ¬ LetsOut Q') : ∀ (fuel : Nat) (listed : Array Bool) (a : Act) (w : World), wpAny P .any ops Q' fuel listed a w → wpAnyIn (FR r) 0 P .any ops Q' fuel listed a w
  | 0, _, _, _, h => h
  | fuel + 1, listed, a, w, h => by
    refine ⟨h.1, fun i hi => ?_⟩
    have h1 := h.2 i hi
    unfold wpOp at h1
    unfold wpOpIn
    split
    · rename_i ho
      simp only [ho] at h1
      exact ZO hnd hQ fuel _ _ _ h1
    · rename_i o ho
      simp only [ho] at h1
      split
      · rename_i hw
        rw [if_pos hw] at h1
        rcases h1 with h1 | h1
        · exact Oper.wpIn_mono (fun a w hk => ZO hnd hQ fuel _ _ _ hk) (Kw (hnd _ _ ho) h1)
        · exact (hQ h1.2).elim
      · rename_i hw
        rw [if_neg hw] at h1
        exact ⟨fun _ _ => trivial, ZO hnd hQ fuel _ _ _ h1⟩
theorem UI {ops : List Oper} {id : Nat} (W : Nat → (Nat → Value) → World → Prop) (A : Nat → (Nat → Value) → Prop) (pre : List (List Nat)) (ss : List Nat) (sees : List (Nat × Nat)) (hm : P.follows .mixedOrders = true) (hd : (xe n ops && ops.all xx) = true) (hok : drawOk ops pre ops.length = true)
    (hkl : sees.length = ops.length) (hk : seesOk pre ss sees = true) (hsl : (ss.all fun s => Nat.blt s ops.length) = true)
    (hW : ∀ w0 : World, w0.heap = w.heap → w0.os = w.os → w0.tape = w.tape → w0.output = w.output ∧ w.drawn ≤ w0.drawn → ∀ vals, W 0 vals w0)
    (hloc : ∀ k vals vals' w, (∀ s ∈ ss, vals' s = vals s) → W k vals w → W k vals' w)
    (hlocA : ∀ i vals vals', (∀ j, j = i ∨ j ∈ pre.getD i [] → vals' j = vals j) → A i vals → A i vals')
    (hob : WR P ops pre ss sees W A σ 0 ops)
    (hfin : ∀ vals w', W ss.length vals w' → (∀ j, j < ops.length → A j vals) → WPs P ops.toArray (Q .normal) [] (behind ops vals σ ops.length) w')
    (hQ : ∀ σ w, ¬ Q .outgrown σ w := by intro σ w h; exact h) :
    WPX r [] P n (.region id ops.toArray true) Q σ w := by
  intro a hs
  rw [Bool.and_eq_true] at hd
  have hf := drawOk.fit hok
  have hz : dn (Array.replicate ops.toArray.size false) = fun _ => false := by
    funext i
    simp [dn, Array.getElem?_replicate]
    split <;> rfl
  refine wpIn_mono (wpIn_region_any hm (ZO (Q' := fun e a' w' => ∃ σ'', Sim n σ'' a' ∧ Q e σ'' w') (fun i o ho => (List.all_eq_true.1 hd.2) o (List.mem_of_getElem? (by simpa using ho))) (by rintro ⟨a0, w0, σ0, _, h0⟩; exact hQ _ _ h0) _ _ _ _ ?_)) (by rintro e a' w' ⟨σ', h1, h2⟩; exact ⟨σ', .of h1, h2⟩)
  refine Ki (ss := ss) (vals := fun _ => undef) hf hd.1 hkl hk (fun s hs => by
    have := (List.all_eq_true.1 hsl) s hs; simpa [Nat.blt_eq] using this) hloc hlocA hob hfin _ _ a _ (by simp) ?_ ?_ ?_ ?_ ?_ ?_
  · intro i hi; rw [hz] at hi; cases hi
  · intro i hi; rw [hz] at hi; cases hi
  · simp
  · have : mixed ops (dn (Array.replicate ops.toArray.size false)) (fun _ => undef) σ = σ := by
      funext t
      exact xq fun j _ => by rw [hz]
    rw [this]; exact hs.sim
  · have : yV ss (dn (Array.replicate ops.toArray.size false)) = 0 := Zk fun s _ => by rw [hz]
    rw [this]; exact hW { w with drawn := w.drawn + 1 } rfl rfl rfl ⟨rfl, Nat.le_succ _⟩ _
  · intro i hi; rw [hz] at hi; cases hi

abbrev Xo (K : Env → World → Prop) : xR := fun e σ w => match e with
  | .normal => K σ w
  | _ => False
theorem QA {l p : Nat} {f : FuncId} {tm : Array Value} {v : Value} {assign body : Code} {R : Ending → World → Prop} (hs : tm.size = n ∧ ∀ i, tm.getD i undef = σ i) (hp : p < n)
    (h : WPX (some l) [] P n assign (Xo fun σ1 w1 => ∃ w2, (Instr.beginRound l).run P w1 = .ok () w2 ∧ WPX (some l) [] P n body (Xo fun σ2 w3 => ∃ v' w4, (Instr.endRound l none).run P w3 = .ok v' w4 ∧ R (.returned v') w4) σ1 w2) (upd σ p v) w) :
    RoundIn (FR none) 0 P l f ((#[p].zip #[v]).foldl (fun t (p, v) => t.setIfInBounds p v) tm) assign body w R := by
  have hs' : SimD [] n (upd σ p v) { tmps := (#[p].zip #[v]).foldl (fun t (p, v) => t.setIfInBounds p v) tm, defers := [] } := by
    have h1 : SimD [] n σ { tmps := tm, defers := [] } := ⟨hs.1, rfl, hs.2⟩
    have h2 := h1.put (dst := some p) (fun d hd => by cases hd; exact hp) v
    have e : (#[p].zip #[v]).foldl (fun t (p, v) => t.setIfInBounds p v) tm = tm.setIfInBounds p v := by simp
    rw [e]; exact h2
  refine roundIn_of_wpIn trivial (wpIn_mono (h _ hs') ?_)
  rintro e a' w' ⟨σ', hs'', hq⟩
  cases e <;> try exact hq.elim
  obtain ⟨w2, hb, hq⟩ := hq
  refine ⟨w2, hb, wpIn_mono (hq _ hs'') ?_⟩
  rintro e a'' w'' ⟨σ'', hs3, hq2⟩
  cases e <;> try exact hq2.elim
  exact hq2

def mkD (D : Nat) : Deferred := { target := .collected D, args := #[] }
def WPZ (P : Program) (n : Nat) (c : Code) (Q : Nat → xR) (σ : Env) (w : World) : Prop :=
  ∀ a, SimD [] n σ a → c.wpIn (FR none) 0 P (fun e a' w' => ∃ D σ', SimD [mkD D] n σ' a' ∧ Q D e σ' w') a w
theorem Wc {x y : Code} {Q : Nat → xR} (h : WP P n x (Xo fun σ w => WPZ P n y Q σ w) σ w) : WPZ P n (.seq x y) Q σ w := by
  intro a hs
  refine wpIn_seq (wpIn_mono (wpIn_wide.2 (h a hs.sim)) ?_)
  rintro e a' w' ⟨σ', hs', hq⟩
  cases e <;> try exact hq.elim
  exact hq _ (.of hs')
theorem Kf {x y : Code} {Q : Nat → xR} (h : WPZ P n x (fun D => Xo fun σ w => WPX none [mkD D] P n y (Q D) σ w) σ w) : WPZ P n (.seq x y) Q σ w := by
  intro a hs
  refine wpIn_seq (wpIn_mono (h a hs) ?_)
  rintro e a' w' ⟨D, σ', hs', hq⟩
  cases e <;> try exact hq.elim
  exact wpIn_mono (hq _ hs') (by rintro e a'' w'' ⟨σ'', h1, h2⟩; exact ⟨D, σ'', h1, h2⟩)
theorem US {c : Code} {id : Nat} {Q : Nat → xR} (h : WPZ P n c (fun D => Xo (Q D .normal)) σ w) : WPZ P n (.block id c) Q σ w := by
  intro a hs
  refine wpIn_block (wpIn_mono (h a hs) ?_)
  rintro e a' w' ⟨D, σ', hs', hq⟩
  cases e <;> try exact hq.elim
  exact ⟨D, σ', hs', hq⟩
theorem Xl {g : Operand} {p : Tmp} {assign body : Code} {gf : FuncId} {lb : List Value} {Q : Nat → xR}
    (hg : ev σ g = .func (.func gf) #[] lb.toArray) (eg : ∀ args w, (callFunc gf args).run P w = .ok (.enter gf args) w)
    (h : ∀ fn (tm : Array Value), (tm.size = n ∧ ∀ i, tm.getD i undef = σ i) → Ret P gf (.func (.yield (w.heap.size + 1)) #[] #[] :: lb) ((w.alloc (.deferred (some []))).alloc (.loop { state := .ready, pending := none, fn, tmps := tm, params := #[p], assign, body, defers := w.heap.size }))
      (fun _ w2 => ∃ w3, (Instr.endLoop (w.heap.size + 1)).run P w2 = .ok none w3 ∧ Q w.heap.size .normal σ w3)) : WPZ P n (.rangeFunc g #[p] assign body) Q σ w := by
  intro a hs
  refine wpIn_rangeFunc ?_
  intro fn hfn
  have hs2 : a.tmps.size = n ∧ ∀ i, a.tmps.getD i undef = σ i := ⟨hs.size, hs.get⟩
  refine ⟨w.heap.size + 1, [mkD w.heap.size], (w.alloc (.deferred (some []))).alloc (.loop { state := .ready, pending := none, fn, tmps := a.tmps, params := #[p], assign, body, defers := w.heap.size }), { target := .fn (.func gf) lb.toArray, args := #[.func (.yield (w.heap.size + 1)) #[] #[]] }, (w.alloc (.deferred (some []))).alloc (.loop { state := .ready, pending := none, fn, tmps := a.tmps, params := #[p], assign, body, defers := w.heap.size }), gf,
    #[.func (.yield (w.heap.size + 1)) #[] #[]] ++ lb.toArray, (w.alloc (.deferred (some []))).alloc (.loop { state := .ready, pending := none, fn, tmps := a.tmps, params := #[p], assign, body, defers := w.heap.size }), run_enterLoop_outer _ _ _ _ _, ?_, fun _ _ => trivial, ?_, fun h => (by cases h), ?_⟩
  · simp only [resolve, hs.eval, hg]
    simp [go_sem]
    rfl
  · simp [invoke, go_sem, eg]
  · have h1 := h fn a.tmps hs2
    unfold Ret at h1
    rw [show (Value.func (.yield (w.heap.size + 1)) #[] #[] :: lb).toArray = #[.func (.yield (w.heap.size + 1)) #[] #[]] ++ lb.toArray by simp] at h1
    refine CallsIn.mono (Vj h1) ?_
    rintro e w2 ⟨v, rfl, w3, h3, h4⟩
    exact ⟨none, w3, h3, w.heap.size, σ, ⟨hs.size, by simp [hs.defers], hs.get⟩, h4⟩
theorem Vr {f : FuncId} {fn : Func} {c : Code} {args : List Value} {w : World} {R : Value → World → Prop}
    (hf : P.funcs[f]? = some fn) (hb : fn.body = some c) (hn : Nat.ble args.length fn.ntmps = true)
    (h : WPZ P fn.ntmps c (fun D e σ w => match e with
      | .normal | .ret => ∃ w', (Instr.takeDeferred D).run P w = .ok [] w' ∧ Yr P fn R .ret σ w'
      | _ => False) (Ko args) w) : Ret P f args w R := by
  have hn' : args.length ≤ fn.ntmps := Nat.le_of_ble_eq_true hn
  refine callsIn_wide.1 (callsIn_of_wp_marks (n := 0) hf hb trivial (wpIn_mono (h _ ⟨?_, rfl, fun i => ?_⟩) ?_))
  · simp; omega
  · simp only [Ko, Array.getD_eq_getD_getElem?, List.getD_eq_getElem?_getD]
    by_cases hi : i < args.length
    · simp [Array.getElem?_append, hi]
    · simp only [Array.getElem?_append, List.size_toArray, hi, if_false]
      rw [List.getElem?_eq_none (by omega)]
      simp only [Option.getD_none]
      rw [Array.getElem?_replicate]
      split <;> simp
  · rintro e a' w' ⟨D, σ', hs', hq⟩
    have key : ∀ w', (∃ w'', (Instr.takeDeferred D).run P w' = .ok [] w'' ∧ Yr P fn R .ret σ' w'') → LeavesInM Fence.wide 0 P fn a'.tmps (fun e w' => ∃ v, e = .returned v ∧ R v w') a'.defers .returning w' := by
      rintro w' ⟨w'', h1, v, hr, hR⟩
      rw [hs'.defers]
      exact ⟨by simp, .inl ⟨D, w'', rfl, h1, v, hr _ hs'.get, v, rfl, hR⟩⟩
    cases e <;> try exact hq.elim
    case normal => exact key _ hq
    case ret => exact key _ hq

def Zv (b : Nat) (o : Obj) : HP := ⟨fun w f => w.heap[b]? = some o ∧ f b, fun ⟨h1, h2⟩ hf => ⟨((hf b h2 (yK h1)).1).trans h1, (hf b h2 (yK h1)).2⟩⟩
def hard : Obj → Bool
  | .cells .. => false
  | _ => true
variable {G : Nat → Prop} {W w' : World} {As : List HP} {o o' : Obj} {b : Nat}
theorem Sep.objNew (h : Sep G W As w) (hn : New w w' b o) : Sep G W (Zv b o :: As) w' := h.push hn.ext (f := fun i => i = b) ⟨hn.at_, rfl⟩ (fun i hi => by have := hn.eq; omega)
theorem Sep.obj (h : Sep G W As w) {i : Nat} (hi : As[i]? = some (Zv b o)) : w.heap[b]? = some o := by
  obtain ⟨f, h1, _⟩ := h.get hi; exact h1.1
theorem Qw {es : Obj} (hb : w.heap[b]? = some o) (ho : hard o = true) : Chg (fun i => i = b) w (w.putObj b o') := by
  refine ⟨rfl, rfl, rfl, by simp [World.putObj], fun i hi hne => World.putObj_heap_other hne, ?_, Nat.le_refl _⟩
  rintro i ⟨c, T, hc⟩
  have hne : i ≠ b := fun e => by subst e; rw [hb] at hc; cases hc; cases ho
  exact ⟨c, T, by rw [World.putObj_heap_other hne]; exact hc⟩
theorem Sep.objPut (h : Sep G W As w) {i : Nat} (hi : As[i]? = some (Zv b o)) (ho : hard o = true) : Sep G W (As.set i (Zv b o')) (w.putObj b o') :=
  h.upd hi (fun f hA _ => ⟨(Qw (es := o) hA.1 ho).weak (fun j _ hj => by subst hj; exact hA.2), f, ⟨World.putObj_heap_same (yK hA.1), hA.2⟩, fun _ hb => .inl hb⟩)
theorem Xs (w : World) (o : Obj) : New w (w.alloc o) w.heap.size o := New.mk' w o
end
end Go.Proofs.Ytmiihhbeclhaoaa
end

section
/- Going through a map that is shared. -/
namespace Go.Proofs.Ytmiihhbeclhaoaa
open Go.RowKit Go.MapKept

def cA : Code → Code
  | .seq a _ => a
  | .rangeFunc _ _ a _ => a
  | c => c
def cB : Code → Code
  | .seq _ b => b
  | .block _ c => c
  | .rangeFunc _ _ _ b => b
  | c => c
def Jt (f : Func) : Code := f.body.getD .skip
section
variable {P : Program} {σ : Env} {w : World} {K : Value → World → Prop} {d : Option Tmp} {ty : TypeId} {pos : String} {af : Array Edge} {g : Option (Nat × Bool)}
variable {G : Nat → Prop} {W : World} {As : List HP} {m it clock : Nat} {es : Array MapEntry} {idx : List Nat}
def YN (it m : Nat) (es : Array MapEntry) (clock : Nat) (idx : List Nat) : HP := ⟨fun w f => f it ∧ ∃ seen, w.heap[it]? = some (.mapIter (some m) clock seen clock) ∧ idx.Nodup ∧ (∀ j ∈ idx, j < es.size) ∧ seen.toList = idx.map fun j => (es.toList[j]?.map (·.born)).getD 0, fun ⟨h1, seen, h2, h3⟩ hf => ⟨(hf _ h1 (yK h2)).2, seen, ((hf _ h1 (yK h2)).1).trans h2, h3⟩⟩

theorem UJ {t kt et : TypeId} {x : Operand} (h : Sep G W As w) (hG : G m) (hm : W.heap[m]? = some (.map es clock)) (hU : P.underlying t = some (.map kt et)) (hx : ev σ x = .map (some m))
    (hk : ∀ w1 it, Sep G W (YN it m es clock [] :: As) w1 → K (.pointer (some ⟨it, 0, none⟩)) w1) : opV P ⟨d, .range t x, ty, pos, af, g⟩ σ w K := by
  have hb := (h.gb hG).trans hm
  have hn := New.mk' w (.mapIter (some m) clock #[] clock)
  refine zN (v := .pointer (some ⟨w.heap.size, 0, none⟩)) (w' := { w with heap := w.heap.push (.mapIter (some m) clock #[] clock) }) ?_ (hk _ _ (h.push hn.ext (f := fun i => i = w.heap.size) ⟨rfl, #[], hn.at_, List.nodup_nil, by simp, rfl⟩ (fun i hi => by omega)))
  have := run_range_map (P := P) w t kt et m es clock hU hb
  simp [execOp, hx, go_sem]
  rw [this]; rfl

theorem Qn {x : Operand} (h : Sep G W (YN it m es clock idx :: As) w) (hG : G m) (hm : W.heap[m]? = some (.map es clock)) (hs : Stamped es clock) (hx : ev σ x = .pointer (some ⟨it, 0, none⟩))
    (h0 : List.Perm idx (List.range es.size) → K (.tuple #[.bool false]) w)
    (h1 : ∀ w1 j, j < es.size → idx.length < es.size → (idx ++ [j]).Nodup → Sep G W (YN it m es clock (idx ++ [j]) :: As) w1 → ∀ u v, K (.tuple #[.bool true, u, v]) w1) : opV P ⟨d, .next x false, ty, pos, af, g⟩ σ w K := by
  have hb := (h.gb hG).trans hm
  obtain ⟨f0, ⟨hf0, seen, hit, hn, hlt, hseen⟩, hfl, hT⟩ := h.take (i := 0) rfl
  have hmi : m ≠ it := fun e => (hfl it hf0).1 (e ▸ hG)
  rcases run_next_at (P := P) w ty it m clock clock seen es clock hit hb hs.1 (Nat.le_refl _) with ⟨hz, hr⟩ | ⟨e, hel, w1, hal, hr⟩
  · refine zN (v := .tuple #[.bool false]) (w' := w) (by simp [execOp, hx, hr, go_sem]) (h0 (KK hn hlt fun j hj => ?_))
    have hj' : j < es.toList.length := by simpa using hj
    have h2 := all_seen es seen hz _ (List.getElem_mem hj')
    have h3 : (es.toList[j]).born ∈ seen.toList := by simpa [Array.contains_iff_mem] using h2
    rw [hseen, List.mem_map] at h3
    obtain ⟨i, hi, hbi⟩ := h3
    have hi' : i < es.toList.length := by simpa using hlt i hi
    rw [List.getElem?_eq_getElem hi'] at hbi
    have h4 : (es.toList[i]).born = (es.toList[j]).born := hbi
    have h5 := List.pairwise_map.1 hs.2.1
    have : i = j := by
      rcases Nat.lt_trichotomy i j with h | h | h
      · exact absurd h4 (List.pairwise_iff_getElem.1 h5 i j hi' hj' h)
      · exact h
      · exact absurd h4.symm (List.pairwise_iff_getElem.1 h5 j i hj' hi' h)
    rwa [← this]
  · obtain ⟨hmem, hns⟩ := mem_left hel
    obtain ⟨j, hj, rfl⟩ := List.getElem_of_mem hmem
    have hjl : j < es.size := by simpa using hj
    have hji : j ∉ idx := by
      intro h
      have : (es.toList[j]).born ∈ seen.toList := by
        rw [hseen, List.mem_map]
        exact ⟨j, h, by rw [List.getElem?_eq_getElem hj]; rfl⟩
      have h3 : seen.contains (es.toList[j]).born = true := by
        have h4 : (es.toList[j]).born ∈ seen := by simpa using this
        simpa using h4
      rw [hns] at h3; cases h3
    have hnd : (idx ++ [j]).Nodup := by
      rw [List.nodup_append]
      exact ⟨hn, by simp, fun a ha b hb => by simp at hb; subst hb; exact fun e => hji (e ▸ ha)⟩
    have hall : ∀ i ∈ idx ++ [j], i < es.size := by
      intro i hi
      rcases List.mem_append.1 hi with h | h
      · exact hlt i h
      · simp at h; subst h; exact hjl
    have hle := Zh _ _ hnd hall
    have hw1 : w1.heap = w.heap ∧ w1.os = w.os ∧ w1.tape = w.tape ∧ w1.output = w.output ∧ w.drawn ≤ w1.drawn := by
      rcases hal with rfl | rfl
      · exact ⟨rfl, rfl, rfl, rfl, Nat.le_refl _⟩
      · exact ⟨rfl, rfl, rfl, rfl, Nat.le_succ _⟩
    have hlt2 := yK hit
    have hcell : ∀ i, i ≠ it → (ChangeMaps.setBlock w1 it (.mapIter (some m) clock (seen.push (es.toList[j]).born) clock)).heap[i]? = w.heap[i]? := by
      intro i hne
      show (w1.heap.setIfInBounds it _)[i]? = _
      rw [hw1.1]
      simp [Ne.symm hne]
    have hchg : Chg f0 w (ChangeMaps.setBlock w1 it (.mapIter (some m) clock (seen.push (es.toList[j]).born) clock)) := by
      refine ⟨hw1.2.1, hw1.2.2.1, hw1.2.2.2.1, ?_, fun i hi hne => hcell i (fun e => hne (e ▸ hf0)), ?_, hw1.2.2.2.2⟩
      · show _ ≤ (w1.heap.setIfInBounds it _).size
        rw [hw1.1]; simp
      · rintro i ⟨c, T, hc⟩
        have hne : i ≠ it := fun e => by subst e; rw [hit] at hc; cases hc
        exact ⟨c, T, by rw [hcell i hne]; exact hc⟩
    refine zN (v := .tuple #[.bool true, (es.toList[j]).key, (es.toList[j]).val]) (w' := ChangeMaps.setBlock w1 it (.mapIter (some m) clock (seen.push (es.toList[j]).born) clock)) (by simp [execOp, hx, hr, go_sem]) (h1 _ j hjl (by simp at hle; omega) hnd (hT _ (YN it m es clock (idx ++ [j])) f0 hchg ⟨hf0, seen.push (es.toList[j]).born, ?_, hnd, hall, ?_⟩ (fun _ hb => .inl hb)) _ _)
    · show (w1.heap.setIfInBounds it _)[it]? = _
      rw [hw1.1]; simp [hlt2]
    · rw [Array.toList_push, hseen, List.map_append, List.map_cons, List.map_nil, List.getElem?_eq_getElem hj]; rfl

theorem Ur {x : Operand} {j : Nat} (h : Sep G W (YN it m es clock (idx ++ [j]) :: As) w) (hG : G m) (hm : W.heap[m]? = some (.map es clock)) (hs : Stamped es clock) (hx : ev σ x = .pointer (some ⟨it, 0, none⟩)) (hj : j < es.toList.length) {v : Value} (hv : es.toList[j].val = v)
    (hk : K (.tuple #[es.toList[j].key, v]) w) : opV P ⟨d, .entry x, ty, pos, af, g⟩ σ w K := by
  subst hv
  have hb := (h.gb hG).trans hm
  obtain ⟨f0, ⟨hf0, seen, hit, hn, hlt, hseen⟩, _⟩ := h.get (i := 0) rfl
  have hsn : ∃ seen0 : Array Nat, seen = seen0.push (es.toList[j]).born := by
    refine ⟨(idx.map fun j => (es.toList[j]?.map (·.born)).getD 0).toArray, ?_⟩
    apply Array.ext'
    rw [hseen, Array.toList_push, List.map_append, List.map_cons, List.map_nil, List.getElem?_eq_getElem hj]; rfl
  obtain ⟨seen0, rfl⟩ := hsn
  have hrun := run_entry_at (P := P) w it m clock seen0 es clock _ hit hb (List.getElem_mem hj) hs.2.1
  exact zN (v := .tuple #[es.toList[j].key, es.toList[j].val]) (w' := w) (by simp [execOp, hx, hrun, go_sem]) hk

theorem QD {x y : Operand} {ts : Array TypeId} {l : Nat} {rec : Loop} {v : Value} {p : Tmp} (hx : ev σ x = .func (.yield l) #[] #[]) (hy : ev σ y = v) (hl : w.heap[l]? = some (.loop rec)) (hp : rec.params = #[p])
    (h : RoundIn (FR none) 0 P l rec.fn ((#[p].zip #[v]).foldl (fun t (p, v) => t.setIfInBounds p v) rec.tmps) rec.assign rec.body w (fun e w'' => ∃ v, e = .returned v ∧ K v w'')) : opX P ⟨d, .call ⟨.value x, #[y], ts⟩, ty, pos, af, g⟩ σ w K := by
  have hr := run_yield (P := P) (args := #[v]) hl (by simp [hp])
  have : (execOp (ev σ) ⟨d, .call ⟨.value x, #[y], ts⟩, ty, pos, af, g⟩).run P w = .ok (.round l rec.fn ((rec.params.zip #[v]).foldl (fun t (p, v) => t.setIfInBounds p v) rec.tmps) rec.assign rec.body) w := by
    simp [execOp, resolve, hx, Deferred.ofValue, invoke, hy, go_sem, hr]
  unfold opX
  rw [this, hp]
  exact h
end
end Go.Proofs.Ytmiihhbeclhaoaa
end

section
/- Steps of the proofs of this seat: part A10. -/
set_option maxRecDepth 8000
set_option maxHeartbeats 4000000
namespace Go.Proofs.Ytmiihhbeclhaoaa
open Go.Proofs Go.RowKit

section
variable {G : Nat → Prop} {W w : World} {Rs : List HP}
theorem Jq {l bm m clock : Nat} {es : Array MapEntry} {rec : Loop} {p : Tmp} {A : List Nat → HP} (hG : G m) (hm : W.heap[m]? = some (.map es clock)) (hs : MapKept.Stamped es clock) (hp : rec.params = #[p])
    (hval : ∀ j (hj : j < es.toList.length), ∃ (x : Ev) (vd : Value), es.toList[j].val = .agg (x.cells vd).toArray ∧ vd.oneCell' = true)
    (hY : ∀ idx j (hj : j < es.toList.length) (v : Value) (Fr : List HP) (w : World), es.toList[j].val = v → idx.length < es.size → (idx ++ [j]).Nodup → Sep G W (A idx :: Zv l (.loop rec) :: Fr) w → RoundIn (FR none) 0 Try.prog l rec.fn ((#[p].zip #[v]).foldl (fun t (p, v) => t.setIfInBounds p v) rec.tmps) rec.assign rec.body w (fun e w' => e = .returned (.bool true) ∧ Sep G W (A (idx ++ [j]) :: Zv l (.loop rec) :: Fr) w'))
    (hS0 : Sep G W (A [] :: Zv l (.loop rec) :: Blk bm #[.map (some m)] 57 :: Rs) w) :
    Ret Try.prog 76 [.func (.yield l) #[] #[], .pointer (some ⟨bm, 0, none⟩)] w (fun r w' => ∃ idx, List.Perm idx (List.range es.size) ∧ Sep G W (A idx :: Zv l (.loop rec) :: Blk bm #[.map (some m)] 57 :: Rs) w') := by
  refine zp (args := [.func (.yield l) #[] #[], .pointer (some ⟨bm, 0, none⟩)]) Try.func76 rfl rfl ?_
  refine zc ?_
  refine za (by kernel_rfl) (fun _ => ?_)
  refine st (zg (v := .map (some m)) Try.isAgg57 rfl (zf (hS0.blk (i := 2) rfl) rfl) ?_)
  refine st (UJ hS0 hG hm Try.underlying57 rfl ?_)
  intro w1 it hS1
  refine ze ?_
  refine zt ?_
  refine zP (fun mq σ wq => ∃ (idx : List Nat) (ρ : Env), mq = es.size - idx.length ∧ σ = zQ ρ [(0, .func (.yield l) #[] #[]), (6, .pointer (some ⟨it, 0, none⟩))] ∧ Sep G W (YN it m es clock idx :: A idx :: Zv l (.loop rec) :: Blk bm #[.map (some m)] 57 :: Rs) wq) ⟨[], _, rfl, zh ⟨rfl, rfl, trivial⟩, hS1⟩ ?_
  rintro _ _ w2 ⟨idx, ρ, rfl, rfl, hS2⟩
  refine zc ?_
  refine za (by kernel_rfl) (fun _ => ?_)
  refine st (Qn hS2 hG hm hs rfl ?_ ?_)
  · intro hperm
    refine st (zV (vs := [.bool false]) (i := 0) (v := .bool false) rfl rfl ?_)
    refine ze ?_
    refine zc ?_
    refine zi rfl ?_
    refine zO ?_
    refine zF ?_
    refine Up Try.results76 ?_
    exact ⟨idx, hperm, hS2.sel 4 [1, 2, 3] (Nat.le_add_left _ _) rfl rfl⟩
  · intro w3 j hj hlt hnd hS3 u v
    have hj' : j < es.toList.length := by simpa using hj
    obtain ⟨x, vd, hcv, hone⟩ := hval j hj'
    refine st (zV (vs := [.bool true, u, v]) (i := 0) (v := .bool true) rfl rfl ?_)
    refine ze ?_
    refine zc ?_
    refine zk rfl ?_
    refine zo ?_
    refine zt ?_
    refine zc ?_
    refine za (by kernel_rfl) (fun _ => ?_)
    refine st (Ur hS3 hG hm hs rfl hj' hcv ?_)
    refine st (zV (vs := [es.toList[j].key, .agg (x.cells vd).toArray]) (i := 1) (v := .agg (x.cells vd).toArray) rfl rfl ?_)
    refine st (ye Try.zeroValue36 ?_)
    intro w4 b4 hn4
    have hS4 := hS3.new hn4
    refine stn (zY (v := .agg (x.cells vd).toArray) (c' := (x.cells vd).toArray) Try.sizeOf36 rfl rfl (hS4.blk (i := 0) rfl) (yU ⟨rfl, rfl, rfl, hone, rfl, rfl, rfl, rfl, rfl, rfl, trivial⟩) (Nat.le_of_ble_eq_true rfl) rfl ?_)
    intro w5 hp5
    have hS5 := hS4.put (i := 0) rfl hp5
    refine ze ?_
    refine zc ?_
    refine Kv (Yo (by kernel_rfl) ?_)
    refine Jz (zb (v := .func (.yield l) #[] #[]) rfl ?_)
    refine Jz (zr (k := 10) Try.isAgg36 Try.sizeOf36 rfl rfl (CellsAt.all (hS5.blk (i := 0) rfl)) ?_)
    have hS6 : Sep G W (A idx :: Zv l (.loop rec) :: Blk bm #[.map (some m)] 57 :: YN it m es clock (idx ++ [j]) :: Rs) w5 := hS5.sel 5 [2, 3, 4, 1] (Nat.le_add_left _ _) rfl rfl
    refine stX (QD (l := l) (rec := rec) (p := p) (v := .agg (x.cells vd).toArray) rfl rfl (hS6.obj (i := 1) rfl) hp ?_)
    refine RoundIn.mono (hY idx j hj' _ _ _ hcv hlt hnd hS6) ?_
    rintro e w6 ⟨rfl, hS7⟩
    refine ⟨_, rfl, ?_⟩
    refine Jz (yA (a := true) rfl ?_)
    refine KY ?_
    refine zi rfl ?_
    refine zo ?_
    exact ⟨_, by simp; omega, idx ++ [j], _, rfl, zh ⟨rfl, rfl, trivial⟩, hS7.sel 4 [3, 0, 1, 2] (Nat.le_add_left _ _) rfl rfl⟩
end
end Go.Proofs.Ytmiihhbeclhaoaa
end

section
/- Steps of the proofs of this seat: part A11. -/
set_option maxRecDepth 8000
set_option maxHeartbeats 4000000
namespace Go.Proofs.Ytmiihhbeclhaoaa
open Go.Proofs Go.RowKit

def xV (f : Func) : Code := cB (cB (cA (cB (cB (Jt f)))))
theorem xZ : Elem Try.prog 22 36 10 96 := ⟨Try.underlying22, _, _, rfl, rfl, rfl, rfl, rfl⟩
theorem Uz {G : Nat → Prop} {W w : World} {Fr : List HP} {l b6 bis bo : Nat} {fis : FuncId} {caps : List Value} {p : Ev → Bool} (hfis : ∀ args w, (callFunc fis args).run Try.prog w = .ok (.enter fis args) w) (hIs : ∀ {w : World} {Rs : List HP} {x : Ev} {dx0 : Value} (hdx0 : RdS W G dx0 x.deps) (ox : x.Ok), Sep G W Rs w → Ret Try.prog fis (.agg (x.cells dx0).toArray :: caps) w (fun r w' => r = (.bool (p x) : Value) ∧ Sep G W Rs w')) {x : Ev} {vd : Value} (hd : RdS W G vd x.deps) (ok : x.Ok) {vo : Value} {M : List Ev} (hML : M.length ≤ 1000000) {ρ : Env} {K : Env → World → Prop} (hk : ∀ σ' w' vo' M', M' = M ++ (if p x = true then [x] else []) → Sep G W (Blk bis #[.func (.func fis) #[] caps.toArray] 37 :: Blk bo #[vo'] 22 :: RowE (α := Ev) own 36 vo' M' :: Fr) w' → K σ' w') (hS0 : Sep G W (Blk b6 (x.cells vd).toArray 36 :: Blk bis #[.func (.func fis) #[] caps.toArray] 37 :: Blk bo #[vo] 22 :: RowE (α := Ev) own 36 vo M :: Fr) w) : WPX (some l) [] Try.prog 24 (cB (xV Try.f61)) (Xo K) (zQ ρ [(3, .pointer (some ⟨bis, 0, none⟩)), (5, .pointer (some ⟨bo, 0, none⟩)), (6, .pointer (some ⟨b6, 0, none⟩))]) w := by
 have hds : _ * 8 ≤ _ := hd.small
 have hr1 := hS0.row (i := 3) rfl
 have hr1s : _ * 96 ≤ _ := hr1.2
 refine UW ?_
 refine Wg ?_
 refine xJ (by kernel_rfl) (fun _ => ?_)
 refine st (zg (v := .func (.func fis) #[] caps.toArray) Try.isAgg37 rfl (zf (hS0.blk (i := 1) rfl) rfl) ?_)
 refine st (zr (k := 10) Try.isAgg36 Try.sizeOf36 rfl rfl (CellsAt.all (hS0.blk (i := 0) rfl)) ?_)
 refine st (zj (f := fis) (vals := [.agg (x.cells vd).toArray]) (cap := caps) (show _ = (.func (.func fis) #[] caps.toArray : Value) from rfl) rfl hfis (hIs hd ok hS0) ?_)
 rintro _ w2 ⟨rfl, hS3⟩
 refine ze ?_
 cases hc4 : p x
 ·skip
  refine VE rfl ?_
  refine QS ?_
  have hS5 : Sep G W ((Blk bis #[.func (.func fis) #[] caps.toArray] 37) :: (Blk bo #[vo] 22) :: (RowE (α := Ev) own 36 vo M) :: Fr) w2 := hS3.sel 4 [1, 2, 3] (Nat.le_add_left _ _) rfl rfl
  exact hk _ _ _ _ (by simp only [*, Bool.false_eq_true, if_false, List.append_nil]) hS5
 ·skip
  refine Vt rfl ?_
  refine UI (WF [fun vals wq => Sep G W ((Blk b6 (x.cells vd).toArray 36) :: (Blk bis #[.func (.func fis) #[] caps.toArray] 37) :: (Blk bo #[vo] 22) :: (RowE (α := Ev) own 36 vo M) :: Fr) wq, fun vals wq => ∃ (v28 : Value), (vals 2 = (.agg (x.cells v28).toArray : Value)) ∧ Sep G W ((RowE (α := Int) own 3 v28 x.deps) :: (Blk b6 (x.cells vd).toArray 36) :: (Blk bis #[.func (.func fis) #[] caps.toArray] 37) :: (Blk bo #[vo] 22) :: (RowE (α := Ev) own 36 vo M) :: Fr) wq, fun vals wq => ∃ (v28 : Value) (b41 : Nat), (vals 2 = (.agg (x.cells v28).toArray : Value)) ∧ (vals 3 = ((.slice (some ⟨b41, 0, none⟩) 1 1) : Value)) ∧ Sep G W ((Blk b41 (x.cells v28).toArray 36) :: (RowE (α := Int) own 3 v28 x.deps) :: (Blk b6 (x.cells vd).toArray 36) :: (Blk bis #[.func (.func fis) #[] caps.toArray] 37) :: (Blk bo #[vo] 22) :: (RowE (α := Ev) own 36 vo M) :: Fr) wq, fun vals wq => ∃ (v28 : Value) (b41 : Nat) (v54 : Value), (vals 2 = (.agg (x.cells v28).toArray : Value)) ∧ (vals 3 = ((.slice (some ⟨b41, 0, none⟩) 1 1) : Value)) ∧ (vals 4 = (v54 : Value)) ∧ Sep G W ((RowE (α := Ev) own 36 v54 (M ++ [x])) :: (Blk b6 (x.cells vd).toArray 36) :: (Blk bis #[.func (.func fis) #[] caps.toArray] 37) :: (Blk bo #[vo] 22) :: Fr) wq, fun vals wq => ∃ (v28 : Value) (b41 : Nat) (v54 : Value), (vals 2 = (.agg (x.cells v28).toArray : Value)) ∧ (vals 3 = ((.slice (some ⟨b41, 0, none⟩) 1 1) : Value)) ∧ (vals 4 = (v54 : Value)) ∧ Sep G W ((RowE (α := Ev) own 36 v54 (M ++ [x])) :: (Blk b6 (x.cells vd).toArray 36) :: (Blk bis #[.func (.func fis) #[] caps.toArray] 37) :: (Blk bo #[v54] 22) :: Fr) wq]) (AF [Vl 0 (vo), Vl 1 (.agg (x.cells vd).toArray), fun _ => True, fun _ => True, fun _ => True, fun _ => True]) [[], [], [1], [1, 2], [0, 1, 2, 3], [0, 1, 2, 3, 4]] [2, 3, 4, 5] [(0, 2), (0, 0), (0, 0), (1, 1), (2, 2), (3, 3)] (by kernel_rfl) (by kernel_rfl) (by kernel_rfl) rfl (by kernel_rfl) (by kernel_rfl) (fun _ h1 h2 h3 h4 _ => hS3.same h1 h2 h3 h4) ?_ (yc ⟨dA, dA, dT, dT, dT, dT, trivial⟩) ⟨?_, ?_, ?_, ?_, ?_, ?_, trivial⟩ ?_
  ·intro k vals vals' w hv h
   have e : ∀ j ∈ ([2, 3, 4, 5] : List Nat), vals' j = vals j := hv
   match k, h with
   | 0, h => exact h
   | 1, h => exact (by simpa only [WF, List.getElem?_cons_zero, List.getElem?_cons_succ, e 2 (by decide)] using h)
   | 2, h => exact (by simpa only [WF, List.getElem?_cons_zero, List.getElem?_cons_succ, e 2 (by decide), e 3 (by decide)] using h)
   | 3, h => exact (by simpa only [WF, List.getElem?_cons_zero, List.getElem?_cons_succ, e 2 (by decide), e 3 (by decide), e 4 (by decide)] using h)
   | 4, h => exact (by simpa only [WF, List.getElem?_cons_zero, List.getElem?_cons_succ, e 2 (by decide), e 3 (by decide), e 4 (by decide)] using h)
   | _ + 5, _ => trivial
  ·intro k71 vals w72 h75 h76 hW74 hA73
   have hkk : k71 = 0 ∨ k71 = 1 ∨ k71 = 2 := by have h1 : 0 ≤ k71 := h75; have h2 : k71 ≤ 2 := h76; omega
   rcases hkk with rfl | rfl | rfl
   ·skip
    have hS77 : Sep _ _ _ _ := hW74
    refine obl rfl ?_
    exact zg (v := vo) Try.isAgg22 rfl (zf (hS77.blk (i := 2) rfl) rfl) (fun vals' hv _ => ⟨rfl, hv⟩)
   ·skip
    obtain ⟨v28, he32, hS78⟩ := hW74
    refine obl rfl ?_
    exact zg (v := vo) Try.isAgg22 rfl (zf (hS78.blk (i := 3) rfl) rfl) (fun vals' hv _ => ⟨rfl, hv⟩)
   ·skip
    obtain ⟨v28, b41, he32, he44, hS79⟩ := hW74
    refine obl rfl ?_
    exact zg (v := vo) Try.isAgg22 rfl (zf (hS79.blk (i := 4) rfl) rfl) (fun vals' hv _ => ⟨rfl, hv⟩)
  ·intro k80 vals w81 h84 h85 hW83 hA82
   obtain rfl : k80 = 0 := Nat.le_antisymm h85 h84
   have hS86 : Sep _ _ _ _ := hW83
   refine obl rfl ?_
   exact zr (k := 10) Try.isAgg36 Try.sizeOf36 rfl rfl (CellsAt.all (hS86.blk (i := 0) rfl)) (fun vals' hv _ => ⟨rfl, hv⟩)
  ·intro k20 vals w21 h24 h25 hW23 hA22
   obtain rfl : k20 = 0 := Nat.le_antisymm h25 h24
   have hS26 : Sep _ _ _ _ := hW23
   have e27 := hA22 1 (by decide)
   refine obl rfl ?_
   refine (zj (f := 38) (vals := [.agg (x.cells vd).toArray]) (cap := []) rfl (xc ⟨e27, trivial⟩) Try.call38 (YQ (e := x) hd ok hS26) ?_)
   rintro _ w29 ⟨v28, rfl, hS30⟩
   have hr31 := hS30.row (i := 0) rfl
   have hr31s : _ * 8 ≤ _ := hr31.2
   intro vals' hv hv'
   refine ⟨?_, trivial⟩
   show ∃ (v28 : Value), (vals' 2 = (.agg (x.cells v28).toArray : Value)) ∧ Sep G W ((RowE (α := Int) own 3 v28 x.deps) :: (Blk b6 (x.cells vd).toArray 36) :: (Blk bis #[.func (.func fis) #[] caps.toArray] 37) :: (Blk bo #[vo] 22) :: (RowE (α := Ev) own 36 vo M) :: Fr) w29
   exact ⟨v28, hv, hS30⟩
  ·intro k33 vals w34 h37 h38 hW36 hA35
   obtain rfl : k33 = 1 := Nat.le_antisymm h38 h37
   obtain ⟨v28, he32, hS39⟩ := hW36
   refine obl rfl ?_
   refine (zD (k := 10) (parts' := [(0, .agg (x.cells v28).toArray)]) (c := (x.cells v28).toArray) Try.underlying22 Try.sizeOf36 Try.zeroValue36 (by decide) (Ve ⟨rfl, he32, trivial⟩) (by kernel_rfl) ?_)
   intro w42 b41 hn40
   have hS43 := hS39.new hn40
   intro vals' hv hv'
   refine ⟨?_, trivial⟩
   show ∃ (v28 : Value) (b41 : Nat), (vals' 2 = (.agg (x.cells v28).toArray : Value)) ∧ (vals' 3 = ((.slice (some ⟨b41, 0, none⟩) 1 1) : Value)) ∧ Sep G W ((Blk b41 (x.cells v28).toArray 36) :: (RowE (α := Int) own 3 v28 x.deps) :: (Blk b6 (x.cells vd).toArray 36) :: (Blk bis #[.func (.func fis) #[] caps.toArray] 37) :: (Blk bo #[vo] 22) :: (RowE (α := Ev) own 36 vo M) :: Fr) w42
   exact ⟨v28, b41, (by rw [hv' 2 (by decide)]; exact he32), hv, hS43⟩
  ·intro k45 vals w46 h49 h50 hW48 hA47
   obtain rfl : k45 = 2 := Nat.le_antisymm h50 h49
   obtain ⟨v28, b41, he32, he44, hS51⟩ := hW48
   have e52 := hA47 0 (by decide)
   refine obl rfl ?_
   have hbk56 := hS51.blk (i := 0) rfl
   have hS57 : Sep G W ((RowE (α := Ev) own 36 vo M) :: (RowE (α := Int) own 3 v28 x.deps) :: (Blk b6 (x.cells vd).toArray 36) :: (Blk bis #[.func (.func fis) #[] caps.toArray] 37) :: (Blk bo #[vo] 22) :: Fr) w46 := hS51.sel 6 [5, 1, 2, 3, 4] (Nat.le_add_left _ _) rfl rfl
   refine (zZ (src := own) (bytes := 96) (x1 := x) hS57 xZ e52 he44 hbk56 (fun _ _ hN => ⟨_, rfl, RowE.soft hN, ok⟩) (by first | omega | (simp only [List.length_append, List.length_cons, List.length_nil, List.length_take, List.length_drop]; omega)) rfl ?_)
   intro v54 w53 hS55
   have hr58 := hS55.row (i := 0) rfl
   have hr58s : _ * 96 ≤ _ := hr58.2
   intro vals' hv hv'
   refine ⟨?_, trivial⟩
   show ∃ (v28 : Value) (b41 : Nat) (v54 : Value), (vals' 2 = (.agg (x.cells v28).toArray : Value)) ∧ (vals' 3 = ((.slice (some ⟨b41, 0, none⟩) 1 1) : Value)) ∧ (vals' 4 = (v54 : Value)) ∧ Sep G W ((RowE (α := Ev) own 36 v54 (M ++ [x])) :: (Blk b6 (x.cells vd).toArray 36) :: (Blk bis #[.func (.func fis) #[] caps.toArray] 37) :: (Blk bo #[vo] 22) :: Fr) w53
   exact ⟨v28, b41, v54, (by rw [hv' 2 (by decide)]; exact he32), (by rw [hv' 3 (by decide)]; exact he44), hv, hS55⟩
  ·intro k60 vals w61 h64 h65 hW63 hA62
   obtain rfl : k60 = 3 := Nat.le_antisymm h65 h64
   obtain ⟨v28, b41, v54, he32, he44, he59, hS66⟩ := hW63
   refine obl rfl ?_
   have hr69 := hS66.row (i := 0) rfl
   have hr69s : _ * 96 ≤ _ := hr69.2
   refine (yd (v := v54) (c := [vo]) (c' := [v54]) Try.sizeOf22 rfl he59 (hS66.blk (i := 3) rfl) hr69.1.one rfl rfl ?_)
   intro w67 hp68
   have hS70 := hS66.pt3 hp68
   intro vals' hv hv'
   refine ⟨?_, trivial⟩
   show ∃ (v28 : Value) (b41 : Nat) (v54 : Value), (vals' 2 = (.agg (x.cells v28).toArray : Value)) ∧ (vals' 3 = ((.slice (some ⟨b41, 0, none⟩) 1 1) : Value)) ∧ (vals' 4 = (v54 : Value)) ∧ Sep G W ((RowE (α := Ev) own 36 v54 (M ++ [x])) :: (Blk b6 (x.cells vd).toArray 36) :: (Blk bis #[.func (.func fis) #[] caps.toArray] 37) :: (Blk bo #[v54] 22) :: Fr) w67
   exact ⟨v28, b41, v54, (by rw [hv' 2 (by decide)]; exact he32), (by rw [hv' 3 (by decide)]; exact he44), (by rw [hv' 4 (by decide)]; exact he59), hS70⟩
  intro vals w87 hW88 hA89
  obtain ⟨v28, b41, v54, he32, he44, he59, hS90⟩ := hW88
  refine yb (kv := [(3, .pointer (some ⟨bis, 0, none⟩)), (5, .pointer (some ⟨bo, 0, none⟩)), (6, .pointer (some ⟨b6, 0, none⟩)), (13, .func (.func fis) #[] caps.toArray), (14, .agg (x.cells vd).toArray), (15, .bool true)]) ⟨rfl, rfl, rfl, rfl, rfl, rfl, trivial⟩ (fun ρw87 => ?_)
  refine ze ?_
  have hS91 : Sep G W ((Blk bis #[.func (.func fis) #[] caps.toArray] 37) :: (Blk bo #[v54] 22) :: (RowE (α := Ev) own 36 v54 (M ++ [x])) :: Fr) w87 := hS90.sel 4 [2, 3, 0] (Nat.le_add_left _ _) rfl rfl
  exact hk _ _ _ _ (by simp only [*, if_true]) hS91

end Go.Proofs.Ytmiihhbeclhaoaa
end
