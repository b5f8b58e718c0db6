/- A map's copy: a map held against nil, put into an interface, copied, taken out again. -/
import Derived.Test.YtbbpmhfcgoljdaaMaps
import Derived.Laws.Externs
set_option linter.unusedSimpArgs false
set_option linter.unusedVariables false
namespace Go.Proofs.Ytbbpmhfcgoljdaa
open Go.RowKit Go.MapKept
section
variable {α : Type} [Rep α] {P : Program} {d : Option Tmp} {ty : TypeId} {pos : String} {af : Array Edge} {g : Option (Nat × Bool)} {σ : Env} {w : World} {K : Value → World → Prop}
theorem ov_eqlMap {x : Operand} {t t2 k e : TypeId} {m : Nat} (hU : P.underlying t = some (.map k e)) (hx : ev σ x = .map (some m)) (h : K (.bool false) w) :
    opV P ⟨d, .binOp .eql t x (.const (.map none)) t2, ty, pos, af, g⟩ σ w K := by
  have hc : ev σ (.const (.map none)) = .map none := rfl
  have h1 : ∀ n, (Op.equalIn (n + 1) t (.map (some m)) (.map none)).run P w = .ok false w := fun n => by simp [Op.equalIn, run_underlying hU]
  have h2 : (binOp .eql t (.map (some m)) (.map none)).run P w = .ok (.bool false) w := by
    simp only [binOp]
    simp [show Op.equal t (.map (some m)) (.map none) = Op.equalIn (9999 + 1) t (.map (some m)) (.map none) from rfl, h1]
  refine ov_run (v := .bool false) (w' := w) ?_ h
  simp [execOp, hx, hc, h2, eqGuard, go_sem]
theorem ov_makeIface {x : Operand} {t k e : TypeId} {v : Value} (hU : P.underlying t = some (.map k e)) (hx : ev σ x = v) (h : K (.iface t v) w) : opV P ⟨d, .makeInterface t x, ty, pos, af, g⟩ σ w K :=
  ov_run (v := .iface t v) (w' := w) (by simp [execOp, hx, Instr.makeInterface, run_underlying hU, go_sem]) h
theorem ov_assertMap {x : Operand} {t xT k e : TypeId} {v : Value} (hU : P.underlying t = some (.map k e)) (hx : ev σ x = .iface t v) (h : K v w) : opV P ⟨d, .typeAssert x xT t false, ty, pos, af, g⟩ σ w K :=
  ov_run (v := v) (w' := w) (by simp [execOp, hx, Instr.typeAssert, run_underlying hU, go_sem]) h
theorem ov_cloneMap {f : FuncId} {x : Operand} {as : List Operand} {ts : Array TypeId} {t : TypeId} {m : Nat} {F : Nat → Prop} {L : List (Int × α)} (hf : ev σ x = .func (.func f) #[] #[]) (ha : as.map (ev σ) = [.iface t (.map (some m))])
    (hcall : ∀ args w, (callFunc f args).run P w = ((Extern.MapsClone.clone args).run P w).andThen fun v w' => .ok (.value v) w') (hm : MapR w F m L)
    (h : ∀ w1, Ext w w1 → w1.heap.size = w.heap.size + 1 → MapR w1 F w.heap.size L → K (.iface t (.map (some w.heap.size))) w1) : opV P ⟨d, .call ⟨.value x, as.toArray, ts⟩, ty, pos, af, g⟩ σ w K := by
  obtain ⟨es, clock, hb, hs, he⟩ := hm
  have hn := New.mk' w (.map es clock)
  have h1 : (Extern.MapsClone.clone #[.iface t (.map (some m))]).run P w = .ok (.iface t (.map (some w.heap.size))) { w with heap := w.heap.push (.map es clock) } := by
    have e : Extern.MapsClone.clone #[.iface t (.map (some m))] = (getObj m >>= fun o => match o with
        | .map entries clock => (newObj (.map entries clock) >>= fun n => pure (.iface t (.map (some n))))
        | _ => stuck "maps.clone: a map expected") := rfl
    rw [e]
    simp [Go.MapKept.run_getObj_map hb, Result.andThen, newObj, newRow, Sem.run, go_sem]
  refine ov_run (v := .iface t (.map (some w.heap.size))) (w' := { w with heap := w.heap.push (.map es clock) }) ?_ (h _ hn.ext (by simp) ⟨es, clock, hn.at_, hs, he.mono (fun b hb hlt => ⟨hn.ext.block b hlt (fun h => h), hb⟩)⟩)
  simp [execOp, resolve, hf, Deferred.ofValue, invoke, hcall, ← ha, h1, go_sem]
  rw [ha]
  simp [h1, Result.andThen]
end
end Go.Proofs.Ytbbpmhfcgoljdaa
