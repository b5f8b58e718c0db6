/- Cells that are worked on: seen as a row; made new. -/
import Derived.Test.YtlblilbmpdejgaaDoorCelRows
set_option linter.unusedSimpArgs false
set_option linter.unusedVariables false
namespace Go.Proofs.YtlblilbmpdejgaaDoor
open Go.RowKit
section
variable {G : Nat → Prop} {W w : World} {As : List HP} {T Ti : TypeId} {v : Value} {sh : List CelS} {l : List Cel}
theorem CelW.rowP {f : Nat → Prop} (h : (CelW v T Ti l).p w f) : (RowE (α := Cel) own T v l).p w f := by
  obtain ⟨sh, ⟨hlen, hn⟩, hA⟩ := h
  obtain ⟨fs, q1, q2⟩ := hA
  obtain ⟨⟨css, hE, hown, hrow, hsm⟩, hf0⟩ := q1 0 _ rfl
  obtain ⟨hSt, hf1⟩ := q1 1 _ rfl
  have q2' := q2 0 1 (by simp) (by simp) (by simp)
  have hcl := hE.length
  refine ⟨css, EP.of_at (by omega) (fun i h1 h2 => ?_), by rw [← hlen]; exact hown, fun b hb => (hf0 b (hrow b hb)).1, by rw [← hlen]; exact hsm⟩
  have hs : i < sh.length := by omega
  obtain ⟨hcs, hin, hone⟩ : css[i] = sh[i].cells ∧ InR sh[i].n ∧ sh[i].v.oneCell' = true := (EP.at2 hE i h1 hs).imp id (fun h => ⟨h.n, h.one⟩)
  have hr : (RowE (α := Int) own Ti (sh.getD i default).v (l.getD i default).set).p w (fs 1) := Star.at_ hSt (SetRows.get hs h2)
  have hsoft := RowE.soft hr
  have hni := hn i h2
  rw [getD_at _ hs, getD_at _ h2] at hsoft hni
  refine ⟨sh[i].v, ?_, hsoft.mono (fun b hb hlt => ⟨rfl, ⟨(hf1 b hb.1).1, fun e => q2' b (hrow b e) hb.1⟩, hb.2⟩), ⟨by rw [← hni]; exact hin⟩⟩
  rw [hcs]
  show [Value.int .i64 sh[i].n, sh[i].v] = _
  rw [hni]; rfl
theorem CelW.rd {f : Nat → Prop} (h : (CelW v T Ti l).p w f) : RdS w f v l := RowE.rd (CelW.rowP h)
theorem Sep.celSl (h : Sep G W As w) {i : Nat} (hi : As[i]? = some (CelW v T Ti l)) : IsSl v l.length := by
  obtain ⟨f, h1, _⟩ := h.get hi
  exact RowE.isSl (CelW.rowP h1)
theorem SetRows.nil_mem {Ti : TypeId} : ∀ (n : Nat) (A : HP), A ∈ SetRows Ti (List.replicate n ⟨0, .slice none 0 0⟩) (List.replicate n ⟨0, []⟩) → A = RowE (α := Int) own Ti (.slice none 0 0) []
  | 0, A, h => by simp [SetRows] at h
  | n + 1, A, h => by
    rw [List.replicate_succ, List.replicate_succ] at h
    rcases List.mem_cons.1 h with h | h
    · exact h
    · exact SetRows.nil_mem n A h
theorem Sep.celMade {n : Nat} (h : Sep G W (RowE (α := CelS) own T v (List.replicate n ⟨0, .slice none 0 0⟩) :: As) w) : Sep G W (CelW v T Ti (List.replicate n ⟨0, []⟩) :: As) w := by
  have h1 : Sep G W (Star (SetRows Ti (List.replicate n ⟨0, .slice none 0 0⟩) (List.replicate n ⟨0, []⟩)) :: RowE (α := CelS) own T v (List.replicate n ⟨0, .slice none 0 0⟩) :: As) w :=
    h.push (Chg.refl _ _) (f := fun _ => False) ⟨fun _ _ => False, fun i A hA => ⟨by rw [SetRows.nil_mem n A (List.mem_of_getElem? hA)]; exact RowE.nil _ _ _ _, fun _ h => h.elim⟩, fun _ _ _ _ _ _ h => h.elim⟩ (fun _ h => h.elim)
  refine CelW.mk (h1.sel 2 [1, 0] (Nat.le_add_left _ _) rfl rfl) ⟨by simp, fun i hi => ?_⟩
  rw [List.length_replicate] at hi
  rw [getD_at _ (by simpa using hi), getD_at _ (by simpa using hi)]; simp
end
end Go.Proofs.YtlblilbmpdejgaaDoor
