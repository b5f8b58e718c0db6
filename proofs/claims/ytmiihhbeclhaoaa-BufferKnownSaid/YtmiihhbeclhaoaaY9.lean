/- Texts of this claim, part 9. -/
import Derived.Test.YtmiihhbeclhaoaaY8
import Derived.Shelf.SlSortCmp.NoneTotal
import Derived.Test.YtmiihhbeclhaoaaProg
set_option linter.unusedSimpArgs false
set_option linter.unusedVariables false
set_option linter.unusedSectionVars false
section
/- The library's sort (the shelf's contract) over slices of a function's own. -/
namespace Go.Proofs.Ytmiihhbeclhaoaa
open Go.Proofs Go.RowKit Go.Sort Go.Shelf

theorem Qp {w w' : World} (h : Ext w w') : ∃ q os, w' = grow (w.drewN q) os := by
  obtain ⟨hs, ht, hd, ho, hp⟩ := w
  obtain ⟨hs', ht', hd', ho', hp'⟩ := w'
  refine ⟨hd' - hd, (hs'.toList.drop hs.size).toArray, ?_⟩
  have e1 : ho' = ho := h.os
  have e2 : ht' = ht := h.tape
  have e3 : hp' = hp := h.output
  have e4 : hd ≤ hd' := h.drawn
  have e5 : hs.size ≤ hs'.size := h.size
  have e6 : ∀ b, b < hs.size → hs'[b]? = hs[b]? := fun b hb => h.block b hb (fun h => h)
  have eh : hs' = hs ++ (hs'.toList.drop hs.size).toArray := by
    apply Array.ext_getElem?
    intro i
    rw [Array.getElem?_append]
    split
    · rename_i hi; exact e6 i hi
    · rename_i hi
      simp only [List.getElem?_toArray, List.getElem?_drop, Array.getElem?_toList]
      rw [show hs.size + (i - hs.size) = i by omega]
  have ed : hd' = hd + (hd' - hd) := by omega
  subst e1 e2 e3
  simp only [grow, World.drewN]
  rw [← eh, ← ed]

theorem QP {P : Program} {α : Type} [Inhabited α] {g k : Nat} {cap : List Value} {enc : α → List Value} {cf : α → α → Int} {blk off size : Nat} {w : World}
    (h : ∀ W (x y : α), (∃ d : Array α, d.size = size ∧ ∃ m os, W = sortWorldK enc k w blk off m d os) → Ret P g ([.agg (enc x).toArray, .agg (enc y).toArray] ++ cap) W (fun r W' => r = .int .i64 (cf x y) ∧ Ext W W')) : CmpLays P g cap.toArray enc k cf blk off size w := by
  intro m os dk hs x y
  have := h _ x y ⟨dk, hs, m, os, rfl⟩
  unfold Ret at this
  have e : ([Value.agg (enc x).toArray, Value.agg (enc y).toArray] ++ cap).toArray = #[.agg (enc x).toArray, .agg (enc y).toArray] ++ cap.toArray := by simp
  rw [e] at this
  refine Calls.mono this ?_
  rintro e w' ⟨v, rfl, rfl, hx⟩
  exact ⟨rfl, Qp hx⟩

theorem Yn {w : World} {b : Nat} {f : Array Value → Array Value} {c : Array Value} {T : TypeId} {fz : Nat × Nat} (h : w.heap[b]? = some (.cells c T fz)) : (mapBlock w b f).heap[b]? = some (.cells (f c) T fz) := by
  unfold mapBlock
  simp [Array.getElem?_modify, h, onCells]
theorem Zl {w : World} {b i : Nat} {f : Array Value → Array Value} (h : i ≠ b) : (mapBlock w b f).heap[i]? = w.heap[i]? := by
  unfold mapBlock
  simp [Array.getElem?_modify, Ne.symm h]
theorem xK {w : World} {b : Nat} {f : Array Value → Array Value} : (mapBlock w b f).heap.size = w.heap.size := by
  unfold mapBlock; simp

theorem YI {α : Type} [Inhabited α] {enc : α → List Value} {k blk off m : Nat} {w : World} {d : Array α} {os : Array Obj} (hb : blk < w.heap.size) : Chg (fun i => i = blk) w (sortWorldK enc k w blk off m d os) := by
  unfold sortWorldK putRowK putRow
  have hs : w.heap.size ≤ (grow (mapBlock (Sort.ahead w m) blk (putCells id off (flatK enc k d))) os).heap.size := by
    show _ ≤ (_ ++ os).size
    rw [Array.size_append, xK]
    exact Nat.le_add_right _ _
  have hg : ∀ i, i < w.heap.size → (grow (mapBlock (Sort.ahead w m) blk (putCells id off (flatK enc k d))) os).heap[i]? = (mapBlock (Sort.ahead w m) blk (putCells id off (flatK enc k d))).heap[i]? := by
    intro i hi
    show (_ ++ os)[i]? = _
    rw [Array.getElem?_append, if_pos (by rw [xK]; exact hi)]
  refine ⟨rfl, rfl, rfl, hs, fun i hi hne => ?_, ?_, Nat.le_add_right _ _⟩
  · rw [hg i hi, Zl hne]; rfl
  · rintro i ⟨c, T, hc⟩
    have hi := (Array.getElem?_eq_some_iff.1 hc).1
    by_cases h : i = blk
    · subst h
      exact ⟨_, T, by rw [hg i hi]; exact Yn (w := Sort.ahead w m) hc⟩
    · exact ⟨c, T, by rw [hg i hi, Zl h]; exact hc⟩
theorem Wk {α : Type} [Inhabited α] {enc : α → List Value} {k blk off m : Nat} {w : World} {d : Array α} {os : Array Obj} {c : Array Value} {T : TypeId} (hb : w.heap[blk]? = some (.cells c T)) :
    (sortWorldK enc k w blk off m d os).heap[blk]? = some (.cells (putCells id off (flatK enc k d) c) T) := by
  unfold sortWorldK putRowK putRow
  have hi := (Array.getElem?_eq_some_iff.1 hb).1
  show (_ ++ os)[blk]? = _
  rw [Array.getElem?_append, if_pos (by rw [xK]; exact hi)]
  exact Yn (w := Sort.ahead w m) hb

theorem Ub {α : Type} [Rep α] {w : World} {F : Nat → Prop} {enc : α → List Value} : ∀ {L : List α}, (∀ x ∈ L, Rep.rd w F (enc x) x) → Els w F (L.map enc) L
  | [], _ => trivial
  | x :: L, h => ⟨h x (List.mem_cons_self ..), Ub fun y hy => h y (List.mem_cons_of_mem _ hy)⟩
theorem VH {α : Type} [Rep α] [Inhabited α] {P : Program} {ρ : Ren} (L : SlLaysF0.n6 P ρ) (aE : ∀ w, (isAgg (ρ.t 24)).run P w = .ok true w) (zE : ∀ w, (sizeOf (ρ.t 24)).run P w = .ok (Rep.k α) w)
    {enc : α → List Value} (henc : ∀ w F cs (x : α), Rep.rd w F cs x → cs = enc x) (hlen : ∀ x, (enc x).length = Rep.k α) (hone : ∀ x, ∀ u ∈ enc x, u.oneCell' = true) {cf : α → α → Int} (hO : SWO (ltOf cf)) {g : Nat} {cap : List Value} (eg : ∀ args w, (callFunc g args).run P w = .ok (.enter g args) w)
    {T : TypeId} {lo : Nat} {w : World} {F : Nat → Prop} {v : Value} {l : List α} (ho : OwnS T lo w F v l)
    (hcmp : ∀ W (x y : α), Ret P g ([.agg (enc x).toArray, .agg (enc y).toArray] ++ cap) W (fun r W' => r = .int .i64 (cf x y) ∧ Ext W W'))
    (hre : ∀ w' (x : α) (F : Nat → Prop) cs, Rep.rd w F cs x → Rep.rd w' F cs x) (hbs : l.length < 4611686018427387904) :
    Ret P (ρ.f 6) ([v, .func (.func g) #[] cap.toArray]) w (fun r w' => r = .tuple #[] ∧ Chg (fun b => v.ownBlock = some b) w w' ∧ ∃ l', l'.Perm l ∧ l'.Pairwise (fun a b => ltOf cf b a = false) ∧ OwnS T lo w' F v l') := by
  by_cases hne : l = []
  · subst hne
    obtain ⟨a0, c0, rfl, _, _⟩ := ho.isSl
    have hc := AnyF.slices_SortFunc_none L a0 c0 (.func (.func g) #[] cap.toArray) w
    unfold Ret
    refine Calls.mono hc ?_
    rintro e w' ⟨he, rfl⟩
    exact ⟨.tuple #[], he, rfl, Chg.refl _ _, [], List.Perm.refl _, List.Pairwise.nil, ho⟩
  obtain ⟨css, hE, hown⟩ := ho.css
  rcases hown.2 with ⟨rfl, h0⟩ | ⟨gb, capn, cur, rfl, hg, hb, hn, hm, hs, ht⟩
  · exact absurd (List.length_eq_zero_iff.1 h0) hne
  have hblk := (Array.getElem?_eq_some_iff.1 hb).1
  have hcs : ∀ i (h : i < l.length), CellsAt w gb (i * Rep.k α) (enc l[i]) ∧ Rep.rd w F (enc l[i]) l[i] := by
    intro i hi
    obtain ⟨cs, hr, hc⟩ := hE.at_ i hi
    have e := henc w F cs _ hr
    subst e
    refine ⟨fun j hj => ?_, hr⟩
    have h3 := hc j hj
    rw [← ht, List.getElem?_take] at h3
    split at h3
    · exact xm hb (by simpa using h3)
    · cases h3
  have kpos : 0 < Rep.k α := Rep.kpos
  have hH : HoldsK enc (Rep.k α) w gb 0 l.toArray := by
    intro j hj
    have hj' : j < l.length * Rep.k α := by simpa using hj
    have hd : j / Rep.k α < l.length := (Nat.div_lt_iff_lt_mul kpos).2 hj'
    have hm' : j % Rep.k α < (enc l[j / Rep.k α]).length := by rw [hlen]; exact Nat.mod_lt _ kpos
    have h1 := (hcs (j / Rep.k α) hd).1 (j % Rep.k α) hm'
    refine ⟨?_, by simp [World.frozen?, hb]⟩
    rw [get_flatK _ _ _ _ (by simpa using hj'), Nat.zero_add]
    rw [show j / Rep.k α * Rep.k α + j % Rep.k α = j by rw [Nat.mul_comm]; exact Nat.div_add_mod j (Rep.k α)] at h1
    rw [h1]
    have e1 : l.toArray[j / Rep.k α]! = l[j / Rep.k α] := by rw [getElem!_pos l.toArray (j / Rep.k α) (by simpa using hd)]; simp
    have e2 : (enc l[j / Rep.k α])[j % Rep.k α]! = (enc l[j / Rep.k α])[j % Rep.k α] := getElem!_pos (enc l[j / Rep.k α]) (j % Rep.k α) hm'
    rw [e1, e2]; rfl
  have hc := AnyQ.slices_SortFunc L (Rep.k α) aE zE enc hlen hone cf hO g cap.toArray gb 0 capn l.toArray w eg (QP fun W x y _ => hcmp W x y) hH hblk (by simpa using hbs)
  have ea : ([Value.slice (some ⟨gb, 0, none⟩) l.length capn, .func (.func g) #[] cap.toArray]).toArray = #[Value.slice (some ⟨gb, 0, none⟩) l.toArray.size capn, .func (.func g) #[] cap.toArray] := by simp
  unfold Ret
  rw [ea]
  refine Calls.mono hc ?_
  rintro e w' ⟨he, d', n, os, hp, hsd, hw⟩
  refine ⟨.tuple #[], he, rfl, ?_, d'.toList, ?_, ?_, ?_⟩
  · have hgo : (fun b => (Value.slice (some ⟨gb, 0, none⟩) l.length capn).ownBlock = some b) = fun b => b = gb := by funext b; simp [Value.ownBlock, eq_comm]
    rw [hgo, hw]; exact YI hblk
  · have h2 := hp.2.2
    have hsz : d'.size = l.length := by simpa using hp.1
    simp at h2
    rwa [List.take_of_length_le (by simp [hsz])] at h2
  · rw [List.pairwise_iff_getElem]
    intro i j hi hj hij
    have hsz : d'.size = l.length := by simpa using hp.1
    have hi' : i < d'.size := by simpa using hi
    have hj' : j < d'.size := by simpa using hj
    have := hsd i j (Nat.zero_le _) hij (by simpa [hsz] using hj')
    rw [getElem!_pos d' j hj', getElem!_pos d' i hi'] at this
    simpa using this
  · have hsz : d'.size = l.length := by simpa using hp.1
    have hperm : d'.toList.Perm l := by
      have h2 := hp.2.2
      simp at h2
      rwa [List.take_of_length_le (by simp [hsz])] at h2
    have hrd : ∀ x ∈ d'.toList, Rep.rd w' F (enc x) x := by
      intro x hx
      obtain ⟨i, hi, rfl⟩ := List.getElem_of_mem (hperm.subset hx)
      exact hre w' _ F _ (hcs i hi).2
    have hE' : Els w' F (d'.toList.map enc) d'.toList := Ub hrd
    have hfl := hE'.flat
    have hlen' : d'.toList.length = l.length := by simpa using hsz
    have hcur : (putCells id 0 (flatK enc (Rep.k α) d') cur).size = cur.size := by simp [putCells]
    have hchg : Chg (fun i => i = gb) w w' := by rw [hw]; exact YI hblk
    have hle : l.length * Rep.k α ≤ cur.size := by rw [hs]; exact Nat.mul_le_mul_right _ hn
    refine ⟨⟨_, hE', by rw [hfl], .inr ⟨gb, capn, _, by rw [hlen'], hg, by rw [hw]; exact Wk hb, by rw [hlen']; exact hn, hm, by rw [hcur]; exact hs, ?_⟩⟩, ho.apart, fun b hb' => ⟨Nat.lt_of_lt_of_le (ho.bound b hb').1 hchg.size, fun hl => hchg.soft b ((ho.bound b hb').2 hl)⟩, by rw [hlen']; exact ho.small⟩
    refine List.ext_getElem? fun j => ?_
    rw [hlen', List.getElem?_take]
    split
    · rename_i hj
      have hd : j / Rep.k α < d'.toList.length := by rw [hlen']; exact (Nat.div_lt_iff_lt_mul kpos).2 hj
      obtain ⟨cs, hr, hc⟩ := hE'.at_ (j / Rep.k α) hd
      have e := henc w' F cs _ hr
      subst e
      have hm' : j % Rep.k α < (enc (d'.toList[j / Rep.k α])).length := by rw [hlen]; exact Nat.mod_lt _ kpos
      have h1 := hc (j % Rep.k α) hm'
      rw [show j / Rep.k α * Rep.k α + j % Rep.k α = j by rw [Nat.mul_comm]; exact Nat.div_add_mod j (Rep.k α)] at h1
      rw [h1]
      have hjc : j < cur.size := by omega
      have hjk : j < d'.size * Rep.k α := by rw [hsz]; exact hj
      have hd2 : j / Rep.k α < d'.size := by simpa using hd
      rw [Array.getElem?_toList, Array.getElem?_eq_getElem (by rw [hcur]; exact hjc)]
      simp only [putCells, Array.getElem_mapIdx, Nat.zero_le, true_and, Nat.zero_add, size_flatK, hjk, if_true, Nat.sub_zero, id]
      have e1 : d'[j / Rep.k α]! = d'[j / Rep.k α] := getElem!_pos d' (j / Rep.k α) hd2
      have e0 : d'.toList[j / Rep.k α] = d'[j / Rep.k α] := by simp
      rw [e0] at hm'
      have e2 : (enc d'[j / Rep.k α])[j % Rep.k α]! = (enc d'[j / Rep.k α])[j % Rep.k α] := getElem!_pos (enc d'[j / Rep.k α]) (j % Rep.k α) hm'
      rw [get_flatK _ _ _ _ hjk, e1, e2]
      simp
    · rename_i hj
      rw [List.getElem?_eq_none (by rw [hfl, hlen']; omega)]
end Go.Proofs.Ytmiihhbeclhaoaa
end

section
/- The shelf's sort, laid at this program. -/
namespace Go.Proofs.Ytmiihhbeclhaoaa
open Go.Proofs Go.Shelf

def WE : Go.Shelf.Ren := ⟨fun | 6 => 71 | 15 => 78 | 14 => 77 | 28 => 88 | 29 => 89 | 20 => 80 | 21 => 81 | 22 => 82 | 23 => 83 | 24 => 84 | 25 => 85 | 26 => 86 | 27 => 87 | 46 => 90 | 47 => 91 | 48 => 92 | 49 => 93 | 50 => 94 | 57 => 95 | n => n, fun | 22 => 22 | 24 => 36 | 25 => 68 | 3 => 3 | 39 => 84 | 0 => 0 | 53 => 103 | 55 => 105 | 4 => 4 | 46 => 97 | 45 => 96 | 50 => 66 | 5 => 5 | 9 => 9 | 66 => 106 | 70 => 110 | 76 => 112 | 77 => 113 | n => n, fun | n => n⟩
theorem Ks : Go.Proofs.SlLaysF0.n6 Try.prog WE := {
  mixed := by kernel_rfl,
  f6 := ⟨Try.f71.name, by decide, Try.func71.trans (congrArg some (by kernel_rfl))⟩,
  f14 := ⟨Try.f77.name, by decide, Try.func77.trans (congrArg some (by kernel_rfl))⟩,
  f15 := Try.func78.trans (congrArg some (by kernel_rfl)),
  f20 := ⟨Try.f80.name, by decide, Try.func80.trans (congrArg some (by kernel_rfl))⟩,
  f21 := ⟨Try.f81.name, by decide, Try.func81.trans (congrArg some (by kernel_rfl))⟩,
  f22 := ⟨Try.f82.name, by decide, Try.func82.trans (congrArg some (by kernel_rfl))⟩,
  f23 := ⟨Try.f83.name, by decide, Try.func83.trans (congrArg some (by kernel_rfl))⟩,
  f24 := ⟨Try.f84.name, by decide, Try.func84.trans (congrArg some (by kernel_rfl))⟩,
  f25 := ⟨Try.f85.name, by decide, Try.func85.trans (congrArg some (by kernel_rfl))⟩,
  f26 := ⟨Try.f86.name, by decide, Try.func86.trans (congrArg some (by kernel_rfl))⟩,
  f27 := ⟨Try.f87.name, by decide, Try.func87.trans (congrArg some (by kernel_rfl))⟩,
  f28 := Try.func88.trans (congrArg some (by kernel_rfl)),
  f29 := Try.func89.trans (congrArg some (by kernel_rfl)),
  f46 := ⟨Try.f90.name, by decide, Try.func90.trans (congrArg some (by kernel_rfl))⟩,
  f47 := Try.func91.trans (congrArg some (by kernel_rfl)),
  f48 := Try.func92.trans (congrArg some (by kernel_rfl)),
  f49 := ⟨Try.f93.name, by decide, Try.func93.trans (congrArg some (by kernel_rfl))⟩,
  f50 := ⟨Try.f94.name, by decide, Try.func94.trans (congrArg some (by kernel_rfl))⟩,
  f57 := ⟨Try.f95.name, by decide, Try.func95.trans (congrArg some (by kernel_rfl))⟩,
  t0 := Try.underlying0,
  a0 := Try.isAgg0,
  z0 := Try.sizeOf0,
  v0 := Try.zeroValue0,
  t3 := Try.underlying3,
  a3 := Try.isAgg3,
  z3 := Try.sizeOf3,
  v3 := Try.zeroValue3,
  t4 := Try.underlying4,
  a4 := Try.isAgg4,
  z4 := Try.sizeOf4,
  v4 := Try.zeroValue4,
  t5 := Try.underlying5,
  a5 := Try.isAgg5,
  z5 := Try.sizeOf5,
  v5 := Try.zeroValue5,
  t9 := Try.underlying9,
  a9 := Try.isAgg9,
  z9 := Try.sizeOf9,
  v9 := Try.zeroValue9,
  t22 := Try.underlying22,
  a22 := Try.isAgg22,
  z22 := Try.sizeOf22,
  v22 := Try.zeroValue22,
  t25 := Try.underlying68,
  a25 := Try.isAgg68,
  z25 := Try.sizeOf68,
  v25 := Try.zeroValue68,
  t39 := Try.underlying84,
  a39 := Try.isAgg84,
  z39 := Try.sizeOf84,
  v39 := Try.zeroValue84,
  t45 := Try.underlying96,
  a45 := Try.isAgg96,
  z45 := Try.sizeOf96,
  v45 := Try.zeroValue96,
  t46 := Try.underlying97,
  a46 := Try.isAgg97,
  z46 := Try.sizeOf97,
  v46 := Try.zeroValue97,
  t50 := Try.underlying66,
  a50 := Try.isAgg66,
  z50 := Try.sizeOf66,
  v50 := Try.zeroValue66,
  t53 := Try.underlying103,
  a53 := Try.isAgg103,
  z53 := Try.sizeOf103,
  v53 := Try.zeroValue103,
  t55 := Try.underlying105,
  a55 := Try.isAgg105,
  z55 := Try.sizeOf105,
  v55 := Try.zeroValue105,
  t66 := Try.underlying106,
  a66 := Try.isAgg106,
  z66 := Try.sizeOf106,
  v66 := Try.zeroValue106,
  t70 := Try.underlying110,
  a70 := Try.isAgg110,
  z70 := Try.sizeOf110,
  v70 := Try.zeroValue110,
  t76 := Try.underlying112,
  a76 := Try.isAgg112,
  z76 := Try.sizeOf112,
  v76 := Try.zeroValue112,
  t77 := Try.underlying113,
  a77 := Try.isAgg113,
  z77 := Try.sizeOf113,
  v77 := Try.zeroValue113
}
end Go.Proofs.Ytmiihhbeclhaoaa
end

section
/- Steps of the proofs of this seat: part A12. -/
set_option maxRecDepth 8000
set_option maxHeartbeats 4000000
namespace Go.Proofs.Ytmiihhbeclhaoaa
open Go.Proofs Go.RowKit Go.Sort Go.Shelf

theorem VD {G : Nat → Prop} {W w : World} {Rs : List HP} {a : Ev} {da : Value} {b : Ev} {db : Value} (hS0 : Sep G W Rs w) : Ret Try.prog 72 [.agg (a.cells da).toArray, .agg (b.cells db).toArray] w (fun r w' => r = (.int .i64 ((yt a b)) : Value) ∧ Sep G W Rs w') := by
 refine zp (args := [.agg (a.cells da).toArray, .agg (b.cells db).toArray]) Try.func72 rfl rfl ?_
 refine zc ?_
 refine za (by kernel_rfl) (fun _ => ?_)
 refine st (yg (v := .agg (a.cells da).toArray) rfl ?_)
 intro w3 b2 hn1
 have hS4 := hS0.new hn1
 refine st (yg (v := .agg (b.cells db).toArray) rfl ?_)
 intro w7 b6 hn5
 have hS8 := hS4.new hn5
 refine st (zd (v := .int .i64 (0)) rfl ?_)
 refine ze ?_
 refine zc ?_
 refine zM ((fun TT pp0 => WF [fun vals wq => Sep G W (pp0 :: TT) wq, fun vals wq => (vals 4 = (.int .i64 ((zC a.lam b.lam)) : Value)) ∧ Sep G W (pp0 :: TT) wq, fun vals wq => (vals 4 = (.int .i64 ((zC a.lam b.lam)) : Value)) ∧ (vals 11 = (.int .i64 ((zC a.origin b.origin)) : Value)) ∧ Sep G W (pp0 :: TT) wq, fun vals wq => (vals 4 = (.int .i64 ((zC a.lam b.lam)) : Value)) ∧ (vals 11 = (.int .i64 ((zC a.origin b.origin)) : Value)) ∧ (vals 18 = (.int .i64 ((zC a.seq b.seq)) : Value)) ∧ Sep G W (pp0 :: TT) wq, fun vals wq => ∃ (b165 : Nat), (vals 4 = (.int .i64 ((zC a.lam b.lam)) : Value)) ∧ (vals 11 = (.int .i64 ((zC a.origin b.origin)) : Value)) ∧ (vals 18 = (.int .i64 ((zC a.seq b.seq)) : Value)) ∧ (vals 19 = ((.slice (some ⟨b165, 0, none⟩) 3 3) : Value)) ∧ Sep G W ((Blk b165 #[.int .i64 ((zC a.lam b.lam)), .int .i64 ((zC a.origin b.origin)), .int .i64 ((zC a.seq b.seq))] 3) :: pp0 :: TT) wq, fun vals wq => ∃ (b165 : Nat), (vals 4 = (.int .i64 ((zC a.lam b.lam)) : Value)) ∧ (vals 11 = (.int .i64 ((zC a.origin b.origin)) : Value)) ∧ (vals 18 = (.int .i64 ((zC a.seq b.seq)) : Value)) ∧ (vals 19 = ((.slice (some ⟨b165, 0, none⟩) 3 3) : Value)) ∧ (vals 20 = (.int .i64 ((orL [(zC a.lam b.lam), (zC a.origin b.origin), (zC a.seq b.seq)])) : Value)) ∧ Sep G W ((RowE (α := Int) own 3 (.slice (some ⟨b165, 0, none⟩) 3 3) [(zC a.lam b.lam), (zC a.origin b.origin), (zC a.seq b.seq)]) :: pp0 :: TT) wq]) ((Blk b2 (a.cells da).toArray 36) :: Rs) (Blk b6 (b.cells db).toArray 36)) (AF [Vl 0 (.pointer (some ⟨b2, 2, none⟩)), Vl 1 (.int .i64 (a.lam)), Vl 2 (.pointer (some ⟨b6, 2, none⟩)), Vl 3 (.int .i64 (b.lam)), fun _ => True, Vl 5 (.pointer (some ⟨b2, 0, none⟩)), Vl 6 (.pointer (some ⟨b2, 0, none⟩)), Vl 7 (.int .i64 (a.origin)), Vl 8 (.pointer (some ⟨b6, 0, none⟩)), Vl 9 (.pointer (some ⟨b6, 0, none⟩)), Vl 10 (.int .i64 (b.origin)), fun _ => True, Vl 12 (.pointer (some ⟨b2, 0, none⟩)), Vl 13 (.pointer (some ⟨b2, 1, none⟩)), Vl 14 (.int .i64 (a.seq)), Vl 15 (.pointer (some ⟨b6, 0, none⟩)), Vl 16 (.pointer (some ⟨b6, 1, none⟩)), Vl 17 (.int .i64 (b.seq)), fun _ => True, fun _ => True, fun _ => True, Vl 21 (.int .i64 ((orL [(zC a.lam b.lam), (zC a.origin b.origin), (zC a.seq b.seq)])))]) [[], [0], [], [2], [0, 1, 2, 3], [], [5], [5, 6], [], [8], [8, 9], [0, 1, 2, 3, 4, 5, 6, 7, 8, 9, 10], [], [12], [12, 13], [], [15], [15, 16], [0, 1, 2, 3, 4, 5, 6, 7, 8, 9, 10, 11, 12, 13, 14, 15, 16, 17], [0, 1, 2, 3, 4, 5, 6, 7, 8, 9, 10, 11, 12, 13, 14, 15, 16, 17, 18], [0, 1, 2, 3, 4, 5, 6, 7, 8, 9, 10, 11, 12, 13, 14, 15, 16, 17, 18, 19], [0, 1, 2, 3, 4, 5, 6, 7, 8, 9, 10, 11, 12, 13, 14, 15, 16, 17, 18, 19, 20]] [4, 11, 18, 19, 20] [(0, 0), (0, 0), (0, 0), (0, 0), (0, 0), (0, 1), (0, 1), (0, 1), (0, 1), (0, 1), (0, 1), (1, 1), (0, 2), (0, 2), (0, 2), (0, 2), (0, 2), (0, 2), (2, 2), (3, 3), (4, 4), (5, 5)] (by kernel_rfl) (by kernel_rfl) (by kernel_rfl) rfl (by kernel_rfl) (by kernel_rfl) (fun _ h1 h2 h3 h4 _ => hS8.same h1 h2 h3 h4) ?_ (yc ⟨dA, dA, dA, dA, dT, dA, dA, dA, dA, dA, dA, dT, dA, dA, dA, dA, dA, dA, dT, dT, dT, dA, trivial⟩) ⟨?_, ?_, ?_, ?_, ?_, ?_, ?_, ?_, ?_, ?_, ?_, ?_, ?_, ?_, ?_, ?_, ?_, ?_, ?_, ?_, ?_, ?_, trivial⟩ ?_
 ·intro k vals vals' w hv h
  have e : ∀ j ∈ ([4, 11, 18, 19, 20] : List Nat), vals' j = vals j := hv
  match k, h with
  | 0, h => exact h
  | 1, h => exact (by simpa only [WF, List.getElem?_cons_zero, List.getElem?_cons_succ, e 4 (by decide)] using h)
  | 2, h => exact (by simpa only [WF, List.getElem?_cons_zero, List.getElem?_cons_succ, e 4 (by decide), e 11 (by decide)] using h)
  | 3, h => exact (by simpa only [WF, List.getElem?_cons_zero, List.getElem?_cons_succ, e 4 (by decide), e 11 (by decide), e 18 (by decide)] using h)
  | 4, h => exact (by simpa only [WF, List.getElem?_cons_zero, List.getElem?_cons_succ, e 4 (by decide), e 11 (by decide), e 18 (by decide), e 19 (by decide)] using h)
  | 5, h => exact (by simpa only [WF, List.getElem?_cons_zero, List.getElem?_cons_succ, e 4 (by decide), e 11 (by decide), e 18 (by decide), e 19 (by decide), e 20 (by decide)] using h)
  | _ + 6, _ => trivial
 ·intro k196 vals w197 h200 h201 hW199 hA198
  refine obl rfl ?_
  exact yO rfl (fun vals' hv _ => ⟨rfl, hv⟩)
 ·intro k202 vals w203 h206 h207 hW205 hA204
  obtain rfl : k202 = 0 := Nat.le_antisymm h207 h206
  have hS208 : Sep _ _ _ _ := hW205
  have e209 := hA204 0 (by decide)
  refine obl rfl ?_
  exact zg (v := .int .i64 (a.lam)) Try.isAgg3 e209 (zf (hS208.blk (i := 1) rfl) rfl) (fun vals' hv _ => ⟨rfl, hv⟩)
 ·intro k210 vals w211 h214 h215 hW213 hA212
  refine obl rfl ?_
  exact yO rfl (fun vals' hv _ => ⟨rfl, hv⟩)
 ·intro k216 vals w217 h220 h221 hW219 hA218
  obtain rfl : k216 = 0 := Nat.le_antisymm h221 h220
  have hS222 : Sep _ _ _ _ := hW219
  have e223 := hA218 2 (by decide)
  refine obl rfl ?_
  exact zg (v := .int .i64 (b.lam)) Try.isAgg3 e223 (zf (hS222.blk (i := 0) rfl) rfl) (fun vals' hv _ => ⟨rfl, hv⟩)
 ·intro k37 vals w38 h41 h42 hW40 hA39
  obtain rfl : k37 = 0 := Nat.le_antisymm h42 h41
  have hS43 : Sep _ _ _ _ := hW40
  have e44 := hA39 1 (by decide)
  have e45 := hA39 3 (by decide)
  refine obl rfl ?_
  refine (zj (f := 66) (vals := [.int .i64 (a.lam), .int .i64 (b.lam)]) (cap := []) rfl (xc ⟨e44, e45, trivial⟩) Try.call66 (XC  hS43) ?_)
  rintro _ w46 ⟨rfl, hS47⟩
  intro vals' hv hv'
  refine ⟨?_, trivial⟩
  show (vals' 4 = (.int .i64 ((zC a.lam b.lam)) : Value)) ∧ Sep G W ((Blk b6 (b.cells db).toArray 36) :: (Blk b2 (a.cells da).toArray 36) :: Rs) w46
  exact ⟨hv, hS47⟩
 ·intro k224 vals w225 h228 h229 hW227 hA226
  refine obl rfl ?_
  exact zS rfl (fun vals' hv _ => ⟨rfl, hv⟩)
 ·intro k230 vals w231 h234 h235 hW233 hA232
  have e236 := hA232 5 (by decide)
  refine obl rfl ?_
  exact yM e236 (fun vals' hv _ => ⟨rfl, hv⟩)
 ·intro k237 vals w238 h241 h242 hW240 hA239
  have hkk : k237 = 0 ∨ k237 = 1 := by have h1 : 0 ≤ k237 := h241; have h2 : k237 ≤ 1 := h242; omega
  rcases hkk with rfl | rfl
  ·skip
   have hS243 : Sep _ _ _ _ := hW240
   have e244 := hA239 6 (by decide)
   refine obl rfl ?_
   exact zg (v := .int .i64 (a.origin)) Try.isAgg3 e244 (zf (hS243.blk (i := 1) rfl) rfl) (fun vals' hv _ => ⟨rfl, hv⟩)
  ·skip
   obtain ⟨he48, hS245⟩ := hW240
   have e246 := hA239 6 (by decide)
   refine obl rfl ?_
   exact zg (v := .int .i64 (a.origin)) Try.isAgg3 e246 (zf (hS245.blk (i := 1) rfl) rfl) (fun vals' hv _ => ⟨rfl, hv⟩)
 ·intro k247 vals w248 h251 h252 hW250 hA249
  refine obl rfl ?_
  exact zS rfl (fun vals' hv _ => ⟨rfl, hv⟩)
 ·intro k253 vals w254 h257 h258 hW256 hA255
  have e259 := hA255 8 (by decide)
  refine obl rfl ?_
  exact yM e259 (fun vals' hv _ => ⟨rfl, hv⟩)
 ·intro k260 vals w261 h264 h265 hW263 hA262
  have hkk : k260 = 0 ∨ k260 = 1 := by have h1 : 0 ≤ k260 := h264; have h2 : k260 ≤ 1 := h265; omega
  rcases hkk with rfl | rfl
  ·skip
   have hS266 : Sep _ _ _ _ := hW263
   have e267 := hA262 9 (by decide)
   refine obl rfl ?_
   exact zg (v := .int .i64 (b.origin)) Try.isAgg3 e267 (zf (hS266.blk (i := 0) rfl) rfl) (fun vals' hv _ => ⟨rfl, hv⟩)
  ·skip
   obtain ⟨he48, hS268⟩ := hW263
   have e269 := hA262 9 (by decide)
   refine obl rfl ?_
   exact zg (v := .int .i64 (b.origin)) Try.isAgg3 e269 (zf (hS268.blk (i := 0) rfl) rfl) (fun vals' hv _ => ⟨rfl, hv⟩)
 ·intro k91 vals w92 h95 h96 hW94 hA93
  obtain rfl : k91 = 1 := Nat.le_antisymm h96 h95
  obtain ⟨he48, hS97⟩ := hW94
  have e98 := hA93 7 (by decide)
  have e99 := hA93 10 (by decide)
  refine obl rfl ?_
  refine (zj (f := 66) (vals := [.int .i64 (a.origin), .int .i64 (b.origin)]) (cap := []) rfl (xc ⟨e98, e99, trivial⟩) Try.call66 (XC  hS97) ?_)
  rintro _ w100 ⟨rfl, hS101⟩
  intro vals' hv hv'
  refine ⟨?_, trivial⟩
  show (vals' 4 = (.int .i64 ((zC a.lam b.lam)) : Value)) ∧ (vals' 11 = (.int .i64 ((zC a.origin b.origin)) : Value)) ∧ Sep G W ((Blk b6 (b.cells db).toArray 36) :: (Blk b2 (a.cells da).toArray 36) :: Rs) w100
  exact ⟨(by rw [hv' 4 (by decide)]; exact he48), hv, hS101⟩
 ·intro k270 vals w271 h274 h275 hW273 hA272
  refine obl rfl ?_
  exact zS rfl (fun vals' hv _ => ⟨rfl, hv⟩)
 ·intro k276 vals w277 h280 h281 hW279 hA278
  have e282 := hA278 12 (by decide)
  refine obl rfl ?_
  exact xg e282 (fun vals' hv _ => ⟨rfl, hv⟩)
 ·intro k283 vals w284 h287 h288 hW286 hA285
  have hkk : k283 = 0 ∨ k283 = 1 ∨ k283 = 2 := by have h1 : 0 ≤ k283 := h287; have h2 : k283 ≤ 2 := h288; omega
  rcases hkk with rfl | rfl | rfl
  ·skip
   have hS289 : Sep _ _ _ _ := hW286
   have e290 := hA285 13 (by decide)
   refine obl rfl ?_
   exact zg (v := .int .i64 (a.seq)) Try.isAgg3 e290 (zf (hS289.blk (i := 1) rfl) rfl) (fun vals' hv _ => ⟨rfl, hv⟩)
  ·skip
   obtain ⟨he48, hS291⟩ := hW286
   have e292 := hA285 13 (by decide)
   refine obl rfl ?_
   exact zg (v := .int .i64 (a.seq)) Try.isAgg3 e292 (zf (hS291.blk (i := 1) rfl) rfl) (fun vals' hv _ => ⟨rfl, hv⟩)
  ·skip
   obtain ⟨he48, he102, hS293⟩ := hW286
   have e294 := hA285 13 (by decide)
   refine obl rfl ?_
   exact zg (v := .int .i64 (a.seq)) Try.isAgg3 e294 (zf (hS293.blk (i := 1) rfl) rfl) (fun vals' hv _ => ⟨rfl, hv⟩)
 ·intro k295 vals w296 h299 h300 hW298 hA297
  refine obl rfl ?_
  exact zS rfl (fun vals' hv _ => ⟨rfl, hv⟩)
 ·intro k301 vals w302 h305 h306 hW304 hA303
  have e307 := hA303 15 (by decide)
  refine obl rfl ?_
  exact xg e307 (fun vals' hv _ => ⟨rfl, hv⟩)
 ·intro k308 vals w309 h312 h313 hW311 hA310
  have hkk : k308 = 0 ∨ k308 = 1 ∨ k308 = 2 := by have h1 : 0 ≤ k308 := h312; have h2 : k308 ≤ 2 := h313; omega
  rcases hkk with rfl | rfl | rfl
  ·skip
   have hS314 : Sep _ _ _ _ := hW311
   have e315 := hA310 16 (by decide)
   refine obl rfl ?_
   exact zg (v := .int .i64 (b.seq)) Try.isAgg3 e315 (zf (hS314.blk (i := 0) rfl) rfl) (fun vals' hv _ => ⟨rfl, hv⟩)
  ·skip
   obtain ⟨he48, hS316⟩ := hW311
   have e317 := hA310 16 (by decide)
   refine obl rfl ?_
   exact zg (v := .int .i64 (b.seq)) Try.isAgg3 e317 (zf (hS316.blk (i := 0) rfl) rfl) (fun vals' hv _ => ⟨rfl, hv⟩)
  ·skip
   obtain ⟨he48, he102, hS318⟩ := hW311
   have e319 := hA310 16 (by decide)
   refine obl rfl ?_
   exact zg (v := .int .i64 (b.seq)) Try.isAgg3 e319 (zf (hS318.blk (i := 0) rfl) rfl) (fun vals' hv _ => ⟨rfl, hv⟩)
 ·intro k145 vals w146 h149 h150 hW148 hA147
  obtain rfl : k145 = 2 := Nat.le_antisymm h150 h149
  obtain ⟨he48, he102, hS151⟩ := hW148
  have e152 := hA147 14 (by decide)
  have e153 := hA147 17 (by decide)
  refine obl rfl ?_
  refine (zj (f := 66) (vals := [.int .i64 (a.seq), .int .i64 (b.seq)]) (cap := []) rfl (xc ⟨e152, e153, trivial⟩) Try.call66 (XC  hS151) ?_)
  rintro _ w154 ⟨rfl, hS155⟩
  intro vals' hv hv'
  refine ⟨?_, trivial⟩
  show (vals' 4 = (.int .i64 ((zC a.lam b.lam)) : Value)) ∧ (vals' 11 = (.int .i64 ((zC a.origin b.origin)) : Value)) ∧ (vals' 18 = (.int .i64 ((zC a.seq b.seq)) : Value)) ∧ Sep G W ((Blk b6 (b.cells db).toArray 36) :: (Blk b2 (a.cells da).toArray 36) :: Rs) w154
  exact ⟨(by rw [hv' 4 (by decide)]; exact he48), (by rw [hv' 11 (by decide)]; exact he102), hv, hS155⟩
 ·intro k157 vals w158 h161 h162 hW160 hA159
  obtain rfl : k157 = 3 := Nat.le_antisymm h162 h161
  obtain ⟨he48, he102, he156, hS163⟩ := hW160
  refine obl rfl ?_
  refine (zD (k := 1) (parts' := [(0, .int .i64 ((zC a.lam b.lam))), (1, .int .i64 ((zC a.origin b.origin))), (2, .int .i64 ((zC a.seq b.seq)))]) (c := #[.int .i64 ((zC a.lam b.lam)), .int .i64 ((zC a.origin b.origin)), .int .i64 ((zC a.seq b.seq))]) Try.underlying34 Try.sizeOf3 Try.zeroValue3 (by decide) (Ve ⟨rfl, he48, rfl, he102, rfl, he156, trivial⟩) (by kernel_rfl) ?_)
  intro w166 b165 hn164
  have hS167 := hS163.new hn164
  intro vals' hv hv'
  refine ⟨?_, trivial⟩
  show ∃ (b165 : Nat), (vals' 4 = (.int .i64 ((zC a.lam b.lam)) : Value)) ∧ (vals' 11 = (.int .i64 ((zC a.origin b.origin)) : Value)) ∧ (vals' 18 = (.int .i64 ((zC a.seq b.seq)) : Value)) ∧ (vals' 19 = ((.slice (some ⟨b165, 0, none⟩) 3 3) : Value)) ∧ Sep G W ((Blk b165 #[.int .i64 ((zC a.lam b.lam)), .int .i64 ((zC a.origin b.origin)), .int .i64 ((zC a.seq b.seq))] 3) :: (Blk b6 (b.cells db).toArray 36) :: (Blk b2 (a.cells da).toArray 36) :: Rs) w166
  exact ⟨b165, (by rw [hv' 4 (by decide)]; exact he48), (by rw [hv' 11 (by decide)]; exact he102), (by rw [hv' 18 (by decide)]; exact he156), hv, hS167⟩
 ·intro k169 vals w170 h173 h174 hW172 hA171
  obtain rfl : k169 = 4 := Nat.le_antisymm h174 h173
  obtain ⟨b165, he48, he102, he156, he168, hS175⟩ := hW172
  refine obl rfl ?_
  have hS176 : Sep G W ((RowE (α := Int) own 3 (.slice (some ⟨b165, 0, none⟩) 3 3) [(zC a.lam b.lam), (zC a.origin b.origin), (zC a.seq b.seq)]) :: (Blk b6 (b.cells db).toArray 36) :: (Blk b2 (a.cells da).toArray 36) :: Rs) w170 := Sep.blkRow (src := own) (l := [(zC a.lam b.lam), (zC a.origin b.origin), (zC a.seq b.seq)]) (css := [[.int .i64 ((zC a.lam b.lam))], [.int .i64 ((zC a.origin b.origin))], [.int .i64 ((zC a.seq b.seq))]]) hS175 rfl ⟨fun _ _ => ⟨rfl, (Zq a.lam b.lam)⟩, fun _ _ => ⟨rfl, (Zq a.origin b.origin)⟩, fun _ _ => ⟨rfl, (Zq a.seq b.seq)⟩, trivial⟩ (by first | decide | (simp only [List.length_cons, List.length_nil]; decide)) (show 3 ≤ maxLen by decide)
  have hr177 := hS176.row (i := 0) rfl
  have hr177s : _ * 8 ≤ _ := hr177.2
  obtain ⟨G178, hA180, hB181, hS182, hk183⟩ := hS176.lend
  have hrd184 := RowE.rd hA180
  have hrd184s : _ * 8 ≤ _ := hrd184.small
  refine (zj (f := 65) (vals := [(.slice (some ⟨b165, 0, none⟩) 3 3)]) (cap := []) rfl (xc ⟨he168, trivial⟩) Try.call65 (D_or (l := [(zC a.lam b.lam), (zC a.origin b.origin), (zC a.seq b.seq)]) (vl := (.slice (some ⟨b165, 0, none⟩) 3 3)) hrd184 hS182) ?_)
  rintro _ w185 ⟨rfl, hS186⟩
  have hS187 := hk183 _ _ hS186
  intro vals' hv hv'
  refine ⟨?_, trivial⟩
  show ∃ (b165 : Nat), (vals' 4 = (.int .i64 ((zC a.lam b.lam)) : Value)) ∧ (vals' 11 = (.int .i64 ((zC a.origin b.origin)) : Value)) ∧ (vals' 18 = (.int .i64 ((zC a.seq b.seq)) : Value)) ∧ (vals' 19 = ((.slice (some ⟨b165, 0, none⟩) 3 3) : Value)) ∧ (vals' 20 = (.int .i64 ((orL [(zC a.lam b.lam), (zC a.origin b.origin), (zC a.seq b.seq)])) : Value)) ∧ Sep G W ((RowE (α := Int) own 3 (.slice (some ⟨b165, 0, none⟩) 3 3) [(zC a.lam b.lam), (zC a.origin b.origin), (zC a.seq b.seq)]) :: (Blk b6 (b.cells db).toArray 36) :: (Blk b2 (a.cells da).toArray 36) :: Rs) w185
  exact ⟨b165, (by rw [hv' 4 (by decide)]; exact he48), (by rw [hv' 11 (by decide)]; exact he102), (by rw [hv' 18 (by decide)]; exact he156), (by rw [hv' 19 (by decide)]; exact he168), hv, hS187⟩
 ·intro k320 vals w321 h324 h325 hW323 hA322
  obtain rfl : k320 = 5 := Nat.le_antisymm h325 h324
  obtain ⟨b165, he48, he102, he156, he168, he188, hS326⟩ := hW323
  refine obl rfl ?_
  exact zd (v := .int .i64 ((orL [(zC a.lam b.lam), (zC a.origin b.origin), (zC a.seq b.seq)]))) he188 (fun vals' hv _ => ⟨rfl, hv⟩)
 intro vals w327 hW328 hA329
 obtain ⟨b165, he48, he102, he156, he168, he188, hS330⟩ := hW328
 have e331 := hA329 21 (by decide)
 refine yb (kv := [(0, .agg (a.cells da).toArray), (1, .agg (b.cells db).toArray), (2, .pointer (some ⟨b2, 0, none⟩)), (3, .pointer (some ⟨b6, 0, none⟩)), (4, .int .i64 ((orL [(zC a.lam b.lam), (zC a.origin b.origin), (zC a.seq b.seq)])))]) ⟨rfl, rfl, rfl, rfl, (by exact e331), trivial⟩ (fun ρw327 => ?_)
 refine ze ?_
 refine zw ?_
 refine zL Try.results72 (show _ = (.int .i64 ((orL [(zC a.lam b.lam), (zC a.origin b.origin), (zC a.seq b.seq)])) : Value) from rfl) ?_
 have hS332 : Sep G W Rs w327 := hS330.sel 3 [] (Nat.le_add_left _ _) rfl rfl
 refine ⟨rfl, hS332⟩

theorem Km {W : World} {a b : Ev} {da db : Value} : Ret Try.prog 72 [.agg (a.cells da).toArray, .agg (b.cells db).toArray] W (fun r W' => r = .int .i64 (yt a b) ∧ Ext W W') :=
  Ret.mono (VD (Sep.start W)) (fun v w' ⟨h1, h2⟩ => ⟨h1, h2.fin⟩)
abbrev EvP := Ev × {v : Value // v.oneCell' = true}
instance : Inhabited EvP := ⟨(default, ⟨.slice none 0 0, rfl⟩)⟩
def EvP.cells (s : EvP) : List Value := s.1.cells s.2.1
instance : Rep EvP where
  k := 10
  rd _ _ cs s := cs = s.cells
  bytes := 96
  bpos := by decide
  kpos := by decide
  len h := by rw [h]; rfl
  one h := by rw [h]; rename_i s; exact yU ⟨rfl, rfl, rfl, s.2.2, rfl, rfl, rfl, rfl, rfl, rfl, trivial⟩
  mono h _ := h
theorem XJ {w : World} {F : Nat → Prop} : ∀ {css : List (List Value)} {l : List Ev}, Els w F css l → ∃ ls : List EvP, ls.map (·.1) = l ∧ Els w F css ls ∧ ∀ s ∈ ls, RdS w F s.2.1 s.1.deps ∧ s.1.Ok
  | [], [], _ => ⟨[], rfl, trivial, fun _ h => by cases h⟩
  | cs :: css, x :: l, h => by
    obtain ⟨⟨d, e, h1, h2⟩, h3⟩ := h
    obtain ⟨ls, h4, h5, h6⟩ := XJ h3
    refine ⟨(x, ⟨d, h1.sl.one⟩) :: ls, by simp [h4], ⟨e, h5⟩, fun s hs => ?_⟩
    rcases List.mem_cons.1 hs with rfl | hs
    · exact ⟨h1, h2⟩
    · exact h6 s hs
  | [], _ :: _, h => h.elim
  | _ :: _, [], h => h.elim
theorem Vb {w : World} {F : Nat → Prop} : ∀ {css : List (List Value)} {ls : List EvP}, Els w F css ls → (∀ s ∈ ls, RdS w F s.2.1 s.1.deps ∧ s.1.Ok) → Els w F css (ls.map (·.1))
  | [], [], _, _ => trivial
  | cs :: css, s :: ls, h, hs => by
    obtain ⟨h1, h2⟩ := h
    have h3 := hs s (List.mem_cons_self ..)
    exact ⟨⟨_, h1, h3.1, h3.2⟩, Vb h2 (fun s hs' => hs s (List.mem_cons_of_mem _ hs'))⟩
  | [], _ :: _, h, _ => h.elim
  | _ :: _, [], h, _ => h.elim
theorem yQ {a b : Ev} : yt a b < 0 ↔ a.lam < b.lam ∨ a.lam = b.lam ∧ (a.origin < b.origin ∨ a.origin = b.origin ∧ a.seq < b.seq) := by
  unfold yt orL orL orL orL zC
  by_cases h1 : a.lam < b.lam <;> by_cases h2 : b.lam < a.lam <;> by_cases h3 : a.origin < b.origin <;> by_cases h4 : b.origin < a.origin <;> by_cases h5 : a.seq < b.seq <;> by_cases h6 : b.seq < a.seq <;> simp only [h1, h2, h3, h4, h5, h6, if_true, if_false] <;> simp <;> omega
theorem QF : SWO (ltOf fun a b : EvP => yt a.1 b.1) := by
  refine ⟨fun x => ?_, fun x y z h1 h2 => ?_, fun x y z h1 h2 => ?_⟩
  · simp only [ltOf, decide_eq_false_iff_not, yQ]; omega
  · simp only [ltOf, decide_eq_true_eq, yQ] at *; omega
  · simp only [ltOf, decide_eq_false_iff_not, yQ] at *; omega
theorem Kg {G : Nat → Prop} {W w : World} {Rs : List HP} {v : Value} {l : List Ev} (hl : l.length < 4611686018427387904) (hS : Sep G W (RowE (α := Ev) own 36 v l :: Rs) w) :
    Ret Try.prog 71 [v, .func (.func 72) #[] #[]] w (fun r w' => ∃ l' : List Ev, r = (.tuple #[] : Value) ∧ l'.Perm l ∧ l'.Pairwise (fun a b => ¬ yt b a < 0) ∧ Sep G W (RowE (α := Ev) own 36 v l' :: Rs) w') := by
  obtain ⟨f, hA, hfl, hT⟩ := hS.take (i := 0) rfl
  have ho := RowE.toOwn hA
  obtain ⟨⟨css, hE, hown⟩, ha, hB, hs⟩ := ho
  obtain ⟨ls, rfl, hE2, hrd⟩ := XJ hE
  have ho2 : OwnS 36 0 w (fun b => (f b ∧ v.ownBlock ≠ some b) ∧ Soft w b) v ls := ⟨⟨css, hE2, by rw [List.length_map] at hown; exact hown⟩, ha, hB, by rw [List.length_map] at hs; exact hs⟩
  refine Ret.mono (VH (α := EvP) (enc := EvP.cells) Ks Try.isAgg36 Try.sizeOf36 (fun _ _ _ _ h => h) (fun _ => rfl) (fun s => yU ⟨rfl, rfl, rfl, s.2.2, rfl, rfl, rfl, rfl, rfl, rfl, trivial⟩) QF (cap := []) Try.call72 ho2 (fun _ _ _ => Km) (fun _ _ _ _ h => h) (by simpa using hl)) ?_
  rintro r w' ⟨rfl, hc, ls', hp, hso, ho3⟩
  refine ⟨ls'.map (·.1), rfl, hp.map _, ?_, ?_⟩
  · rw [List.pairwise_map]
    refine hso.imp fun {a b} h => ?_
    simpa [ltOf] using h
  · obtain ⟨⟨css', hE', hown'⟩, ha', hB', hs'⟩ := ho3
    have hF : ∀ b, ((f b ∧ v.ownBlock ≠ some b) ∧ Soft w b) → b < w.heap.size → w'.heap[b]? = w.heap[b]? ∧ ((f b ∧ v.ownBlock ≠ some b) ∧ Soft w b) := fun b hb hlt => ⟨hc.block b hlt hb.1.2, hb⟩
    have hr' : ∀ s ∈ ls', RdS w' (fun b => (f b ∧ v.ownBlock ≠ some b) ∧ Soft w b) s.2.1 s.1.deps ∧ s.1.Ok := fun s hs => ⟨(hrd s (hp.subset hs)).1.mono hF, (hrd s (hp.subset hs)).2⟩
    have ho4 : OwnS (α := Ev) 36 0 w' (fun b => (f b ∧ v.ownBlock ≠ some b) ∧ Soft w b) v (ls'.map (·.1)) := ⟨⟨css', Vb hE' hr', by rw [List.length_map]; exact hown'⟩, ha', hB', by rw [List.length_map]; exact hs'⟩
    have hvf : ∀ b, v.ownBlock = some b → f b := by
      obtain ⟨_, _, _, h3, _⟩ := hA
      exact h3
    exact hT w' _ f (hc.weak fun b _ hb => hvf b hb) (RowE.ofOwn ho4 (fun b hb => ⟨hb.1.1, hc.soft b hb.2⟩) hvf) (fun _ hb => .inl hb)
end Go.Proofs.Ytmiihhbeclhaoaa
end

section
/- Steps of the proofs of this seat: part A13. -/
set_option maxRecDepth 8000
set_option maxHeartbeats 4000000
namespace Go.Proofs.Ytmiihhbeclhaoaa
open Go.Proofs Go.RowKit Go.Sort Go.Shelf

theorem Qr {G : Nat → Prop} {W w : World} {Rs : List HP} {m : Nat} (hS0 : Sep G W Rs w) : Ret Try.prog 70 [.map (some m)] w (fun r w' => ∃ (bm : Nat), r = (.func (.func 76) #[] #[.pointer (some ⟨bm, 0, none⟩)] : Value) ∧ Sep G W ((Blk bm #[.map (some m)] 57) :: Rs) w') := by
 refine zp (args := [.map (some m)]) Try.func70 rfl rfl ?_
 refine zc ?_
 refine za (by kernel_rfl) (fun _ => ?_)
 refine st (yg (v := .map (some m)) rfl ?_)
 intro w3 b2 hn1
 have hS4 := hS0.new hn1
 refine st (zd (v := .nilFunc) rfl ?_)
 refine ze ?_
 refine zc ?_
 refine za (by kernel_rfl) (fun _ => ?_)
 refine st (xG (vals := [.pointer (some ⟨b2, 0, none⟩)]) rfl ?_)
 refine st (zd (v := .func (.func 76) #[] #[.pointer (some ⟨b2, 0, none⟩)]) rfl ?_)
 refine ze ?_
 refine zw ?_
 refine zL Try.results70 (show _ = (.func (.func 76) #[] #[.pointer (some ⟨b2, 0, none⟩)] : Value) from rfl) ?_
 refine ⟨b2, rfl, hS4⟩

def idE (e : Ev) : Int × Int := (e.origin, e.seq)
def Srt (L : List Ev) : Prop := L.Pairwise fun a b => yt a b < 0
theorem xP : ∀ {L : List Ev} {x : Ev}, (L.map idE).Nodup → x ∈ L → zq L (idE x) = some x
  | y :: L, x, hn, hx => by
    unfold zq
    rw [List.find?_cons]
    rcases List.mem_cons.1 hx with rfl | hx
    · simp [idE]
    · have hn2 := List.nodup_cons.1 (show (idE y :: L.map idE).Nodup from hn)
      have hne : ¬ (y.origin = (idE x).1 ∧ y.seq = (idE x).2) := fun h => hn2.1 (List.mem_map.2 ⟨x, hx, by unfold idE; rw [h.1, h.2]; rfl⟩)
      rw [decide_eq_false hne]
      exact xP hn2.2 hx
theorem WZ {L : List Ev} {k : Int × Int} : (zq L k).isSome = true ↔ k ∈ L.map idE := by
  constructor
  · intro h
    obtain ⟨x, hx⟩ := Option.isSome_iff_exists.1 h
    obtain ⟨h1, h2, h3⟩ := Zi hx
    exact List.mem_map.2 ⟨x, h1, by unfold idE; rw [h2, h3]⟩
  · intro h
    cases hg : zq L k with
    | some x => rfl
    | none =>
      obtain ⟨x, hx, rfl⟩ := List.mem_map.1 h
      exfalso
      unfold zq at hg
      rw [List.find?_eq_none] at hg
      exact hg x hx (by simp [idE])
theorem Qm {κ β : Type} [DecidableEq κ] {R : List (κ × β)} {k : κ} : (yz R k).isSome = true ↔ k ∈ R.map (·.1) := by
  unfold yz
  rw [Option.isSome_map, List.find?_isSome]
  constructor
  · rintro ⟨p, hp, hk⟩
    exact List.mem_map.2 ⟨p, hp, by simpa using hk⟩
  · intro h
    obtain ⟨p, hp, rfl⟩ := List.mem_map.1 h
    exact ⟨p, hp, by simp⟩
theorem WG {κ β : Type} [DecidableEq κ] : ∀ {R : List (κ × β)} {p : κ × β}, (R.map (·.1)).Nodup → p ∈ R → yz R p.1 = some p.2
  | q :: R, p, hn, hp => by
    unfold yz
    rw [List.find?_cons]
    rcases List.mem_cons.1 hp with rfl | hp
    · simp
    · have hn2 := List.nodup_cons.1 (show (q.1 :: R.map (·.1)).Nodup from hn)
      have hne : ¬ q.1 = p.1 := fun h => hn2.1 (List.mem_map.2 ⟨p, hp, h.symm⟩)
      rw [decide_eq_false hne]
      exact WG hn2.2 hp
theorem Xe {l : List Ev} : ∀ {S : List Ev}, l.Perm S → S.Pairwise (fun a b => yt a b < 0) → l.Pairwise (fun a b => ¬ yt b a < 0) → l = S := by
  induction l with
  | nil => intro S hp _ _; exact (List.nil_perm.1 hp).symm
  | cons a l ih =>
    intro S hp hS hl
    cases S with
    | nil => exact absurd hp.length_eq (by simp)
    | cons s S =>
      rw [List.pairwise_cons] at hS hl
      have ha : a ∈ s :: S := hp.subset (List.mem_cons_self ..)
      have hs : s ∈ a :: l := hp.symm.subset (List.mem_cons_self ..)
      have e : a = s := by
        rcases List.mem_cons.1 ha with h | h
        · exact h
        · rcases List.mem_cons.1 hs with h2 | h2
          · exact h2.symm
          · exact absurd (hS.1 a h) (hl.1 s h2)
      subst e
      rw [ih ((List.perm_cons a).1 hp) hS.2 hl.2]
def xT (R : List ((Int × Int) × Value)) (L : List Ev) (j : Nat) : Ev := (zq L ((R[j]?.map (·.1)).getD default)).getD default
section
variable {G : Nat → Prop} {W w : World} {Rs : List HP} {m n clock : Nat} {L : List Ev} {R : List ((Int × Int) × Value)} {es : Array MapEntry}
theorem SetR.place (h : SetR W G m R L) (hn : (R.map (·.1)).Nodup) (he : EntsV xd es.toList R) {j : Nat} (hj : j < es.toList.length) : ∃ vd, es.toList[j].val = .agg ((xT R L j).cells vd).toArray ∧ (xT R L j).Ok ∧ RdS W G vd (xT R L j).deps := by
  obtain ⟨p, hp, hk, hv⟩ := he.at_ (List.getElem?_eq_getElem hj)
  obtain ⟨x, vd, h1, h2, h3, h4, _⟩ := h.at_ p.1
  have hl := WG hn (List.mem_of_getElem? hp)
  rw [hl] at h2
  have e : xT R L j = x := by unfold xT; rw [hp, h1]; rfl
  rw [e]
  exact ⟨vd, hv.trans h2, h3, h4⟩
theorem SetR.perm (h : SetR W G m R L) (hn : (R.map (·.1)).Nodup) (hid : (L.map idE).Nodup) : ((List.range R.length).map (xT R L)).Perm L := by
  have h1 : (R.map (·.1)).Perm (L.map idE) := (List.perm_ext_iff_of_nodup hn hid).2 fun k => by
    rw [← Qm, ← WZ]
    obtain ⟨x, vd, _, _, _, _, h5⟩ := h.at_ k
    rw [h5]
  have h2 := h1.map (fun k => (zq L k).getD default)
  have e1 : (L.map idE).map (fun k => (zq L k).getD default) = L := by
    rw [List.map_map]
    conv => rhs; rw [← List.map_id L]
    refine List.map_congr_left fun x hx => ?_
    show (zq L (idE x)).getD default = id x
    rw [xP hid hx]; rfl
  rw [e1] at h2
  have e2 : (List.range R.length).map (xT R L) = (R.map (·.1)).map (fun k => (zq L k).getD default) := by
    refine List.ext_getElem (by simp) (fun i h3 h4 => ?_)
    simp at h3
    simp [xT, h3]
  rw [e2]; exact h2
end
def Jc (bis bo : Nat) (fis : FuncId) (caps : List Value) (p : Ev → Bool) (f : Nat → Ev) (idx : List Nat) : HP := Ex1 fun vo => Star [Blk bis #[.func (.func fis) #[] caps.toArray] 37, Blk bo #[vo] 22, RowE (α := Ev) own 36 vo ((idx.map f).filter p)]
theorem JC {G : Nat → Prop} {W w : World} {Rs : List HP} {b : Nat} {n : Nat} {L : List Ev} (hb : (SetO b n L).p W G) {fis : FuncId} {caps : List Value} {p : Ev → Bool} (hfis : ∀ args w, (callFunc fis args).run Try.prog w = .ok (.enter fis args) w) (hIs : ∀ {w : World} {Rs : List HP} {x : Ev} {dx0 : Value} (hdx0 : RdS W G dx0 x.deps) (ox : x.Ok), Sep G W Rs w → Ret Try.prog fis (.agg (x.cells dx0).toArray :: caps) w (fun r w' => r = (.bool (p x) : Value) ∧ Sep G W Rs w')) (hS0 : Sep G W Rs w) (hid : (L.map idE).Nodup) (hsr : Srt L) (hL : L.length ≤ 1000000) : Ret Try.prog 61 [.pointer (some ⟨b, 0, none⟩), .func (.func fis) #[] caps.toArray] w (fun r w' => ∃ (v : Value), r = (v : Value) ∧ Sep G W ((RowE (α := Ev) own 36 v (L.filter p)) :: Rs) w') := by
  obtain ⟨vv, m, R, hbk, hvv, hr⟩ := SetO.sh hb
  obtain ⟨es, clock, hes, hst, hent, hclk⟩ := hr.is
  have hnR : (R.map (·.1)).Nodup := IsMap.nodup hr.is
  have hlen : es.size = R.length := by have := hent.len; simpa using this
  have hpl := hr.perm hnR hid
  have hRL : R.length = L.length := by have := hpl.length_eq; simpa using this
  refine Vr (args := [.pointer (some ⟨b, 0, none⟩), .func (.func fis) #[] caps.toArray]) Try.func61 rfl rfl ?_
  refine Wc ?_
  refine za (by kernel_rfl) (fun _ => ?_)
  refine st (yg (v := .func (.func fis) #[] caps.toArray) rfl ?_)
  intro w1 bis hn1
  have hS1 := hS0.new hn1
  refine st (zd (v := (.slice none 0 0)) rfl ?_)
  refine ze ?_
  refine Wc ?_
  refine za (by kernel_rfl) (fun _ => ?_)
  refine st (ye Try.zeroValue22 ?_)
  intro w2 bo hn2
  have hS2 := hS1.new hn2
  refine ze ?_
  refine Kf ?_
  refine Wc ?_
  refine za (by kernel_rfl) (fun _ => ?_)
  refine st (zb (v := .pointer (some ⟨b, 0, none⟩)) rfl ?_)
  refine st (zn (b := b) (o := 0) rfl ?_)
  refine st (Yj rfl ?_)
  refine st (zg (v := .map (some m)) Try.isAgg57 rfl (zf (hS2.gblk hbk) rfl) ?_)
  refine st (zj (f := 70) (vals := [.map (some m)]) (cap := []) rfl rfl Try.call70 (Qr hS2) ?_)
  rintro _ w3 ⟨bm, rfl, hS3⟩
  refine ze ?_
  refine US ?_
  refine Xl (gf := 76) (lb := [.pointer (some ⟨bm, 0, none⟩)]) rfl Try.call76 ?_
  intro fn tm htm
  have hS4 := (hS3.objNew (Xs w3 (.deferred (some [])))).objNew (Xs _ (.loop { state := .ready, pending := none, fn, tmps := tm, params := #[12], assign := cA (xV Try.f61), body := cB (xV Try.f61), defers := w3.heap.size }))
  rw [show (w3.alloc (.deferred (some []))).heap.size = w3.heap.size + 1 from World.size_alloc ..] at hS4
  have hS5 := hS4.rowNil (α := Ev) own 36
  have hS6 := Sep.closeStar (Bs := [Blk bis #[.func (.func fis) #[] caps.toArray] 37, Blk bo #[.slice none 0 0] 22, RowE (α := Ev) own 36 (.slice none 0 0) []]) (hS5.sel 6 [5, 4, 0, 1, 3, 2] (Nat.le_add_left _ _) rfl rfl)
  have hS7 : Sep G W (Jc bis bo fis caps p (xT R L) [] :: _) _ := Sep.closeEx (A := fun vo => Star [Blk bis #[.func (.func fis) #[] caps.toArray] 37, Blk bo #[vo] 22, RowE (α := Ev) own 36 vo ((([] : List Nat).map (xT R L)).filter p)]) (.slice none 0 0) hS6
  refine Ret.mono (Jq (A := Jc bis bo fis caps p (xT R L)) hr.gm hes hst rfl (fun j hj => ?_) ?_ hS7) ?_
  · obtain ⟨vd, h1, _, h3⟩ := hr.place hnR hent hj
    exact ⟨_, vd, h1, h3.sl.one⟩
  · intro idx j hj v Fr w8 hv hlt hnd hS8
    obtain ⟨vd, hcv, hok, hrd⟩ := hr.place hnR hent hj
    rw [hcv] at hv
    subst hv
    refine QA (n := 24) htm (by decide) ?_
    refine xJ (by kernel_rfl) (fun _ => ?_)
    refine st (ye Try.zeroValue36 ?_)
    intro w9 b6 hn9
    have hS9 := hS8.new hn9
    refine stn (zY (v := .agg ((xT R L j).cells vd).toArray) (c' := ((xT R L j).cells vd).toArray) Try.sizeOf36 rfl rfl (hS9.blk (i := 0) rfl) (yU ⟨rfl, rfl, rfl, hrd.sl.one, rfl, rfl, rfl, rfl, rfl, rfl, trivial⟩) (Nat.le_of_ble_eq_true rfl) rfl ?_)
    intro w10 hp10
    have hS10 := hS9.put (i := 0) rfl hp10
    refine ze ?_
    refine ⟨_, run_beginRound (hS10.obj (i := 2) rfl) rfl, ?_⟩
    have hS11 := hS10.objPut (i := 2) (o' := .loop { state := .busy, pending := none, fn, tmps := tm, params := #[12], assign := cA (xV Try.f61), body := cB (xV Try.f61), defers := w3.heap.size }) rfl rfl
    obtain ⟨vo, hS12⟩ := (hS11.sel 3 [1, 0, 2] (Nat.le_add_left _ _) rfl rfl).openEx
    have hS13 := hS12.openStar
    have hS14 := hS13.sel 5 [3, 0, 1, 2, 4] (Nat.le_add_left _ _) rfl rfl
    refine KF (kv := [(3, .pointer (some ⟨bis, 0, none⟩)), (5, .pointer (some ⟨bo, 0, none⟩)), (6, .pointer (some ⟨b6, 0, none⟩))]) ⟨rfl, rfl, rfl, trivial⟩ (fun ρ => Uz hfis hIs hrd hok ?_ ?_ hS14)
    · have := List.length_filter_le p (idx.map (xT R L))
      rw [List.length_map] at this
      omega
    · intro σ' w15 vo' M' hM hS15
      refine ⟨_, _, run_endRound none (hS15.obj (i := 3) rfl), rfl, ?_⟩
      have hS16 := hS15.objPut (i := 3) (o' := .loop { state := .ready, pending := none, fn, tmps := tm, params := #[12], assign := cA (xV Try.f61), body := cB (xV Try.f61), defers := w3.heap.size }) rfl rfl
      have hM2 : M' = ((idx ++ [j]).map (xT R L)).filter p := by
        rw [hM, List.map_append, List.filter_append, List.map_cons, List.map_nil, List.filter_cons, List.filter_nil]
      rw [hM2] at hS16
      have hS17 := Sep.closeStar (Bs := [Blk bis #[.func (.func fis) #[] caps.toArray] 37, Blk bo #[vo'] 22, RowE (α := Ev) own 36 vo' (((idx ++ [j]).map (xT R L)).filter p)]) hS16
      exact Sep.closeEx (A := fun vo => Star [Blk bis #[.func (.func fis) #[] caps.toArray] 37, Blk bo #[vo] 22, RowE (α := Ev) own 36 vo (((idx ++ [j]).map (xT R L)).filter p)]) vo' hS17
  · rintro _ w9 ⟨idx, hperm, hS9⟩
    refine ⟨_, run_endLoop (hS9.obj (i := 1) rfl) (by simp), ?_⟩
    have hS10 := hS9.objPut (i := 1) (o' := .loop { state := .exhausted, pending := none, fn, tmps := tm, params := #[12], assign := cA (xV Try.f61), body := cB (xV Try.f61), defers := w3.heap.size }) rfl rfl
    obtain ⟨vo, hS11⟩ := hS10.openEx
    have hS12 := hS11.openStar
    have hS13 := hS12.sel 6 [2, 1, 5] (Nat.le_add_left _ _) rfl rfl
    have hpf : ((idx.map (xT R L)).filter p).Perm (L.filter p) := by
      have h1 := (hperm.map (xT R L))
      rw [hlen] at h1
      exact (h1.trans hpl).filter p
    refine Wg ?_
    refine xJ (by kernel_rfl) (fun _ => ?_)
    refine st (zg (v := vo) Try.isAgg22 rfl (zf (hS13.blk (i := 1) rfl) rfl) ?_)
    refine st (zj (f := 71) (vals := [vo, .func (.func 72) #[] #[]]) (cap := []) rfl rfl Try.call71 (Kg (by have h1 := hpf.length_eq; have h2 := List.length_filter_le p L; omega) hS13) ?_)
    rintro _ w14 ⟨l', rfl, hp', hso', hS14⟩
    refine ze ?_
    refine Wg ?_
    refine xJ (by kernel_rfl) (fun _ => ?_)
    refine st (zg (v := vo) Try.isAgg22 rfl (zf (hS14.blk (i := 1) rfl) rfl) ?_)
    refine st (zd (v := vo) rfl ?_)
    refine ze ?_
    refine KU ?_
    refine ⟨_, run_takeDeferred (hS14.obj (i := 2) rfl), zL Try.results61 (show _ = (vo : Value) from rfl) ⟨vo, rfl, ?_⟩⟩
    have hS15 := hS14.objPut (i := 2) (o' := .deferred none) rfl rfl
    have hl' : l' = L.filter p := Xe (hp'.trans hpf) (hsr.filter p) hso'
    rw [hl'] at hS15
    exact hS15.sel 3 [0] (Nat.le_add_left _ _) rfl rfl

end Go.Proofs.Ytmiihhbeclhaoaa
end

section
/- Steps of the proofs of this seat: part A14. -/
set_option maxRecDepth 8000
set_option maxHeartbeats 4000000
namespace Go.Proofs.Ytmiihhbeclhaoaa
open Go.Proofs Go.RowKit

def DepO (d : Value) (l : List Int) : HP := ⟨fun w f => RdS w (fun b => f b ∧ Soft w b) d l, fun h hf => h.mono fun b hb hlt => ⟨(hf b hb.1 hlt).1, (hf b hb.1 hlt).2, hb.2.keep (hf b hb.1 hlt).1⟩⟩
theorem DepO.rd {d : Value} {l : List Int} {w : World} {f : Nat → Prop} (h : (DepO d l).p w f) : RdS w f d l := RdS.weak h (fun _ _ hb => hb.1)
section
variable {G : Nat → Prop} {W w : World} {As : List HP} {T : TypeId} {v : Value} {l : List Ev}
theorem KD {P : Program} {K : Value → World → Prop} {d : Option Tmp} {ty : TypeId} {pos : String} {af : Array Edge} {g : Option (Nat × Bool)} {σ : Env} {t kt et : TypeId} {x : Operand} {m : Nat} {L : List Ev} {R : List ((Int × Int) × Value)} (h : Sep G W As w) (hr : SetR W G m R L) (hid : (L.map idE).Nodup) (hU : P.underlying t = some (.map kt et)) (hx : ev σ x = .map (some m))
    (hk : K (.int .i64 ((L.length : Nat) : Int)) w) : opV P ⟨d, .call ⟨.builtin .len, #[x], #[t]⟩, ty, pos, af, g⟩ σ w K := by
  obtain ⟨es, clock, hes, hst, hent, hclk⟩ := hr.is
  have hb := (h.gb hr.gm).trans hes
  have hlen : es.size = L.length := by
    have h1 := hent.len
    have h2 := (hr.perm (IsMap.nodup hr.is) hid).length_eq
    simp at h1 h2
    omega
  refine zN (v := .int .i64 ((L.length : Nat) : Int)) (w' := w) ?_ hk
  have := MapKept.run_getObj_map (P := P) hb
  simp [hx, Builtin.len_, run_underlying hU, goInt, go_sem, this, hlen]
end
theorem Ju {G : Nat → Prop} {W w : World} {Rs : List HP} {e : Ev} {de0 : Value} (hde0 : RdS W G de0 e.deps) (oe : e.Ok) (hS0 : Sep G W Rs w) : Ret Try.prog 62 [.agg (e.cells de0).toArray] w (fun r w' => r = (.bool true : Value) ∧ Sep G W Rs w') := by
 have hde0s : _ * 8 ≤ _ := hde0.small
 refine zp (args := [.agg (e.cells de0).toArray]) Try.func62 rfl rfl ?_
 refine zc ?_
 refine za (by kernel_rfl) (fun _ => ?_)
 refine st (yg (v := .agg (e.cells de0).toArray) rfl ?_)
 intro w3 b2 hn1
 have hS4 := hS0.new hn1
 refine st (zd (v := .bool false) rfl ?_)
 refine ze ?_
 refine zc ?_
 refine za (by kernel_rfl) (fun _ => ?_)
 refine st (zd (v := .bool true) rfl ?_)
 refine ze ?_
 refine zw ?_
 refine zL Try.results62 (show _ = (.bool true : Value) from rfl) ?_
 have hS5 : Sep G W Rs w3 := hS4.sel 1 [] (Nat.le_add_left _ _) rfl rfl
 refine ⟨rfl, hS5⟩

theorem D_Len {G : Nat → Prop} {W w : World} {Rs : List HP} {b : Nat} {n : Nat} {L : List Ev} (hb : (SetO b n L).p W G) (hS0 : Sep G W Rs w) (hid : (L.map idE).Nodup) : Ret Try.prog 35 [.pointer (some ⟨b, 0, none⟩)] w (fun r w' => r = (.int .i64 ((L.length : Nat) : Int) : Value) ∧ Sep G W Rs w') := by
 refine zp (args := [.pointer (some ⟨b, 0, none⟩)]) Try.func35 rfl rfl ?_
 obtain ⟨vv1, m2, R3, hb4, hv5, hr6⟩ := SetO.sh hb
 have hsm7 : (zz n L).length * 8 ≤ 140737488355328 := hv5.small
 refine zc ?_
 refine za (by kernel_rfl) (fun _ => ?_)
 refine st (zd (v := .int .i64 (0)) rfl ?_)
 refine ze ?_
 refine zc ?_
 refine za (by kernel_rfl) (fun _ => ?_)
 refine st (zb (v := .pointer (some ⟨b, 0, none⟩)) rfl ?_)
 refine st (zn (b := b) (o := 0) rfl ?_)
 refine st (Yj rfl ?_)
 refine st (zg (v := .map (some m2)) Try.isAgg57 rfl (zf (hS0.gblk hb4) rfl) ?_)
 refine st (KD hS0 hr6 hid Try.underlying57 rfl ?_)
 refine st (zd (v := .int .i64 ((L.length : Nat) : Int)) rfl ?_)
 refine ze ?_
 refine zw ?_
 refine zL Try.results35 (show _ = (.int .i64 ((L.length : Nat) : Int) : Value) from rfl) ?_
 refine ⟨rfl, hS0⟩

theorem Jf {G : Nat → Prop} {W w : World} {Rs : List HP} {b : Nat} {n : Nat} {L : List Ev} (hb : (SetO b n L).p W G) (hS0 : Sep G W Rs w) (hid : (L.map idE).Nodup) (hsr : Srt L) (hL : L.length ≤ 1000000) : Ret Try.prog 29 [.pointer (some ⟨b, 0, none⟩)] w (fun r w' => ∃ (v : Value), r = (v : Value) ∧ Sep G W ((RowE (α := Ev) own 36 v L) :: Rs) w') := by
 refine zp (args := [.pointer (some ⟨b, 0, none⟩)]) Try.func29 rfl rfl ?_
 obtain ⟨vv1, m2, R3, hb4, hv5, hr6⟩ := SetO.sh hb
 have hsm7 : (zz n L).length * 8 ≤ 140737488355328 := hv5.small
 refine zc ?_
 refine za (by kernel_rfl) (fun _ => ?_)
 refine st (zd (v := (.slice none 0 0)) rfl ?_)
 refine ze ?_
 refine zc ?_
 refine za (by kernel_rfl) (fun _ => ?_)
 refine st (zb (v := .pointer (some ⟨b, 0, none⟩)) rfl ?_)
 refine st (zj (f := 61) (vals := [.pointer (some ⟨b, 0, none⟩), .func (.func 62) #[] #[]]) (cap := []) rfl rfl Try.call61 (JC (p := fun _ => true) (caps := []) hb Try.call62 (fun hd9 ok9 hS9 => Ju hd9 ok9 hS9) hS0 (hid) (hsr) (hL)) ?_)
 rintro v8 w9 ⟨_, rfl, hS10⟩
 have hr11 := hS10.row (i := 0) rfl
 have hr11s : _ * 96 ≤ _ := hr11.2
 refine st (zd (v := v8) rfl ?_)
 refine ze ?_
 refine zw ?_
 refine zL Try.results29 (show _ = (v8 : Value) from rfl) ?_
 rw [List.filter_eq_self.2 (fun _ _ => rfl)] at hS10
 refine ⟨v8, rfl, hS10⟩

end Go.Proofs.Ytmiihhbeclhaoaa
end

section
/- Steps of the proofs of this seat: part A15. -/
set_option maxRecDepth 8000
set_option maxHeartbeats 4000000
namespace Go.Proofs.Ytmiihhbeclhaoaa
open Go.Proofs Go.RowKit

end Go.Proofs.Ytmiihhbeclhaoaa
end

section
/- Steps of the proofs of this seat: part A16. -/
set_option maxRecDepth 8000
set_option maxHeartbeats 4000000
namespace Go.Proofs.Ytmiihhbeclhaoaa
open Go.Proofs Go.RowKit

def yj (e : Ev) : List Ev → List Ev
  | [] => [e]
  | x :: l => if ltE e x = true then e :: x :: l else x :: yj e l
def QL (n : Nat) (L : List Ev) (e : Ev) : Bool := (List.range n).all (yN L e)
def zU (n : Nat) (L : List Ev) (e : Ev) : Int := if zI e n ≠ 0 then zI e n else if (zq L (e.origin, e.seq)).isSome = true then 16 else if e.seq ≠ ((xE L e.origin.toNat : Nat) : Int) + 1 then 9 else if QL n L e = true then 0 else 9
def addL (n : Nat) (L : List Ev) (e : Ev) : List Ev := if zU n L e = 0 then yj e L else L
section
variable {n : Nat} {L : List Ev} {e : Ev}
theorem XE (h : ¬ zI e n = 0) : zU n L e = zI e n := by unfold zU; rw [if_pos h]
theorem XG (h : zI e n = 0) (h2 : (zq L (e.origin, e.seq)).isSome = true) : zU n L e = 16 := by unfold zU; rw [if_neg (by simpa using h), if_pos h2]
theorem Xr (h : zI e n = 0) (h2 : (zq L (e.origin, e.seq)).isSome = false) (h3 : ¬ e.seq = ((xE L e.origin.toNat : Nat) : Int) + 1) : zU n L e = 9 := by unfold zU; rw [if_neg (by simpa using h), if_neg (by rw [h2]; decide), if_pos h3]
theorem XD (h : zI e n = 0) (h2 : (zq L (e.origin, e.seq)).isSome = false) (h3 : e.seq = ((xE L e.origin.toNat : Nat) : Int) + 1) {k : Nat} (hk : k < n) (h4 : yN L e k = false) : zU n L e = 9 := by
  unfold zU
  rw [if_neg (by simpa using h), if_neg (by rw [h2]; decide), if_neg (by simpa using h3), if_neg (fun h5 => ?_)]
  have := (List.all_eq_true.1 h5) k (List.mem_range.2 hk)
  rw [h4] at this; cases this
theorem Zj (h : zI e n = 0) (h2 : (zq L (e.origin, e.seq)).isSome = false) (h3 : e.seq = ((xE L e.origin.toNat : Nat) : Int) + 1) (h4 : ∀ i, i < n → yN L e i = true) : zU n L e = 0 := by
  unfold zU
  rw [if_neg (by simpa using h), if_neg (by rw [h2]; decide), if_neg (by simpa using h3), if_pos (show QL n L e = true from List.all_eq_true.2 fun i hi => h4 i (List.mem_range.1 hi))]
theorem yZ (h : ¬ zU n L e = 0) : addL n L e = L := if_neg h
theorem xF (h : zU n L e = 0) : addL n L e = yj e L := if_pos h
theorem yY (h : zI e n = 0) : (0 ≤ e.origin ∧ e.origin < n) ∧ (1 ≤ e.seq ∧ 1 ≤ e.lam) ∧ e.deps.length = n ∧ e.deps.getD e.origin.toNat 0 = e.seq - 1 := by
  unfold zI at h
  split at h
  · cases h
  · rename_i h1
    split at h
    · cases h
    · rename_i h2
      have h1' : (((((decide (e.origin < 0) || decide ((n : Int) ≤ e.origin)) || decide (min e.seq e.lam < 1)) || decide (min e.agg e.key < 0)) || !decide (((e.deps.length : Nat) : Int) = n)) || xU e.deps) = false := by simpa using h1
      simp only [Bool.or_eq_false_iff, decide_eq_false_iff_not, Bool.not_eq_false', decide_eq_true_eq] at h1'
      have h2' : e.deps.getD e.origin.toNat 0 = e.seq - 1 := by simpa using h2
      obtain ⟨⟨⟨⟨⟨a1, a2⟩, a3⟩, a4⟩, a5⟩, a6⟩ := h1'
      exact ⟨⟨by omega, by omega⟩, ⟨by omega, by omega⟩, by omega, h2'⟩
theorem insE_perm : ∀ {L : List Ev}, (yj e L).Perm (e :: L)
  | [] => List.Perm.refl _
  | x :: l => by
    unfold yj
    split
    · exact List.Perm.refl _
    · exact ((insE_perm (L := l)).cons x).trans (List.Perm.swap ..)
theorem YY : (yj e L).length = L.length + 1 := insE_perm.length_eq
theorem YF {o : Nat} : xE L o ≤ L.length := List.length_filter_le ..
theorem Wa {o : Nat} : xE (yj e L) o = xE L o + if e.origin = (o : Int) then 1 else 0 := by
  unfold xE
  rw [((insE_perm (e := e) (L := L)).filter _).length_eq, List.filter_cons]
  by_cases h : e.origin = (o : Int)
  · rw [if_pos (by simpa using h), if_pos h]; rfl
  · rw [if_neg (by simpa using h), if_neg h]; rfl
theorem Ue (h0 : 0 ≤ e.origin) (h1 : e.origin < n) : (zz n L).set e.origin.toNat (((xE L e.origin.toNat : Nat) : Int) + 1) = zz n (yj e L) := by
  refine List.ext_getElem (by simp [zz]) (fun i h2 h3 => ?_)
  simp only [List.length_set, xQ] at h2
  rw [List.getElem_set]
  simp only [zz, List.getElem_map, List.getElem_range]
  rw [Wa]
  by_cases h : e.origin.toNat = i
  · rw [if_pos h, if_pos (by omega), ← h]; omega
  · rw [if_neg h, if_neg (by omega)]; omega
theorem Qe {A B : List Ev} (h : A.Perm B) : xh A = xh B := by
  unfold xh
  induction h with
  | nil => rfl
  | cons x _ ih => simp only [List.foldr_cons, ih]
  | swap x y l => simp only [List.foldr_cons]; omega
  | trans _ _ h1 h2 => exact h1.trans h2
theorem KH : max (xh L) e.lam = xh (yj e L) := by rw [Qe insE_perm]; rfl
theorem Vc (h : (zq L (e.origin, e.seq)).isSome = false) : Yg (zq L) (e.origin, e.seq) e = zq (yj e L) := by
  funext k
  unfold Yg
  induction L with
  | nil =>
    simp only [yj, zq, List.find?_cons, List.find?_nil]
    obtain ⟨a, b⟩ := k
    by_cases hk : (e.origin, e.seq) = (a, b)
    · rw [if_pos hk]; cases hk; simp
    · rw [if_neg hk]; simp only [Prod.mk.injEq] at hk; simp [hk]
  | cons x l ih =>
    have hx : ¬ (x.origin = e.origin ∧ x.seq = e.seq) ∧ (zq l (e.origin, e.seq)).isSome = false := by
      unfold zq at h
      rw [List.find?_cons] at h
      by_cases hx : x.origin = e.origin ∧ x.seq = e.seq
      · rw [decide_eq_true hx] at h; cases h
      · rw [decide_eq_false hx] at h; exact ⟨hx, h⟩
    obtain ⟨a, b⟩ := k
    have ih := ih hx.2
    simp only [yj]
    by_cases hlt : ltE e x = true
    · rw [if_pos hlt]
      by_cases hk : (e.origin, e.seq) = (a, b)
      · rw [if_pos hk]; cases hk; simp [zq]
      · rw [if_neg hk]; simp only [Prod.mk.injEq] at hk; simp [zq, hk]
    · rw [if_neg hlt]
      unfold zq at ih ⊢
      rw [List.find?_cons, List.find?_cons]
      by_cases hxa : x.origin = a ∧ x.seq = b
      · have hk : ¬ (e.origin, e.seq) = (a, b) := fun hk => by cases hk; exact hx.1 hxa
        rw [if_neg hk, decide_eq_true hxa]
      · rw [decide_eq_false hxa]; exact ih
end
end Go.Proofs.Ytmiihhbeclhaoaa
end

section
/- Steps of the proofs of this seat: part A17. -/
set_option maxRecDepth 8000
set_option maxHeartbeats 4000000
namespace Go.Proofs.Ytmiihhbeclhaoaa
open Go.Proofs Go.RowKit

section
variable {G : Nat → Prop} {W w : World} {As : List HP} {vd : Value} {e : Ev}
theorem Jv (ho : e.Ok) (h : Sep G W (RowE (α := Int) own 3 vd e.deps :: As) w) : Sep G W (EV (.agg (e.cells vd).toArray) e :: As) w := h.impl (i := 0) rfl (fun _ h => ⟨vd, rfl, ho, h⟩)
theorem Ut {m : Nat} {X : Int × Int → Option Ev} {k : Int × Int} (h : Sep G W (MapO xd EV m X :: As) w) (hX : (X k).isSome = false) : Sep G W (ZS xd EV xI m X k xI :: As) w := by
  obtain ⟨v, hv, h1⟩ := h.mapoTake xI k
  have hn : X k = none := by rwa [Option.isSome_eq_false_iff, Option.isNone_iff_eq_none] at hX
  obtain rfl := hv hn
  exact h1.sel 2 [0] (Nat.le_add_left _ _) rfl rfl
end
theorem Qv {d : Option Tmp} {ty : TypeId} {pos : String} {af : Array Edge} {g : Option (Nat × Bool)} {σ : Env} {w : World} {K : Value → World → Prop} {x : Operand} {b o : Nat} (hx : ev σ x = .pointer (some ⟨b, o, none⟩)) (h : K (.pointer (some ⟨b, o + 2, none⟩)) w) : opV Try.prog ⟨d, .fieldAddr 59 x 2, ty, pos, af, g⟩ σ w K := zR Try.underlying59 rfl rfl (fun w => ⟨0, Try.sizeOf3 w⟩) hx h
theorem D_Add {G : Nat → Prop} {W w : World} {Rs : List HP} {b : Nat} {n : Nat} {L : List Ev} {e : Ev} {de0 : Value} (hde0 : RdS W G de0 e.deps) (oe : e.Ok) (hS0 : Sep G W ((SetO b n L) :: Rs) w) (hL : L.length ≤ 1000000) (hlen : ∀ y ∈ L, y.deps.length = n) : Ret Try.prog 13 [.pointer (some ⟨b, 0, none⟩), .agg (e.cells de0).toArray] w (fun r w' => ∃ (L1 : List Ev), r = (.int .i64 ((zU n L e)) : Value) ∧ (L1 = addL n L e) ∧ Sep G W ((SetO b n L1) :: Rs) w') := by
 have hde0s : _ * 8 ≤ _ := hde0.small
 refine zp (args := [.pointer (some ⟨b, 0, none⟩), .agg (e.cells de0).toArray]) Try.func13 rfl rfl ?_
 refine zc ?_
 obtain ⟨G1, hA3, hB4, hS5, hk6⟩ := hS0.lend
 obtain ⟨vv7, m8, R9, hb10, hv11, hr12⟩ := SetO.sh hA3
 have hsm13 : (zz n L).length * 8 ≤ 140737488355328 := hv11.small
 have hvl9 : (zz n L).length = n := xQ
 refine za (by kernel_rfl) (fun _ => ?_)
 refine st (yg (v := .agg (e.cells de0).toArray) rfl ?_)
 intro w16 b15 hn14
 have hS17 := hS5.new hn14
 refine st (zd (v := .int .i64 (0)) rfl ?_)
 refine ze ?_
 refine zc ?_
 refine zc ?_
 refine zM ((fun pp0 => WF [fun vals wq => Sep G1 w (pp0 :: Rs) wq, fun vals wq => (vals 6 = (.int .i64 ((zI e (((zz n L).length : Nat) : Int))) : Value)) ∧ Sep G1 w (pp0 :: Rs) wq]) (Blk b15 (e.cells de0).toArray 36)) (AF [Vl 0 (.agg (e.cells de0).toArray), Vl 1 (.pointer (some ⟨b, 0, none⟩)), Vl 2 (.pointer (some ⟨b, 0, none⟩)), Vl 3 (.pointer (some ⟨b, 0, none⟩)), Vl 4 (vv7), Vl 5 (.int .i64 (((zz n L).length : Nat) : Int)), fun _ => True, Vl 7 (.int .i64 ((zI e (((zz n L).length : Nat) : Int))))]) [[], [], [1], [1, 2], [1, 2, 3], [1, 2, 3, 4], [0, 1, 2, 3, 4, 5], [0, 1, 2, 3, 4, 5, 6]] [6] [(0, 0), (0, 0), (0, 0), (0, 0), (0, 0), (0, 0), (0, 0), (1, 1)] (by kernel_rfl) (by kernel_rfl) (by kernel_rfl) rfl (by kernel_rfl) (by kernel_rfl) (fun _ h1 h2 h3 h4 _ => hS17.same h1 h2 h3 h4) ?_ (yc ⟨dA, dA, dA, dA, dA, dA, dT, dA, trivial⟩) ⟨?_, ?_, ?_, ?_, ?_, ?_, ?_, ?_, trivial⟩ ?_
 ·intro k vals vals' w hv h
  have e : ∀ j ∈ ([6] : List Nat), vals' j = vals j := hv
  match k, h with
  | 0, h => exact h
  | 1, h => exact (by simpa only [WF, List.getElem?_cons_zero, List.getElem?_cons_succ, e 6 (by decide)] using h)
  | _ + 2, _ => trivial
 ·intro k80 vals w81 h84 h85 hW83 hA82
  obtain rfl : k80 = 0 := Nat.le_antisymm h85 h84
  have hS86 : Sep _ _ _ _ := hW83
  refine obl rfl ?_
  exact zr (k := 10) Try.isAgg36 Try.sizeOf36 rfl rfl (CellsAt.all (hS86.blk (i := 0) rfl)) (fun vals' hv _ => ⟨rfl, hv⟩)
 ·intro k87 vals w88 h91 h92 hW90 hA89
  refine obl rfl ?_
  exact zb (v := .pointer (some ⟨b, 0, none⟩)) rfl (fun vals' hv _ => ⟨rfl, hv⟩)
 ·intro k93 vals w94 h97 h98 hW96 hA95
  have e99 := hA95 1 (by decide)
  refine obl rfl ?_
  exact zn (b := b) (o := 0) e99 (fun vals' hv _ => ⟨rfl, hv⟩)
 ·intro k100 vals w101 h104 h105 hW103 hA102
  have e106 := hA102 2 (by decide)
  refine obl rfl ?_
  exact YV e106 (fun vals' hv _ => ⟨rfl, hv⟩)
 ·intro k107 vals w108 h111 h112 hW110 hA109
  obtain rfl : k107 = 0 := Nat.le_antisymm h112 h111
  have hS113 : Sep _ _ _ _ := hW110
  have e114 := hA109 3 (by decide)
  refine obl rfl ?_
  exact zg (v := vv7) Try.isAgg34 e114 (zf (hS113.gblk hb10) rfl) (fun vals' hv _ => ⟨rfl, hv⟩)
 ·intro k115 vals w116 h119 h120 hW118 hA117
  obtain rfl : k115 = 0 := Nat.le_antisymm h120 h119
  have hS121 : Sep _ _ _ _ := hW118
  have e122 := hA117 4 (by decide)
  refine obl rfl ?_
  exact zJ (n := (zz n L).length) Try.underlying34 e122 hv11.sl (fun vals' hv _ => ⟨rfl, hv⟩)
 ·intro k61 vals w62 h65 h66 hW64 hA63
  obtain rfl : k61 = 0 := Nat.le_antisymm h66 h65
  have hS67 : Sep _ _ _ _ := hW64
  have e68 := hA63 0 (by decide)
  have e69 := hA63 5 (by decide)
  refine obl rfl ?_
  refine (zj (f := 36) (vals := [.agg (e.cells de0).toArray, .int .i64 (((zz n L).length : Nat) : Int)]) (cap := []) rfl (xc ⟨e68, e69, trivial⟩) Try.call36 (Kt (e := e) (n := (((zz n L).length : Nat) : Int)) (RdS.base hde0 hB4) oe (by have : (zz n L).length * 8 ≤ 140737488355328 := hv11.small; omega) hS67) ?_)
  rintro _ w70 ⟨rfl, hS71⟩
  intro vals' hv hv'
  refine ⟨?_, trivial⟩
  show (vals' 6 = (.int .i64 ((zI e (((zz n L).length : Nat) : Int))) : Value)) ∧ Sep G1 w ((Blk b15 (e.cells de0).toArray 36) :: Rs) w70
  exact ⟨hv, hS71⟩
 ·intro k123 vals w124 h127 h128 hW126 hA125
  obtain rfl : k123 = 1 := Nat.le_antisymm h128 h127
  obtain ⟨he72, hS129⟩ := hW126
  refine obl rfl ?_
  exact zd (v := .int .i64 ((zI e (((zz n L).length : Nat) : Int)))) he72 (fun vals' hv _ => ⟨rfl, hv⟩)
 intro vals w130 hW131 hA132
 obtain ⟨he72, hS133⟩ := hW131
 have e134 := hA132 7 (by decide)
 refine yb (kv := [(0, .pointer (some ⟨b, 0, none⟩)), (1, .agg (e.cells de0).toArray), (3, .pointer (some ⟨b15, 0, none⟩)), (4, .int .i64 (0)), (5, .int .i64 ((zI e (((zz n L).length : Nat) : Int))))]) ⟨rfl, rfl, rfl, rfl, (by exact e134), trivial⟩ (fun ρw130 => ?_)
 refine ze ?_
 refine zc ?_
 refine za (by kernel_rfl) (fun _ => ?_)
 refine st (zb (v := .int .i64 ((zI e (((zz n L).length : Nat) : Int)))) rfl ?_)
 refine st (yH (k := .i64) (a := (zI e (((zz n L).length : Nat) : Int))) (b := 0) rfl rfl ?_)
 refine ze ?_
 cases hc135 : !decide ((zI e (((zz n L).length : Nat) : Int)) = 0)
 ·skip
  have hc135 := yh hc135
  rw [hvl9] at hc135
  obtain ⟨⟨ho9, ho9'⟩, ⟨hs9, hl9⟩, hd9, hq9⟩ := yY hc135
  have hv9 : (zz n L).getD e.origin.toNat 0 = ((xE L e.origin.toNat : Nat) : Int) := ZI (by omega)
  have hcl9 := YF (L := L) (o := e.origin.toNat)
  refine zi rfl ?_
  refine zo ?_
  refine zc ?_
  refine zc ?_
  obtain ⟨x136, vd137, hx138, hv139, hok140, hd141, hb142⟩ := hr12.at_ (e.origin, e.seq)
  have hsm143 : x136.deps.length * 8 ≤ 140737488355328 := hd141.small
  refine zM ((fun pp0 => WF [fun vals wq => Sep G1 w (pp0 :: Rs) wq, fun vals wq => ∃ (b224 : Nat), (vals 10 = (.pointer (some ⟨b224, 0, none⟩) : Value)) ∧ Sep G1 w ((Blk b224 #[.int .i64 (0), .int .i64 (0), .int .i64 (0), (.slice none 0 0), .int .i64 (0), .int .i64 (0), .int .i64 (0), .int .i64 (0), .int .i64 (0), .int .i64 (0)] 36) :: pp0 :: Rs) wq, fun vals wq => ∃ (b224 : Nat), (vals 10 = (.pointer (some ⟨b224, 0, none⟩) : Value)) ∧ Sep G1 w ((Blk b224 (x136.cells vd137).toArray 36) :: pp0 :: Rs) wq]) (Blk b15 (e.cells de0).toArray 36)) (AF [Vl 0 (.pointer (some ⟨b, 0, none⟩)), Vl 1 (.pointer (some ⟨b, 0, none⟩)), Vl 2 (.pointer (some ⟨b, 1, none⟩)), Vl 3 (.map (some m8)), Vl 4 (.pointer (some ⟨b15, 0, none⟩)), Vl 5 (.agg #[.int .i64 (e.origin), .int .i64 (e.seq)]), Vl 6 (.tuple #[.agg (x136.cells vd137).toArray, .bool ((zq L (e.origin, e.seq)).isSome)]), Vl 7 (.tuple #[.agg (x136.cells vd137).toArray, .bool ((zq L (e.origin, e.seq)).isSome)]), Vl 8 (.agg (x136.cells vd137).toArray), Vl 9 (.bool ((zq L (e.origin, e.seq)).isSome)), fun _ => True, fun _ => True, Vl 12 (.bool ((zq L (e.origin, e.seq)).isSome))]) [[], [0], [0, 1], [0, 1, 2], [], [4], [0, 1, 2, 3, 4, 5], [0, 1, 2, 3, 4, 5, 6], [0, 1, 2, 3, 4, 5, 6, 7], [0, 1, 2, 3, 4, 5, 6, 7], [], [0, 1, 2, 3, 4, 5, 6, 7, 8, 10], [0, 1, 2, 3, 4, 5, 6, 7, 8, 9, 10, 11]] [10, 11] [(0, 1), (0, 1), (0, 1), (0, 1), (0, 1), (0, 1), (0, 1), (0, 1), (0, 1), (0, 2), (0, 0), (1, 1), (2, 2)] (by kernel_rfl) (by kernel_rfl) (by kernel_rfl) rfl (by kernel_rfl) (by kernel_rfl) (fun _ h1 h2 h3 h4 _ => hS133.same h1 h2 h3 h4) ?_ (yc ⟨dA, dA, dA, dA, dA, dA, dA, dA, dA, dA, dT, dT, dA, trivial⟩) ⟨?_, ?_, ?_, ?_, ?_, ?_, ?_, ?_, ?_, ?_, ?_, ?_, ?_, trivial⟩ ?_
  ·intro k vals vals' w hv h
   have e : ∀ j ∈ ([10, 11] : List Nat), vals' j = vals j := hv
   match k, h with
   | 0, h => exact h
   | 1, h => exact (by simpa only [WF, List.getElem?_cons_zero, List.getElem?_cons_succ, e 10 (by decide)] using h)
   | 2, h => exact (by simpa only [WF, List.getElem?_cons_zero, List.getElem?_cons_succ, e 10 (by decide)] using h)
   | _ + 3, _ => trivial
  ·intro k246 vals w247 h250 h251 hW249 hA248
   refine obl rfl ?_
   exact zb (v := .pointer (some ⟨b, 0, none⟩)) rfl (fun vals' hv _ => ⟨rfl, hv⟩)
  ·intro k252 vals w253 h256 h257 hW255 hA254
   have e258 := hA254 0 (by decide)
   refine obl rfl ?_
   exact zn (b := b) (o := 0) e258 (fun vals' hv _ => ⟨rfl, hv⟩)
  ·intro k259 vals w260 h263 h264 hW262 hA261
   have e265 := hA261 1 (by decide)
   refine obl rfl ?_
   exact Yj e265 (fun vals' hv _ => ⟨rfl, hv⟩)
  ·intro k266 vals w267 h270 h271 hW269 hA268
   have hkk : k266 = 0 ∨ k266 = 1 := by have h1 : 0 ≤ k266 := h270; have h2 : k266 ≤ 1 := h271; omega
   rcases hkk with rfl | rfl
   ·skip
    have hS272 : Sep _ _ _ _ := hW269
    have e273 := hA268 2 (by decide)
    refine obl rfl ?_
    exact zg (v := .map (some m8)) Try.isAgg57 e273 (zf (hS272.gblk hb10) rfl) (fun vals' hv _ => ⟨rfl, hv⟩)
   ·skip
    obtain ⟨b224, he227, hS274⟩ := hW269
    have e275 := hA268 2 (by decide)
    refine obl rfl ?_
    exact zg (v := .map (some m8)) Try.isAgg57 e275 (zf (hS274.gblk hb10) rfl) (fun vals' hv _ => ⟨rfl, hv⟩)
  ·intro k276 vals w277 h280 h281 hW279 hA278
   refine obl rfl ?_
   exact zS rfl (fun vals' hv _ => ⟨rfl, hv⟩)
  ·intro k282 vals w283 h286 h287 hW285 hA284
   have hkk : k282 = 0 ∨ k282 = 1 := by have h1 : 0 ≤ k282 := h286; have h2 : k282 ≤ 1 := h287; omega
   rcases hkk with rfl | rfl
   ·skip
    have hS288 : Sep _ _ _ _ := hW285
    have e289 := hA284 4 (by decide)
    refine obl rfl ?_
    exact zr (k := 2) (cs := [.int .i64 (e.origin), .int .i64 (e.seq)]) Try.isAgg33 Try.sizeOf33 rfl e289 (CellsAt.sub (CellsAt.all (hS288.blk (i := 0) rfl)) 0 (cs2 := [.int .i64 (e.origin), .int .i64 (e.seq)]) rfl) (fun vals' hv _ => ⟨rfl, hv⟩)
   ·skip
    obtain ⟨b224, he227, hS290⟩ := hW285
    have e291 := hA284 4 (by decide)
    refine obl rfl ?_
    exact zr (k := 2) (cs := [.int .i64 (e.origin), .int .i64 (e.seq)]) Try.isAgg33 Try.sizeOf33 rfl e291 (CellsAt.sub (CellsAt.all (hS290.blk (i := 1) rfl)) 0 (cs2 := [.int .i64 (e.origin), .int .i64 (e.seq)]) rfl) (fun vals' hv _ => ⟨rfl, hv⟩)
  ·intro k292 vals w293 h296 h297 hW295 hA294
   have hkk : k292 = 0 ∨ k292 = 1 := by have h1 : 0 ≤ k292 := h296; have h2 : k292 ≤ 1 := h297; omega
   rcases hkk with rfl | rfl
   ·skip
    have hS298 : Sep _ _ _ _ := hW295
    have e299 := hA294 3 (by decide)
    have e300 := hA294 5 (by decide)
    refine obl rfl ?_
    exact xM (k := (e.origin, e.seq)) hS298 hr12 K2 Try.underlying57 Try.zeroValue36 e299 (show _ = (.agg #[.int .i64 (e.origin), .int .i64 (e.seq)] : Value) from e300) hv139 hb142 (fun vals' hv _ => ⟨rfl, hv⟩)
   ·skip
    obtain ⟨b224, he227, hS301⟩ := hW295
    have e302 := hA294 3 (by decide)
    have e303 := hA294 5 (by decide)
    refine obl rfl ?_
    exact xM (k := (e.origin, e.seq)) hS301 hr12 K2 Try.underlying57 Try.zeroValue36 e302 (show _ = (.agg #[.int .i64 (e.origin), .int .i64 (e.seq)] : Value) from e303) hv139 hb142 (fun vals' hv _ => ⟨rfl, hv⟩)
  ·intro k304 vals w305 h308 h309 hW307 hA306
   have e310 := hA306 6 (by decide)
   refine obl rfl ?_
   exact zb (v := .tuple #[.agg (x136.cells vd137).toArray, .bool ((zq L (e.origin, e.seq)).isSome)]) e310 (fun vals' hv _ => ⟨rfl, hv⟩)
  ·intro k311 vals w312 h315 h316 hW314 hA313
   have e317 := hA313 7 (by decide)
   refine obl rfl ?_
   exact zV (vs := [.agg (x136.cells vd137).toArray, .bool ((zq L (e.origin, e.seq)).isSome)]) (i := 0) (v := .agg (x136.cells vd137).toArray) e317 rfl (fun vals' hv _ => ⟨rfl, hv⟩)
  ·intro k318 vals w319 h322 h323 hW321 hA320
   have e324 := hA320 7 (by decide)
   refine obl rfl ?_
   exact zV (vs := [.agg (x136.cells vd137).toArray, .bool ((zq L (e.origin, e.seq)).isSome)]) (i := 1) (v := .bool ((zq L (e.origin, e.seq)).isSome)) e324 rfl (fun vals' hv _ => ⟨rfl, hv⟩)
  ·intro k216 vals w217 h220 h221 hW219 hA218
   obtain rfl : k216 = 0 := Nat.le_antisymm h221 h220
   have hS222 : Sep _ _ _ _ := hW219
   refine obl rfl ?_
   refine (ye Try.zeroValue36 ?_)
   intro w225 b224 hn223
   have hS226 := hS222.new hn223
   intro vals' hv hv'
   refine ⟨?_, trivial⟩
   show ∃ (b224 : Nat), (vals' 10 = (.pointer (some ⟨b224, 0, none⟩) : Value)) ∧ Sep G1 w ((Blk b224 #[.int .i64 (0), .int .i64 (0), .int .i64 (0), (.slice none 0 0), .int .i64 (0), .int .i64 (0), .int .i64 (0), .int .i64 (0), .int .i64 (0), .int .i64 (0)] 36) :: (Blk b15 (e.cells de0).toArray 36) :: Rs) w225
   exact ⟨b224, hv, hS226⟩
  ·intro k228 vals w229 h232 h233 hW231 hA230
   obtain rfl : k228 = 1 := Nat.le_antisymm h233 h232
   obtain ⟨b224, he227, hS234⟩ := hW231
   have e235 := hA230 8 (by decide)
   refine obl rfl ?_
   refine (zY (v := .agg (x136.cells vd137).toArray) (c' := (x136.cells vd137).toArray) Try.sizeOf36 he227 e235 (hS234.blk (i := 0) rfl) (yU ⟨rfl, rfl, rfl, hd141.sl.one, rfl, rfl, rfl, rfl, rfl, rfl, trivial⟩) (Nat.le_of_ble_eq_true rfl) rfl ?_)
   intro w236 hp237
   have hS238 := hS234.pt0 hp237
   intro vals' hv hv'
   refine ⟨?_, trivial⟩
   show ∃ (b224 : Nat), (vals' 10 = (.pointer (some ⟨b224, 0, none⟩) : Value)) ∧ Sep G1 w ((Blk b224 (x136.cells vd137).toArray 36) :: (Blk b15 (e.cells de0).toArray 36) :: Rs) w236
   exact ⟨b224, (by rw [hv' 10 (by decide)]; exact he227), hS238⟩
  ·intro k325 vals w326 h329 h330 hW328 hA327
   have e331 := hA327 9 (by decide)
   refine obl rfl ?_
   exact zd (v := .bool ((zq L (e.origin, e.seq)).isSome)) e331 (fun vals' hv _ => ⟨rfl, hv⟩)
  intro vals w332 hW333 hA334
  obtain ⟨b224, he227, hS335⟩ := hW333
  have e336 := hA334 12 (by decide)
  refine yb (kv := [(0, .pointer (some ⟨b, 0, none⟩)), (1, .agg (e.cells de0).toArray), (3, .pointer (some ⟨b15, 0, none⟩)), (4, .int .i64 (0)), (5, .int .i64 ((zI e (((zz n L).length : Nat) : Int)))), (16, .int .i64 ((zI e (((zz n L).length : Nat) : Int)))), (17, .bool false), (7, .bool ((zq L (e.origin, e.seq)).isSome))]) ⟨rfl, rfl, rfl, rfl, rfl, rfl, rfl, (by exact e336), trivial⟩ (fun ρw332 => ?_)
  refine ze ?_
  refine zc ?_
  refine za (by kernel_rfl) (fun _ => ?_)
  refine st (zb (v := .bool ((zq L (e.origin, e.seq)).isSome)) rfl ?_)
  refine ze ?_
  cases hc337 : (zq L (e.origin, e.seq)).isSome
  ·skip
   refine zi rfl ?_
   refine zo ?_
   refine zc ?_
   refine zc ?_
   refine zM (WF [fun vals wq => Sep G1 w ((Blk b224 (x136.cells vd137).toArray 36) :: (Blk b15 (e.cells de0).toArray 36) :: Rs) wq]) (AF [Vl 0 (.pointer (some ⟨b15, 0, none⟩)), Vl 1 (.pointer (some ⟨b15, 1, none⟩)), Vl 2 (.int .i64 (e.seq)), Vl 3 (.pointer (some ⟨b, 0, none⟩)), Vl 4 (.pointer (some ⟨b, 0, none⟩)), Vl 5 (.pointer (some ⟨b, 0, none⟩)), Vl 6 (vv7), Vl 7 (.pointer (some ⟨b15, 0, none⟩)), Vl 8 (.pointer (some ⟨b15, 0, none⟩)), Vl 9 (.int .i64 (e.origin)), Vl 10 (.pointer (some ⟨sb vv7, so vv7 + e.origin.toNat * 1, none⟩)), Vl 11 (.int .i64 (((zz n L).getD e.origin.toNat 0))), Vl 12 (.int .i64 (((zz n L).getD e.origin.toNat 0) + 1)), Vl 13 (.bool (!decide (e.seq = (((zz n L).getD e.origin.toNat 0) + 1))))]) [[], [0], [0, 1], [], [3], [3, 4], [3, 4, 5], [], [7], [7, 8], [3, 4, 5, 6, 7, 8, 9], [3, 4, 5, 6, 7, 8, 9, 10], [3, 4, 5, 6, 7, 8, 9, 10, 11], [0, 1, 2, 3, 4, 5, 6, 7, 8, 9, 10, 11, 12]] [] [(0, 0), (0, 0), (0, 0), (0, 0), (0, 0), (0, 0), (0, 0), (0, 0), (0, 0), (0, 0), (0, 0), (0, 0), (0, 0), (0, 0)] (by kernel_rfl) (by kernel_rfl) (by kernel_rfl) rfl (by kernel_rfl) (by kernel_rfl) (fun _ h1 h2 h3 h4 _ => hS335.same h1 h2 h3 h4) ?_ (yc ⟨dA, dA, dA, dA, dA, dA, dA, dA, dA, dA, dA, dA, dA, dA, trivial⟩) ⟨?_, ?_, ?_, ?_, ?_, ?_, ?_, ?_, ?_, ?_, ?_, ?_, ?_, ?_, trivial⟩ ?_
   ·intro k vals vals' w hv h
    match k, h with
    | 0, h => exact h
    | _ + 1, _ => trivial
   ·intro k447 vals w448 h451 h452 hW450 hA449
    refine obl rfl ?_
    exact zS rfl (fun vals' hv _ => ⟨rfl, hv⟩)
   ·intro k453 vals w454 h457 h458 hW456 hA455
    have e459 := hA455 0 (by decide)
    refine obl rfl ?_
    exact xg e459 (fun vals' hv _ => ⟨rfl, hv⟩)
   ·intro k460 vals w461 h464 h465 hW463 hA462
    obtain rfl : k460 = 0 := Nat.le_antisymm h465 h464
    have hS466 : Sep _ _ _ _ := hW463
    have e467 := hA462 1 (by decide)
    refine obl rfl ?_
    exact zg (v := .int .i64 (e.seq)) Try.isAgg3 e467 (zf (hS466.blk (i := 1) rfl) rfl) (fun vals' hv _ => ⟨rfl, hv⟩)
   ·intro k468 vals w469 h472 h473 hW471 hA470
    refine obl rfl ?_
    exact zb (v := .pointer (some ⟨b, 0, none⟩)) rfl (fun vals' hv _ => ⟨rfl, hv⟩)
   ·intro k474 vals w475 h478 h479 hW477 hA476
    have e480 := hA476 3 (by decide)
    refine obl rfl ?_
    exact zn (b := b) (o := 0) e480 (fun vals' hv _ => ⟨rfl, hv⟩)
   ·intro k481 vals w482 h485 h486 hW484 hA483
    have e487 := hA483 4 (by decide)
    refine obl rfl ?_
    exact YV e487 (fun vals' hv _ => ⟨rfl, hv⟩)
   ·intro k488 vals w489 h492 h493 hW491 hA490
    obtain rfl : k488 = 0 := Nat.le_antisymm h493 h492
    have hS494 : Sep _ _ _ _ := hW491
    have e495 := hA490 5 (by decide)
    refine obl rfl ?_
    exact zg (v := vv7) Try.isAgg34 e495 (zf (hS494.gblk hb10) rfl) (fun vals' hv _ => ⟨rfl, hv⟩)
   ·intro k496 vals w497 h500 h501 hW499 hA498
    refine obl rfl ?_
    exact zS rfl (fun vals' hv _ => ⟨rfl, hv⟩)
   ·intro k502 vals w503 h506 h507 hW505 hA504
    have e508 := hA504 7 (by decide)
    refine obl rfl ?_
    exact yM e508 (fun vals' hv _ => ⟨rfl, hv⟩)
   ·intro k509 vals w510 h513 h514 hW512 hA511
    obtain rfl : k509 = 0 := Nat.le_antisymm h514 h513
    have hS515 : Sep _ _ _ _ := hW512
    have e516 := hA511 8 (by decide)
    refine obl rfl ?_
    exact zg (v := .int .i64 (e.origin)) Try.isAgg3 e516 (zf (hS515.blk (i := 1) rfl) rfl) (fun vals' hv _ => ⟨rfl, hv⟩)
   ·intro k517 vals w518 h521 h522 hW520 hA519
    obtain rfl : k517 = 0 := Nat.le_antisymm h522 h521
    have hS523 : Sep _ _ _ _ := hW520
    have e524 := hA519 6 (by decide)
    have e525 := hA519 9 (by decide)
    refine obl rfl ?_
    have hi526 : e.origin.toNat < (zz n L).length := (by first | omega | (simp only [lens]; omega))
    exact yv (k := 1) (i := e.origin) Try.underlying34 Try.sizeOf3 e524 hv11.sl e525 ⟨by omega, by omega⟩ (fun vals' hv _ => ⟨rfl, hv⟩)
   ·intro k527 vals w528 h531 h532 hW530 hA529
    obtain rfl : k527 = 0 := Nat.le_antisymm h532 h531
    have hS533 : Sep _ _ _ _ := hW530
    have e534 := hA529 10 (by decide)
    refine obl rfl ?_
    have hi536 : e.origin.toNat < (zz n L).length := (by first | omega | (simp only [lens]; omega))
    obtain ⟨hce535, hxe535⟩ := hv11.int hi536
    rw [← zm 0 hi536] at hce535 hxe535
    have hcw537 := hS533.cells hce535 (hv11.foot (ne_of_lt hi536))
    exact zg (v := .int .i64 (((zz n L).getD e.origin.toNat 0))) Try.isAgg3 e534 (hcw537.get (j := 0) rfl) (fun vals' hv _ => ⟨rfl, hv⟩)
   ·intro k538 vals w539 h542 h543 hW541 hA540
    obtain rfl : k538 = 0 := Nat.le_antisymm h543 h542
    have hS544 : Sep _ _ _ _ := hW541
    have e545 := hA540 11 (by decide)
    refine obl rfl ?_
    have hr546 : InR (((zz n L).getD e.origin.toNat 0) + 1) := by omega
    exact zB (r := ((zz n L).getD e.origin.toNat 0) + 1) (k := .i64) (a := ((zz n L).getD e.origin.toNat 0)) (b := 1) e545 rfl (zy hr546) (fun vals' hv _ => ⟨rfl, hv⟩)
   ·intro k547 vals w548 h551 h552 hW550 hA549
    obtain rfl : k547 = 0 := Nat.le_antisymm h552 h551
    have hS553 : Sep _ _ _ _ := hW550
    have e554 := hA549 2 (by decide)
    have e555 := hA549 12 (by decide)
    refine obl rfl ?_
    exact yH (k := .i64) (a := e.seq) (b := ((zz n L).getD e.origin.toNat 0) + 1) e554 e555 (fun vals' hv _ => ⟨rfl, hv⟩)
   intro vals w556 hW557 hA558
   have hS559 : Sep _ _ _ _ := hW557
   have e560 := hA558 13 (by decide)
   refine yb (kv := [(0, .pointer (some ⟨b, 0, none⟩)), (1, .agg (e.cells de0).toArray), (3, .pointer (some ⟨b15, 0, none⟩)), (4, .int .i64 (0)), (5, .int .i64 ((zI e (((zz n L).length : Nat) : Int)))), (16, .int .i64 ((zI e (((zz n L).length : Nat) : Int)))), (17, .bool false), (7, .bool false), (29, .bool false), (43, .bool (!decide (e.seq = (((zz n L).getD e.origin.toNat 0) + 1))))]) ⟨rfl, rfl, rfl, rfl, rfl, rfl, rfl, rfl, rfl, (by exact e560), trivial⟩ (fun ρw556 => ?_)
   refine ze ?_
   cases hc561 : !decide (e.seq = (((zz n L).getD e.origin.toNat 0) + 1))
   ·skip
    have hc561 := yh hc561
    refine zi rfl ?_
    refine zo ?_
    refine zc ?_
    refine zc ?_
    refine za (by kernel_rfl) (fun _ => ?_)
    refine st (zb (v := .pointer (some ⟨b, 0, none⟩)) rfl ?_)
    refine st (zn (b := b) (o := 0) rfl ?_)
    refine st (YV rfl ?_)
    refine st (zg (v := vv7) Try.isAgg34 rfl (zf (hS559.gblk hb10) rfl) ?_)
    refine st (zJ (n := (zz n L).length) Try.underlying34 rfl hv11.sl ?_)
    refine st (zb (v := .int .i64 (0)) rfl ?_)
    refine ze ?_
    refine zt ?_
    refine zP (fun mq σ wq => ∃ (k : Nat) (ρ : Env), mq = (zz n L).length - k ∧ σ = zQ ρ [(0, .pointer (some ⟨b, 0, none⟩)), (3, .pointer (some ⟨b15, 0, none⟩)), (48, .int .i64 (((zz n L).length : Nat) : Int)), (49, .int .i64 ((k : Nat) : Int))] ∧ (k ≤ (zz n L).length) ∧ (∀ i, i < k → yN L e i = true) ∧ Sep G1 w ((Blk b224 (x136.cells vd137).toArray 36) :: (Blk b15 (e.cells de0).toArray 36) :: Rs) wq) ⟨0, _, rfl, zh ⟨rfl, rfl, rfl, rfl, trivial⟩, Nat.zero_le _, (fun i h => absurd h (Nat.not_lt_zero i)), hS559⟩ ?_
    rintro m563 σ564 w562 ⟨k, ρl1, rfl, rfl, hkk, hm, hS565⟩
    refine zc ?_
    refine za (by kernel_rfl) (fun _ => ?_)
    refine st (zH (k := .i64) (a := ((k : Nat) : Int)) (b := (((zz n L).length : Nat) : Int)) rfl rfl ?_)
    refine ze ?_
    refine zc ?_
    cases hc566 : decide (((k : Nat) : Int) < (((zz n L).length : Nat) : Int))
    ·skip
     have hc566 := of_decide_eq_false hc566
     refine zi rfl ?_
     refine zO ?_
     refine zF ?_
     refine zc ?_
     have hS567 := hk6 _ _ hS565
     obtain ⟨vv568, m569, hS570⟩ := SetO.open hS567
     have hr571 := hS570.row (i := 1) rfl
     have hr571s : _ * 8 ≤ _ := hr571.2
     have hS572 := hS570.mv2
     have hS574 : Sep G W ((ZS xd EV xI m569 (zq L) (e.origin, e.seq) xI) :: (Blk b #[vv568, .map (some m569), .int .i64 (xh L)] 59) :: (RowE (α := Int) own 3 vv568 (zz n L)) :: (Blk b224 (x136.cells vd137).toArray 36) :: (Blk b15 (e.cells de0).toArray 36) :: Rs) w562 := Ut hS572 (by simpa using hc337)
     refine zM ((fun TT pp0 => WF [fun vals wq => Sep G W (pp0 :: TT) wq, fun vals wq => ∃ (v632 : Value), (vals 7 = (.agg (e.cells v632).toArray : Value)) ∧ Sep G W ((RowE (α := Int) own 3 v632 e.deps) :: pp0 :: TT) wq, fun vals wq => ∃ (v632 : Value), (vals 7 = (.agg (e.cells v632).toArray : Value)) ∧ Sep G W ((MapO xd EV m569 (Yg (zq L) (e.origin, e.seq) e)) :: TT) wq]) ((Blk b #[vv568, .map (some m569), .int .i64 (xh L)] 59) :: (RowE (α := Int) own 3 vv568 (zz n L)) :: (Blk b224 (x136.cells vd137).toArray 36) :: (Blk b15 (e.cells de0).toArray 36) :: Rs) (ZS xd EV xI m569 (zq L) (e.origin, e.seq) xI)) (AF [Vl 0 (.pointer (some ⟨b, 0, none⟩)), Vl 1 (.pointer (some ⟨b, 0, none⟩)), Vl 2 (.pointer (some ⟨b, 1, none⟩)), Vl 3 (.map (some m569)), Vl 4 (.pointer (some ⟨b15, 0, none⟩)), Vl 5 (.agg #[.int .i64 (e.origin), .int .i64 (e.seq)]), Vl 6 (.agg (e.cells de0).toArray), fun _ => True, fun _ => True]) [[], [0], [0, 1], [0, 1, 2], [], [4], [], [6], [0, 1, 2, 3, 4, 5, 6, 7]] [7, 8] [(0, 1), (0, 1), (0, 1), (0, 1), (0, 1), (0, 1), (0, 0), (0, 0), (1, 1)] (by kernel_rfl) (by kernel_rfl) (by kernel_rfl) rfl (by kernel_rfl) (by kernel_rfl) (fun _ h1 h2 h3 h4 _ => hS574.same h1 h2 h3 h4) ?_ (yc ⟨dA, dA, dA, dA, dA, dA, dA, dT, dT, trivial⟩) ⟨?_, ?_, ?_, ?_, ?_, ?_, ?_, ?_, ?_, trivial⟩ ?_
     ·intro k vals vals' w hv h
      have e : ∀ j ∈ ([7, 8] : List Nat), vals' j = vals j := hv
      match k, h with
      | 0, h => exact h
      | 1, h => exact (by simpa only [WF, List.getElem?_cons_zero, List.getElem?_cons_succ, e 7 (by decide)] using h)
      | 2, h => exact (by simpa only [WF, List.getElem?_cons_zero, List.getElem?_cons_succ, e 7 (by decide)] using h)
      | _ + 3, _ => trivial
     ·intro k650 vals w651 h654 h655 hW653 hA652
      refine obl rfl ?_
      exact zb (v := .pointer (some ⟨b, 0, none⟩)) rfl (fun vals' hv _ => ⟨rfl, hv⟩)
     ·intro k656 vals w657 h660 h661 hW659 hA658
      have e662 := hA658 0 (by decide)
      refine obl rfl ?_
      exact zn (b := b) (o := 0) e662 (fun vals' hv _ => ⟨rfl, hv⟩)
     ·intro k663 vals w664 h667 h668 hW666 hA665
      have e669 := hA665 1 (by decide)
      refine obl rfl ?_
      exact Yj e669 (fun vals' hv _ => ⟨rfl, hv⟩)
     ·intro k670 vals w671 h674 h675 hW673 hA672
      have hkk : k670 = 0 ∨ k670 = 1 := by have h1 : 0 ≤ k670 := h674; have h2 : k670 ≤ 1 := h675; omega
      rcases hkk with rfl | rfl
      ·skip
       have hS676 : Sep _ _ _ _ := hW673
       have e677 := hA672 2 (by decide)
       refine obl rfl ?_
       exact zg (v := .map (some m569)) Try.isAgg57 e677 (zf (hS676.blk (i := 1) rfl) rfl) (fun vals' hv _ => ⟨rfl, hv⟩)
      ·skip
       obtain ⟨v632, he636, hS678⟩ := hW673
       have e679 := hA672 2 (by decide)
       refine obl rfl ?_
       exact zg (v := .map (some m569)) Try.isAgg57 e679 (zf (hS678.blk (i := 2) rfl) rfl) (fun vals' hv _ => ⟨rfl, hv⟩)
     ·intro k680 vals w681 h684 h685 hW683 hA682
      refine obl rfl ?_
      exact zS rfl (fun vals' hv _ => ⟨rfl, hv⟩)
     ·intro k686 vals w687 h690 h691 hW689 hA688
      have hkk : k686 = 0 ∨ k686 = 1 := by have h1 : 0 ≤ k686 := h690; have h2 : k686 ≤ 1 := h691; omega
      rcases hkk with rfl | rfl
      ·skip
       have hS692 : Sep _ _ _ _ := hW689
       have e693 := hA688 4 (by decide)
       refine obl rfl ?_
       exact zr (k := 2) (cs := [.int .i64 (e.origin), .int .i64 (e.seq)]) Try.isAgg33 Try.sizeOf33 rfl e693 (CellsAt.sub (CellsAt.all (hS692.blk (i := 4) rfl)) 0 (cs2 := [.int .i64 (e.origin), .int .i64 (e.seq)]) rfl) (fun vals' hv _ => ⟨rfl, hv⟩)
      ·skip
       obtain ⟨v632, he636, hS694⟩ := hW689
       have e695 := hA688 4 (by decide)
       refine obl rfl ?_
       exact zr (k := 2) (cs := [.int .i64 (e.origin), .int .i64 (e.seq)]) Try.isAgg33 Try.sizeOf33 rfl e695 (CellsAt.sub (CellsAt.all (hS694.blk (i := 5) rfl)) 0 (cs2 := [.int .i64 (e.origin), .int .i64 (e.seq)]) rfl) (fun vals' hv _ => ⟨rfl, hv⟩)
     ·intro k696 vals w697 h700 h701 hW699 hA698
      obtain rfl : k696 = 0 := Nat.le_antisymm h701 h700
      have hS702 : Sep _ _ _ _ := hW699
      refine obl rfl ?_
      exact zr (k := 10) Try.isAgg36 Try.sizeOf36 rfl rfl (CellsAt.all (hS702.blk (i := 4) rfl)) (fun vals' hv _ => ⟨rfl, hv⟩)
     ·intro k624 vals w625 h628 h629 hW627 hA626
      obtain rfl : k624 = 0 := Nat.le_antisymm h629 h628
      have hS630 : Sep _ _ _ _ := hW627
      have e631 := hA626 6 (by decide)
      refine obl rfl ?_
      refine (zj (f := 38) (vals := [.agg (e.cells de0).toArray]) (cap := []) rfl (xc ⟨e631, trivial⟩) Try.call38 (YQ (e := e) hde0 oe hS630) ?_)
      rintro _ w633 ⟨v632, rfl, hS634⟩
      have hr635 := hS634.row (i := 0) rfl
      have hr635s : _ * 8 ≤ _ := hr635.2
      intro vals' hv hv'
      refine ⟨?_, trivial⟩
      show ∃ (v632 : Value), (vals' 7 = (.agg (e.cells v632).toArray : Value)) ∧ Sep G W ((RowE (α := Int) own 3 v632 e.deps) :: (ZS xd EV xI m569 (zq L) (e.origin, e.seq) xI) :: (Blk b #[vv568, .map (some m569), .int .i64 (xh L)] 59) :: (RowE (α := Int) own 3 vv568 (zz n L)) :: (Blk b224 (x136.cells vd137).toArray 36) :: (Blk b15 (e.cells de0).toArray 36) :: Rs) w633
      exact ⟨v632, hv, hS634⟩
     ·intro k637 vals w638 h641 h642 hW640 hA639
      obtain rfl : k637 = 1 := Nat.le_antisymm h642 h641
      obtain ⟨v632, he636, hS643⟩ := hW640
      have e644 := hA639 3 (by decide)
      have e645 := hA639 5 (by decide)
      refine obl rfl ?_
      have hS647 : Sep G W ((EV (.agg (e.cells v632).toArray) e) :: (ZS xd EV xI m569 (zq L) (e.origin, e.seq) xI) :: (Blk b #[vv568, .map (some m569), .int .i64 (xh L)] 59) :: (RowE (α := Int) own 3 vv568 (zz n L)) :: (Blk b224 (x136.cells vd137).toArray 36) :: (Blk b15 (e.cells de0).toArray 36) :: Rs) w638 := Jv oe hS643
      have hS648 := hS647.mv1
      refine (Xc (k := (e.origin, e.seq)) hS648 K2 Try.underlying57 e644 (show _ = (.agg #[.int .i64 (e.origin), .int .i64 (e.seq)] : Value) from e645) he636 ?_)
      intro w646 hS649
      have hS649t : Sep G W ((MapO xd EV m569 (Yg (zq L) (e.origin, e.seq) e)) :: (Blk b #[vv568, .map (some m569), .int .i64 (xh L)] 59) :: (RowE (α := Int) own 3 vv568 (zz n L)) :: (Blk b224 (x136.cells vd137).toArray 36) :: (Blk b15 (e.cells de0).toArray 36) :: Rs) w646 := hS649
      intro vals' hv hv'
      refine ⟨?_, trivial⟩
      show ∃ (v632 : Value), (vals' 7 = (.agg (e.cells v632).toArray : Value)) ∧ Sep G W ((MapO xd EV m569 (Yg (zq L) (e.origin, e.seq) e)) :: (Blk b #[vv568, .map (some m569), .int .i64 (xh L)] 59) :: (RowE (α := Int) own 3 vv568 (zz n L)) :: (Blk b224 (x136.cells vd137).toArray 36) :: (Blk b15 (e.cells de0).toArray 36) :: Rs) w646
      exact ⟨v632, (by rw [hv' 7 (by decide)]; exact he636), hS649t⟩
     intro vals w703 hW704 hA705
     obtain ⟨v632, he636, hS706⟩ := hW704
     refine yb (kv := [(0, .pointer (some ⟨b, 0, none⟩)), (3, .pointer (some ⟨b15, 0, none⟩)), (48, .int .i64 (((zz n L).length : Nat) : Int)), (49, .int .i64 ((k : Nat) : Int)), (50, .bool false)]) ⟨rfl, rfl, rfl, rfl, rfl, trivial⟩ (fun ρw703 => ?_)
     refine ze ?_
     refine zc ?_
     refine zM ((fun TT pp0 pp1 => WF [fun vals wq => Sep G W (pp0 :: pp1 :: (RowE (α := Int) own 3 vv568 (zz n L)) :: TT) wq, fun vals wq => Sep G W ((RowE (α := Int) own 3 vv568 ((zz n L).set e.origin.toNat (((zz n L).getD e.origin.toNat 0) + 1))) :: pp0 :: pp1 :: TT) wq]) ((Blk b224 (x136.cells vd137).toArray 36) :: (Blk b15 (e.cells de0).toArray 36) :: Rs) (MapO xd EV m569 (Yg (zq L) (e.origin, e.seq) e)) (Blk b #[vv568, .map (some m569), .int .i64 (xh L)] 59)) (AF [Vl 0 (.pointer (some ⟨b, 0, none⟩)), Vl 1 (.pointer (some ⟨b, 0, none⟩)), Vl 2 (.pointer (some ⟨b, 0, none⟩)), Vl 3 (vv568), Vl 4 (.pointer (some ⟨b15, 0, none⟩)), Vl 5 (.pointer (some ⟨b15, 0, none⟩)), Vl 6 (.int .i64 (e.origin)), Vl 7 (.pointer (some ⟨sb vv568, so vv568 + e.origin.toNat * 1, none⟩)), Vl 8 (.int .i64 (((zz n L).getD e.origin.toNat 0))), Vl 9 (.int .i64 (((zz n L).getD e.origin.toNat 0) + 1)), Vl 10 (.pointer (some ⟨sb vv568, so vv568 + e.origin.toNat * 1, none⟩)), fun _ => True]) [[], [0], [0, 1], [0, 1, 2], [], [4], [4, 5], [0, 1, 2, 3, 4, 5, 6], [0, 1, 2, 3, 4, 5, 6, 7], [0, 1, 2, 3, 4, 5, 6, 7, 8], [0, 1, 2, 3, 4, 5, 6, 7, 8, 9], [0, 1, 2, 3, 4, 5, 6, 7, 8, 9, 10]] [11] [(0, 0), (0, 0), (0, 0), (0, 0), (0, 0), (0, 0), (0, 0), (0, 0), (0, 0), (0, 0), (0, 0), (0, 0)] (by kernel_rfl) (by kernel_rfl) (by kernel_rfl) rfl (by kernel_rfl) (by kernel_rfl) (fun _ h1 h2 h3 h4 _ => hS706.same h1 h2 h3 h4) ?_ (yc ⟨dA, dA, dA, dA, dA, dA, dA, dA, dA, dA, dA, dT, trivial⟩) ⟨?_, ?_, ?_, ?_, ?_, ?_, ?_, ?_, ?_, ?_, ?_, ?_, trivial⟩ ?_
     ·intro k vals vals' w hv h
      have e : ∀ j ∈ ([11] : List Nat), vals' j = vals j := hv
      match k, h with
      | 0, h => exact h
      | 1, h => exact h
      | _ + 2, _ => trivial
     ·intro k809 vals w810 h813 h814 hW812 hA811
      refine obl rfl ?_
      exact zb (v := .pointer (some ⟨b, 0, none⟩)) rfl (fun vals' hv _ => ⟨rfl, hv⟩)
     ·intro k815 vals w816 h819 h820 hW818 hA817
      have e821 := hA817 0 (by decide)
      refine obl rfl ?_
      exact zn (b := b) (o := 0) e821 (fun vals' hv _ => ⟨rfl, hv⟩)
     ·intro k822 vals w823 h826 h827 hW825 hA824
      have e828 := hA824 1 (by decide)
      refine obl rfl ?_
      exact YV e828 (fun vals' hv _ => ⟨rfl, hv⟩)
     ·intro k829 vals w830 h833 h834 hW832 hA831
      obtain rfl : k829 = 0 := Nat.le_antisymm h834 h833
      have hS835 : Sep _ _ _ _ := hW832
      have e836 := hA831 2 (by decide)
      refine obl rfl ?_
      exact zg (v := vv568) Try.isAgg34 e836 (zf (hS835.blk (i := 1) rfl) rfl) (fun vals' hv _ => ⟨rfl, hv⟩)
     ·intro k837 vals w838 h841 h842 hW840 hA839
      refine obl rfl ?_
      exact zS rfl (fun vals' hv _ => ⟨rfl, hv⟩)
     ·intro k843 vals w844 h847 h848 hW846 hA845
      have e849 := hA845 4 (by decide)
      refine obl rfl ?_
      exact yM e849 (fun vals' hv _ => ⟨rfl, hv⟩)
     ·intro k850 vals w851 h854 h855 hW853 hA852
      obtain rfl : k850 = 0 := Nat.le_antisymm h855 h854
      have hS856 : Sep _ _ _ _ := hW853
      have e857 := hA852 5 (by decide)
      refine obl rfl ?_
      exact zg (v := .int .i64 (e.origin)) Try.isAgg3 e857 (zf (hS856.blk (i := 4) rfl) rfl) (fun vals' hv _ => ⟨rfl, hv⟩)
     ·intro k858 vals w859 h862 h863 hW861 hA860
      obtain rfl : k858 = 0 := Nat.le_antisymm h863 h862
      have hS864 : Sep _ _ _ _ := hW861
      have e865 := hA860 3 (by decide)
      have e866 := hA860 6 (by decide)
      refine obl rfl ?_
      have hi867 : e.origin.toNat < (zz n L).length := (by first | omega | (simp only [lens]; omega))
      exact yv (k := 1) (i := e.origin) Try.underlying34 Try.sizeOf3 e865 hr571.1 e866 ⟨by omega, by omega⟩ (fun vals' hv _ => ⟨rfl, hv⟩)
     ·intro k868 vals w869 h872 h873 hW871 hA870
      obtain rfl : k868 = 0 := Nat.le_antisymm h873 h872
      have hS874 : Sep _ _ _ _ := hW871
      have e875 := hA870 7 (by decide)
      refine obl rfl ?_
      have hi877 : e.origin.toNat < (zz n L).length := (by first | omega | (simp only [lens]; omega))
      obtain ⟨_, _, hce876, rfl, hxe876⟩ := hS874.rowAt (i := 2) (j := e.origin.toNat) rfl hi877
      rw [← zm 0 hi877] at hce876 hxe876
      exact zg (v := .int .i64 (((zz n L).getD e.origin.toNat 0))) Try.isAgg3 e875 (hce876.get (j := 0) rfl) (fun vals' hv _ => ⟨rfl, hv⟩)
     ·intro k878 vals w879 h882 h883 hW881 hA880
      obtain rfl : k878 = 0 := Nat.le_antisymm h883 h882
      have hS884 : Sep _ _ _ _ := hW881
      have e885 := hA880 8 (by decide)
      refine obl rfl ?_
      have hr886 : InR (((zz n L).getD e.origin.toNat 0) + 1) := by omega
      exact zB (r := ((zz n L).getD e.origin.toNat 0) + 1) (k := .i64) (a := ((zz n L).getD e.origin.toNat 0)) (b := 1) e885 rfl (zy hr886) (fun vals' hv _ => ⟨rfl, hv⟩)
     ·intro k887 vals w888 h891 h892 hW890 hA889
      obtain rfl : k887 = 0 := Nat.le_antisymm h892 h891
      have hS893 : Sep _ _ _ _ := hW890
      have e894 := hA889 3 (by decide)
      have e895 := hA889 6 (by decide)
      refine obl rfl ?_
      have hi896 : e.origin.toNat < (zz n L).length := (by first | omega | (simp only [lens]; omega))
      exact yv (k := 1) (i := e.origin) Try.underlying34 Try.sizeOf3 e894 hr571.1 e895 ⟨by omega, by omega⟩ (fun vals' hv _ => ⟨rfl, hv⟩)
     ·intro k795 vals w796 h799 h800 hW798 hA797
      obtain rfl : k795 = 0 := Nat.le_antisymm h800 h799
      have hS801 : Sep _ _ _ _ := hW798
      have e802 := hA797 9 (by decide)
      have e803 := hA797 10 (by decide)
      refine obl rfl ?_
      have hS805 := hS801.mv2
      have hS806 : Sep G W ((RowE (α := Int) own 3 vv568 (zz n L)) :: Emp :: (MapO xd EV m569 (Yg (zq L) (e.origin, e.seq) e)) :: (Blk b #[vv568, .map (some m569), .int .i64 (xh L)] 59) :: (Blk b224 (x136.cells vd137).toArray 36) :: (Blk b15 (e.cells de0).toArray 36) :: Rs) w796 := hS805.emp1
      refine (XH (α := Int) (j := e.origin.toNat) (o := 0) (u := .int .i64 (((zz n L).getD e.origin.toNat 0) + 1)) (us := [.int .i64 (((zz n L).getD e.origin.toNat 0) + 1)]) (x1 := ((zz n L).getD e.origin.toNat 0) + 1) hS806 Try.sizeOf3 (by first | omega | (simp only [lens]; omega)) e803 e802 rfl (Nat.le_of_ble_eq_true rfl) (yU ⟨rfl, trivial⟩) (fun _ _ cs0 hel _ => (by have hl0 := Src.len _ hel; have e0 : cs0.take 0 ++ (([.int .i64 (((zz n L).getD e.origin.toNat 0) + 1)] : List Value)) ++ cs0.drop (0 + (([.int .i64 (((zz n L).getD e.origin.toNat 0) + 1)] : List Value)).length) = (([.int .i64 (((zz n L).getD e.origin.toNat 0) + 1)] : List Value)) := (by rw [List.drop_eq_nil_of_le (by rw [hl0]; exact Nat.le_of_ble_eq_true rfl)]; simp); rw [e0]; exact (show _ from ⟨rfl, (by omega)⟩))) ?_)
      intro w804 hS807
      have hr808 := hS807.row (i := 0) rfl
      have hr808s : _ * 8 ≤ _ := hr808.2
      intro vals' hv hv'
      refine ⟨?_, trivial⟩
      show Sep G W ((RowE (α := Int) own 3 vv568 ((zz n L).set e.origin.toNat (((zz n L).getD e.origin.toNat 0) + 1))) :: (MapO xd EV m569 (Yg (zq L) (e.origin, e.seq) e)) :: (Blk b #[vv568, .map (some m569), .int .i64 (xh L)] 59) :: (Blk b224 (x136.cells vd137).toArray 36) :: (Blk b15 (e.cells de0).toArray 36) :: Rs) w804
      exact hS807
     intro vals w897 hW898 hA899
     have hS900 : Sep _ _ _ _ := hW898
     refine yb (kv := [(0, .pointer (some ⟨b, 0, none⟩)), (3, .pointer (some ⟨b15, 0, none⟩)), (48, .int .i64 (((zz n L).length : Nat) : Int)), (49, .int .i64 ((k : Nat) : Int)), (50, .bool false)]) ⟨rfl, rfl, rfl, rfl, rfl, trivial⟩ (fun ρw897 => ?_)
     refine ze ?_
     refine zc ?_
     refine zM ((fun TT pp0 pp1 => WF [fun vals wq => Sep G W (pp0 :: pp1 :: (Blk b #[vv568, .map (some m569), .int .i64 (xh L)] 59) :: TT) wq, fun vals wq => Sep G W (pp0 :: pp1 :: (Blk b #[vv568, .map (some m569), .int .i64 (max (xh L) e.lam)] 59) :: TT) wq]) ((Blk b224 (x136.cells vd137).toArray 36) :: (Blk b15 (e.cells de0).toArray 36) :: Rs) (RowE (α := Int) own 3 vv568 ((zz n L).set e.origin.toNat (((zz n L).getD e.origin.toNat 0) + 1))) (MapO xd EV m569 (Yg (zq L) (e.origin, e.seq) e))) (AF [Vl 0 (.pointer (some ⟨b, 0, none⟩)), Vl 1 (.pointer (some ⟨b, 0, none⟩)), Vl 2 (.pointer (some ⟨b, 0, none⟩)), Vl 3 (.pointer (some ⟨b, 2, none⟩)), Vl 4 (.int .i64 (xh L)), Vl 5 (.pointer (some ⟨b15, 2, none⟩)), Vl 6 (.int .i64 (e.lam)), Vl 7 (.int .i64 (max (xh L) e.lam)), Vl 8 (.pointer (some ⟨b, 0, none⟩)), Vl 9 (.pointer (some ⟨b, 2, none⟩)), fun _ => True]) [[], [], [1], [1, 2], [1, 2, 3], [], [5], [1, 2, 3, 4, 5, 6], [0, 1, 2, 3, 4, 5, 6, 7], [0, 1, 2, 3, 4, 5, 6, 7, 8], [0, 1, 2, 3, 4, 5, 6, 7, 8, 9]] [10] [(0, 0), (0, 0), (0, 0), (0, 0), (0, 0), (0, 0), (0, 0), (0, 0), (0, 0), (0, 0), (0, 0)] (by kernel_rfl) (by kernel_rfl) (by kernel_rfl) rfl (by kernel_rfl) (by kernel_rfl) (fun _ h1 h2 h3 h4 _ => hS900.same h1 h2 h3 h4) ?_ (yc ⟨dA, dA, dA, dA, dA, dA, dA, dA, dA, dA, dT, trivial⟩) ⟨?_, ?_, ?_, ?_, ?_, ?_, ?_, ?_, ?_, ?_, ?_, trivial⟩ ?_
     ·intro k vals vals' w hv h
      have e : ∀ j ∈ ([10] : List Nat), vals' j = vals j := hv
      match k, h with
      | 0, h => exact h
      | 1, h => exact h
      | _ + 2, _ => trivial
     ·intro k984 vals w985 h988 h989 hW987 hA986
      refine obl rfl ?_
      exact zb (v := .pointer (some ⟨b, 0, none⟩)) rfl (fun vals' hv _ => ⟨rfl, hv⟩)
     ·intro k990 vals w991 h994 h995 hW993 hA992
      refine obl rfl ?_
      exact zb (v := .pointer (some ⟨b, 0, none⟩)) rfl (fun vals' hv _ => ⟨rfl, hv⟩)
     ·intro k996 vals w997 h1000 h1001 hW999 hA998
      have e1002 := hA998 1 (by decide)
      refine obl rfl ?_
      exact zn (b := b) (o := 0) e1002 (fun vals' hv _ => ⟨rfl, hv⟩)
     ·intro k1003 vals w1004 h1007 h1008 hW1006 hA1005
      have e1009 := hA1005 2 (by decide)
      refine obl rfl ?_
      exact Qv e1009 (fun vals' hv _ => ⟨rfl, hv⟩)
     ·intro k1010 vals w1011 h1014 h1015 hW1013 hA1012
      obtain rfl : k1010 = 0 := Nat.le_antisymm h1015 h1014
      have hS1016 : Sep _ _ _ _ := hW1013
      have e1017 := hA1012 3 (by decide)
      refine obl rfl ?_
      exact zg (v := .int .i64 (xh L)) Try.isAgg3 e1017 (zf (hS1016.blk (i := 2) rfl) rfl) (fun vals' hv _ => ⟨rfl, hv⟩)
     ·intro k1018 vals w1019 h1022 h1023 hW1021 hA1020
      refine obl rfl ?_
      exact yO rfl (fun vals' hv _ => ⟨rfl, hv⟩)
     ·intro k1024 vals w1025 h1028 h1029 hW1027 hA1026
      obtain rfl : k1024 = 0 := Nat.le_antisymm h1029 h1028
      have hS1030 : Sep _ _ _ _ := hW1027
      have e1031 := hA1026 5 (by decide)
      refine obl rfl ?_
      exact zg (v := .int .i64 (e.lam)) Try.isAgg3 e1031 (zf (hS1030.blk (i := 4) rfl) rfl) (fun vals' hv _ => ⟨rfl, hv⟩)
     ·intro k1032 vals w1033 h1036 h1037 hW1035 hA1034
      obtain rfl : k1032 = 0 := Nat.le_antisymm h1037 h1036
      have hS1038 : Sep _ _ _ _ := hW1035
      have e1039 := hA1034 4 (by decide)
      have e1040 := hA1034 6 (by decide)
      refine obl rfl ?_
      exact Wb (k := .i64) (a := xh L) (b := e.lam) e1039 e1040 (fun vals' hv _ => ⟨rfl, hv⟩)
     ·intro k1041 vals w1042 h1045 h1046 hW1044 hA1043
      have e1047 := hA1043 0 (by decide)
      refine obl rfl ?_
      exact zn (b := b) (o := 0) e1047 (fun vals' hv _ => ⟨rfl, hv⟩)
     ·intro k1048 vals w1049 h1052 h1053 hW1051 hA1050
      have e1054 := hA1050 8 (by decide)
      refine obl rfl ?_
      exact Qv e1054 (fun vals' hv _ => ⟨rfl, hv⟩)
     ·intro k972 vals w973 h976 h977 hW975 hA974
      obtain rfl : k972 = 0 := Nat.le_antisymm h977 h976
      have hS978 : Sep _ _ _ _ := hW975
      have e979 := hA974 7 (by decide)
      have e980 := hA974 9 (by decide)
      refine obl rfl ?_
      refine (yd (v := .int .i64 (max (xh L) e.lam)) (c := [vv568, .map (some m569), .int .i64 (xh L)]) (c' := [vv568, .map (some m569), .int .i64 (max (xh L) e.lam)]) Try.sizeOf3 e980 e979 (hS978.blk (i := 2) rfl) rfl rfl rfl ?_)
      intro w981 hp982
      have hS983 := hS978.pt2 hp982
      intro vals' hv hv'
      refine ⟨?_, trivial⟩
      show Sep G W ((RowE (α := Int) own 3 vv568 ((zz n L).set e.origin.toNat (((zz n L).getD e.origin.toNat 0) + 1))) :: (MapO xd EV m569 (Yg (zq L) (e.origin, e.seq) e)) :: (Blk b #[vv568, .map (some m569), .int .i64 (max (xh L) e.lam)] 59) :: (Blk b224 (x136.cells vd137).toArray 36) :: (Blk b15 (e.cells de0).toArray 36) :: Rs) w981
      exact hS983
     intro vals w1055 hW1056 hA1057
     have hS1058 : Sep _ _ _ _ := hW1056
     refine yb (kv := [(0, .pointer (some ⟨b, 0, none⟩)), (3, .pointer (some ⟨b15, 0, none⟩)), (48, .int .i64 (((zz n L).length : Nat) : Int)), (49, .int .i64 ((k : Nat) : Int)), (50, .bool false)]) ⟨rfl, rfl, rfl, rfl, rfl, trivial⟩ (fun ρw1055 => ?_)
     refine ze ?_
     refine zc ?_
     refine za (by kernel_rfl) (fun _ => ?_)
     refine st (zd (v := .int .i64 (0)) rfl ?_)
     refine ze ?_
     refine zw ?_
     refine zL Try.results13 (show _ = (.int .i64 (0) : Value) from rfl) ?_
     have hS1059 := hS1058.mv2
     have hS1060 : Sep G W ((SetO b n (yj e L)) :: (Blk b224 (x136.cells vd137).toArray 36) :: (Blk b15 (e.cells de0).toArray 36) :: Rs) w1055 := SetO.close hS1059 KH (by rw [hv9]; exact Ue ho9 ho9') (Vc (by simpa using hc337))
     have hS1061 : Sep G W ((SetO b n (yj e L)) :: Rs) w1055 := hS1060.sel 3 [0] (Nat.le_add_left _ _) rfl rfl
     refine ⟨(yj e L), ?_, ?_, hS1061⟩
     · rw [Zj hc135 hc337 (by rw [hv9] at hc561; exact hc561) (fun i hi => hm i (by omega))]
     · rw [xF (Zj hc135 hc337 (by rw [hv9] at hc561; exact hc561) (fun i hi => hm i (by omega)))]
    ·skip
     have hc566 := of_decide_eq_true hc566
     refine zk rfl ?_
     refine zo ?_
     refine zc ?_
     refine zt ?_
     refine zc ?_
     refine za (by kernel_rfl) (fun _ => ?_)
     refine st (zb (v := .int .i64 ((k : Nat) : Int)) rfl ?_)
     refine st (zd (v := .int .i64 ((k : Nat) : Int)) rfl ?_)
     refine ze ?_
     refine zc ?_
     refine za (by kernel_rfl) (fun _ => ?_)
     refine st (zb (v := .pointer (some ⟨b, 0, none⟩)) rfl ?_)
     refine st (zr (k := 10) Try.isAgg36 Try.sizeOf36 rfl rfl (CellsAt.all (hS565.blk (i := 1) rfl)) ?_)
     refine st (zb (v := .int .i64 ((k : Nat) : Int)) rfl ?_)
     refine st (zj (f := 37) (vals := [.pointer (some ⟨b, 0, none⟩), .agg (e.cells de0).toArray, .int .i64 ((k : Nat) : Int)]) (cap := []) rfl rfl Try.call37 (Jm (e := e) (o := k) hA3 (RdS.base hde0 hB4) oe (by first | omega | (refine ⟨?_, ?_⟩ <;> omega)) hS565 (hd9) (hlen)) ?_)
     rintro _ w1062 ⟨rfl, hS1063⟩
     refine st (yA (a := (yN L e k)) rfl ?_)
     refine ze ?_
     cases hc1064 : !(yN L e k)
     ·skip
      try simp only [zx] at hc1064
      refine zi rfl ?_
      refine zo ?_
      refine za (by kernel_rfl) (fun _ => ?_)
      have hr1065 : InR ((k + 1 : Nat) : Int) := by first | omega | (simp only [lens]; omega)
      refine st (zB (r := ((k + 1 : Nat) : Int)) (k := .i64) (a := ((k : Nat) : Int)) (b := 1) rfl rfl (by rw [show (((k : Nat) : Int) + 1 : Int) = ((k + 1 : Nat) : Int) by first | omega | (simp only [lens]; omega)]; exact zy hr1065) ?_)
      refine st (zb (v := .int .i64 ((k + 1 : Nat) : Int)) rfl ?_)
      refine ze ?_
      exact ⟨_, by omega, k + 1, _, rfl, zh ⟨rfl, rfl, rfl, rfl, trivial⟩, by omega, (yE hm (by simpa using hc1064)), hS1063⟩
     ·skip
      try simp only [zx] at hc1064
      refine zk rfl ?_
      refine zc ?_
      refine za (by kernel_rfl) (fun _ => ?_)
      refine st (zd (v := .int .i64 (9)) rfl ?_)
      refine ze ?_
      refine zw ?_
      refine zL Try.results13 (show _ = (.int .i64 (9) : Value) from rfl) ?_
      have hS1066 := hk6 _ _ hS1063
      have hS1067 : Sep G W ((SetO b n L) :: Rs) w1062 := hS1066.sel 3 [0] (Nat.le_add_left _ _) rfl rfl
      refine ⟨L, ?_, ?_, hS1067⟩
      · rw [XD hc135 hc337 (by rw [hv9] at hc561; exact hc561) (k := k) (by omega) (by simpa using hc1064)]
      · rw [yZ (by rw [XD hc135 hc337 (by rw [hv9] at hc561; exact hc561) (k := k) (by omega) (by simpa using hc1064)]; decide)]
   ·skip
    have hc561 := yx hc561
    refine zk rfl ?_
    refine zc ?_
    refine za (by kernel_rfl) (fun _ => ?_)
    refine st (zd (v := .int .i64 (9)) rfl ?_)
    refine ze ?_
    refine zw ?_
    refine zL Try.results13 (show _ = (.int .i64 (9) : Value) from rfl) ?_
    have hS1068 := hk6 _ _ hS559
    have hS1069 : Sep G W ((SetO b n L) :: Rs) w556 := hS1068.sel 3 [0] (Nat.le_add_left _ _) rfl rfl
    refine ⟨L, ?_, ?_, hS1069⟩
    · rw [Xr hc135 hc337 (by rw [hv9] at hc561; exact hc561)]
    · rw [yZ (by rw [Xr hc135 hc337 (by rw [hv9] at hc561; exact hc561)]; decide)]
  ·skip
   refine zk rfl ?_
   refine zc ?_
   refine za (by kernel_rfl) (fun _ => ?_)
   refine st (zd (v := .int .i64 (16)) rfl ?_)
   refine ze ?_
   refine zw ?_
   refine zL Try.results13 (show _ = (.int .i64 (16) : Value) from rfl) ?_
   have hS1070 := hk6 _ _ hS335
   have hS1071 : Sep G W ((SetO b n L) :: Rs) w332 := hS1070.sel 3 [0] (Nat.le_add_left _ _) rfl rfl
   refine ⟨L, ?_, ?_, hS1071⟩
   · rw [XG hc135 hc337]
   · rw [yZ (by rw [XG hc135 hc337]; decide)]
 ·skip
  have hc135 := yx hc135
  refine zk rfl ?_
  refine zc ?_
  refine za (by kernel_rfl) (fun _ => ?_)
  refine st (zb (v := .int .i64 ((zI e (((zz n L).length : Nat) : Int)))) rfl ?_)
  refine st (zd (v := .int .i64 ((zI e (((zz n L).length : Nat) : Int)))) rfl ?_)
  refine ze ?_
  refine zw ?_
  refine zL Try.results13 (show _ = (.int .i64 ((zI e (((zz n L).length : Nat) : Int))) : Value) from rfl) ?_
  have hS1072 := hk6 _ _ hS133
  have hS1073 : Sep G W ((SetO b n L) :: Rs) w130 := hS1072.sel 2 [0] (Nat.le_add_left _ _) rfl rfl
  refine ⟨L, ?_, ?_, hS1073⟩
  · rw [hvl9] at *; rw [XE hc135]
  · rw [hvl9] at *; rw [yZ (by rw [XE hc135]; exact hc135)]

end Go.Proofs.Ytmiihhbeclhaoaa
end

section
/- Plain laws of sets of events: what is known is there; parts of a set. -/
namespace Go.Proofs.Ytmiihhbeclhaoaa

theorem xf {a b : Ev} : ltE a b = true ↔ yt a b < 0 := by
  rw [yQ]
  unfold ltE
  by_cases h1 : a.lam = b.lam
  · by_cases h2 : a.origin = b.origin
    · simp [h1, h2]
    · simp [h1, h2]
  · simp [h1]
theorem Zt {a b c : Ev} (h1 : yt a b < 0) (h2 : yt b c < 0) : yt a c < 0 := by rw [yQ] at *; omega
theorem xO {a b : Ev} (h1 : yt a b < 0) : ¬ yt b a < 0 := by rw [yQ] at *; omega
theorem Xu {a b : Ev} (h : idE a ≠ idE b) : yt a b < 0 ∨ yt b a < 0 := by
  rw [yQ, yQ]
  have h' : ¬ (a.origin = b.origin ∧ a.seq = b.seq) := fun e => h (by unfold idE; rw [e.1, e.2])
  omega
theorem Uj {a b : Ev} (h : a.lam < b.lam) : yt a b < 0 := by rw [yQ]; omega

section
variable {n : Nat} {L T : List Ev} {e x y : Ev}
theorem xy : x ∈ yj e L ↔ x = e ∨ x ∈ L := by rw [insE_perm.mem_iff, List.mem_cons]
theorem YW (hs : Srt L) (hn : idE e ∉ L.map idE) : Srt (yj e L) := by
  induction L with
  | nil => exact List.pairwise_singleton _ _
  | cons x l ih =>
    unfold Srt at hs ⊢
    rw [List.pairwise_cons] at hs
    have hne : idE e ≠ idE x := fun h => hn (by rw [h]; exact List.mem_map.2 ⟨x, List.mem_cons_self .., rfl⟩)
    simp only [yj]
    split
    · rename_i hlt
      have h1 := xf.1 hlt
      rw [List.pairwise_cons, List.pairwise_cons]
      refine ⟨fun y hy => ?_, hs.1, hs.2⟩
      rcases List.mem_cons.1 hy with rfl | hy
      · exact h1
      · exact Zt h1 (hs.1 y hy)
    · rename_i hlt
      rw [List.pairwise_cons]
      refine ⟨fun y hy => ?_, ih hs.2 (fun h => hn (List.mem_cons_of_mem _ h))⟩
      rcases xy.1 hy with rfl | hy
      · rcases Xu hne with h | h
        · exact absurd (xf.2 h) hlt
        · exact h
      · exact hs.1 y hy

structure Good (n : Nat) (L : List Ev) : Prop where
  chk : ∀ e ∈ L, zI e n = 0
  ids : (L.map idE).Nodup
  srt : Srt L
  knw : ∀ e ∈ L, ∀ o, o < n → yN L e o = true
  seqle : ∀ e ∈ L, e.seq ≤ ((xE L e.origin.toNat : Nat) : Int)
  fill : ∀ (o : Nat) (q : Int), 1 ≤ q → q ≤ ((xE L o : Nat) : Int) → (zq L ((o : Int), q)).isSome = true
theorem Good.nil : Good n [] := by
  refine ⟨fun _ h => by simp at h, List.nodup_nil, List.Pairwise.nil, fun _ h => by simp at h, fun _ h => by simp at h, fun o q h1 h2 => ?_⟩
  have h3 : xE [] o = 0 := rfl
  omega
theorem Good.len (h : Good n L) : ∀ y ∈ L, y.deps.length = n := fun y hy => (yY (h.chk y hy)).2.2.1
theorem Good.org (h : Good n L) (hx : x ∈ L) : ((x.origin.toNat : Nat) : Int) = x.origin := by
  have := (yY (h.chk x hx)).1.1; omega
theorem Good.uniq (h : Good n L) (hx : x ∈ L) (hy : y ∈ L) (he : idE x = idE y) : x = y := by
  have h1 := xP h.ids hx
  have h2 := xP h.ids hy
  rw [he, h2] at h1
  exact (Option.some.inj h1).symm
theorem Good.get (h : Good n L) (hx : x ∈ L) : zq L (x.origin, x.seq) = some x := xP h.ids hx
theorem Yb {k : Int × Int} (h : (zq L k).isSome = true) : ∃ x, zq L k = some x ∧ x ∈ L ∧ idE x = k := by
  obtain ⟨x, hx⟩ := Option.isSome_iff_exists.1 h
  obtain ⟨h1, h2, h3⟩ := Zi hx
  exact ⟨x, hx, h1, by unfold idE; rw [h2, h3]⟩
theorem Xa {o : Nat} : yN L e o = true ↔ e.deps.getD o 0 = 0 ∨ ∃ x, zq L ((o : Int), e.deps.getD o 0) = some x ∧ x.lam < e.lam ∧ ∀ i, i < x.deps.length → x.deps.getD i 0 ≤ e.deps.getD i 0 := by
  unfold yN
  by_cases h : e.deps.getD o 0 = 0
  · rw [decide_eq_true h, Bool.true_or]; exact ⟨fun _ => .inl h, fun _ => rfl⟩
  · rw [decide_eq_false h, Bool.false_or]
    constructor
    · intro h1
      cases hg : zq L ((o : Int), e.deps.getD o 0) with
      | none => rw [hg] at h1; cases h1
      | some x =>
        rw [hg] at h1
        simp only [Bool.and_eq_true, decide_eq_true_eq, List.all_eq_true, List.mem_range] at h1
        exact .inr ⟨x, rfl, h1.1, fun i hi => h1.2 i hi⟩
    · rintro (h1 | ⟨x, hg, h1, h2⟩)
      · exact absurd h1 h
      · rw [hg]
        simp only [Bool.and_eq_true, decide_eq_true_eq, List.all_eq_true, List.mem_range]
        exact ⟨h1, fun i hi => h2 i hi⟩
theorem Good.pred (h : Good n L) (hx : x ∈ L) (h1 : 1 < x.seq) : ∃ z ∈ L, z.origin = x.origin ∧ z.seq = x.seq - 1 ∧ z.lam < x.lam := by
  obtain ⟨⟨ho, ho'⟩, _, _, hd⟩ := yY (h.chk x hx)
  have hk := h.knw x hx x.origin.toNat (by omega)
  rw [Xa, hd] at hk
  rcases hk with hk | ⟨z, hz, hl, _⟩
  · omega
  · obtain ⟨h2, h3, h4⟩ := Zi hz
    exact ⟨z, h2, by rw [h3]; exact h.org hx, h4, hl⟩
theorem Good.order (h : Good n L) : ∀ (k : Nat) {x y : Ev}, x ∈ L → y ∈ L → x.origin = y.origin → y.seq = x.seq + (k : Int) + 1 → x.lam < y.lam
  | k, x, y, hx, hy, ho, hk => by
    have h1 : 1 < y.seq := by have := (yY (h.chk x hx)).2.1.1; omega
    obtain ⟨z, hz, hzo, hzs, hzl⟩ := h.pred hy h1
    cases k with
    | zero =>
      have : x = z := h.uniq hx hz (by unfold idE; rw [ho, hzo, hzs]; congr 1; omega)
      rw [this]; exact hzl
    | succ k =>
      have := Good.order h k hx hz (ho.trans hzo.symm) (by rw [hzs, hk]; omega)
      omega
theorem Good.ahead (h : Good n L) (hx : x ∈ L) (hy : y ∈ L) (ho : x.origin = y.origin) (hs : x.seq < y.seq) : yt x y < 0 :=
  Uj (h.order (y.seq - x.seq - 1).toNat hx hy ho (by omega))

theorem add_zero (h : zU n L e = 0) : zI e n = 0 ∧ (zq L (e.origin, e.seq)).isSome = false ∧ e.seq = ((xE L e.origin.toNat : Nat) : Int) + 1 ∧ ∀ o, o < n → yN L e o = true := by
  unfold zU at h
  split at h
  · rename_i h1; exact absurd h h1
  · rename_i h1
    split at h
    · cases h
    · rename_i h2
      split at h
      · cases h
      · rename_i h3
        split at h
        · rename_i h4
          refine ⟨by simpa using h1, by simpa using h2, by simpa using h3, fun o ho => ?_⟩
          exact (List.all_eq_true.1 h4) o (List.mem_range.2 ho)
        · cases h
theorem Xv {k : Int × Int} (h : (zq L (e.origin, e.seq)).isSome = false) : zq (yj e L) k = if (e.origin, e.seq) = k then some e else zq L k := by
  rw [← Vc h]; rfl
theorem Good.add (h : Good n L) (h0 : zU n L e = 0) : Good n (yj e L) := by
  obtain ⟨hc, hg, hs, hk⟩ := add_zero h0
  obtain ⟨⟨ho, ho'⟩, ⟨hs1, _⟩, hdl, hdq⟩ := yY hc
  have hid : idE e ∉ L.map idE := fun hm => by
    have := WZ.2 hm
    unfold idE at this
    rw [hg] at this; cases this
  have hkn : ∀ {x : Ev} {o : Nat}, yN L x o = true → yN (yj e L) x o = true := fun {x o} hx => by
    rw [Xa] at hx ⊢
    rcases hx with hx | ⟨z, hz, h1, h2⟩
    · exact .inl hx
    · refine .inr ⟨z, ?_, h1, h2⟩
      rw [Xv hg, if_neg, hz]
      intro he
      rw [he, hz] at hg; cases hg
  refine ⟨fun x hx => ?_, ?_, YW h.srt hid, fun x hx o hlt => ?_, fun x hx => ?_, fun o q h1 h2 => ?_⟩
  · rcases xy.1 hx with rfl | hx
    · exact hc
    · exact h.chk x hx
  · have hp : ((yj e L).map idE).Perm (idE e :: L.map idE) := insE_perm.map idE
    exact hp.nodup_iff.2 (List.nodup_cons.2 ⟨hid, h.ids⟩)
  · rcases xy.1 hx with rfl | hx
    · exact hkn (hk o hlt)
    · exact hkn (h.knw x hx o hlt)
  · rw [Wa]
    rcases xy.1 hx with rfl | hx
    · rw [if_pos (by omega)]; omega
    · have := h.seqle x hx; omega
  · rw [Wa] at h2
    rw [Xv hg]
    by_cases he : (e.origin, e.seq) = ((o : Int), q)
    · rw [if_pos he]; rfl
    · rw [if_neg he]
      refine h.fill o q h1 ?_
      by_cases hoe : e.origin = (o : Int)
      · rw [if_pos hoe] at h2
        have : e.seq ≠ q := fun hq => he (by rw [hoe, hq])
        have h3 : e.origin.toNat = o := by omega
        rw [h3] at hs
        omega
      · rw [if_neg hoe] at h2; simpa using h2
theorem Good.addL (h : Good n L) : Good n (addL n L e) := by
  unfold Go.Proofs.Ytmiihhbeclhaoaa.addL
  split
  · rename_i h0; exact h.add h0
  · exact h
def yX (n : Nat) (l : List Ev) : List Ev := l.foldl (addL n) []
theorem YL {l : List Ev} : yX n (l ++ [e]) = addL n (yX n l) e := by unfold yX; rw [List.foldl_append]; rfl
theorem xt : ∀ {l : List Ev} {L : List Ev}, Good n L → Good n (l.foldl (addL n) L)
  | [], _, h => h
  | _ :: l, _, h => xt (l := l) h.addL
theorem laidL_good {l : List Ev} : Good n (yX n l) := xt Good.nil
theorem xN : (addL n L e).length ≤ L.length + 1 := by
  unfold addL
  split
  · rw [YY]; omega
  · omega
theorem Zo : ∀ {l : List Ev} {L : List Ev}, (l.foldl (addL n) L).length ≤ L.length + l.length
  | [], _ => Nat.le_refl _
  | x :: l, L => by
    have := Zo (l := l) (L := addL n L x)
    have h2 := xN (n := n) (L := L) (e := x)
    simp only [List.foldl_cons, List.length_cons]
    omega
theorem Uw {l : List Ev} : (yX n l).length ≤ l.length := by have := Zo (n := n) (l := l) (L := []); simpa [yX] using this

theorem Good.sub_add (h : Good n L) (ht : Good n T) (hsub : ∀ x ∈ T, x ∈ L) (he : e ∈ L) (hne : e ∉ T) (hall : ∀ x ∈ L, yt x e < 0 → x ∈ T) : zU n T e = 0 := by
  have hc := h.chk e he
  obtain ⟨⟨ho, ho'⟩, ⟨hs1, _⟩, _, _⟩ := yY hc
  have hg : (zq T (e.origin, e.seq)).isSome = false := by
    cases hb : (zq T (e.origin, e.seq)).isSome with
    | false => rfl
    | true =>
      obtain ⟨x, _, hx, hid⟩ := Yb hb
      exact absurd (h.uniq (hsub x hx) he hid ▸ hx) hne
  have horg := h.org he
  have hseq : e.seq = ((xE T e.origin.toNat : Nat) : Int) + 1 := by
    rcases Int.lt_trichotomy e.seq (((xE T e.origin.toNat : Nat) : Int) + 1) with h1 | h1 | h1
    · have := ht.fill e.origin.toNat e.seq hs1 (by omega)
      rw [horg, hg] at this; cases this
    · exact h1
    · exfalso
      have h2 := h.seqle e he
      have h3 := h.fill e.origin.toNat (((xE T e.origin.toNat : Nat) : Int) + 1) (by omega) (by omega)
      obtain ⟨y, _, hy, hid⟩ := Yb h3
      have hyo : y.origin = e.origin := by have := congrArg Prod.fst hid; simpa [idE, horg] using this
      have hys : y.seq = ((xE T e.origin.toNat : Nat) : Int) + 1 := congrArg Prod.snd hid
      have hyt := hall y hy (h.ahead hy he hyo (by omega))
      have := ht.seqle y hyt
      rw [hyo] at this
      omega
  refine Zj hc hg hseq fun o hlt => ?_
  have hk := h.knw e he o hlt
  rw [Xa] at hk ⊢
  rcases hk with hk | ⟨x, hx, hl, hd⟩
  · exact .inl hk
  · obtain ⟨hx1, hx2, hx3⟩ := Zi hx
    have hxt := hall x hx1 (Uj hl)
    refine .inr ⟨x, ?_, hl, hd⟩
    have := ht.get hxt
    rw [hx2, hx3] at this
    exact this
end
end Go.Proofs.Ytmiihhbeclhaoaa
end

section
/- Steps of the proofs of this seat: part B1. -/
set_option maxRecDepth 8000
set_option maxHeartbeats 4000000
namespace Go.Proofs.Ytmiihhbeclhaoaa
open Go.Proofs Go.RowKit

theorem xo {G : Nat → Prop} {W w : World} {Rs : List HP} {va : Value} {a : List Ev} (ha : RdS W G va a) {vb : Value} {b : List Ev} (hb : RdS W G vb b) (hS0 : Sep G W Rs w) : Ret Try.prog 19 [va, vb] w (fun r w' => r = (.bool (decide (a = b)) : Value) ∧ Sep G W Rs w') := by
 have has : _ * 96 ≤ _ := ha.small
 have hbs : _ * 96 ≤ _ := hb.small
 refine zp (args := [va, vb]) Try.func19 rfl rfl ?_
 refine zc ?_
 refine za (by kernel_rfl) (fun _ => ?_)
 refine st (zd (v := .bool false) rfl ?_)
 refine ze ?_
 refine zc ?_
 refine zc ?_
 refine za (by kernel_rfl) (fun _ => ?_)
 refine st (zb (v := va) rfl ?_)
 refine st (zJ (n := a.length) Try.underlying22 rfl ha.sl ?_)
 refine st (zb (v := vb) rfl ?_)
 refine st (zJ (n := b.length) Try.underlying22 rfl hb.sl ?_)
 refine st (yH (k := .i64) (a := ((a.length : Nat) : Int)) (b := ((b.length : Nat) : Int)) rfl rfl ?_)
 refine ze ?_
 cases hc1 : !decide (((a.length : Nat) : Int) = ((b.length : Nat) : Int))
 ·skip
  have hc1 := yh hc1
  refine zi rfl ?_
  refine zo ?_
  refine zc ?_
  refine zc ?_
  refine za (by kernel_rfl) (fun _ => ?_)
  refine st (zd (v := .int .i64 (0)) rfl ?_)
  refine ze ?_
  refine zt ?_
  refine zP (fun mq σ wq => ∃ (k : Nat) (ρ : Env), mq = a.length - k ∧ σ = zQ ρ [(0, va), (1, vb), (5, .int .i64 ((k : Nat) : Int))] ∧ (k ≤ a.length) ∧ (∀ i, i < k → a.getD i default = b.getD i default) ∧ Sep G W Rs wq) ⟨0, _, rfl, zh ⟨rfl, rfl, rfl, trivial⟩, Nat.zero_le _, (fun i h => absurd h (Nat.not_lt_zero i)), hS0⟩ ?_
  rintro m3 σ4 w2 ⟨k, ρl1, rfl, rfl, hkk, hm, hS5⟩
  refine zc ?_
  refine zc ?_
  refine za (by kernel_rfl) (fun _ => ?_)
  refine st (zb (v := .int .i64 ((k : Nat) : Int)) rfl ?_)
  refine st (zb (v := va) rfl ?_)
  refine st (zJ (n := a.length) Try.underlying22 rfl ha.sl ?_)
  refine st (zH (k := .i64) (a := ((k : Nat) : Int)) (b := ((a.length : Nat) : Int)) rfl rfl ?_)
  refine ze ?_
  cases hc6 : decide (((k : Nat) : Int) < ((a.length : Nat) : Int))
  ·skip
   have hc6 := of_decide_eq_false hc6
   refine zi rfl ?_
   refine zO ?_
   refine zF ?_
   refine zc ?_
   refine za (by kernel_rfl) (fun _ => ?_)
   refine st (zd (v := .bool true) rfl ?_)
   refine ze ?_
   refine zw ?_
   refine zL Try.results19 (show _ = (.bool true : Value) from rfl) ?_
   refine ⟨?_, hS5⟩
   rw [decide_eq_true (Wl (by omega) (fun i hi => hm i (by omega)))]
  ·skip
   have hc6 := of_decide_eq_true hc6
   refine zk rfl ?_
   refine zo ?_
   refine zc ?_
   refine zt ?_
   refine zc ?_
   refine zM (WF [fun vals wq => Sep G W Rs wq, fun vals wq => (vals 8 = (.bool (decide ((a.getD k default) = (b.getD k default))) : Value)) ∧ Sep G W Rs wq]) (AF [Vl 0 (va), Vl 1 (.int .i64 ((k : Nat) : Int)), Vl 2 (.pointer (some ⟨sb va, so va + k * 10, none⟩)), Vl 3 (.agg ((a.getD k default).cells (zT W (sb va) (so va + k * 10 + 3))).toArray), Vl 4 (vb), Vl 5 (.int .i64 ((k : Nat) : Int)), Vl 6 (.pointer (some ⟨sb vb, so vb + k * 10, none⟩)), Vl 7 (.agg ((b.getD k default).cells (zT W (sb vb) (so vb + k * 10 + 3))).toArray), fun _ => True, Vl 9 (.bool (!(decide ((a.getD k default) = (b.getD k default)))))]) [[], [], [0, 1], [0, 1, 2], [], [], [4, 5], [4, 5, 6], [0, 1, 2, 3, 4, 5, 6, 7], [0, 1, 2, 3, 4, 5, 6, 7, 8]] [8] [(0, 0), (0, 0), (0, 0), (0, 0), (0, 0), (0, 0), (0, 0), (0, 0), (0, 0), (1, 1)] (by kernel_rfl) (by kernel_rfl) (by kernel_rfl) rfl (by kernel_rfl) (by kernel_rfl) (fun _ h1 h2 h3 h4 _ => hS5.same h1 h2 h3 h4) ?_ (yc ⟨dA, dA, dA, dA, dA, dA, dA, dA, dT, dA, trivial⟩) ⟨?_, ?_, ?_, ?_, ?_, ?_, ?_, ?_, ?_, ?_, trivial⟩ ?_
   ·intro k vals vals' w hv h
    have e : ∀ j ∈ ([8] : List Nat), vals' j = vals j := hv
    match k, h with
    | 0, h => exact h
    | 1, h => exact (by simpa only [WF, List.getElem?_cons_zero, List.getElem?_cons_succ, e 8 (by decide)] using h)
    | _ + 2, _ => trivial
   ·intro k102 vals w103 h106 h107 hW105 hA104
    refine obl rfl ?_
    exact zb (v := va) rfl (fun vals' hv _ => ⟨rfl, hv⟩)
   ·intro k108 vals w109 h112 h113 hW111 hA110
    refine obl rfl ?_
    exact zb (v := .int .i64 ((k : Nat) : Int)) rfl (fun vals' hv _ => ⟨rfl, hv⟩)
   ·intro k114 vals w115 h118 h119 hW117 hA116
    obtain rfl : k114 = 0 := Nat.le_antisymm h119 h118
    have hS120 : Sep _ _ _ _ := hW117
    have e121 := hA116 0 (by decide)
    have e122 := hA116 1 (by decide)
    refine obl rfl ?_
    have hi123 : k < a.length := (by first | omega | (simp only [lens]; omega))
    exact zl (k := 10) (i := k) Try.underlying22 Try.sizeOf36 e121 ha.sl e122 hi123 (fun vals' hv _ => ⟨rfl, hv⟩)
   ·intro k124 vals w125 h128 h129 hW127 hA126
    obtain rfl : k124 = 0 := Nat.le_antisymm h129 h128
    have hS130 : Sep _ _ _ _ := hW127
    have e131 := hA126 2 (by decide)
    refine obl rfl ?_
    have hi133 : k < a.length := (by first | omega | (simp only [lens]; omega))
    obtain ⟨hce132, hde132_0, hoke132⟩ := ha.ev hi133
    rw [← zm default hi133] at hce132 hde132_0 hoke132
    have hsm134 : ((a.getD k default).deps).length * 8 ≤ 140737488355328 := hde132_0.small
    have hcw135 := hS130.cells hce132 (ha.foot (ne_of_lt hi133))
    exact zr (k := 10) Try.isAgg36 Try.sizeOf36 rfl e131 hcw135 (fun vals' hv _ => ⟨rfl, hv⟩)
   ·intro k136 vals w137 h140 h141 hW139 hA138
    refine obl rfl ?_
    exact zb (v := vb) rfl (fun vals' hv _ => ⟨rfl, hv⟩)
   ·intro k142 vals w143 h146 h147 hW145 hA144
    refine obl rfl ?_
    exact zb (v := .int .i64 ((k : Nat) : Int)) rfl (fun vals' hv _ => ⟨rfl, hv⟩)
   ·intro k148 vals w149 h152 h153 hW151 hA150
    obtain rfl : k148 = 0 := Nat.le_antisymm h153 h152
    have hS154 : Sep _ _ _ _ := hW151
    have e155 := hA150 4 (by decide)
    have e156 := hA150 5 (by decide)
    refine obl rfl ?_
    have hi157 : k < b.length := (by first | omega | (simp only [lens]; omega))
    exact zl (k := 10) (i := k) Try.underlying22 Try.sizeOf36 e155 hb.sl e156 hi157 (fun vals' hv _ => ⟨rfl, hv⟩)
   ·intro k158 vals w159 h162 h163 hW161 hA160
    obtain rfl : k158 = 0 := Nat.le_antisymm h163 h162
    have hS164 : Sep _ _ _ _ := hW161
    have e165 := hA160 6 (by decide)
    refine obl rfl ?_
    have hi167 : k < b.length := (by first | omega | (simp only [lens]; omega))
    obtain ⟨hce166, hde166_0, hoke166⟩ := hb.ev hi167
    rw [← zm default hi167] at hce166 hde166_0 hoke166
    have hsm168 : ((b.getD k default).deps).length * 8 ≤ 140737488355328 := hde166_0.small
    have hcw169 := hS164.cells hce166 (hb.foot (ne_of_lt hi167))
    exact zr (k := 10) Try.isAgg36 Try.sizeOf36 rfl e165 hcw169 (fun vals' hv _ => ⟨rfl, hv⟩)
   ·intro k75 vals w76 h79 h80 hW78 hA77
    obtain rfl : k75 = 0 := Nat.le_antisymm h80 h79
    have hS81 : Sep _ _ _ _ := hW78
    have e82 := hA77 3 (by decide)
    have e83 := hA77 7 (by decide)
    refine obl rfl ?_
    have hi85 : k < a.length := (by first | omega | (simp only [lens]; omega))
    obtain ⟨hce84, hde84_0, hoke84⟩ := ha.ev hi85
    rw [← zm default hi85] at hce84 hde84_0 hoke84
    have hsm86 : ((a.getD k default).deps).length * 8 ≤ 140737488355328 := hde84_0.small
    have hcw87 := hS81.cells hce84 (ha.foot (ne_of_lt hi85))
    have hi89 : k < b.length := (by first | omega | (simp only [lens]; omega))
    obtain ⟨hce88, hde88_0, hoke88⟩ := hb.ev hi89
    rw [← zm default hi89] at hce88 hde88_0 hoke88
    have hsm90 : ((b.getD k default).deps).length * 8 ≤ 140737488355328 := hde88_0.small
    have hcw91 := hS81.cells hce88 (hb.foot (ne_of_lt hi89))
    refine (zj (f := 51) (vals := [.agg ((a.getD k default).cells (zT W (sb va) (so va + k * 10 + 3))).toArray, .agg ((b.getD k default).cells (zT W (sb vb) (so vb + k * 10 + 3))).toArray]) (cap := []) rfl (xc ⟨e82, e83, trivial⟩) Try.call51 (Wp (a := (a.getD k default)) (b := (b.getD k default)) hde84_0 hoke84 hde88_0 hoke88 hS81) ?_)
    rintro _ w92 ⟨rfl, hS93⟩
    intro vals' hv hv'
    refine ⟨?_, trivial⟩
    show (vals' 8 = (.bool (decide ((a.getD k default) = (b.getD k default))) : Value)) ∧ Sep G W Rs w92
    exact ⟨hv, hS93⟩
   ·intro k170 vals w171 h174 h175 hW173 hA172
    obtain rfl : k170 = 1 := Nat.le_antisymm h175 h174
    obtain ⟨he94, hS176⟩ := hW173
    refine obl rfl ?_
    exact yA (a := decide ((a.getD k default) = (b.getD k default))) he94 (fun vals' hv _ => ⟨rfl, hv⟩)
   intro vals w177 hW178 hA179
   obtain ⟨he94, hS180⟩ := hW178
   have e181 := hA179 9 (by decide)
   refine yb (kv := [(0, va), (1, vb), (5, .int .i64 ((k : Nat) : Int)), (11, .int .i64 ((k : Nat) : Int)), (12, va), (13, .int .i64 ((a.length : Nat) : Int)), (14, .bool true), (26, .bool (!(decide ((a.getD k default) = (b.getD k default)))))]) ⟨rfl, rfl, rfl, rfl, rfl, rfl, rfl, (by exact e181), trivial⟩ (fun ρw177 => ?_)
   refine ze ?_
   cases hc182 : !(decide ((a.getD k default) = (b.getD k default)))
   ·skip
    have hc182 := yh hc182
    refine zi rfl ?_
    refine zo ?_
    refine za (by kernel_rfl) (fun _ => ?_)
    refine st (zb (v := .int .i64 ((k : Nat) : Int)) rfl ?_)
    have hr183 : InR ((k + 1 : Nat) : Int) := by first | omega | (simp only [lens]; omega)
    refine st (zB (r := ((k + 1 : Nat) : Int)) (k := .i64) (a := ((k : Nat) : Int)) (b := 1) rfl rfl (by rw [show (((k : Nat) : Int) + 1 : Int) = ((k + 1 : Nat) : Int) by first | omega | (simp only [lens]; omega)]; exact zy hr183) ?_)
    refine st (zd (v := .int .i64 ((k + 1 : Nat) : Int)) rfl ?_)
    refine ze ?_
    exact ⟨_, by omega, k + 1, _, rfl, zh ⟨rfl, rfl, rfl, trivial⟩, by omega, (yE hm (by simpa using hc182)), hS180⟩
   ·skip
    have hc182 := yx hc182
    refine zk rfl ?_
    refine zc ?_
    refine za (by kernel_rfl) (fun _ => ?_)
    refine st (zd (v := .bool false) rfl ?_)
    refine ze ?_
    refine zw ?_
    refine zL Try.results19 (show _ = (.bool false : Value) from rfl) ?_
    refine ⟨?_, hS180⟩
    rw [decide_eq_false (fun e => by subst e; first | omega | (simp at hc182))]
 ·skip
  have hc1 := yx hc1
  refine zk rfl ?_
  refine zc ?_
  refine za (by kernel_rfl) (fun _ => ?_)
  refine st (zd (v := .bool false) rfl ?_)
  refine ze ?_
  refine zw ?_
  refine zL Try.results19 (show _ = (.bool false : Value) from rfl) ?_
  refine ⟨?_, hS0⟩
  rw [decide_eq_false (fun e => by subst e; first | omega | (simp at hc1))]

theorem Yh {n : Nat} {l : List Ev} {k : Nat} (hk : k < l.length) : addL n (yX n (l.take k)) (l.getD k default) = yX n (l.take (k + 1)) := by
  rw [List.take_succ_eq_append_getElem hk, YL, zm _ hk]
theorem xB {n : Nat} {l : List Ev} {k : Nat} : (yX n (l.take k)).length ≤ l.length := Nat.le_trans Uw (List.length_take_le' ..)
end Go.Proofs.Ytmiihhbeclhaoaa
end

section
/- Steps of the proofs of this seat: part B2. -/
set_option maxRecDepth 8000
set_option maxHeartbeats 4000000
namespace Go.Proofs.Ytmiihhbeclhaoaa
open Go.Proofs Go.RowKit

end Go.Proofs.Ytmiihhbeclhaoaa
end

section
/- Steps of the proofs of this seat: part B5. -/
set_option maxRecDepth 8000
set_option maxHeartbeats 4000000
namespace Go.Proofs.Ytmiihhbeclhaoaa
open Go.Proofs Go.RowKit

section
variable {n : Nat} {L : List Ev} {e : Ev}
theorem KT {a b : Ev} (h : ltE a b = true) : ltE b a = false := by
  cases hb : ltE b a with
  | false => rfl
  | true => exact absurd (xf.1 hb) (xO (xf.1 h))
theorem Jp {a b : Ev} (h : idE a ≠ idE b) (h2 : ¬ ltE a b = true) : ltE b a = true := by
  rcases Xu h with h3 | h3
  · exact absurd (xf.2 h3) h2
  · exact xf.2 h3
theorem Qq : ∀ {L : List Ev} {k : Nat}, idE e ∉ L.map idE → k ≤ L.length → (∀ j, j < k → ltE (L.getD j default) e = true) → (k < L.length → ltE (L.getD k default) e = false) → yj e L = (L.take k ++ [e]) ++ L.drop k
  | [], k, _, hk, _, _ => by
    have : k = 0 := by simpa using hk
    subst this; rfl
  | x :: l, 0, hn, _, _, h => by
    have h1 := h (Nat.succ_pos _)
    have hne : idE x ≠ idE e := fun he => hn (by rw [← he]; exact List.mem_map.2 ⟨x, List.mem_cons_self .., rfl⟩)
    have h2 : ltE e x = true := Jp hne (by simpa using h1)
    simp only [yj]
    rw [if_pos h2]; rfl
  | x :: l, k + 1, hn, hk, hp, h => by
    have h1 := hp 0 (Nat.succ_pos _)
    have h2 : ¬ ltE e x = true := by rw [KT (by simpa using h1)]; decide
    simp only [yj]
    rw [if_neg h2, Qq (L := l) (k := k) (fun hm => hn (List.mem_cons_of_mem _ hm)) (by simpa using hk) (fun j hj => by simpa using hp (j + 1) (Nat.succ_lt_succ hj)) (fun hl => by simpa using h (Nat.succ_lt_succ hl))]
    rfl
end
end Go.Proofs.Ytmiihhbeclhaoaa
end

section
/- Steps of the proofs of this seat: part B6. -/
set_option maxRecDepth 8000
set_option maxHeartbeats 4000000
namespace Go.Proofs.Ytmiihhbeclhaoaa
open Go.Proofs Go.RowKit

section
variable {n : Nat} {L T : List Ev} {e x : Ev}
theorem Uk : ∀ {T : List Ev}, (∀ x ∈ T, yt x e < 0) → yj e T = T ++ [e]
  | [], _ => rfl
  | x :: l, h => by
    have h1 := h x (List.mem_cons_self ..)
    have h2 : ¬ ltE e x = true := fun h3 => xO h1 (xf.1 h3)
    simp only [yj]
    rw [if_neg h2, Uk fun y hy => h y (List.mem_cons_of_mem _ hy)]; rfl
theorem Good.at_lt (h : Good n L) {i j : Nat} (hij : i < j) (hj : j < L.length) : yt (L.getD i default) (L.getD j default) < 0 := by
  rw [zm _ (by omega), zm _ hj]
  exact List.pairwise_iff_getElem.1 h.srt i j (by omega) hj hij
theorem Wu {i : Nat} (hx : x ∈ L.take i) : ∃ j, j < i ∧ j < L.length ∧ x = L.getD j default := by
  obtain ⟨j, hj, rfl⟩ := List.getElem_of_mem hx
  rw [List.length_take] at hj
  refine ⟨j, by omega, by omega, ?_⟩
  rw [zm _ (by omega), List.getElem_take]
theorem xb {i : Nat} (hi : i < L.length) : L.getD i default ∈ L := by rw [zm _ hi]; exact List.getElem_mem hi
theorem Wq {i j : Nat} (hi : i < j) (hj : i < L.length) : L.getD i default ∈ L.take j := by
  rw [zm _ hj]
  exact List.mem_take_iff_getElem.2 ⟨i, by omega, rfl⟩
theorem Good.step (h : Good n L) {i : Nat} (hi : i < L.length) (ht : Good n (L.take i)) : zU n (L.take i) (L.getD i default) = 0 := by
  refine h.sub_add ht (fun x hx => List.mem_of_mem_take hx) (xb hi) (fun hm => ?_) (fun x hx hlt => ?_)
  · obtain ⟨j, h1, h2, h3⟩ := Wu hm
    have := h.at_lt h1 hi
    rw [← h3] at this
    rw [yQ] at this; omega
  · obtain ⟨j, hj, rfl⟩ := List.getElem_of_mem hx
    rw [← zm default hj] at hlt ⊢
    rcases Nat.lt_trichotomy j i with h1 | h1 | h1
    · exact Wq h1 hj
    · subst h1; rw [yQ] at hlt; omega
    · exact absurd (h.at_lt h1 hj) (xO hlt)
theorem xr {i : Nat} (hi : i < L.length) : L.take (i + 1) = L.take i ++ [L.getD i default] := by
  rw [List.take_succ_eq_append_getElem hi, zm _ hi]
theorem Good.ins_take (h : Good n L) {i : Nat} (hi : i < L.length) : yj (L.getD i default) (L.take i) = L.take (i + 1) := by
  rw [xr hi]
  refine Uk fun x hx => ?_
  obtain ⟨j, h1, h2, rfl⟩ := Wu hx
  exact h.at_lt h1 hi
theorem Good.upto (h : Good n L) : ∀ (i : Nat), i ≤ L.length → Good n (L.take i)
  | 0, _ => Good.nil
  | i + 1, hi => by
    have ht := h.upto i (by omega)
    rw [← h.ins_take hi]
    exact ht.add (h.step hi ht)
theorem Qo (h : Good n L) {i : Nat} (hi : i < L.length) : (zz n (L.take i)).set (L.getD i default).origin.toNat ((zz n (L.take i)).getD (L.getD i default).origin.toNat 0 + 1) = zz n (L.take (i + 1)) := by
  obtain ⟨⟨h0, h1⟩, _⟩ := yY (h.chk _ (xb hi))
  rw [ZI (by omega), Ue h0 h1, h.ins_take hi]
theorem Good.chk_at (h : Good n L) {i : Nat} (hi : i < L.length) : (0 ≤ (L.getD i default).origin ∧ (L.getD i default).origin < n) ∧ (L.getD i default).deps.length = n := by
  obtain ⟨h0, _, h2, _⟩ := yY (h.chk _ (xb hi))
  exact ⟨h0, h2⟩
end
end Go.Proofs.Ytmiihhbeclhaoaa
end

section
/- Rows, of whose elements some have memory of their own, and others lie in what is lent. -/
namespace Go.Proofs.Ytmiihhbeclhaoaa
open Go.RowKit

theorem ZE {P : Program} {o : Oper} {σ : Env} {w : World} {K : Value → World → Prop} {v v' : Value} (h : v = v') (hop : ∀ K' : Value → World → Prop, K' v w → opV P o σ w K') (hK : K v' w) : opV P o σ w K := by subst h; exact hop K hK
def alt {α : Type} [Rep α] (F : Nat → Prop) (W : World) : Src α :=
  ⟨fun cs x => ⟨fun w f => ((own (α := α)).el cs x).p w f ∨ Rep.rd W F cs x, fun h hf => h.imp (fun h => ((own (α := α)).el cs x).loc h hf) id⟩, fun {w f cs x} h => h.elim (fun h => (own (α := α)).len (w := w) (f := f) h) Rep.len, fun {w f cs x} h => h.elim (fun h => (own (α := α)).one (w := w) (f := f) h) Rep.one⟩
section
variable {α : Type} [Rep α] {G : Nat → Prop} {W w : World} {As : List HP} {T : TypeId} {v : Value} {l : List α}
theorem Sep.lendA (h : Sep G W (RowE (own (α := α)) T v l :: As) w) : ∃ F G' : Nat → Prop, RdS w F v l ∧ Base F w G' w ∧ Base G W G' w ∧ Sep G' w As w ∧
    (∀ (T' : TypeId) (v' : Value) (l' : List α) (Cs : List HP) (w' : World), Sep G' w (RowE (alt F w) T' v' l' :: Cs) w' → Sep G W (RowE (own (α := α)) T' v' l' :: Cs) w') := by
  obtain ⟨fs, h1, h2⟩ := h.parts
  obtain ⟨hA, hl⟩ := h1 0 _ rfl
  refine ⟨fun b => fs 0 b ∧ Soft w b, fun b => G b ∨ fs 0 b, RowE.soft hA, fun b hb _ => ⟨rfl, .inr hb.1⟩, fun b hb hlt => ⟨(h.kept.keep b hb).2, .inl hb⟩, ⟨Kept.refl (fun b hb => ?_), fun i => fs (i + 1), fun i C hC => ?_, fun i j hi hj hne => ?_⟩, fun T' v' l' Cs w' hC => ?_⟩
  · rcases hb with hb | hb
    · have := (h.kept.keep b hb).1; have := h.kept.size; omega
    · exact (hl b hb).2
  · obtain ⟨h3, h4⟩ := h1 (i + 1) C (by simpa using hC)
    have hi := (List.getElem?_eq_some_iff.1 hC).1
    exact ⟨h3, fun b hb => ⟨fun hg => hg.elim (h4 b hb).1 (fun h0 => h2 0 (i + 1) (by simp) (by simp; omega) (by omega) b h0 hb), (h4 b hb).2⟩⟩
  · exact h2 _ _ (by simp; omega) (by simp; omega) (by omega)
  · obtain ⟨gs, g1, g2⟩ := hC.parts
    have hkA : ∀ b, fs 0 b → w'.heap[b]? = w.heap[b]? := fun b hb => (hC.kept.keep b (.inr hb)).2
    have old : ∀ j, j < Cs.length + 1 → ∀ b, gs j b → ¬ fs 0 b := fun j hj b hb h0 => ((g1 j _ (List.getElem?_eq_getElem (by simpa using hj))).2 b hb).1 (.inr h0)
    refine ⟨⟨hC.kept.os.trans h.kept.os, hC.kept.tape.trans h.kept.tape, hC.kept.output.trans h.kept.output, Nat.le_trans h.kept.size hC.kept.size, Nat.le_trans h.kept.drawn hC.kept.drawn, fun b hb => ⟨(h.kept.keep b hb).1, ((hC.kept.keep b (.inl hb)).2).trans (h.kept.keep b hb).2⟩⟩,
      fun i b => match i with | 0 => gs 0 b ∨ fs 0 b | i + 1 => gs (i + 1) b, fun i D hD => ?_, fun i j hi hj hne b hb => ?_⟩
    · cases i with
      | zero =>
        simp only [List.getElem?_cons_zero, Option.some.injEq] at hD
        subst hD
        obtain ⟨⟨css, hE, hown, hrow, hsm⟩, h4⟩ := g1 0 _ rfl
        refine ⟨⟨css, hE.mono (fun cs x hx => ?_), hown, fun b hb => .inl (hrow b hb), hsm⟩, fun b hb => ?_⟩
        · rcases hx with hx | hx
          · exact ((own (α := α)).el cs x).weak hx (fun b hb _ => ⟨.inl hb.1, hb.2⟩)
          · exact Rep.mono hx (fun b hb hlt => ⟨hkA b hb.1, ⟨.inr hb.1, fun e => old 0 (Nat.succ_pos _) b (hrow b e) hb.1⟩, hb.2.keep (hkA b hb.1)⟩)
        · rcases hb with hb | hb
          · exact ⟨fun hg => (h4 b hb).1 (.inl hg), (h4 b hb).2⟩
          · exact ⟨(hl b hb).1, Nat.lt_of_lt_of_le (hl b hb).2 hC.kept.size⟩
      | succ i =>
        obtain ⟨h3, h4⟩ := g1 (i + 1) D hD
        exact ⟨h3, fun b hb => ⟨fun hg => (h4 b hb).1 (.inl hg), (h4 b hb).2⟩⟩
    · simp only [List.length_cons] at hi hj
      cases i with
      | zero =>
        cases j with
        | zero => exact (hne rfl).elim
        | succ j =>
          intro hb2
          rcases hb with hb | hb
          · exact g2 0 (j + 1) (by simp) (by simpa using hj) (by omega) b hb hb2
          · exact old (j + 1) hj b hb2 hb
      | succ i =>
        cases j with
        | zero =>
          rintro (hb2 | hb2)
          · exact g2 (i + 1) 0 (by simpa using hi) (by simp) (by omega) b hb hb2
          · exact old (i + 1) hi b hb hb2
        | succ j => exact g2 (i + 1) (j + 1) (by simpa using hi) (by simpa using hj) hne b hb
end
theorem RdS.evD {w : World} {F : Nat → Prop} {v : Value} {l : List Ev} {i : Nat} (h : RdS w F v l) (hi : i < l.length) : Rep.rd w F ((l.getD i default).cells (zT w (sb v) (so v + i * 10 + 3))) (l.getD i default) := by
  obtain ⟨_, h1, h2⟩ := h.ev hi
  rw [zm default hi]
  exact ⟨_, rfl, h1, h2⟩
end Go.Proofs.Ytmiihhbeclhaoaa
end
