/- Texts of this claim, part 9. -/
import Derived.Test.YtgjgmojjeehieaaZ8
import Derived.Shelf.SlSortCmp.NoneTotal
import Derived.Test.YtgjgmojjeehieaaProg
set_option linter.unusedSimpArgs false
set_option linter.unusedVariables false
set_option linter.unusedSectionVars false
section
/- The library's sort (the shelf's contract) over slices of a function's own. -/
namespace Go.Proofs.Ytgjgmojjeehieaa
open Go.Proofs Go.RowKit Go.Sort Go.Shelf

theorem VX {w w' : World} (h : Ext w w') : ∃ q os, w' = grow (w.drewN q) os := by
  obtain ⟨hs, ht, hd, ho, hp⟩ := w
  obtain ⟨hs', ht', hd', ho', hp'⟩ := w'
  refine ⟨hd' - hd, (hs'.toList.drop hs.size).toArray, ?_⟩
  have e1 : ho' = ho := h.os
  have e2 : ht' = ht := h.tape
  have e3 : hp' = hp := h.output
  have e4 : hd ≤ hd' := h.drawn
  have e5 : hs.size ≤ hs'.size := h.size
  have e6 : ∀ b, b < hs.size → hs'[b]? = hs[b]? := fun b hb => h.block b hb (fun h => h)
  have eh : hs' = hs ++ (hs'.toList.drop hs.size).toArray := by
    apply Array.ext_getElem?
    intro i
    rw [Array.getElem?_append]
    split
    · rename_i hi; exact e6 i hi
    · rename_i hi
      simp only [List.getElem?_toArray, List.getElem?_drop, Array.getElem?_toList]
      rw [show hs.size + (i - hs.size) = i by omega]
  have ed : hd' = hd + (hd' - hd) := by omega
  subst e1 e2 e3
  simp only [grow, World.drewN]
  rw [← eh, ← ed]

theorem Uj {P : Program} {α : Type} [Inhabited α] {g k : Nat} {cap : List Value} {enc : α → List Value} {cf : α → α → Int} {blk off size : Nat} {w : World}
    (h : ∀ W (x y : α), (∃ d : Array α, d.size = size ∧ ∃ m os, W = sortWorldK enc k w blk off m d os) → Ret P g ([.agg (enc x).toArray, .agg (enc y).toArray] ++ cap) W (fun r W' => r = .int .i64 (cf x y) ∧ Ext W W')) : CmpLays P g cap.toArray enc k cf blk off size w := by
  intro m os dk hs x y
  have := h _ x y ⟨dk, hs, m, os, rfl⟩
  unfold Ret at this
  have e : ([Value.agg (enc x).toArray, Value.agg (enc y).toArray] ++ cap).toArray = #[.agg (enc x).toArray, .agg (enc y).toArray] ++ cap.toArray := by simp
  rw [e] at this
  refine Calls.mono this ?_
  rintro e w' ⟨v, rfl, rfl, hx⟩
  exact ⟨rfl, VX hx⟩

theorem ZE {w : World} {b : Nat} {f : Array Value → Array Value} {c : Array Value} {T : TypeId} {fz : Nat × Nat} (h : w.heap[b]? = some (.cells c T fz)) : (mapBlock w b f).heap[b]? = some (.cells (f c) T fz) := by
  unfold mapBlock
  simp [Array.getElem?_modify, h, onCells]
theorem xR {w : World} {b i : Nat} {f : Array Value → Array Value} (h : i ≠ b) : (mapBlock w b f).heap[i]? = w.heap[i]? := by
  unfold mapBlock
  simp [Array.getElem?_modify, Ne.symm h]
theorem xx {w : World} {b : Nat} {f : Array Value → Array Value} : (mapBlock w b f).heap.size = w.heap.size := by
  unfold mapBlock; simp

theorem Yr {α : Type} [Inhabited α] {enc : α → List Value} {k blk off m : Nat} {w : World} {d : Array α} {os : Array Obj} (hb : blk < w.heap.size) : Chg (fun i => i = blk) w (sortWorldK enc k w blk off m d os) := by
  unfold sortWorldK putRowK putRow
  have hs : w.heap.size ≤ (grow (mapBlock (Sort.ahead w m) blk (putCells id off (flatK enc k d))) os).heap.size := by
    show _ ≤ (_ ++ os).size
    rw [Array.size_append, xx]
    exact Nat.le_add_right _ _
  have hg : ∀ i, i < w.heap.size → (grow (mapBlock (Sort.ahead w m) blk (putCells id off (flatK enc k d))) os).heap[i]? = (mapBlock (Sort.ahead w m) blk (putCells id off (flatK enc k d))).heap[i]? := by
    intro i hi
    show (_ ++ os)[i]? = _
    rw [Array.getElem?_append, if_pos (by rw [xx]; exact hi)]
  refine ⟨rfl, rfl, rfl, hs, fun i hi hne => ?_, ?_, Nat.le_add_right _ _⟩
  · rw [hg i hi, xR hne]; rfl
  · rintro i ⟨c, T, hc⟩
    have hi := (Array.getElem?_eq_some_iff.1 hc).1
    by_cases h : i = blk
    · subst h
      exact ⟨_, T, by rw [hg i hi]; exact ZE (w := Sort.ahead w m) hc⟩
    · exact ⟨c, T, by rw [hg i hi, xR h]; exact hc⟩
theorem Xg {α : Type} [Inhabited α] {enc : α → List Value} {k blk off m : Nat} {w : World} {d : Array α} {os : Array Obj} {c : Array Value} {T : TypeId} (hb : w.heap[blk]? = some (.cells c T)) :
    (sortWorldK enc k w blk off m d os).heap[blk]? = some (.cells (putCells id off (flatK enc k d) c) T) := by
  unfold sortWorldK putRowK putRow
  have hi := (Array.getElem?_eq_some_iff.1 hb).1
  show (_ ++ os)[blk]? = _
  rw [Array.getElem?_append, if_pos (by rw [xx]; exact hi)]
  exact ZE (w := Sort.ahead w m) hb

theorem Wv {α : Type} [Rep α] {w : World} {F : Nat → Prop} {enc : α → List Value} : ∀ {L : List α}, (∀ x ∈ L, Rep.rd w F (enc x) x) → Els w F (L.map enc) L
  | [], _ => trivial
  | x :: L, h => ⟨h x (List.mem_cons_self ..), Wv fun y hy => h y (List.mem_cons_of_mem _ hy)⟩
theorem We {α : Type} [Rep α] [Inhabited α] {P : Program} {ρ : Ren} (L : SlLaysF0.n6 P ρ) (aE : ∀ w, (isAgg (ρ.t 24)).run P w = .ok true w) (zE : ∀ w, (sizeOf (ρ.t 24)).run P w = .ok (Rep.k α) w)
    {enc : α → List Value} (henc : ∀ w F cs (x : α), Rep.rd w F cs x → cs = enc x) (hlen : ∀ x, (enc x).length = Rep.k α) (hone : ∀ x, ∀ u ∈ enc x, u.oneCell' = true) {cf : α → α → Int} (hO : SWO (ltOf cf)) {g : Nat} {cap : List Value} (eg : ∀ args w, (callFunc g args).run P w = .ok (.enter g args) w)
    {T : TypeId} {lo : Nat} {w : World} {F : Nat → Prop} {v : Value} {l : List α} (ho : OwnS T lo w F v l)
    (hcmp : ∀ W (x y : α), Ret P g ([.agg (enc x).toArray, .agg (enc y).toArray] ++ cap) W (fun r W' => r = .int .i64 (cf x y) ∧ Ext W W'))
    (hre : ∀ w' (x : α) (F : Nat → Prop) cs, Rep.rd w F cs x → Rep.rd w' F cs x) (hbs : l.length < 4611686018427387904) :
    Ret P (ρ.f 6) ([v, .func (.func g) #[] cap.toArray]) w (fun r w' => r = .tuple #[] ∧ Chg (fun b => v.ownBlock = some b) w w' ∧ ∃ l', l'.Perm l ∧ l'.Pairwise (fun a b => ltOf cf b a = false) ∧ OwnS T lo w' F v l') := by
  by_cases hne : l = []
  · subst hne
    obtain ⟨a0, c0, rfl, _, _⟩ := ho.isSl
    have hc := AnyF.slices_SortFunc_none L a0 c0 (.func (.func g) #[] cap.toArray) w
    unfold Ret
    refine Calls.mono hc ?_
    rintro e w' ⟨he, rfl⟩
    exact ⟨.tuple #[], he, rfl, Chg.refl _ _, [], List.Perm.refl _, List.Pairwise.nil, ho⟩
  obtain ⟨css, hE, hown⟩ := ho.css
  rcases hown.2 with ⟨rfl, h0⟩ | ⟨gb, capn, cur, rfl, hg, hb, hn, hm, hs, ht⟩
  · exact absurd (List.length_eq_zero_iff.1 h0) hne
  have hblk := (Array.getElem?_eq_some_iff.1 hb).1
  have hcs : ∀ i (h : i < l.length), CellsAt w gb (i * Rep.k α) (enc l[i]) ∧ Rep.rd w F (enc l[i]) l[i] := by
    intro i hi
    obtain ⟨cs, hr, hc⟩ := hE.at_ i hi
    have e := henc w F cs _ hr
    subst e
    refine ⟨fun j hj => ?_, hr⟩
    have h3 := hc j hj
    rw [← ht, List.getElem?_take] at h3
    split at h3
    · exact xp hb (by simpa using h3)
    · cases h3
  have kpos : 0 < Rep.k α := Rep.kpos
  have hH : HoldsK enc (Rep.k α) w gb 0 l.toArray := by
    intro j hj
    have hj' : j < l.length * Rep.k α := by simpa using hj
    have hd : j / Rep.k α < l.length := (Nat.div_lt_iff_lt_mul kpos).2 hj'
    have hm' : j % Rep.k α < (enc l[j / Rep.k α]).length := by rw [hlen]; exact Nat.mod_lt _ kpos
    have h1 := (hcs (j / Rep.k α) hd).1 (j % Rep.k α) hm'
    refine ⟨?_, by simp [World.frozen?, hb]⟩
    rw [get_flatK _ _ _ _ (by simpa using hj'), Nat.zero_add]
    rw [show j / Rep.k α * Rep.k α + j % Rep.k α = j by rw [Nat.mul_comm]; exact Nat.div_add_mod j (Rep.k α)] at h1
    rw [h1]
    have e1 : l.toArray[j / Rep.k α]! = l[j / Rep.k α] := by rw [getElem!_pos l.toArray (j / Rep.k α) (by simpa using hd)]; simp
    have e2 : (enc l[j / Rep.k α])[j % Rep.k α]! = (enc l[j / Rep.k α])[j % Rep.k α] := getElem!_pos (enc l[j / Rep.k α]) (j % Rep.k α) hm'
    rw [e1, e2]; rfl
  have hc := AnyQ.slices_SortFunc L (Rep.k α) aE zE enc hlen hone cf hO g cap.toArray gb 0 capn l.toArray w eg (Uj fun W x y _ => hcmp W x y) hH hblk (by simpa using hbs)
  have ea : ([Value.slice (some ⟨gb, 0, none⟩) l.length capn, .func (.func g) #[] cap.toArray]).toArray = #[Value.slice (some ⟨gb, 0, none⟩) l.toArray.size capn, .func (.func g) #[] cap.toArray] := by simp
  unfold Ret
  rw [ea]
  refine Calls.mono hc ?_
  rintro e w' ⟨he, d', n, os, hp, hsd, hw⟩
  refine ⟨.tuple #[], he, rfl, ?_, d'.toList, ?_, ?_, ?_⟩
  · have hgo : (fun b => (Value.slice (some ⟨gb, 0, none⟩) l.length capn).ownBlock = some b) = fun b => b = gb := by funext b; simp [Value.ownBlock, eq_comm]
    rw [hgo, hw]; exact Yr hblk
  · have h2 := hp.2.2
    have hsz : d'.size = l.length := by simpa using hp.1
    simp at h2
    rwa [List.take_of_length_le (by simp [hsz])] at h2
  · rw [List.pairwise_iff_getElem]
    intro i j hi hj hij
    have hsz : d'.size = l.length := by simpa using hp.1
    have hi' : i < d'.size := by simpa using hi
    have hj' : j < d'.size := by simpa using hj
    have := hsd i j (Nat.zero_le _) hij (by simpa [hsz] using hj')
    rw [getElem!_pos d' j hj', getElem!_pos d' i hi'] at this
    simpa using this
  · have hsz : d'.size = l.length := by simpa using hp.1
    have hperm : d'.toList.Perm l := by
      have h2 := hp.2.2
      simp at h2
      rwa [List.take_of_length_le (by simp [hsz])] at h2
    have hrd : ∀ x ∈ d'.toList, Rep.rd w' F (enc x) x := by
      intro x hx
      obtain ⟨i, hi, rfl⟩ := List.getElem_of_mem (hperm.subset hx)
      exact hre w' _ F _ (hcs i hi).2
    have hE' : Els w' F (d'.toList.map enc) d'.toList := Wv hrd
    have hfl := hE'.flat
    have hlen' : d'.toList.length = l.length := by simpa using hsz
    have hcur : (putCells id 0 (flatK enc (Rep.k α) d') cur).size = cur.size := by simp [putCells]
    have hchg : Chg (fun i => i = gb) w w' := by rw [hw]; exact Yr hblk
    have hle : l.length * Rep.k α ≤ cur.size := by rw [hs]; exact Nat.mul_le_mul_right _ hn
    refine ⟨⟨_, hE', by rw [hfl], .inr ⟨gb, capn, _, by rw [hlen'], hg, by rw [hw]; exact Xg hb, by rw [hlen']; exact hn, hm, by rw [hcur]; exact hs, ?_⟩⟩, ho.apart, fun b hb' => ⟨Nat.lt_of_lt_of_le (ho.bound b hb').1 hchg.size, fun hl => hchg.soft b ((ho.bound b hb').2 hl)⟩, by rw [hlen']; exact ho.small⟩
    refine List.ext_getElem? fun j => ?_
    rw [hlen', List.getElem?_take]
    split
    · rename_i hj
      have hd : j / Rep.k α < d'.toList.length := by rw [hlen']; exact (Nat.div_lt_iff_lt_mul kpos).2 hj
      obtain ⟨cs, hr, hc⟩ := hE'.at_ (j / Rep.k α) hd
      have e := henc w' F cs _ hr
      subst e
      have hm' : j % Rep.k α < (enc (d'.toList[j / Rep.k α])).length := by rw [hlen]; exact Nat.mod_lt _ kpos
      have h1 := hc (j % Rep.k α) hm'
      rw [show j / Rep.k α * Rep.k α + j % Rep.k α = j by rw [Nat.mul_comm]; exact Nat.div_add_mod j (Rep.k α)] at h1
      rw [h1]
      have hjc : j < cur.size := by omega
      have hjk : j < d'.size * Rep.k α := by rw [hsz]; exact hj
      have hd2 : j / Rep.k α < d'.size := by simpa using hd
      rw [Array.getElem?_toList, Array.getElem?_eq_getElem (by rw [hcur]; exact hjc)]
      simp only [putCells, Array.getElem_mapIdx, Nat.zero_le, true_and, Nat.zero_add, size_flatK, hjk, if_true, Nat.sub_zero, id]
      have e1 : d'[j / Rep.k α]! = d'[j / Rep.k α] := getElem!_pos d' (j / Rep.k α) hd2
      have e0 : d'.toList[j / Rep.k α] = d'[j / Rep.k α] := by simp
      rw [e0] at hm'
      have e2 : (enc d'[j / Rep.k α])[j % Rep.k α]! = (enc d'[j / Rep.k α])[j % Rep.k α] := getElem!_pos (enc d'[j / Rep.k α]) (j % Rep.k α) hm'
      rw [get_flatK _ _ _ _ hjk, e1, e2]
      simp
    · rename_i hj
      rw [List.getElem?_eq_none (by rw [hfl, hlen']; omega)]
end Go.Proofs.Ytgjgmojjeehieaa
end

section
/- The shelf's sort, laid at this program. -/
namespace Go.Proofs.Ytgjgmojjeehieaa
open Go.Proofs Go.Shelf

def XG : Go.Shelf.Ren := ⟨fun | 6 => 77 | 15 => 83 | 14 => 82 | 28 => 95 | 29 => 96 | 20 => 87 | 21 => 88 | 22 => 89 | 23 => 90 | 24 => 91 | 25 => 92 | 26 => 93 | 27 => 94 | 46 => 98 | 47 => 99 | 48 => 100 | 49 => 101 | 50 => 102 | 57 => 103 | n => n, fun | 22 => 22 | 24 => 36 | 25 => 88 | 3 => 3 | 39 => 93 | 0 => 0 | 53 => 104 | 55 => 106 | 4 => 4 | 46 => 98 | 45 => 97 | 50 => 67 | 5 => 5 | 9 => 9 | 66 => 107 | 70 => 111 | 76 => 113 | 77 => 114 | n => n, fun | n => n⟩
theorem UP : Go.Proofs.SlLaysF0.n6 Try.prog XG := {
  mixed := by kernel_rfl,
  f6 := ⟨Try.f77.name, by decide, Try.func77.trans (congrArg some (by kernel_rfl))⟩,
  f14 := ⟨Try.f82.name, by decide, Try.func82.trans (congrArg some (by kernel_rfl))⟩,
  f15 := Try.func83.trans (congrArg some (by kernel_rfl)),
  f20 := ⟨Try.f87.name, by decide, Try.func87.trans (congrArg some (by kernel_rfl))⟩,
  f21 := ⟨Try.f88.name, by decide, Try.func88.trans (congrArg some (by kernel_rfl))⟩,
  f22 := ⟨Try.f89.name, by decide, Try.func89.trans (congrArg some (by kernel_rfl))⟩,
  f23 := ⟨Try.f90.name, by decide, Try.func90.trans (congrArg some (by kernel_rfl))⟩,
  f24 := ⟨Try.f91.name, by decide, Try.func91.trans (congrArg some (by kernel_rfl))⟩,
  f25 := ⟨Try.f92.name, by decide, Try.func92.trans (congrArg some (by kernel_rfl))⟩,
  f26 := ⟨Try.f93.name, by decide, Try.func93.trans (congrArg some (by kernel_rfl))⟩,
  f27 := ⟨Try.f94.name, by decide, Try.func94.trans (congrArg some (by kernel_rfl))⟩,
  f28 := Try.func95.trans (congrArg some (by kernel_rfl)),
  f29 := Try.func96.trans (congrArg some (by kernel_rfl)),
  f46 := ⟨Try.f98.name, by decide, Try.func98.trans (congrArg some (by kernel_rfl))⟩,
  f47 := Try.func99.trans (congrArg some (by kernel_rfl)),
  f48 := Try.func100.trans (congrArg some (by kernel_rfl)),
  f49 := ⟨Try.f101.name, by decide, Try.func101.trans (congrArg some (by kernel_rfl))⟩,
  f50 := ⟨Try.f102.name, by decide, Try.func102.trans (congrArg some (by kernel_rfl))⟩,
  f57 := ⟨Try.f103.name, by decide, Try.func103.trans (congrArg some (by kernel_rfl))⟩,
  t0 := Try.underlying0,
  a0 := Try.isAgg0,
  z0 := Try.sizeOf0,
  v0 := Try.zeroValue0,
  t3 := Try.underlying3,
  a3 := Try.isAgg3,
  z3 := Try.sizeOf3,
  v3 := Try.zeroValue3,
  t4 := Try.underlying4,
  a4 := Try.isAgg4,
  z4 := Try.sizeOf4,
  v4 := Try.zeroValue4,
  t5 := Try.underlying5,
  a5 := Try.isAgg5,
  z5 := Try.sizeOf5,
  v5 := Try.zeroValue5,
  t9 := Try.underlying9,
  a9 := Try.isAgg9,
  z9 := Try.sizeOf9,
  v9 := Try.zeroValue9,
  t22 := Try.underlying22,
  a22 := Try.isAgg22,
  z22 := Try.sizeOf22,
  v22 := Try.zeroValue22,
  t25 := Try.underlying88,
  a25 := Try.isAgg88,
  z25 := Try.sizeOf88,
  v25 := Try.zeroValue88,
  t39 := Try.underlying93,
  a39 := Try.isAgg93,
  z39 := Try.sizeOf93,
  v39 := Try.zeroValue93,
  t45 := Try.underlying97,
  a45 := Try.isAgg97,
  z45 := Try.sizeOf97,
  v45 := Try.zeroValue97,
  t46 := Try.underlying98,
  a46 := Try.isAgg98,
  z46 := Try.sizeOf98,
  v46 := Try.zeroValue98,
  t50 := Try.underlying67,
  a50 := Try.isAgg67,
  z50 := Try.sizeOf67,
  v50 := Try.zeroValue67,
  t53 := Try.underlying104,
  a53 := Try.isAgg104,
  z53 := Try.sizeOf104,
  v53 := Try.zeroValue104,
  t55 := Try.underlying106,
  a55 := Try.isAgg106,
  z55 := Try.sizeOf106,
  v55 := Try.zeroValue106,
  t66 := Try.underlying107,
  a66 := Try.isAgg107,
  z66 := Try.sizeOf107,
  v66 := Try.zeroValue107,
  t70 := Try.underlying111,
  a70 := Try.isAgg111,
  z70 := Try.sizeOf111,
  v70 := Try.zeroValue111,
  t76 := Try.underlying113,
  a76 := Try.isAgg113,
  z76 := Try.sizeOf113,
  v76 := Try.zeroValue113,
  t77 := Try.underlying114,
  a77 := Try.isAgg114,
  z77 := Try.sizeOf114,
  v77 := Try.zeroValue114
}
end Go.Proofs.Ytgjgmojjeehieaa
end

section
/- Steps of the proofs of this seat: part A12. -/
set_option maxRecDepth 8000
set_option maxHeartbeats 4000000
namespace Go.Proofs.Ytgjgmojjeehieaa
open Go.Proofs Go.RowKit Go.Sort Go.Shelf

theorem XX {G : Nat → Prop} {W w : World} {Rs : List HP} {a : Ev} {da : Value} {b : Ev} {db : Value} (hS0 : Sep G W Rs w) : Ret Try.prog 78 [.agg (a.cells da).toArray, .agg (b.cells db).toArray] w (fun r w' => r = (.int .i64 ((xq a b)) : Value) ∧ Sep G W Rs w') := by
 refine zq (args := [.agg (a.cells da).toArray, .agg (b.cells db).toArray]) Try.func78 rfl rfl ?_
 refine zd ?_
 refine za (by kernel_rfl) (fun _ => ?_)
 refine st (yp (v := .agg (a.cells da).toArray) rfl ?_)
 intro w3 b2 hn1
 have hS4 := hS0.new hn1
 refine st (yp (v := .agg (b.cells db).toArray) rfl ?_)
 intro w7 b6 hn5
 have hS8 := hS4.new hn5
 refine st (zf (v := .int .i64 (0)) rfl ?_)
 refine zg ?_
 refine zd ?_
 refine zS ((fun TT pp0 => WF [fun vals wq => Sep G W (pp0 :: TT) wq, fun vals wq => (vals 4 = (.int .i64 ((zY a.lam b.lam)) : Value)) ∧ Sep G W (pp0 :: TT) wq, fun vals wq => (vals 4 = (.int .i64 ((zY a.lam b.lam)) : Value)) ∧ (vals 11 = (.int .i64 ((zY a.origin b.origin)) : Value)) ∧ Sep G W (pp0 :: TT) wq, fun vals wq => (vals 4 = (.int .i64 ((zY a.lam b.lam)) : Value)) ∧ (vals 11 = (.int .i64 ((zY a.origin b.origin)) : Value)) ∧ (vals 18 = (.int .i64 ((zY a.seq b.seq)) : Value)) ∧ Sep G W (pp0 :: TT) wq, fun vals wq => ∃ (b165 : Nat), (vals 4 = (.int .i64 ((zY a.lam b.lam)) : Value)) ∧ (vals 11 = (.int .i64 ((zY a.origin b.origin)) : Value)) ∧ (vals 18 = (.int .i64 ((zY a.seq b.seq)) : Value)) ∧ (vals 19 = ((.slice (some ⟨b165, 0, none⟩) 3 3) : Value)) ∧ Sep G W ((Blk b165 #[.int .i64 ((zY a.lam b.lam)), .int .i64 ((zY a.origin b.origin)), .int .i64 ((zY a.seq b.seq))] 3) :: pp0 :: TT) wq, fun vals wq => ∃ (b165 : Nat), (vals 4 = (.int .i64 ((zY a.lam b.lam)) : Value)) ∧ (vals 11 = (.int .i64 ((zY a.origin b.origin)) : Value)) ∧ (vals 18 = (.int .i64 ((zY a.seq b.seq)) : Value)) ∧ (vals 19 = ((.slice (some ⟨b165, 0, none⟩) 3 3) : Value)) ∧ (vals 20 = (.int .i64 ((orL [(zY a.lam b.lam), (zY a.origin b.origin), (zY a.seq b.seq)])) : Value)) ∧ Sep G W ((RowE (α := Int) own 3 (.slice (some ⟨b165, 0, none⟩) 3 3) [(zY a.lam b.lam), (zY a.origin b.origin), (zY a.seq b.seq)]) :: pp0 :: TT) wq]) ((Blk b2 (a.cells da).toArray 36) :: Rs) (Blk b6 (b.cells db).toArray 36)) (AF [Vl 0 (.pointer (some ⟨b2, 2, none⟩)), Vl 1 (.int .i64 (a.lam)), Vl 2 (.pointer (some ⟨b6, 2, none⟩)), Vl 3 (.int .i64 (b.lam)), fun _ => True, Vl 5 (.pointer (some ⟨b2, 0, none⟩)), Vl 6 (.pointer (some ⟨b2, 0, none⟩)), Vl 7 (.int .i64 (a.origin)), Vl 8 (.pointer (some ⟨b6, 0, none⟩)), Vl 9 (.pointer (some ⟨b6, 0, none⟩)), Vl 10 (.int .i64 (b.origin)), fun _ => True, Vl 12 (.pointer (some ⟨b2, 0, none⟩)), Vl 13 (.pointer (some ⟨b2, 1, none⟩)), Vl 14 (.int .i64 (a.seq)), Vl 15 (.pointer (some ⟨b6, 0, none⟩)), Vl 16 (.pointer (some ⟨b6, 1, none⟩)), Vl 17 (.int .i64 (b.seq)), fun _ => True, fun _ => True, fun _ => True, Vl 21 (.int .i64 ((orL [(zY a.lam b.lam), (zY a.origin b.origin), (zY a.seq b.seq)])))]) [[], [0], [], [2], [0, 1, 2, 3], [], [5], [5, 6], [], [8], [8, 9], [0, 1, 2, 3, 4, 5, 6, 7, 8, 9, 10], [], [12], [12, 13], [], [15], [15, 16], [0, 1, 2, 3, 4, 5, 6, 7, 8, 9, 10, 11, 12, 13, 14, 15, 16, 17], [0, 1, 2, 3, 4, 5, 6, 7, 8, 9, 10, 11, 12, 13, 14, 15, 16, 17, 18], [0, 1, 2, 3, 4, 5, 6, 7, 8, 9, 10, 11, 12, 13, 14, 15, 16, 17, 18, 19], [0, 1, 2, 3, 4, 5, 6, 7, 8, 9, 10, 11, 12, 13, 14, 15, 16, 17, 18, 19, 20]] [4, 11, 18, 19, 20] [(0, 0), (0, 0), (0, 0), (0, 0), (0, 0), (0, 1), (0, 1), (0, 1), (0, 1), (0, 1), (0, 1), (1, 1), (0, 2), (0, 2), (0, 2), (0, 2), (0, 2), (0, 2), (2, 2), (3, 3), (4, 4), (5, 5)] (by kernel_rfl) (by kernel_rfl) (by kernel_rfl) rfl (by kernel_rfl) (by kernel_rfl) (fun _ h1 h2 h3 h4 _ => hS8.same h1 h2 h3 h4) ?_ (yk ⟨dA, dA, dA, dA, dT, dA, dA, dA, dA, dA, dA, dT, dA, dA, dA, dA, dA, dA, dT, dT, dT, dA, trivial⟩) ⟨?_, ?_, ?_, ?_, ?_, ?_, ?_, ?_, ?_, ?_, ?_, ?_, ?_, ?_, ?_, ?_, ?_, ?_, ?_, ?_, ?_, ?_, trivial⟩ ?_
 ·intro k vals vals' w hv h
  have e : ∀ j ∈ ([4, 11, 18, 19, 20] : List Nat), vals' j = vals j := hv
  match k, h with
  | 0, h => exact h
  | 1, h => exact (by simpa only [WF, List.getElem?_cons_zero, List.getElem?_cons_succ, e 4 (by decide)] using h)
  | 2, h => exact (by simpa only [WF, List.getElem?_cons_zero, List.getElem?_cons_succ, e 4 (by decide), e 11 (by decide)] using h)
  | 3, h => exact (by simpa only [WF, List.getElem?_cons_zero, List.getElem?_cons_succ, e 4 (by decide), e 11 (by decide), e 18 (by decide)] using h)
  | 4, h => exact (by simpa only [WF, List.getElem?_cons_zero, List.getElem?_cons_succ, e 4 (by decide), e 11 (by decide), e 18 (by decide), e 19 (by decide)] using h)
  | 5, h => exact (by simpa only [WF, List.getElem?_cons_zero, List.getElem?_cons_succ, e 4 (by decide), e 11 (by decide), e 18 (by decide), e 19 (by decide), e 20 (by decide)] using h)
  | _ + 6, _ => trivial
 ·intro k196 vals w197 h200 h201 hW199 hA198
  refine obl rfl ?_
  exact yP rfl (fun vals' hv _ => ⟨rfl, hv⟩)
 ·intro k202 vals w203 h206 h207 hW205 hA204
  obtain rfl : k202 = 0 := Nat.le_antisymm h207 h206
  have hS208 : Sep _ _ _ _ := hW205
  have e209 := hA204 0 (by decide)
  refine obl rfl ?_
  exact zh (v := .int .i64 (a.lam)) Try.isAgg3 e209 (zi (hS208.blk (i := 1) rfl) rfl) (fun vals' hv _ => ⟨rfl, hv⟩)
 ·intro k210 vals w211 h214 h215 hW213 hA212
  refine obl rfl ?_
  exact yP rfl (fun vals' hv _ => ⟨rfl, hv⟩)
 ·intro k216 vals w217 h220 h221 hW219 hA218
  obtain rfl : k216 = 0 := Nat.le_antisymm h221 h220
  have hS222 : Sep _ _ _ _ := hW219
  have e223 := hA218 2 (by decide)
  refine obl rfl ?_
  exact zh (v := .int .i64 (b.lam)) Try.isAgg3 e223 (zi (hS222.blk (i := 0) rfl) rfl) (fun vals' hv _ => ⟨rfl, hv⟩)
 ·intro k37 vals w38 h41 h42 hW40 hA39
  obtain rfl : k37 = 0 := Nat.le_antisymm h42 h41
  have hS43 : Sep _ _ _ _ := hW40
  have e44 := hA39 1 (by decide)
  have e45 := hA39 3 (by decide)
  refine obl rfl ?_
  refine (zj (f := 85) (vals := [.int .i64 (a.lam), .int .i64 (b.lam)]) (cap := []) rfl (yD ⟨e44, e45, trivial⟩) Try.call85 (VO  hS43) ?_)
  rintro _ w46 ⟨rfl, hS47⟩
  intro vals' hv hv'
  refine ⟨?_, trivial⟩
  show (vals' 4 = (.int .i64 ((zY a.lam b.lam)) : Value)) ∧ Sep G W ((Blk b6 (b.cells db).toArray 36) :: (Blk b2 (a.cells da).toArray 36) :: Rs) w46
  exact ⟨hv, hS47⟩
 ·intro k224 vals w225 h228 h229 hW227 hA226
  refine obl rfl ?_
  exact yd rfl (fun vals' hv _ => ⟨rfl, hv⟩)
 ·intro k230 vals w231 h234 h235 hW233 hA232
  have e236 := hA232 5 (by decide)
  refine obl rfl ?_
  exact yE e236 (fun vals' hv _ => ⟨rfl, hv⟩)
 ·intro k237 vals w238 h241 h242 hW240 hA239
  have hkk : k237 = 0 ∨ k237 = 1 := by have h1 : 0 ≤ k237 := h241; have h2 : k237 ≤ 1 := h242; omega
  rcases hkk with rfl | rfl
  ·skip
   have hS243 : Sep _ _ _ _ := hW240
   have e244 := hA239 6 (by decide)
   refine obl rfl ?_
   exact zh (v := .int .i64 (a.origin)) Try.isAgg3 e244 (zi (hS243.blk (i := 1) rfl) rfl) (fun vals' hv _ => ⟨rfl, hv⟩)
  ·skip
   obtain ⟨he48, hS245⟩ := hW240
   have e246 := hA239 6 (by decide)
   refine obl rfl ?_
   exact zh (v := .int .i64 (a.origin)) Try.isAgg3 e246 (zi (hS245.blk (i := 1) rfl) rfl) (fun vals' hv _ => ⟨rfl, hv⟩)
 ·intro k247 vals w248 h251 h252 hW250 hA249
  refine obl rfl ?_
  exact yd rfl (fun vals' hv _ => ⟨rfl, hv⟩)
 ·intro k253 vals w254 h257 h258 hW256 hA255
  have e259 := hA255 8 (by decide)
  refine obl rfl ?_
  exact yE e259 (fun vals' hv _ => ⟨rfl, hv⟩)
 ·intro k260 vals w261 h264 h265 hW263 hA262
  have hkk : k260 = 0 ∨ k260 = 1 := by have h1 : 0 ≤ k260 := h264; have h2 : k260 ≤ 1 := h265; omega
  rcases hkk with rfl | rfl
  ·skip
   have hS266 : Sep _ _ _ _ := hW263
   have e267 := hA262 9 (by decide)
   refine obl rfl ?_
   exact zh (v := .int .i64 (b.origin)) Try.isAgg3 e267 (zi (hS266.blk (i := 0) rfl) rfl) (fun vals' hv _ => ⟨rfl, hv⟩)
  ·skip
   obtain ⟨he48, hS268⟩ := hW263
   have e269 := hA262 9 (by decide)
   refine obl rfl ?_
   exact zh (v := .int .i64 (b.origin)) Try.isAgg3 e269 (zi (hS268.blk (i := 0) rfl) rfl) (fun vals' hv _ => ⟨rfl, hv⟩)
 ·intro k91 vals w92 h95 h96 hW94 hA93
  obtain rfl : k91 = 1 := Nat.le_antisymm h96 h95
  obtain ⟨he48, hS97⟩ := hW94
  have e98 := hA93 7 (by decide)
  have e99 := hA93 10 (by decide)
  refine obl rfl ?_
  refine (zj (f := 85) (vals := [.int .i64 (a.origin), .int .i64 (b.origin)]) (cap := []) rfl (yD ⟨e98, e99, trivial⟩) Try.call85 (VO  hS97) ?_)
  rintro _ w100 ⟨rfl, hS101⟩
  intro vals' hv hv'
  refine ⟨?_, trivial⟩
  show (vals' 4 = (.int .i64 ((zY a.lam b.lam)) : Value)) ∧ (vals' 11 = (.int .i64 ((zY a.origin b.origin)) : Value)) ∧ Sep G W ((Blk b6 (b.cells db).toArray 36) :: (Blk b2 (a.cells da).toArray 36) :: Rs) w100
  exact ⟨(by rw [hv' 4 (by decide)]; exact he48), hv, hS101⟩
 ·intro k270 vals w271 h274 h275 hW273 hA272
  refine obl rfl ?_
  exact yd rfl (fun vals' hv _ => ⟨rfl, hv⟩)
 ·intro k276 vals w277 h280 h281 hW279 hA278
  have e282 := hA278 12 (by decide)
  refine obl rfl ?_
  exact xe e282 (fun vals' hv _ => ⟨rfl, hv⟩)
 ·intro k283 vals w284 h287 h288 hW286 hA285
  have hkk : k283 = 0 ∨ k283 = 1 ∨ k283 = 2 := by have h1 : 0 ≤ k283 := h287; have h2 : k283 ≤ 2 := h288; omega
  rcases hkk with rfl | rfl | rfl
  ·skip
   have hS289 : Sep _ _ _ _ := hW286
   have e290 := hA285 13 (by decide)
   refine obl rfl ?_
   exact zh (v := .int .i64 (a.seq)) Try.isAgg3 e290 (zi (hS289.blk (i := 1) rfl) rfl) (fun vals' hv _ => ⟨rfl, hv⟩)
  ·skip
   obtain ⟨he48, hS291⟩ := hW286
   have e292 := hA285 13 (by decide)
   refine obl rfl ?_
   exact zh (v := .int .i64 (a.seq)) Try.isAgg3 e292 (zi (hS291.blk (i := 1) rfl) rfl) (fun vals' hv _ => ⟨rfl, hv⟩)
  ·skip
   obtain ⟨he48, he102, hS293⟩ := hW286
   have e294 := hA285 13 (by decide)
   refine obl rfl ?_
   exact zh (v := .int .i64 (a.seq)) Try.isAgg3 e294 (zi (hS293.blk (i := 1) rfl) rfl) (fun vals' hv _ => ⟨rfl, hv⟩)
 ·intro k295 vals w296 h299 h300 hW298 hA297
  refine obl rfl ?_
  exact yd rfl (fun vals' hv _ => ⟨rfl, hv⟩)
 ·intro k301 vals w302 h305 h306 hW304 hA303
  have e307 := hA303 15 (by decide)
  refine obl rfl ?_
  exact xe e307 (fun vals' hv _ => ⟨rfl, hv⟩)
 ·intro k308 vals w309 h312 h313 hW311 hA310
  have hkk : k308 = 0 ∨ k308 = 1 ∨ k308 = 2 := by have h1 : 0 ≤ k308 := h312; have h2 : k308 ≤ 2 := h313; omega
  rcases hkk with rfl | rfl | rfl
  ·skip
   have hS314 : Sep _ _ _ _ := hW311
   have e315 := hA310 16 (by decide)
   refine obl rfl ?_
   exact zh (v := .int .i64 (b.seq)) Try.isAgg3 e315 (zi (hS314.blk (i := 0) rfl) rfl) (fun vals' hv _ => ⟨rfl, hv⟩)
  ·skip
   obtain ⟨he48, hS316⟩ := hW311
   have e317 := hA310 16 (by decide)
   refine obl rfl ?_
   exact zh (v := .int .i64 (b.seq)) Try.isAgg3 e317 (zi (hS316.blk (i := 0) rfl) rfl) (fun vals' hv _ => ⟨rfl, hv⟩)
  ·skip
   obtain ⟨he48, he102, hS318⟩ := hW311
   have e319 := hA310 16 (by decide)
   refine obl rfl ?_
   exact zh (v := .int .i64 (b.seq)) Try.isAgg3 e319 (zi (hS318.blk (i := 0) rfl) rfl) (fun vals' hv _ => ⟨rfl, hv⟩)
 ·intro k145 vals w146 h149 h150 hW148 hA147
  obtain rfl : k145 = 2 := Nat.le_antisymm h150 h149
  obtain ⟨he48, he102, hS151⟩ := hW148
  have e152 := hA147 14 (by decide)
  have e153 := hA147 17 (by decide)
  refine obl rfl ?_
  refine (zj (f := 85) (vals := [.int .i64 (a.seq), .int .i64 (b.seq)]) (cap := []) rfl (yD ⟨e152, e153, trivial⟩) Try.call85 (VO  hS151) ?_)
  rintro _ w154 ⟨rfl, hS155⟩
  intro vals' hv hv'
  refine ⟨?_, trivial⟩
  show (vals' 4 = (.int .i64 ((zY a.lam b.lam)) : Value)) ∧ (vals' 11 = (.int .i64 ((zY a.origin b.origin)) : Value)) ∧ (vals' 18 = (.int .i64 ((zY a.seq b.seq)) : Value)) ∧ Sep G W ((Blk b6 (b.cells db).toArray 36) :: (Blk b2 (a.cells da).toArray 36) :: Rs) w154
  exact ⟨(by rw [hv' 4 (by decide)]; exact he48), (by rw [hv' 11 (by decide)]; exact he102), hv, hS155⟩
 ·intro k157 vals w158 h161 h162 hW160 hA159
  obtain rfl : k157 = 3 := Nat.le_antisymm h162 h161
  obtain ⟨he48, he102, he156, hS163⟩ := hW160
  refine obl rfl ?_
  refine (zz (k := 1) (parts' := [(0, .int .i64 ((zY a.lam b.lam))), (1, .int .i64 ((zY a.origin b.origin))), (2, .int .i64 ((zY a.seq b.seq)))]) (c := #[.int .i64 ((zY a.lam b.lam)), .int .i64 ((zY a.origin b.origin)), .int .i64 ((zY a.seq b.seq))]) Try.underlying34 Try.sizeOf3 Try.zeroValue3 (by decide) (Qt ⟨rfl, he48, rfl, he102, rfl, he156, trivial⟩) (by kernel_rfl) ?_)
  intro w166 b165 hn164
  have hS167 := hS163.new hn164
  intro vals' hv hv'
  refine ⟨?_, trivial⟩
  show ∃ (b165 : Nat), (vals' 4 = (.int .i64 ((zY a.lam b.lam)) : Value)) ∧ (vals' 11 = (.int .i64 ((zY a.origin b.origin)) : Value)) ∧ (vals' 18 = (.int .i64 ((zY a.seq b.seq)) : Value)) ∧ (vals' 19 = ((.slice (some ⟨b165, 0, none⟩) 3 3) : Value)) ∧ Sep G W ((Blk b165 #[.int .i64 ((zY a.lam b.lam)), .int .i64 ((zY a.origin b.origin)), .int .i64 ((zY a.seq b.seq))] 3) :: (Blk b6 (b.cells db).toArray 36) :: (Blk b2 (a.cells da).toArray 36) :: Rs) w166
  exact ⟨b165, (by rw [hv' 4 (by decide)]; exact he48), (by rw [hv' 11 (by decide)]; exact he102), (by rw [hv' 18 (by decide)]; exact he156), hv, hS167⟩
 ·intro k169 vals w170 h173 h174 hW172 hA171
  obtain rfl : k169 = 4 := Nat.le_antisymm h174 h173
  obtain ⟨b165, he48, he102, he156, he168, hS175⟩ := hW172
  refine obl rfl ?_
  have hS176 : Sep G W ((RowE (α := Int) own 3 (.slice (some ⟨b165, 0, none⟩) 3 3) [(zY a.lam b.lam), (zY a.origin b.origin), (zY a.seq b.seq)]) :: (Blk b6 (b.cells db).toArray 36) :: (Blk b2 (a.cells da).toArray 36) :: Rs) w170 := Sep.blkRow (src := own) (l := [(zY a.lam b.lam), (zY a.origin b.origin), (zY a.seq b.seq)]) (css := [[.int .i64 ((zY a.lam b.lam))], [.int .i64 ((zY a.origin b.origin))], [.int .i64 ((zY a.seq b.seq))]]) hS175 rfl ⟨fun _ _ => ⟨rfl, (YV a.lam b.lam)⟩, fun _ _ => ⟨rfl, (YV a.origin b.origin)⟩, fun _ _ => ⟨rfl, (YV a.seq b.seq)⟩, trivial⟩ (by first | decide | (simp only [List.length_cons, List.length_nil]; decide)) (show 3 ≤ maxLen by decide)
  have hr177 := hS176.row (i := 0) rfl
  have hr177s : _ * 8 ≤ _ := hr177.2
  obtain ⟨G178, hA180, hB181, hS182, hk183⟩ := hS176.lend
  have hrd184 := RowE.rd hA180
  have hrd184s : _ * 8 ≤ _ := hrd184.small
  refine (zj (f := 84) (vals := [(.slice (some ⟨b165, 0, none⟩) 3 3)]) (cap := []) rfl (yD ⟨he168, trivial⟩) Try.call84 (D_or (l := [(zY a.lam b.lam), (zY a.origin b.origin), (zY a.seq b.seq)]) (vl := (.slice (some ⟨b165, 0, none⟩) 3 3)) hrd184 hS182) ?_)
  rintro _ w185 ⟨rfl, hS186⟩
  have hS187 := hk183 _ _ hS186
  intro vals' hv hv'
  refine ⟨?_, trivial⟩
  show ∃ (b165 : Nat), (vals' 4 = (.int .i64 ((zY a.lam b.lam)) : Value)) ∧ (vals' 11 = (.int .i64 ((zY a.origin b.origin)) : Value)) ∧ (vals' 18 = (.int .i64 ((zY a.seq b.seq)) : Value)) ∧ (vals' 19 = ((.slice (some ⟨b165, 0, none⟩) 3 3) : Value)) ∧ (vals' 20 = (.int .i64 ((orL [(zY a.lam b.lam), (zY a.origin b.origin), (zY a.seq b.seq)])) : Value)) ∧ Sep G W ((RowE (α := Int) own 3 (.slice (some ⟨b165, 0, none⟩) 3 3) [(zY a.lam b.lam), (zY a.origin b.origin), (zY a.seq b.seq)]) :: (Blk b6 (b.cells db).toArray 36) :: (Blk b2 (a.cells da).toArray 36) :: Rs) w185
  exact ⟨b165, (by rw [hv' 4 (by decide)]; exact he48), (by rw [hv' 11 (by decide)]; exact he102), (by rw [hv' 18 (by decide)]; exact he156), (by rw [hv' 19 (by decide)]; exact he168), hv, hS187⟩
 ·intro k320 vals w321 h324 h325 hW323 hA322
  obtain rfl : k320 = 5 := Nat.le_antisymm h325 h324
  obtain ⟨b165, he48, he102, he156, he168, he188, hS326⟩ := hW323
  refine obl rfl ?_
  exact zf (v := .int .i64 ((orL [(zY a.lam b.lam), (zY a.origin b.origin), (zY a.seq b.seq)]))) he188 (fun vals' hv _ => ⟨rfl, hv⟩)
 intro vals w327 hW328 hA329
 obtain ⟨b165, he48, he102, he156, he168, he188, hS330⟩ := hW328
 have e331 := hA329 21 (by decide)
 refine yj (kv := [(0, .agg (a.cells da).toArray), (1, .agg (b.cells db).toArray), (2, .pointer (some ⟨b2, 0, none⟩)), (3, .pointer (some ⟨b6, 0, none⟩)), (4, .int .i64 ((orL [(zY a.lam b.lam), (zY a.origin b.origin), (zY a.seq b.seq)])))]) ⟨rfl, rfl, rfl, rfl, (by exact e331), trivial⟩ (fun ρw327 => ?_)
 refine zg ?_
 refine zw ?_
 refine zM Try.results78 (show _ = (.int .i64 ((orL [(zY a.lam b.lam), (zY a.origin b.origin), (zY a.seq b.seq)])) : Value) from rfl) ?_
 have hS332 : Sep G W Rs w327 := hS330.sel 3 [] (Nat.le_add_left _ _) rfl rfl
 refine ⟨rfl, hS332⟩

theorem Ui {W : World} {a b : Ev} {da db : Value} : Ret Try.prog 78 [.agg (a.cells da).toArray, .agg (b.cells db).toArray] W (fun r W' => r = .int .i64 (xq a b) ∧ Ext W W') :=
  Ret.mono (XX (Sep.start W)) (fun v w' ⟨h1, h2⟩ => ⟨h1, h2.fin⟩)
abbrev EvP := Ev × {v : Value // v.oneCell' = true}
instance : Inhabited EvP := ⟨(default, ⟨.slice none 0 0, rfl⟩)⟩
def EvP.cells (s : EvP) : List Value := s.1.cells s.2.1
instance : Rep EvP where
  k := 10
  rd _ _ cs s := cs = s.cells
  bytes := 96
  bpos := by decide
  kpos := by decide
  len h := by rw [h]; rfl
  one h := by rw [h]; rename_i s; exact yz ⟨rfl, rfl, rfl, s.2.2, rfl, rfl, rfl, rfl, rfl, rfl, trivial⟩
  mono h _ := h
theorem YN {w : World} {F : Nat → Prop} : ∀ {css : List (List Value)} {l : List Ev}, Els w F css l → ∃ ls : List EvP, ls.map (·.1) = l ∧ Els w F css ls ∧ ∀ s ∈ ls, RdS w F s.2.1 s.1.deps ∧ s.1.Ok
  | [], [], _ => ⟨[], rfl, trivial, fun _ h => by cases h⟩
  | cs :: css, x :: l, h => by
    obtain ⟨⟨d, e, h1, h2⟩, h3⟩ := h
    obtain ⟨ls, h4, h5, h6⟩ := YN h3
    refine ⟨(x, ⟨d, h1.sl.one⟩) :: ls, by simp [h4], ⟨e, h5⟩, fun s hs => ?_⟩
    rcases List.mem_cons.1 hs with rfl | hs
    · exact ⟨h1, h2⟩
    · exact h6 s hs
  | [], _ :: _, h => h.elim
  | _ :: _, [], h => h.elim
theorem Xp {w : World} {F : Nat → Prop} : ∀ {css : List (List Value)} {ls : List EvP}, Els w F css ls → (∀ s ∈ ls, RdS w F s.2.1 s.1.deps ∧ s.1.Ok) → Els w F css (ls.map (·.1))
  | [], [], _, _ => trivial
  | cs :: css, s :: ls, h, hs => by
    obtain ⟨h1, h2⟩ := h
    have h3 := hs s (List.mem_cons_self ..)
    exact ⟨⟨_, h1, h3.1, h3.2⟩, Xp h2 (fun s hs' => hs s (List.mem_cons_of_mem _ hs'))⟩
  | [], _ :: _, h, _ => h.elim
  | _ :: _, [], h, _ => h.elim
theorem yT {a b : Ev} : xq a b < 0 ↔ a.lam < b.lam ∨ a.lam = b.lam ∧ (a.origin < b.origin ∨ a.origin = b.origin ∧ a.seq < b.seq) := by
  unfold xq orL orL orL orL zY
  by_cases h1 : a.lam < b.lam <;> by_cases h2 : b.lam < a.lam <;> by_cases h3 : a.origin < b.origin <;> by_cases h4 : b.origin < a.origin <;> by_cases h5 : a.seq < b.seq <;> by_cases h6 : b.seq < a.seq <;> simp only [h1, h2, h3, h4, h5, h6, if_true, if_false] <;> simp <;> omega
theorem Ul : SWO (ltOf fun a b : EvP => xq a.1 b.1) := by
  refine ⟨fun x => ?_, fun x y z h1 h2 => ?_, fun x y z h1 h2 => ?_⟩
  · simp only [ltOf, decide_eq_false_iff_not, yT]; omega
  · simp only [ltOf, decide_eq_true_eq, yT] at *; omega
  · simp only [ltOf, decide_eq_false_iff_not, yT] at *; omega
theorem Un {G : Nat → Prop} {W w : World} {Rs : List HP} {v : Value} {l : List Ev} (hl : l.length < 4611686018427387904) (hS : Sep G W (RowE (α := Ev) own 36 v l :: Rs) w) :
    Ret Try.prog 77 [v, .func (.func 78) #[] #[]] w (fun r w' => ∃ l' : List Ev, r = (.tuple #[] : Value) ∧ l'.Perm l ∧ l'.Pairwise (fun a b => ¬ xq b a < 0) ∧ Sep G W (RowE (α := Ev) own 36 v l' :: Rs) w') := by
  obtain ⟨f, hA, hfl, hT⟩ := hS.take (i := 0) rfl
  have ho := RowE.toOwn hA
  obtain ⟨⟨css, hE, hown⟩, ha, hB, hs⟩ := ho
  obtain ⟨ls, rfl, hE2, hrd⟩ := YN hE
  have ho2 : OwnS 36 0 w (fun b => (f b ∧ v.ownBlock ≠ some b) ∧ Soft w b) v ls := ⟨⟨css, hE2, by rw [List.length_map] at hown; exact hown⟩, ha, hB, by rw [List.length_map] at hs; exact hs⟩
  refine Ret.mono (We (α := EvP) (enc := EvP.cells) UP Try.isAgg36 Try.sizeOf36 (fun _ _ _ _ h => h) (fun _ => rfl) (fun s => yz ⟨rfl, rfl, rfl, s.2.2, rfl, rfl, rfl, rfl, rfl, rfl, trivial⟩) Ul (cap := []) Try.call78 ho2 (fun _ _ _ => Ui) (fun _ _ _ _ h => h) (by simpa using hl)) ?_
  rintro r w' ⟨rfl, hc, ls', hp, hso, ho3⟩
  refine ⟨ls'.map (·.1), rfl, hp.map _, ?_, ?_⟩
  · rw [List.pairwise_map]
    refine hso.imp fun {a b} h => ?_
    simpa [ltOf] using h
  · obtain ⟨⟨css', hE', hown'⟩, ha', hB', hs'⟩ := ho3
    have hF : ∀ b, ((f b ∧ v.ownBlock ≠ some b) ∧ Soft w b) → b < w.heap.size → w'.heap[b]? = w.heap[b]? ∧ ((f b ∧ v.ownBlock ≠ some b) ∧ Soft w b) := fun b hb hlt => ⟨hc.block b hlt hb.1.2, hb⟩
    have hr' : ∀ s ∈ ls', RdS w' (fun b => (f b ∧ v.ownBlock ≠ some b) ∧ Soft w b) s.2.1 s.1.deps ∧ s.1.Ok := fun s hs => ⟨(hrd s (hp.subset hs)).1.mono hF, (hrd s (hp.subset hs)).2⟩
    have ho4 : OwnS (α := Ev) 36 0 w' (fun b => (f b ∧ v.ownBlock ≠ some b) ∧ Soft w b) v (ls'.map (·.1)) := ⟨⟨css', Xp hE' hr', by rw [List.length_map]; exact hown'⟩, ha', hB', by rw [List.length_map]; exact hs'⟩
    have hvf : ∀ b, v.ownBlock = some b → f b := by
      obtain ⟨_, _, _, h3, _⟩ := hA
      exact h3
    exact hT w' _ f (hc.weak fun b _ hb => hvf b hb) (RowE.ofOwn ho4 (fun b hb => ⟨hb.1.1, hc.soft b hb.2⟩) hvf) (fun _ hb => .inl hb)
end Go.Proofs.Ytgjgmojjeehieaa
end

section
/- Steps of the proofs of this seat: part A13. -/
set_option maxRecDepth 8000
set_option maxHeartbeats 4000000
namespace Go.Proofs.Ytgjgmojjeehieaa
open Go.Proofs Go.RowKit Go.Sort Go.Shelf

theorem Ut {G : Nat → Prop} {W w : World} {Rs : List HP} {m : Nat} (hS0 : Sep G W Rs w) : Ret Try.prog 76 [.map (some m)] w (fun r w' => ∃ (bm : Nat), r = (.func (.func 81) #[] #[.pointer (some ⟨bm, 0, none⟩)] : Value) ∧ Sep G W ((Blk bm #[.map (some m)] 71) :: Rs) w') := by
 refine zq (args := [.map (some m)]) Try.func76 rfl rfl ?_
 refine zd ?_
 refine za (by kernel_rfl) (fun _ => ?_)
 refine st (yp (v := .map (some m)) rfl ?_)
 intro w3 b2 hn1
 have hS4 := hS0.new hn1
 refine st (zf (v := .nilFunc) rfl ?_)
 refine zg ?_
 refine zd ?_
 refine za (by kernel_rfl) (fun _ => ?_)
 refine st (ZH (vals := [.pointer (some ⟨b2, 0, none⟩)]) rfl ?_)
 refine st (zf (v := .func (.func 81) #[] #[.pointer (some ⟨b2, 0, none⟩)]) rfl ?_)
 refine zg ?_
 refine zw ?_
 refine zM Try.results76 (show _ = (.func (.func 81) #[] #[.pointer (some ⟨b2, 0, none⟩)] : Value) from rfl) ?_
 refine ⟨b2, rfl, hS4⟩

def idE (e : Ev) : Int × Int := (e.origin, e.seq)
def Srt (L : List Ev) : Prop := L.Pairwise fun a b => xq a b < 0
theorem xB : ∀ {L : List Ev} {x : Ev}, (L.map idE).Nodup → x ∈ L → zy L (idE x) = some x
  | y :: L, x, hn, hx => by
    unfold zy
    rw [List.find?_cons]
    rcases List.mem_cons.1 hx with rfl | hx
    · simp [idE]
    · have hn2 := List.nodup_cons.1 (show (idE y :: L.map idE).Nodup from hn)
      have hne : ¬ (y.origin = (idE x).1 ∧ y.seq = (idE x).2) := fun h => hn2.1 (List.mem_map.2 ⟨x, hx, by unfold idE; rw [h.1, h.2]; rfl⟩)
      rw [decide_eq_false hne]
      exact xB hn2.2 hx
theorem Xn {L : List Ev} {k : Int × Int} : (zy L k).isSome = true ↔ k ∈ L.map idE := by
  constructor
  · intro h
    obtain ⟨x, hx⟩ := Option.isSome_iff_exists.1 h
    obtain ⟨h1, h2, h3⟩ := xU hx
    exact List.mem_map.2 ⟨x, h1, by unfold idE; rw [h2, h3]⟩
  · intro h
    cases hg : zy L k with
    | some x => rfl
    | none =>
      obtain ⟨x, hx, rfl⟩ := List.mem_map.1 h
      exfalso
      unfold zy at hg
      rw [List.find?_eq_none] at hg
      exact hg x hx (by simp [idE])
theorem Vz {κ β : Type} [DecidableEq κ] {R : List (κ × β)} {k : κ} : (yt R k).isSome = true ↔ k ∈ R.map (·.1) := by
  unfold yt
  rw [Option.isSome_map, List.find?_isSome]
  constructor
  · rintro ⟨p, hp, hk⟩
    exact List.mem_map.2 ⟨p, hp, by simpa using hk⟩
  · intro h
    obtain ⟨p, hp, rfl⟩ := List.mem_map.1 h
    exact ⟨p, hp, by simp⟩
theorem Xu {κ β : Type} [DecidableEq κ] : ∀ {R : List (κ × β)} {p : κ × β}, (R.map (·.1)).Nodup → p ∈ R → yt R p.1 = some p.2
  | q :: R, p, hn, hp => by
    unfold yt
    rw [List.find?_cons]
    rcases List.mem_cons.1 hp with rfl | hp
    · simp
    · have hn2 := List.nodup_cons.1 (show (q.1 :: R.map (·.1)).Nodup from hn)
      have hne : ¬ q.1 = p.1 := fun h => hn2.1 (List.mem_map.2 ⟨p, hp, h.symm⟩)
      rw [decide_eq_false hne]
      exact Xu hn2.2 hp
theorem xZ {l : List Ev} : ∀ {S : List Ev}, l.Perm S → S.Pairwise (fun a b => xq a b < 0) → l.Pairwise (fun a b => ¬ xq b a < 0) → l = S := by
  induction l with
  | nil => intro S hp _ _; exact (List.nil_perm.1 hp).symm
  | cons a l ih =>
    intro S hp hS hl
    cases S with
    | nil => exact absurd hp.length_eq (by simp)
    | cons s S =>
      rw [List.pairwise_cons] at hS hl
      have ha : a ∈ s :: S := hp.subset (List.mem_cons_self ..)
      have hs : s ∈ a :: l := hp.symm.subset (List.mem_cons_self ..)
      have e : a = s := by
        rcases List.mem_cons.1 ha with h | h
        · exact h
        · rcases List.mem_cons.1 hs with h2 | h2
          · exact h2.symm
          · exact absurd (hS.1 a h) (hl.1 s h2)
      subst e
      rw [ih ((List.perm_cons a).1 hp) hS.2 hl.2]
def xI (R : List ((Int × Int) × Value)) (L : List Ev) (j : Nat) : Ev := (zy L ((R[j]?.map (·.1)).getD default)).getD default
section
variable {G : Nat → Prop} {W w : World} {Rs : List HP} {m n clock : Nat} {L : List Ev} {R : List ((Int × Int) × Value)} {es : Array MapEntry}
theorem SetR.place (h : SetR W G m R L) (hn : (R.map (·.1)).Nodup) (he : EntsV yX es.toList R) {j : Nat} (hj : j < es.toList.length) : ∃ vd, es.toList[j].val = .agg ((xI R L j).cells vd).toArray ∧ (xI R L j).Ok ∧ RdS W G vd (xI R L j).deps := by
  obtain ⟨p, hp, hk, hv⟩ := he.at_ (List.getElem?_eq_getElem hj)
  obtain ⟨x, vd, h1, h2, h3, h4, _⟩ := h.at_ p.1
  have hl := Xu hn (List.mem_of_getElem? hp)
  rw [hl] at h2
  have e : xI R L j = x := by unfold xI; rw [hp, h1]; rfl
  rw [e]
  exact ⟨vd, hv.trans h2, h3, h4⟩
theorem SetR.perm (h : SetR W G m R L) (hn : (R.map (·.1)).Nodup) (hid : (L.map idE).Nodup) : ((List.range R.length).map (xI R L)).Perm L := by
  have h1 : (R.map (·.1)).Perm (L.map idE) := (List.perm_ext_iff_of_nodup hn hid).2 fun k => by
    rw [← Vz, ← Xn]
    obtain ⟨x, vd, _, _, _, _, h5⟩ := h.at_ k
    rw [h5]
  have h2 := h1.map (fun k => (zy L k).getD default)
  have e1 : (L.map idE).map (fun k => (zy L k).getD default) = L := by
    rw [List.map_map]
    conv => rhs; rw [← List.map_id L]
    refine List.map_congr_left fun x hx => ?_
    show (zy L (idE x)).getD default = id x
    rw [xB hid hx]; rfl
  rw [e1] at h2
  have e2 : (List.range R.length).map (xI R L) = (R.map (·.1)).map (fun k => (zy L k).getD default) := by
    refine List.ext_getElem (by simp) (fun i h3 h4 => ?_)
    simp at h3
    simp [xI, h3]
  rw [e2]; exact h2
end
def UY (bis bo : Nat) (fis : FuncId) (caps : List Value) (p : Ev → Bool) (f : Nat → Ev) (idx : List Nat) : HP := Ex1 fun vo => Star [Blk bis #[.func (.func fis) #[] caps.toArray] 70, Blk bo #[vo] 22, RowE (α := Ev) own 36 vo ((idx.map f).filter p)]
theorem Uv {G : Nat → Prop} {W w : World} {Rs : List HP} {b : Nat} {n : Nat} {L : List Ev} (hb : (SetO b n L).p W G) {fis : FuncId} {caps : List Value} {p : Ev → Bool} (hfis : ∀ args w, (callFunc fis args).run Try.prog w = .ok (.enter fis args) w) (hIs : ∀ {w : World} {Rs : List HP} {x : Ev} {dx0 : Value} (hdx0 : RdS W G dx0 x.deps) (ox : x.Ok), Sep G W Rs w → Ret Try.prog fis (.agg (x.cells dx0).toArray :: caps) w (fun r w' => r = (.bool (p x) : Value) ∧ Sep G W Rs w')) (hS0 : Sep G W Rs w) (hid : (L.map idE).Nodup) (hsr : Srt L) (hL : L.length ≤ 1000000) : Ret Try.prog 53 [.pointer (some ⟨b, 0, none⟩), .func (.func fis) #[] caps.toArray] w (fun r w' => ∃ (v : Value), r = (v : Value) ∧ Sep G W ((RowE (α := Ev) own 36 v (L.filter p)) :: Rs) w') := by
  obtain ⟨vv, m, R, hbk, hvv, hr⟩ := SetO.sh hb
  obtain ⟨es, clock, hes, hst, hent, hclk⟩ := hr.is
  have hnR : (R.map (·.1)).Nodup := IsMap.nodup hr.is
  have hlen : es.size = R.length := by have := hent.len; simpa using this
  have hpl := hr.perm hnR hid
  have hRL : R.length = L.length := by have := hpl.length_eq; simpa using this
  refine XP (args := [.pointer (some ⟨b, 0, none⟩), .func (.func fis) #[] caps.toArray]) Try.func53 rfl rfl ?_
  refine Xb ?_
  refine za (by kernel_rfl) (fun _ => ?_)
  refine st (yp (v := .func (.func fis) #[] caps.toArray) rfl ?_)
  intro w1 bis hn1
  have hS1 := hS0.new hn1
  refine st (zf (v := (.slice none 0 0)) rfl ?_)
  refine zg ?_
  refine Xb ?_
  refine za (by kernel_rfl) (fun _ => ?_)
  refine st (zX Try.zeroValue22 ?_)
  intro w2 bo hn2
  have hS2 := hS1.new hn2
  refine zg ?_
  refine Uh ?_
  refine Xb ?_
  refine za (by kernel_rfl) (fun _ => ?_)
  refine st (zb (v := .pointer (some ⟨b, 0, none⟩)) rfl ?_)
  refine st (zC (b := b) (o := 0) rfl ?_)
  refine st (YX rfl ?_)
  refine st (zh (v := .map (some m)) Try.isAgg71 rfl (zi (hS2.gblk hbk) rfl) ?_)
  refine st (zj (f := 76) (vals := [.map (some m)]) (cap := []) rfl rfl Try.call76 (Ut hS2) ?_)
  rintro _ w3 ⟨bm, rfl, hS3⟩
  refine zg ?_
  refine Vp ?_
  refine Yw (gf := 81) (lb := [.pointer (some ⟨bm, 0, none⟩)]) rfl Try.call81 ?_
  intro fn tm htm
  have hS4 := (hS3.objNew (YG w3 (.deferred (some [])))).objNew (YG _ (.loop { state := .ready, pending := none, fn, tmps := tm, params := #[12], assign := cA (xJ Try.f53), body := cB (xJ Try.f53), defers := w3.heap.size }))
  rw [show (w3.alloc (.deferred (some []))).heap.size = w3.heap.size + 1 from World.size_alloc ..] at hS4
  have hS5 := hS4.rowNil (α := Ev) own 36
  have hS6 := Sep.closeStar (Bs := [Blk bis #[.func (.func fis) #[] caps.toArray] 70, Blk bo #[.slice none 0 0] 22, RowE (α := Ev) own 36 (.slice none 0 0) []]) (hS5.sel 6 [5, 4, 0, 1, 3, 2] (Nat.le_add_left _ _) rfl rfl)
  have hS7 : Sep G W (UY bis bo fis caps p (xI R L) [] :: _) _ := Sep.closeEx (A := fun vo => Star [Blk bis #[.func (.func fis) #[] caps.toArray] 70, Blk bo #[vo] 22, RowE (α := Ev) own 36 vo ((([] : List Nat).map (xI R L)).filter p)]) (.slice none 0 0) hS6
  refine Ret.mono (Qo (A := UY bis bo fis caps p (xI R L)) hr.gm hes hst rfl (fun j hj => ?_) ?_ hS7) ?_
  · obtain ⟨vd, h1, _, h3⟩ := hr.place hnR hent hj
    exact ⟨_, vd, h1, h3.sl.one⟩
  · intro idx j hj v Fr w8 hv hlt hnd hS8
    obtain ⟨vd, hcv, hok, hrd⟩ := hr.place hnR hent hj
    rw [hcv] at hv
    subst hv
    refine VR (n := 24) htm (by decide) ?_
    refine xu (by kernel_rfl) (fun _ => ?_)
    refine st (zX Try.zeroValue36 ?_)
    intro w9 b6 hn9
    have hS9 := hS8.new hn9
    refine stn (zT (v := .agg ((xI R L j).cells vd).toArray) (c' := ((xI R L j).cells vd).toArray) Try.sizeOf36 rfl rfl (hS9.blk (i := 0) rfl) (yz ⟨rfl, rfl, rfl, hrd.sl.one, rfl, rfl, rfl, rfl, rfl, rfl, trivial⟩) (Nat.le_of_ble_eq_true rfl) rfl ?_)
    intro w10 hp10
    have hS10 := hS9.put (i := 0) rfl hp10
    refine zg ?_
    refine ⟨_, run_beginRound (hS10.obj (i := 2) rfl) rfl, ?_⟩
    have hS11 := hS10.objPut (i := 2) (o' := .loop { state := .busy, pending := none, fn, tmps := tm, params := #[12], assign := cA (xJ Try.f53), body := cB (xJ Try.f53), defers := w3.heap.size }) rfl rfl
    obtain ⟨vo, hS12⟩ := (hS11.sel 3 [1, 0, 2] (Nat.le_add_left _ _) rfl rfl).openEx
    have hS13 := hS12.openStar
    have hS14 := hS13.sel 5 [3, 0, 1, 2, 4] (Nat.le_add_left _ _) rfl rfl
    refine UB (kv := [(3, .pointer (some ⟨bis, 0, none⟩)), (5, .pointer (some ⟨bo, 0, none⟩)), (6, .pointer (some ⟨b6, 0, none⟩))]) ⟨rfl, rfl, rfl, trivial⟩ (fun ρ => Vj hfis hIs hrd hok ?_ ?_ hS14)
    · have := List.length_filter_le p (idx.map (xI R L))
      rw [List.length_map] at this
      omega
    · intro σ' w15 vo' M' hM hS15
      refine ⟨_, _, run_endRound none (hS15.obj (i := 3) rfl), rfl, ?_⟩
      have hS16 := hS15.objPut (i := 3) (o' := .loop { state := .ready, pending := none, fn, tmps := tm, params := #[12], assign := cA (xJ Try.f53), body := cB (xJ Try.f53), defers := w3.heap.size }) rfl rfl
      have hM2 : M' = ((idx ++ [j]).map (xI R L)).filter p := by
        rw [hM, List.map_append, List.filter_append, List.map_cons, List.map_nil, List.filter_cons, List.filter_nil]
      rw [hM2] at hS16
      have hS17 := Sep.closeStar (Bs := [Blk bis #[.func (.func fis) #[] caps.toArray] 70, Blk bo #[vo'] 22, RowE (α := Ev) own 36 vo' (((idx ++ [j]).map (xI R L)).filter p)]) hS16
      exact Sep.closeEx (A := fun vo => Star [Blk bis #[.func (.func fis) #[] caps.toArray] 70, Blk bo #[vo] 22, RowE (α := Ev) own 36 vo (((idx ++ [j]).map (xI R L)).filter p)]) vo' hS17
  · rintro _ w9 ⟨idx, hperm, hS9⟩
    refine ⟨_, run_endLoop (hS9.obj (i := 1) rfl) (by simp), ?_⟩
    have hS10 := hS9.objPut (i := 1) (o' := .loop { state := .exhausted, pending := none, fn, tmps := tm, params := #[12], assign := cA (xJ Try.f53), body := cB (xJ Try.f53), defers := w3.heap.size }) rfl rfl
    obtain ⟨vo, hS11⟩ := hS10.openEx
    have hS12 := hS11.openStar
    have hS13 := hS12.sel 6 [2, 1, 5] (Nat.le_add_left _ _) rfl rfl
    have hpf : ((idx.map (xI R L)).filter p).Perm (L.filter p) := by
      have h1 := (hperm.map (xI R L))
      rw [hlen] at h1
      exact (h1.trans hpl).filter p
    refine YW ?_
    refine xu (by kernel_rfl) (fun _ => ?_)
    refine st (zh (v := vo) Try.isAgg22 rfl (zi (hS13.blk (i := 1) rfl) rfl) ?_)
    refine st (zj (f := 77) (vals := [vo, .func (.func 78) #[] #[]]) (cap := []) rfl rfl Try.call77 (Un (by have h1 := hpf.length_eq; have h2 := List.length_filter_le p L; omega) hS13) ?_)
    rintro _ w14 ⟨l', rfl, hp', hso', hS14⟩
    refine zg ?_
    refine YW ?_
    refine xu (by kernel_rfl) (fun _ => ?_)
    refine st (zh (v := vo) Try.isAgg22 rfl (zi (hS14.blk (i := 1) rfl) rfl) ?_)
    refine st (zf (v := vo) rfl ?_)
    refine zg ?_
    refine UO ?_
    refine ⟨_, run_takeDeferred (hS14.obj (i := 2) rfl), zM Try.results53 (show _ = (vo : Value) from rfl) ⟨vo, rfl, ?_⟩⟩
    have hS15 := hS14.objPut (i := 2) (o' := .deferred none) rfl rfl
    have hl' : l' = L.filter p := xZ (hp'.trans hpf) (hsr.filter p) hso'
    rw [hl'] at hS15
    exact hS15.sel 3 [0] (Nat.le_add_left _ _) rfl rfl

end Go.Proofs.Ytgjgmojjeehieaa
end

section
/- Steps of the proofs of this seat: part A14. -/
set_option maxRecDepth 8000
set_option maxHeartbeats 4000000
namespace Go.Proofs.Ytgjgmojjeehieaa
open Go.Proofs Go.RowKit

def xa (l : List Int) (e : Ev) : Bool := decide (max 0 (yq l e.origin) < e.seq)
def DepO (d : Value) (l : List Int) : HP := ⟨fun w f => RdS w (fun b => f b ∧ Soft w b) d l, fun h hf => h.mono fun b hb hlt => ⟨(hf b hb.1 hlt).1, (hf b hb.1 hlt).2, hb.2.keep (hf b hb.1 hlt).1⟩⟩
theorem DepO.rd {d : Value} {l : List Int} {w : World} {f : Nat → Prop} (h : (DepO d l).p w f) : RdS w f d l := RdS.weak h (fun _ _ hb => hb.1)
section
variable {G : Nat → Prop} {W w : World} {As : List HP} {T : TypeId} {v : Value} {l : List Ev}
theorem EP.takeF {α : Type} [Rep α] {q : List Value → α → Prop} (hl : ∀ cs x, q cs x → cs.length = Rep.k α) (j : Nat) : ∀ {css : List (List Value)} {l : List α}, EP q css l → (css.take j).flatten = css.flatten.take (j * Rep.k α) := by
  induction j with
  | zero => intro css l h; simp
  | succ j ih =>
    intro css l h
    cases css with
    | nil => simp
    | cons c css =>
      cases l with
      | nil => exact h.elim
      | cons x l =>
        have h1 := hl _ _ h.1
        rw [List.take_succ_cons, List.flatten_cons, List.flatten_cons, ih h.2, show (j + 1) * Rep.k α = c.length + j * Rep.k α by rw [h1, Nat.add_mul, Nat.one_mul, Nat.add_comm], List.take_length_add_append]
theorem Sep.rowTake (h : Sep G W (RowE (α := Ev) own T v l :: As) w) {j : Nat} (hj : j ≤ l.length) : Sep G W (RowE (α := Ev) own T (Yg 10 v 0 j) (l.take j) :: As) w := by
  refine h.impl (i := 0) rfl (fun f hA => ?_)
  obtain ⟨css, h1, h2, h3, h4⟩ := hA
  have hl : ∀ cs x, ((own (α := Ev)).el cs x).p w (fun b => f b ∧ v.ownBlock ≠ some b) → cs.length = Rep.k Ev := fun cs x h => Src.len _ h
  rcases h2.2 with ⟨rfl, h0⟩ | ⟨g, cap, cur, rfl, hg, hb, hn, hm, hs, ht⟩
  · have : l = [] := List.length_eq_zero_iff.1 h0
    subst this
    have hj0 : j = 0 := by simpa using hj
    subst hj0
    exact RowE.nil _ _ _ _
  · have ev : ∃ cap', j ≤ cap' ∧ cap' = cap ∧ Yg 10 (.slice (some ⟨g, 0, none⟩) l.length cap) 0 j = .slice (some ⟨g, 0, none⟩) j cap := by
      refine ⟨cap, by omega, rfl, ?_⟩
      by_cases hc : cap = 0
      · subst hc
        have : j = 0 := by omega
        subst this
        rfl
      · simp [Yg, hc, Addr.add]
    obtain ⟨cap', hjc, rfl, e⟩ := ev
    rw [e]
    refine ⟨css.take j, (h1.take j).mono (fun cs x h => h), ⟨?_, .inr ⟨g, cap', cur, ?_, hg, hb, ?_, hm, hs, ?_⟩⟩, h3, ?_⟩
    · rw [EP.flat hl (h1.take j)]
    · rw [List.length_take, Nat.min_eq_left hj]
    · rw [List.length_take, Nat.min_eq_left hj]; exact hjc
    · rw [List.length_take, Nat.min_eq_left hj, EP.takeF hl j h1, ← ht, List.take_take, Nat.min_eq_left (Nat.mul_le_mul_right _ hj)]
    · rw [List.length_take, Nat.min_eq_left hj]; exact Nat.le_trans (Nat.mul_le_mul_right _ hj) h4
end
theorem Qu {G : Nat → Prop} {W w : World} {Rs : List HP} {e : Ev} {de0 : Value} (hde0 : RdS W G de0 e.deps) (oe : e.Ok) (hS0 : Sep G W Rs w) : Ret Try.prog 54 [.agg (e.cells de0).toArray] w (fun r w' => r = (.bool true : Value) ∧ Sep G W Rs w') := by
 have hde0s : _ * 8 ≤ _ := hde0.small
 refine zq (args := [.agg (e.cells de0).toArray]) Try.func54 rfl rfl ?_
 refine zd ?_
 refine za (by kernel_rfl) (fun _ => ?_)
 refine st (yp (v := .agg (e.cells de0).toArray) rfl ?_)
 intro w3 b2 hn1
 have hS4 := hS0.new hn1
 refine st (zf (v := .bool false) rfl ?_)
 refine zg ?_
 refine zd ?_
 refine za (by kernel_rfl) (fun _ => ?_)
 refine st (zf (v := .bool true) rfl ?_)
 refine zg ?_
 refine zw ?_
 refine zM Try.results54 (show _ = (.bool true : Value) from rfl) ?_
 have hS5 : Sep G W Rs w3 := hS4.sel 1 [] (Nat.le_add_left _ _) rfl rfl
 refine ⟨rfl, hS5⟩

theorem UV {G : Nat → Prop} {W w : World} {Rs : List HP} {e : Ev} {de0 : Value} (hde0 : RdS W G de0 e.deps) (oe : e.Ok) {bx : Nat} {vl : Value} {l : List Int} (hbx : (Blk bx #[vl] 34).p W G) (hl : RdS W G vl l) (hS0 : Sep G W Rs w) : Ret Try.prog 58 [.agg (e.cells de0).toArray, .pointer (some ⟨bx, 0, none⟩)] w (fun r w' => r = (.bool (xa l e) : Value) ∧ Sep G W Rs w') := by
 have hde0s : _ * 8 ≤ _ := hde0.small
 have hls : _ * 8 ≤ _ := hl.small
 refine zq (args := [.agg (e.cells de0).toArray, .pointer (some ⟨bx, 0, none⟩)]) Try.func58 rfl rfl ?_
 refine zd ?_
 refine za (by kernel_rfl) (fun _ => ?_)
 refine st (yp (v := .agg (e.cells de0).toArray) rfl ?_)
 intro w3 b2 hn1
 have hS4 := hS0.new hn1
 refine st (zf (v := .bool false) rfl ?_)
 refine zg ?_
 refine zd ?_
 refine zS ((fun pp0 => WF [fun vals wq => Sep G W (pp0 :: Rs) wq, fun vals wq => (vals 7 = (.int .i64 (yq l e.origin) : Value)) ∧ (InR (yq l e.origin)) ∧ Sep G W (pp0 :: Rs) wq]) (Blk b2 (e.cells de0).toArray 36)) (AF [Vl 0 (.pointer (some ⟨b2, 0, none⟩)), Vl 1 (.pointer (some ⟨b2, 1, none⟩)), Vl 2 (.int .i64 (e.seq)), Vl 3 (vl), Vl 4 (.pointer (some ⟨b2, 0, none⟩)), Vl 5 (.pointer (some ⟨b2, 0, none⟩)), Vl 6 (.int .i64 (e.origin)), fun _ => True, Vl 8 (.int .i64 (max 0 (yq l e.origin))), Vl 9 (.bool (decide ((max 0 (yq l e.origin)) < e.seq))), Vl 10 (.bool (decide ((max 0 (yq l e.origin)) < e.seq)))]) [[], [0], [0, 1], [], [], [4], [4, 5], [3, 4, 5, 6], [3, 4, 5, 6, 7], [0, 1, 2, 3, 4, 5, 6, 7, 8], [0, 1, 2, 3, 4, 5, 6, 7, 8, 9]] [7] [(0, 1), (0, 1), (0, 1), (0, 0), (0, 0), (0, 0), (0, 0), (0, 0), (1, 1), (1, 1), (1, 1)] (by kernel_rfl) (by kernel_rfl) (by kernel_rfl) rfl (by kernel_rfl) (by kernel_rfl) (fun _ h1 h2 h3 h4 _ => hS4.same h1 h2 h3 h4) ?_ (yk ⟨dA, dA, dA, dA, dA, dA, dA, dT, dA, dA, dA, trivial⟩) ⟨?_, ?_, ?_, ?_, ?_, ?_, ?_, ?_, ?_, ?_, ?_, trivial⟩ ?_
 ·intro k vals vals' w hv h
  have e : ∀ j ∈ ([7] : List Nat), vals' j = vals j := hv
  match k, h with
  | 0, h => exact h
  | 1, h => exact (by simpa only [WF, List.getElem?_cons_zero, List.getElem?_cons_succ, e 7 (by decide)] using h)
  | _ + 2, _ => trivial
 ·intro k90 vals w91 h94 h95 hW93 hA92
  refine obl rfl ?_
  exact yd rfl (fun vals' hv _ => ⟨rfl, hv⟩)
 ·intro k96 vals w97 h100 h101 hW99 hA98
  have e102 := hA98 0 (by decide)
  refine obl rfl ?_
  exact xe e102 (fun vals' hv _ => ⟨rfl, hv⟩)
 ·intro k103 vals w104 h107 h108 hW106 hA105
  have hkk : k103 = 0 ∨ k103 = 1 := by have h1 : 0 ≤ k103 := h107; have h2 : k103 ≤ 1 := h108; omega
  rcases hkk with rfl | rfl
  ·skip
   have hS109 : Sep _ _ _ _ := hW106
   have e110 := hA105 1 (by decide)
   refine obl rfl ?_
   exact zh (v := .int .i64 (e.seq)) Try.isAgg3 e110 (zi (hS109.blk (i := 0) rfl) rfl) (fun vals' hv _ => ⟨rfl, hv⟩)
  ·skip
   obtain ⟨he66, hg63, hS111⟩ := hW106
   have e112 := hA105 1 (by decide)
   refine obl rfl ?_
   exact zh (v := .int .i64 (e.seq)) Try.isAgg3 e112 (zi (hS111.blk (i := 0) rfl) rfl) (fun vals' hv _ => ⟨rfl, hv⟩)
 ·intro k113 vals w114 h117 h118 hW116 hA115
  obtain rfl : k113 = 0 := Nat.le_antisymm h118 h117
  have hS119 : Sep _ _ _ _ := hW116
  refine obl rfl ?_
  exact zh (v := vl) Try.isAgg34 rfl (zi (hS119.gblk hbx) rfl) (fun vals' hv _ => ⟨rfl, hv⟩)
 ·intro k120 vals w121 h124 h125 hW123 hA122
  refine obl rfl ?_
  exact yd rfl (fun vals' hv _ => ⟨rfl, hv⟩)
 ·intro k126 vals w127 h130 h131 hW129 hA128
  have e132 := hA128 4 (by decide)
  refine obl rfl ?_
  exact yE e132 (fun vals' hv _ => ⟨rfl, hv⟩)
 ·intro k133 vals w134 h137 h138 hW136 hA135
  obtain rfl : k133 = 0 := Nat.le_antisymm h138 h137
  have hS139 : Sep _ _ _ _ := hW136
  have e140 := hA135 5 (by decide)
  refine obl rfl ?_
  exact zh (v := .int .i64 (e.origin)) Try.isAgg3 e140 (zi (hS139.blk (i := 0) rfl) rfl) (fun vals' hv _ => ⟨rfl, hv⟩)
 ·intro k54 vals w55 h58 h59 hW57 hA56
  obtain rfl : k54 = 0 := Nat.le_antisymm h59 h58
  have hS60 : Sep _ _ _ _ := hW57
  have e61 := hA56 3 (by decide)
  have e62 := hA56 6 (by decide)
  refine obl rfl ?_
  refine (zj (f := 59) (vals := [vl, .int .i64 (e.origin)]) (cap := []) rfl (yD ⟨e61, e62, trivial⟩) Try.call59 (Wl (v := l) (vv := vl) (o := e.origin) hl oe.origin hS60) ?_)
  rintro _ w64 ⟨rfl, hg63, hS65⟩
  intro vals' hv hv'
  refine ⟨?_, trivial⟩
  show (vals' 7 = (.int .i64 (yq l e.origin) : Value)) ∧ (InR (yq l e.origin)) ∧ Sep G W ((Blk b2 (e.cells de0).toArray 36) :: Rs) w64
  exact ⟨hv, hg63, hS65⟩
 ·intro k141 vals w142 h145 h146 hW144 hA143
  obtain rfl : k141 = 1 := Nat.le_antisymm h146 h145
  obtain ⟨he66, hg63, hS147⟩ := hW144
  refine obl rfl ?_
  exact xE (k := .i64) (a := 0) (b := yq l e.origin) rfl he66 (fun vals' hv _ => ⟨rfl, hv⟩)
 ·intro k148 vals w149 h152 h153 hW151 hA150
  obtain rfl : k148 = 1 := Nat.le_antisymm h153 h152
  obtain ⟨he66, hg63, hS154⟩ := hW151
  have e155 := hA150 2 (by decide)
  have e156 := hA150 8 (by decide)
  refine obl rfl ?_
  exact yy (k := .i64) (a := e.seq) (b := max 0 (yq l e.origin)) e155 e156 (fun vals' hv _ => ⟨rfl, hv⟩)
 ·intro k157 vals w158 h161 h162 hW160 hA159
  have e163 := hA159 9 (by decide)
  refine obl rfl ?_
  exact zf (v := .bool (decide ((max 0 (yq l e.origin)) < e.seq))) e163 (fun vals' hv _ => ⟨rfl, hv⟩)
 intro vals w164 hW165 hA166
 obtain ⟨he66, hg63, hS167⟩ := hW165
 have e168 := hA166 10 (by decide)
 refine yj (kv := [(0, .agg (e.cells de0).toArray), (1, .pointer (some ⟨bx, 0, none⟩)), (2, .pointer (some ⟨b2, 0, none⟩)), (3, .bool (decide ((max 0 (yq l e.origin)) < e.seq)))]) ⟨rfl, rfl, rfl, (by exact e168), trivial⟩ (fun ρw164 => ?_)
 refine zg ?_
 refine zw ?_
 refine zM Try.results58 (show _ = (.bool (decide ((max 0 (yq l e.origin)) < e.seq)) : Value) from rfl) ?_
 have hS169 : Sep G W Rs w164 := hS167.sel 1 [] (Nat.le_add_left _ _) rfl rfl
 refine ⟨rfl, hS169⟩

theorem Xm {G : Nat → Prop} {W w : World} {Rs : List HP} {b : Nat} {n : Nat} {L : List Ev} (hb : (SetO b n L).p W G) (hS0 : Sep G W Rs w) (hid : (L.map idE).Nodup) (hsr : Srt L) (hL : L.length ≤ 1000000) : Ret Try.prog 19 [.pointer (some ⟨b, 0, none⟩)] w (fun r w' => ∃ (v : Value), r = (v : Value) ∧ Sep G W ((RowE (α := Ev) own 36 v L) :: Rs) w') := by
 refine zq (args := [.pointer (some ⟨b, 0, none⟩)]) Try.func19 rfl rfl ?_
 obtain ⟨vv1, m2, R3, hb4, hv5, hr6⟩ := SetO.sh hb
 have hsm7 : (zc n L).length * 8 ≤ 140737488355328 := hv5.small
 refine zd ?_
 refine za (by kernel_rfl) (fun _ => ?_)
 refine st (zf (v := (.slice none 0 0)) rfl ?_)
 refine zg ?_
 refine zd ?_
 refine za (by kernel_rfl) (fun _ => ?_)
 refine st (zb (v := .pointer (some ⟨b, 0, none⟩)) rfl ?_)
 refine st (zj (f := 53) (vals := [.pointer (some ⟨b, 0, none⟩), .func (.func 54) #[] #[]]) (cap := []) rfl rfl Try.call53 (Uv (p := fun _ => true) (caps := []) hb Try.call54 (fun hd9 ok9 hS9 => Qu hd9 ok9 hS9) hS0 (hid) (hsr) (hL)) ?_)
 rintro v8 w9 ⟨_, rfl, hS10⟩
 have hr11 := hS10.row (i := 0) rfl
 have hr11s : _ * 96 ≤ _ := hr11.2
 refine st (zf (v := v8) rfl ?_)
 refine zg ?_
 refine zw ?_
 refine zM Try.results19 (show _ = (v8 : Value) from rfl) ?_
 rw [List.filter_eq_self.2 (fun _ _ => rfl)] at hS10
 refine ⟨v8, rfl, hS10⟩

end Go.Proofs.Ytgjgmojjeehieaa
end

section
/- Steps of the proofs of this seat: part A15. -/
set_option maxRecDepth 8000
set_option maxHeartbeats 4000000
namespace Go.Proofs.Ytgjgmojjeehieaa
open Go.Proofs Go.RowKit

def zA (L : List Ev) (l : List Int) (most : Int) : List Ev := (L.filter (xa l)).take most.toNat
theorem VU {M : List Ev} {most : Int} {j : Nat} (hj : min ((M.length : Nat) : Int) (max 0 most) = (j : Int)) : M.take j = M.take most.toNat := by
  rcases Int.lt_or_le most M.length with h | h
  · congr 1; omega
  · rw [List.take_of_length_le (by omega), List.take_of_length_le (by omega)]
theorem YI {G : Nat → Prop} {W w : World} {Rs : List HP} {b : Nat} {n : Nat} {L : List Ev} (hb : (SetO b n L).p W G) {vl : Value} {l : List Int} (hl : RdS W G vl l) {most : Int} (hmost : InR most) (hS0 : Sep G W Rs w) (hid : (L.map idE).Nodup) (hsr : Srt L) (hL : L.length ≤ 1000000) : Ret Try.prog 25 [.pointer (some ⟨b, 0, none⟩), vl, .int .i64 (most)] w (fun r w' => ∃ (v : Value), r = (v : Value) ∧ Sep G W ((RowE (α := Ev) own 36 v (zA L l most)) :: Rs) w') := by
 have hls : _ * 8 ≤ _ := hl.small
 refine zq (args := [.pointer (some ⟨b, 0, none⟩), vl, .int .i64 (most)]) Try.func25 rfl rfl ?_
 obtain ⟨vv1, m2, R3, hb4, hv5, hr6⟩ := SetO.sh hb
 have hsm7 : (zc n L).length * 8 ≤ 140737488355328 := hv5.small
 refine zd ?_
 refine za (by kernel_rfl) (fun _ => ?_)
 refine st (yp (v := vl) rfl ?_)
 intro w10 b9 hn8
 rw [Za hl.sl.one] at hn8
 have hS11 := hS0.new hn8
 refine st (zf (v := (.slice none 0 0)) rfl ?_)
 refine zg ?_
 refine zd ?_
 refine za (by kernel_rfl) (fun _ => ?_)
 refine st (zb (v := .pointer (some ⟨b, 0, none⟩)) rfl ?_)
 refine st (ZH (vals := [.pointer (some ⟨b9, 0, none⟩)]) rfl ?_)
 obtain ⟨G12, hA14, hB15, hS16, hk17⟩ := hS11.lend
 refine st (zj (f := 53) (vals := [.pointer (some ⟨b, 0, none⟩), .func (.func 58) #[] #[.pointer (some ⟨b9, 0, none⟩)]]) (cap := []) rfl rfl Try.call53 (Uv (p := xa l) (caps := [.pointer (some ⟨b9, 0, none⟩)]) (HP.base hb hB15) Try.call58 (fun hd9 ok9 hS9 => UV hd9 ok9 hA14 (RdS.base hl hB15) hS9) hS16 (hid) (hsr) (hL)) ?_)
 rintro v18 w19 ⟨_, rfl, hS20⟩
 have hr21 := hS20.row (i := 0) rfl
 have hr21s : _ * 96 ≤ _ := hr21.2
 refine st (zf (v := v18) rfl ?_)
 refine zg ?_
 refine zd ?_
 refine za (by kernel_rfl) (fun _ => ?_)
 refine st (zb (v := v18) rfl ?_)
 refine st (zb (v := v18) rfl ?_)
 refine st (zB (n := (L.filter (xa l)).length) Try.underlying22 rfl hr21.1 ?_)
 refine st (zb (v := .int .i64 (most)) rfl ?_)
 refine st (xE (k := .i64) (a := 0) (b := most) rfl rfl ?_)
 refine st (Zc (k := .i64) (a := (((L.filter (xa l)).length : Nat) : Int)) (b := max 0 most) rfl rfl ?_)
 obtain ⟨j9, hj9⟩ : ∃ j : Nat, min (((L.filter (xa l)).length : Nat) : Int) (max 0 most) = (j : Int) := ⟨_, (Int.toNat_of_nonneg (by omega)).symm⟩
 rw [hj9]
 refine st (XQ (j := j9) (k := 10) (n := (L.filter (xa l)).length) Try.underlying22 Try.sizeOf36 rfl hr21.1 rfl (by first | omega | (simp only [zu]; omega)) ?_)
 refine st (zf (v := (Yg 10 v18 0 j9)) rfl ?_)
 refine zg ?_
 refine zw ?_
 refine zM Try.results25 (show _ = ((Yg 10 v18 0 j9) : Value) from rfl) ?_
 have hS22 := hk17 _ _ hS20
 have hS23 := hS22.mv1
 have hS24 : Sep G W ((RowE (α := Ev) own 36 (Yg 10 v18 0 j9) (List.take j9 (L.filter (xa l)))) :: (Blk b9 #[vl] 34) :: Rs) w19 := hS23.rowTake (j := j9) (by first | omega | (simp only [zu]; omega))
 rw [VU hj9] at hS24
 have hS25 : Sep G W ((RowE (α := Ev) own 36 (Yg 10 v18 0 j9) (List.take most.toNat (L.filter (xa l)))) :: Rs) w19 := hS24.sel 2 [0] (Nat.le_add_left _ _) rfl rfl
 refine ⟨(Yg 10 v18 0 j9), rfl, hS25⟩

end Go.Proofs.Ytgjgmojjeehieaa
end

section
/- Steps of the proofs of this seat: part A16. -/
set_option maxRecDepth 8000
set_option maxHeartbeats 4000000
namespace Go.Proofs.Ytgjgmojjeehieaa
open Go.Proofs Go.RowKit

def yw (e : Ev) : List Ev → List Ev
  | [] => [e]
  | x :: l => if ltE e x = true then e :: x :: l else x :: yw e l
def Um (n : Nat) (L : List Ev) (e : Ev) : Bool := (List.range n).all (yM L e)
def xA (n : Nat) (L : List Ev) (e : Ev) : Int := if zP e n ≠ 0 then zP e n else if (zy L (e.origin, e.seq)).isSome = true then 16 else if e.seq ≠ ((xr L e.origin.toNat : Nat) : Int) + 1 then 9 else if Um n L e = true then 0 else 9
def addL (n : Nat) (L : List Ev) (e : Ev) : List Ev := if xA n L e = 0 then yw e L else L
section
variable {n : Nat} {L : List Ev} {e : Ev}
theorem Ws (h : ¬ zP e n = 0) : xA n L e = zP e n := by unfold xA; rw [if_pos h]
theorem Wt (h : zP e n = 0) (h2 : (zy L (e.origin, e.seq)).isSome = true) : xA n L e = 16 := by unfold xA; rw [if_neg (by simpa using h), if_pos h2]
theorem WC (h : zP e n = 0) (h2 : (zy L (e.origin, e.seq)).isSome = false) (h3 : ¬ e.seq = ((xr L e.origin.toNat : Nat) : Int) + 1) : xA n L e = 9 := by unfold xA; rw [if_neg (by simpa using h), if_neg (by rw [h2]; decide), if_pos h3]
theorem WE (h : zP e n = 0) (h2 : (zy L (e.origin, e.seq)).isSome = false) (h3 : e.seq = ((xr L e.origin.toNat : Nat) : Int) + 1) {k : Nat} (hk : k < n) (h4 : yM L e k = false) : xA n L e = 9 := by
  unfold xA
  rw [if_neg (by simpa using h), if_neg (by rw [h2]; decide), if_neg (by simpa using h3), if_neg (fun h5 => ?_)]
  have := (List.all_eq_true.1 h5) k (List.mem_range.2 hk)
  rw [h4] at this; cases this
theorem Yo (h : zP e n = 0) (h2 : (zy L (e.origin, e.seq)).isSome = false) (h3 : e.seq = ((xr L e.origin.toNat : Nat) : Int) + 1) (h4 : ∀ i, i < n → yM L e i = true) : xA n L e = 0 := by
  unfold xA
  rw [if_neg (by simpa using h), if_neg (by rw [h2]; decide), if_neg (by simpa using h3), if_pos (show Um n L e = true from List.all_eq_true.2 fun i hi => h4 i (List.mem_range.1 hi))]
theorem xw (h : ¬ xA n L e = 0) : addL n L e = L := if_neg h
theorem Zl (h : xA n L e = 0) : addL n L e = yw e L := if_pos h
theorem yS (h : zP e n = 0) : (0 ≤ e.origin ∧ e.origin < n) ∧ (1 ≤ e.seq ∧ 1 ≤ e.lam) ∧ e.deps.length = n ∧ e.deps.getD e.origin.toNat 0 = e.seq - 1 := by
  unfold zP at h
  split at h
  · cases h
  · rename_i h1
    split at h
    · cases h
    · rename_i h2
      have h1' : (((((decide (e.origin < 0) || decide ((n : Int) ≤ e.origin)) || decide (min e.seq e.lam < 1)) || decide (min e.agg e.key < 0)) || !decide (((e.deps.length : Nat) : Int) = n)) || xH e.deps) = false := by simpa using h1
      simp only [Bool.or_eq_false_iff, decide_eq_false_iff_not, Bool.not_eq_false', decide_eq_true_eq] at h1'
      have h2' : e.deps.getD e.origin.toNat 0 = e.seq - 1 := by simpa using h2
      obtain ⟨⟨⟨⟨⟨a1, a2⟩, a3⟩, a4⟩, a5⟩, a6⟩ := h1'
      exact ⟨⟨by omega, by omega⟩, ⟨by omega, by omega⟩, by omega, h2'⟩
theorem insE_perm : ∀ {L : List Ev}, (yw e L).Perm (e :: L)
  | [] => List.Perm.refl _
  | x :: l => by
    unfold yw
    split
    · exact List.Perm.refl _
    · exact ((insE_perm (L := l)).cons x).trans (List.Perm.swap ..)
theorem Xw : (yw e L).length = L.length + 1 := insE_perm.length_eq
theorem Xc {o : Nat} : xr L o ≤ L.length := List.length_filter_le ..
theorem Xd {o : Nat} : xr (yw e L) o = xr L o + if e.origin = (o : Int) then 1 else 0 := by
  unfold xr
  rw [((insE_perm (e := e) (L := L)).filter _).length_eq, List.filter_cons]
  by_cases h : e.origin = (o : Int)
  · rw [if_pos (by simpa using h), if_pos h]; rfl
  · rw [if_neg (by simpa using h), if_neg h]; rfl
theorem Wu (h0 : 0 ≤ e.origin) (h1 : e.origin < n) : (zc n L).set e.origin.toNat (((xr L e.origin.toNat : Nat) : Int) + 1) = zc n (yw e L) := by
  refine List.ext_getElem (by simp [zc]) (fun i h2 h3 => ?_)
  simp only [List.length_set, Zp] at h2
  rw [List.getElem_set]
  simp only [zc, List.getElem_map, List.getElem_range]
  rw [Xd]
  by_cases h : e.origin.toNat = i
  · rw [if_pos h, if_pos (by omega), ← h]; omega
  · rw [if_neg h, if_neg (by omega)]; omega
theorem VW {A B : List Ev} (h : A.Perm B) : yY A = yY B := by
  unfold yY
  induction h with
  | nil => rfl
  | cons x _ ih => simp only [List.foldr_cons, ih]
  | swap x y l => simp only [List.foldr_cons]; omega
  | trans _ _ h1 h2 => exact h1.trans h2
theorem UL : max (yY L) e.lam = yY (yw e L) := by rw [VW insE_perm]; rfl
theorem XA (h : (zy L (e.origin, e.seq)).isSome = false) : Zy (zy L) (e.origin, e.seq) e = zy (yw e L) := by
  funext k
  unfold Zy
  induction L with
  | nil =>
    simp only [yw, zy, List.find?_cons, List.find?_nil]
    obtain ⟨a, b⟩ := k
    by_cases hk : (e.origin, e.seq) = (a, b)
    · rw [if_pos hk]; cases hk; simp
    · rw [if_neg hk]; simp only [Prod.mk.injEq] at hk; simp [hk]
  | cons x l ih =>
    have hx : ¬ (x.origin = e.origin ∧ x.seq = e.seq) ∧ (zy l (e.origin, e.seq)).isSome = false := by
      unfold zy at h
      rw [List.find?_cons] at h
      by_cases hx : x.origin = e.origin ∧ x.seq = e.seq
      · rw [decide_eq_true hx] at h; cases h
      · rw [decide_eq_false hx] at h; exact ⟨hx, h⟩
    obtain ⟨a, b⟩ := k
    have ih := ih hx.2
    simp only [yw]
    by_cases hlt : ltE e x = true
    · rw [if_pos hlt]
      by_cases hk : (e.origin, e.seq) = (a, b)
      · rw [if_pos hk]; cases hk; simp [zy]
      · rw [if_neg hk]; simp only [Prod.mk.injEq] at hk; simp [zy, hk]
    · rw [if_neg hlt]
      unfold zy at ih ⊢
      rw [List.find?_cons, List.find?_cons]
      by_cases hxa : x.origin = a ∧ x.seq = b
      · have hk : ¬ (e.origin, e.seq) = (a, b) := fun hk => by cases hk; exact hx.1 hxa
        rw [if_neg hk, decide_eq_true hxa]
      · rw [decide_eq_false hxa]; exact ih
end
end Go.Proofs.Ytgjgmojjeehieaa
end

section
/- Steps of the proofs of this seat: part A17. -/
set_option maxRecDepth 8000
set_option maxHeartbeats 4000000
namespace Go.Proofs.Ytgjgmojjeehieaa
open Go.Proofs Go.RowKit

section
variable {G : Nat → Prop} {W w : World} {As : List HP} {vd : Value} {e : Ev}
theorem Qx (ho : e.Ok) (h : Sep G W (RowE (α := Int) own 3 vd e.deps :: As) w) : Sep G W (EV (.agg (e.cells vd).toArray) e :: As) w := h.impl (i := 0) rfl (fun _ h => ⟨vd, rfl, ho, h⟩)
theorem Vf {m : Nat} {X : Int × Int → Option Ev} {k : Int × Int} (h : Sep G W (MapO yX EV m X :: As) w) (hX : (X k).isSome = false) : Sep G W (Zj yX EV xt m X k xt :: As) w := by
  obtain ⟨v, hv, h1⟩ := h.mapoTake xt k
  have hn : X k = none := by rwa [Option.isSome_eq_false_iff, Option.isNone_iff_eq_none] at hX
  obtain rfl := hv hn
  exact h1.sel 2 [0] (Nat.le_add_left _ _) rfl rfl
end
theorem D_Add {G : Nat → Prop} {W w : World} {Rs : List HP} {b : Nat} {n : Nat} {L : List Ev} {e : Ev} {de0 : Value} (hde0 : RdS W G de0 e.deps) (oe : e.Ok) (hS0 : Sep G W ((SetO b n L) :: Rs) w) (hL : L.length ≤ 1000000) (hlen : ∀ y ∈ L, y.deps.length = n) : Ret Try.prog 21 [.pointer (some ⟨b, 0, none⟩), .agg (e.cells de0).toArray] w (fun r w' => ∃ (L1 : List Ev), r = (.int .i64 ((xA n L e)) : Value) ∧ (L1 = addL n L e) ∧ Sep G W ((SetO b n L1) :: Rs) w') := by
 have hde0s : _ * 8 ≤ _ := hde0.small
 refine zq (args := [.pointer (some ⟨b, 0, none⟩), .agg (e.cells de0).toArray]) Try.func21 rfl rfl ?_
 refine zd ?_
 obtain ⟨G1, hA3, hB4, hS5, hk6⟩ := hS0.lend
 obtain ⟨vv7, m8, R9, hb10, hv11, hr12⟩ := SetO.sh hA3
 have hsm13 : (zc n L).length * 8 ≤ 140737488355328 := hv11.small
 have hvl9 : (zc n L).length = n := Zp
 refine za (by kernel_rfl) (fun _ => ?_)
 refine st (yp (v := .agg (e.cells de0).toArray) rfl ?_)
 intro w16 b15 hn14
 have hS17 := hS5.new hn14
 refine st (zf (v := .int .i64 (0)) rfl ?_)
 refine zg ?_
 refine zd ?_
 refine zd ?_
 refine zS ((fun pp0 => WF [fun vals wq => Sep G1 w (pp0 :: Rs) wq, fun vals wq => (vals 6 = (.int .i64 ((zP e (((zc n L).length : Nat) : Int))) : Value)) ∧ Sep G1 w (pp0 :: Rs) wq]) (Blk b15 (e.cells de0).toArray 36)) (AF [Vl 0 (.agg (e.cells de0).toArray), Vl 1 (.pointer (some ⟨b, 0, none⟩)), Vl 2 (.pointer (some ⟨b, 0, none⟩)), Vl 3 (.pointer (some ⟨b, 0, none⟩)), Vl 4 (vv7), Vl 5 (.int .i64 (((zc n L).length : Nat) : Int)), fun _ => True, Vl 7 (.int .i64 ((zP e (((zc n L).length : Nat) : Int))))]) [[], [], [1], [1, 2], [1, 2, 3], [1, 2, 3, 4], [0, 1, 2, 3, 4, 5], [0, 1, 2, 3, 4, 5, 6]] [6] [(0, 0), (0, 0), (0, 0), (0, 0), (0, 0), (0, 0), (0, 0), (1, 1)] (by kernel_rfl) (by kernel_rfl) (by kernel_rfl) rfl (by kernel_rfl) (by kernel_rfl) (fun _ h1 h2 h3 h4 _ => hS17.same h1 h2 h3 h4) ?_ (yk ⟨dA, dA, dA, dA, dA, dA, dT, dA, trivial⟩) ⟨?_, ?_, ?_, ?_, ?_, ?_, ?_, ?_, trivial⟩ ?_
 ·intro k vals vals' w hv h
  have e : ∀ j ∈ ([6] : List Nat), vals' j = vals j := hv
  match k, h with
  | 0, h => exact h
  | 1, h => exact (by simpa only [WF, List.getElem?_cons_zero, List.getElem?_cons_succ, e 6 (by decide)] using h)
  | _ + 2, _ => trivial
 ·intro k80 vals w81 h84 h85 hW83 hA82
  obtain rfl : k80 = 0 := Nat.le_antisymm h85 h84
  have hS86 : Sep _ _ _ _ := hW83
  refine obl rfl ?_
  exact zv (k := 10) Try.isAgg36 Try.sizeOf36 rfl rfl (CellsAt.all (hS86.blk (i := 0) rfl)) (fun vals' hv _ => ⟨rfl, hv⟩)
 ·intro k87 vals w88 h91 h92 hW90 hA89
  refine obl rfl ?_
  exact zb (v := .pointer (some ⟨b, 0, none⟩)) rfl (fun vals' hv _ => ⟨rfl, hv⟩)
 ·intro k93 vals w94 h97 h98 hW96 hA95
  have e99 := hA95 1 (by decide)
  refine obl rfl ?_
  exact zC (b := b) (o := 0) e99 (fun vals' hv _ => ⟨rfl, hv⟩)
 ·intro k100 vals w101 h104 h105 hW103 hA102
  have e106 := hA102 2 (by decide)
  refine obl rfl ?_
  exact Ym e106 (fun vals' hv _ => ⟨rfl, hv⟩)
 ·intro k107 vals w108 h111 h112 hW110 hA109
  obtain rfl : k107 = 0 := Nat.le_antisymm h112 h111
  have hS113 : Sep _ _ _ _ := hW110
  have e114 := hA109 3 (by decide)
  refine obl rfl ?_
  exact zh (v := vv7) Try.isAgg34 e114 (zi (hS113.gblk hb10) rfl) (fun vals' hv _ => ⟨rfl, hv⟩)
 ·intro k115 vals w116 h119 h120 hW118 hA117
  obtain rfl : k115 = 0 := Nat.le_antisymm h120 h119
  have hS121 : Sep _ _ _ _ := hW118
  have e122 := hA117 4 (by decide)
  refine obl rfl ?_
  exact zB (n := (zc n L).length) Try.underlying34 e122 hv11.sl (fun vals' hv _ => ⟨rfl, hv⟩)
 ·intro k61 vals w62 h65 h66 hW64 hA63
  obtain rfl : k61 = 0 := Nat.le_antisymm h66 h65
  have hS67 : Sep _ _ _ _ := hW64
  have e68 := hA63 0 (by decide)
  have e69 := hA63 5 (by decide)
  refine obl rfl ?_
  refine (zj (f := 55) (vals := [.agg (e.cells de0).toArray, .int .i64 (((zc n L).length : Nat) : Int)]) (cap := []) rfl (yD ⟨e68, e69, trivial⟩) Try.call55 (UE (e := e) (n := (((zc n L).length : Nat) : Int)) (RdS.base hde0 hB4) oe (by have : (zc n L).length * 8 ≤ 140737488355328 := hv11.small; omega) hS67) ?_)
  rintro _ w70 ⟨rfl, hS71⟩
  intro vals' hv hv'
  refine ⟨?_, trivial⟩
  show (vals' 6 = (.int .i64 ((zP e (((zc n L).length : Nat) : Int))) : Value)) ∧ Sep G1 w ((Blk b15 (e.cells de0).toArray 36) :: Rs) w70
  exact ⟨hv, hS71⟩
 ·intro k123 vals w124 h127 h128 hW126 hA125
  obtain rfl : k123 = 1 := Nat.le_antisymm h128 h127
  obtain ⟨he72, hS129⟩ := hW126
  refine obl rfl ?_
  exact zf (v := .int .i64 ((zP e (((zc n L).length : Nat) : Int)))) he72 (fun vals' hv _ => ⟨rfl, hv⟩)
 intro vals w130 hW131 hA132
 obtain ⟨he72, hS133⟩ := hW131
 have e134 := hA132 7 (by decide)
 refine yj (kv := [(0, .pointer (some ⟨b, 0, none⟩)), (1, .agg (e.cells de0).toArray), (3, .pointer (some ⟨b15, 0, none⟩)), (4, .int .i64 (0)), (5, .int .i64 ((zP e (((zc n L).length : Nat) : Int))))]) ⟨rfl, rfl, rfl, rfl, (by exact e134), trivial⟩ (fun ρw130 => ?_)
 refine zg ?_
 refine zd ?_
 refine za (by kernel_rfl) (fun _ => ?_)
 refine st (zb (v := .int .i64 ((zP e (((zc n L).length : Nat) : Int)))) rfl ?_)
 refine st (yu (k := .i64) (a := (zP e (((zc n L).length : Nat) : Int))) (b := 0) rfl rfl ?_)
 refine zg ?_
 cases hc135 : !decide ((zP e (((zc n L).length : Nat) : Int)) = 0)
 ·skip
  have hc135 := yr hc135
  rw [hvl9] at hc135
  obtain ⟨⟨ho9, ho9'⟩, ⟨hs9, hl9⟩, hd9, hq9⟩ := yS hc135
  have hv9 : (zc n L).getD e.origin.toNat 0 = ((xr L e.origin.toNat : Nat) : Int) := ZP (by omega)
  have hcl9 := Xc (L := L) (o := e.origin.toNat)
  refine zk rfl ?_
  refine zp ?_
  refine zd ?_
  refine zd ?_
  obtain ⟨x136, vd137, hx138, hv139, hok140, hd141, hb142⟩ := hr12.at_ (e.origin, e.seq)
  have hsm143 : x136.deps.length * 8 ≤ 140737488355328 := hd141.small
  refine zS ((fun pp0 => WF [fun vals wq => Sep G1 w (pp0 :: Rs) wq, fun vals wq => ∃ (b224 : Nat), (vals 10 = (.pointer (some ⟨b224, 0, none⟩) : Value)) ∧ Sep G1 w ((Blk b224 #[.int .i64 (0), .int .i64 (0), .int .i64 (0), (.slice none 0 0), .int .i64 (0), .int .i64 (0), .int .i64 (0), .int .i64 (0), .int .i64 (0), .int .i64 (0)] 36) :: pp0 :: Rs) wq, fun vals wq => ∃ (b224 : Nat), (vals 10 = (.pointer (some ⟨b224, 0, none⟩) : Value)) ∧ Sep G1 w ((Blk b224 (x136.cells vd137).toArray 36) :: pp0 :: Rs) wq]) (Blk b15 (e.cells de0).toArray 36)) (AF [Vl 0 (.pointer (some ⟨b, 0, none⟩)), Vl 1 (.pointer (some ⟨b, 0, none⟩)), Vl 2 (.pointer (some ⟨b, 1, none⟩)), Vl 3 (.map (some m8)), Vl 4 (.pointer (some ⟨b15, 0, none⟩)), Vl 5 (.agg #[.int .i64 (e.origin), .int .i64 (e.seq)]), Vl 6 (.tuple #[.agg (x136.cells vd137).toArray, .bool ((zy L (e.origin, e.seq)).isSome)]), Vl 7 (.tuple #[.agg (x136.cells vd137).toArray, .bool ((zy L (e.origin, e.seq)).isSome)]), Vl 8 (.agg (x136.cells vd137).toArray), Vl 9 (.bool ((zy L (e.origin, e.seq)).isSome)), fun _ => True, fun _ => True, Vl 12 (.bool ((zy L (e.origin, e.seq)).isSome))]) [[], [0], [0, 1], [0, 1, 2], [], [4], [0, 1, 2, 3, 4, 5], [0, 1, 2, 3, 4, 5, 6], [0, 1, 2, 3, 4, 5, 6, 7], [0, 1, 2, 3, 4, 5, 6, 7], [], [0, 1, 2, 3, 4, 5, 6, 7, 8, 10], [0, 1, 2, 3, 4, 5, 6, 7, 8, 9, 10, 11]] [10, 11] [(0, 1), (0, 1), (0, 1), (0, 1), (0, 1), (0, 1), (0, 1), (0, 1), (0, 1), (0, 2), (0, 0), (1, 1), (2, 2)] (by kernel_rfl) (by kernel_rfl) (by kernel_rfl) rfl (by kernel_rfl) (by kernel_rfl) (fun _ h1 h2 h3 h4 _ => hS133.same h1 h2 h3 h4) ?_ (yk ⟨dA, dA, dA, dA, dA, dA, dA, dA, dA, dA, dT, dT, dA, trivial⟩) ⟨?_, ?_, ?_, ?_, ?_, ?_, ?_, ?_, ?_, ?_, ?_, ?_, ?_, trivial⟩ ?_
  ·intro k vals vals' w hv h
   have e : ∀ j ∈ ([10, 11] : List Nat), vals' j = vals j := hv
   match k, h with
   | 0, h => exact h
   | 1, h => exact (by simpa only [WF, List.getElem?_cons_zero, List.getElem?_cons_succ, e 10 (by decide)] using h)
   | 2, h => exact (by simpa only [WF, List.getElem?_cons_zero, List.getElem?_cons_succ, e 10 (by decide)] using h)
   | _ + 3, _ => trivial
  ·intro k246 vals w247 h250 h251 hW249 hA248
   refine obl rfl ?_
   exact zb (v := .pointer (some ⟨b, 0, none⟩)) rfl (fun vals' hv _ => ⟨rfl, hv⟩)
  ·intro k252 vals w253 h256 h257 hW255 hA254
   have e258 := hA254 0 (by decide)
   refine obl rfl ?_
   exact zC (b := b) (o := 0) e258 (fun vals' hv _ => ⟨rfl, hv⟩)
  ·intro k259 vals w260 h263 h264 hW262 hA261
   have e265 := hA261 1 (by decide)
   refine obl rfl ?_
   exact YX e265 (fun vals' hv _ => ⟨rfl, hv⟩)
  ·intro k266 vals w267 h270 h271 hW269 hA268
   have hkk : k266 = 0 ∨ k266 = 1 := by have h1 : 0 ≤ k266 := h270; have h2 : k266 ≤ 1 := h271; omega
   rcases hkk with rfl | rfl
   ·skip
    have hS272 : Sep _ _ _ _ := hW269
    have e273 := hA268 2 (by decide)
    refine obl rfl ?_
    exact zh (v := .map (some m8)) Try.isAgg71 e273 (zi (hS272.gblk hb10) rfl) (fun vals' hv _ => ⟨rfl, hv⟩)
   ·skip
    obtain ⟨b224, he227, hS274⟩ := hW269
    have e275 := hA268 2 (by decide)
    refine obl rfl ?_
    exact zh (v := .map (some m8)) Try.isAgg71 e275 (zi (hS274.gblk hb10) rfl) (fun vals' hv _ => ⟨rfl, hv⟩)
  ·intro k276 vals w277 h280 h281 hW279 hA278
   refine obl rfl ?_
   exact yd rfl (fun vals' hv _ => ⟨rfl, hv⟩)
  ·intro k282 vals w283 h286 h287 hW285 hA284
   have hkk : k282 = 0 ∨ k282 = 1 := by have h1 : 0 ≤ k282 := h286; have h2 : k282 ≤ 1 := h287; omega
   rcases hkk with rfl | rfl
   ·skip
    have hS288 : Sep _ _ _ _ := hW285
    have e289 := hA284 4 (by decide)
    refine obl rfl ?_
    exact zv (k := 2) (cs := [.int .i64 (e.origin), .int .i64 (e.seq)]) Try.isAgg33 Try.sizeOf33 rfl e289 (CellsAt.sub (CellsAt.all (hS288.blk (i := 0) rfl)) 0 (cs2 := [.int .i64 (e.origin), .int .i64 (e.seq)]) rfl) (fun vals' hv _ => ⟨rfl, hv⟩)
   ·skip
    obtain ⟨b224, he227, hS290⟩ := hW285
    have e291 := hA284 4 (by decide)
    refine obl rfl ?_
    exact zv (k := 2) (cs := [.int .i64 (e.origin), .int .i64 (e.seq)]) Try.isAgg33 Try.sizeOf33 rfl e291 (CellsAt.sub (CellsAt.all (hS290.blk (i := 1) rfl)) 0 (cs2 := [.int .i64 (e.origin), .int .i64 (e.seq)]) rfl) (fun vals' hv _ => ⟨rfl, hv⟩)
  ·intro k292 vals w293 h296 h297 hW295 hA294
   have hkk : k292 = 0 ∨ k292 = 1 := by have h1 : 0 ≤ k292 := h296; have h2 : k292 ≤ 1 := h297; omega
   rcases hkk with rfl | rfl
   ·skip
    have hS298 : Sep _ _ _ _ := hW295
    have e299 := hA294 3 (by decide)
    have e300 := hA294 5 (by decide)
    refine obl rfl ?_
    exact Zv (k := (e.origin, e.seq)) hS298 hr12 K2 Try.underlying71 Try.zeroValue36 e299 (show _ = (.agg #[.int .i64 (e.origin), .int .i64 (e.seq)] : Value) from e300) hv139 hb142 (fun vals' hv _ => ⟨rfl, hv⟩)
   ·skip
    obtain ⟨b224, he227, hS301⟩ := hW295
    have e302 := hA294 3 (by decide)
    have e303 := hA294 5 (by decide)
    refine obl rfl ?_
    exact Zv (k := (e.origin, e.seq)) hS301 hr12 K2 Try.underlying71 Try.zeroValue36 e302 (show _ = (.agg #[.int .i64 (e.origin), .int .i64 (e.seq)] : Value) from e303) hv139 hb142 (fun vals' hv _ => ⟨rfl, hv⟩)
  ·intro k304 vals w305 h308 h309 hW307 hA306
   have e310 := hA306 6 (by decide)
   refine obl rfl ?_
   exact zb (v := .tuple #[.agg (x136.cells vd137).toArray, .bool ((zy L (e.origin, e.seq)).isSome)]) e310 (fun vals' hv _ => ⟨rfl, hv⟩)
  ·intro k311 vals w312 h315 h316 hW314 hA313
   have e317 := hA313 7 (by decide)
   refine obl rfl ?_
   exact yx (vs := [.agg (x136.cells vd137).toArray, .bool ((zy L (e.origin, e.seq)).isSome)]) (i := 0) (v := .agg (x136.cells vd137).toArray) e317 rfl (fun vals' hv _ => ⟨rfl, hv⟩)
  ·intro k318 vals w319 h322 h323 hW321 hA320
   have e324 := hA320 7 (by decide)
   refine obl rfl ?_
   exact yx (vs := [.agg (x136.cells vd137).toArray, .bool ((zy L (e.origin, e.seq)).isSome)]) (i := 1) (v := .bool ((zy L (e.origin, e.seq)).isSome)) e324 rfl (fun vals' hv _ => ⟨rfl, hv⟩)
  ·intro k216 vals w217 h220 h221 hW219 hA218
   obtain rfl : k216 = 0 := Nat.le_antisymm h221 h220
   have hS222 : Sep _ _ _ _ := hW219
   refine obl rfl ?_
   refine (zX Try.zeroValue36 ?_)
   intro w225 b224 hn223
   have hS226 := hS222.new hn223
   intro vals' hv hv'
   refine ⟨?_, trivial⟩
   show ∃ (b224 : Nat), (vals' 10 = (.pointer (some ⟨b224, 0, none⟩) : Value)) ∧ Sep G1 w ((Blk b224 #[.int .i64 (0), .int .i64 (0), .int .i64 (0), (.slice none 0 0), .int .i64 (0), .int .i64 (0), .int .i64 (0), .int .i64 (0), .int .i64 (0), .int .i64 (0)] 36) :: (Blk b15 (e.cells de0).toArray 36) :: Rs) w225
   exact ⟨b224, hv, hS226⟩
  ·intro k228 vals w229 h232 h233 hW231 hA230
   obtain rfl : k228 = 1 := Nat.le_antisymm h233 h232
   obtain ⟨b224, he227, hS234⟩ := hW231
   have e235 := hA230 8 (by decide)
   refine obl rfl ?_
   refine (zT (v := .agg (x136.cells vd137).toArray) (c' := (x136.cells vd137).toArray) Try.sizeOf36 he227 e235 (hS234.blk (i := 0) rfl) (yz ⟨rfl, rfl, rfl, hd141.sl.one, rfl, rfl, rfl, rfl, rfl, rfl, trivial⟩) (Nat.le_of_ble_eq_true rfl) rfl ?_)
   intro w236 hp237
   have hS238 := hS234.pt0 hp237
   intro vals' hv hv'
   refine ⟨?_, trivial⟩
   show ∃ (b224 : Nat), (vals' 10 = (.pointer (some ⟨b224, 0, none⟩) : Value)) ∧ Sep G1 w ((Blk b224 (x136.cells vd137).toArray 36) :: (Blk b15 (e.cells de0).toArray 36) :: Rs) w236
   exact ⟨b224, (by rw [hv' 10 (by decide)]; exact he227), hS238⟩
  ·intro k325 vals w326 h329 h330 hW328 hA327
   have e331 := hA327 9 (by decide)
   refine obl rfl ?_
   exact zf (v := .bool ((zy L (e.origin, e.seq)).isSome)) e331 (fun vals' hv _ => ⟨rfl, hv⟩)
  intro vals w332 hW333 hA334
  obtain ⟨b224, he227, hS335⟩ := hW333
  have e336 := hA334 12 (by decide)
  refine yj (kv := [(0, .pointer (some ⟨b, 0, none⟩)), (1, .agg (e.cells de0).toArray), (3, .pointer (some ⟨b15, 0, none⟩)), (4, .int .i64 (0)), (5, .int .i64 ((zP e (((zc n L).length : Nat) : Int)))), (16, .int .i64 ((zP e (((zc n L).length : Nat) : Int)))), (17, .bool false), (7, .bool ((zy L (e.origin, e.seq)).isSome))]) ⟨rfl, rfl, rfl, rfl, rfl, rfl, rfl, (by exact e336), trivial⟩ (fun ρw332 => ?_)
  refine zg ?_
  refine zd ?_
  refine za (by kernel_rfl) (fun _ => ?_)
  refine st (zb (v := .bool ((zy L (e.origin, e.seq)).isSome)) rfl ?_)
  refine zg ?_
  cases hc337 : (zy L (e.origin, e.seq)).isSome
  ·skip
   refine zk rfl ?_
   refine zp ?_
   refine zd ?_
   refine zd ?_
   refine zS (WF [fun vals wq => Sep G1 w ((Blk b224 (x136.cells vd137).toArray 36) :: (Blk b15 (e.cells de0).toArray 36) :: Rs) wq]) (AF [Vl 0 (.pointer (some ⟨b15, 0, none⟩)), Vl 1 (.pointer (some ⟨b15, 1, none⟩)), Vl 2 (.int .i64 (e.seq)), Vl 3 (.pointer (some ⟨b, 0, none⟩)), Vl 4 (.pointer (some ⟨b, 0, none⟩)), Vl 5 (.pointer (some ⟨b, 0, none⟩)), Vl 6 (vv7), Vl 7 (.pointer (some ⟨b15, 0, none⟩)), Vl 8 (.pointer (some ⟨b15, 0, none⟩)), Vl 9 (.int .i64 (e.origin)), Vl 10 (.pointer (some ⟨sb vv7, so vv7 + e.origin.toNat * 1, none⟩)), Vl 11 (.int .i64 (((zc n L).getD e.origin.toNat 0))), Vl 12 (.int .i64 (((zc n L).getD e.origin.toNat 0) + 1)), Vl 13 (.bool (!decide (e.seq = (((zc n L).getD e.origin.toNat 0) + 1))))]) [[], [0], [0, 1], [], [3], [3, 4], [3, 4, 5], [], [7], [7, 8], [3, 4, 5, 6, 7, 8, 9], [3, 4, 5, 6, 7, 8, 9, 10], [3, 4, 5, 6, 7, 8, 9, 10, 11], [0, 1, 2, 3, 4, 5, 6, 7, 8, 9, 10, 11, 12]] [] [(0, 0), (0, 0), (0, 0), (0, 0), (0, 0), (0, 0), (0, 0), (0, 0), (0, 0), (0, 0), (0, 0), (0, 0), (0, 0), (0, 0)] (by kernel_rfl) (by kernel_rfl) (by kernel_rfl) rfl (by kernel_rfl) (by kernel_rfl) (fun _ h1 h2 h3 h4 _ => hS335.same h1 h2 h3 h4) ?_ (yk ⟨dA, dA, dA, dA, dA, dA, dA, dA, dA, dA, dA, dA, dA, dA, trivial⟩) ⟨?_, ?_, ?_, ?_, ?_, ?_, ?_, ?_, ?_, ?_, ?_, ?_, ?_, ?_, trivial⟩ ?_
   ·intro k vals vals' w hv h
    match k, h with
    | 0, h => exact h
    | _ + 1, _ => trivial
   ·intro k447 vals w448 h451 h452 hW450 hA449
    refine obl rfl ?_
    exact yd rfl (fun vals' hv _ => ⟨rfl, hv⟩)
   ·intro k453 vals w454 h457 h458 hW456 hA455
    have e459 := hA455 0 (by decide)
    refine obl rfl ?_
    exact xe e459 (fun vals' hv _ => ⟨rfl, hv⟩)
   ·intro k460 vals w461 h464 h465 hW463 hA462
    obtain rfl : k460 = 0 := Nat.le_antisymm h465 h464
    have hS466 : Sep _ _ _ _ := hW463
    have e467 := hA462 1 (by decide)
    refine obl rfl ?_
    exact zh (v := .int .i64 (e.seq)) Try.isAgg3 e467 (zi (hS466.blk (i := 1) rfl) rfl) (fun vals' hv _ => ⟨rfl, hv⟩)
   ·intro k468 vals w469 h472 h473 hW471 hA470
    refine obl rfl ?_
    exact zb (v := .pointer (some ⟨b, 0, none⟩)) rfl (fun vals' hv _ => ⟨rfl, hv⟩)
   ·intro k474 vals w475 h478 h479 hW477 hA476
    have e480 := hA476 3 (by decide)
    refine obl rfl ?_
    exact zC (b := b) (o := 0) e480 (fun vals' hv _ => ⟨rfl, hv⟩)
   ·intro k481 vals w482 h485 h486 hW484 hA483
    have e487 := hA483 4 (by decide)
    refine obl rfl ?_
    exact Ym e487 (fun vals' hv _ => ⟨rfl, hv⟩)
   ·intro k488 vals w489 h492 h493 hW491 hA490
    obtain rfl : k488 = 0 := Nat.le_antisymm h493 h492
    have hS494 : Sep _ _ _ _ := hW491
    have e495 := hA490 5 (by decide)
    refine obl rfl ?_
    exact zh (v := vv7) Try.isAgg34 e495 (zi (hS494.gblk hb10) rfl) (fun vals' hv _ => ⟨rfl, hv⟩)
   ·intro k496 vals w497 h500 h501 hW499 hA498
    refine obl rfl ?_
    exact yd rfl (fun vals' hv _ => ⟨rfl, hv⟩)
   ·intro k502 vals w503 h506 h507 hW505 hA504
    have e508 := hA504 7 (by decide)
    refine obl rfl ?_
    exact yE e508 (fun vals' hv _ => ⟨rfl, hv⟩)
   ·intro k509 vals w510 h513 h514 hW512 hA511
    obtain rfl : k509 = 0 := Nat.le_antisymm h514 h513
    have hS515 : Sep _ _ _ _ := hW512
    have e516 := hA511 8 (by decide)
    refine obl rfl ?_
    exact zh (v := .int .i64 (e.origin)) Try.isAgg3 e516 (zi (hS515.blk (i := 1) rfl) rfl) (fun vals' hv _ => ⟨rfl, hv⟩)
   ·intro k517 vals w518 h521 h522 hW520 hA519
    obtain rfl : k517 = 0 := Nat.le_antisymm h522 h521
    have hS523 : Sep _ _ _ _ := hW520
    have e524 := hA519 6 (by decide)
    have e525 := hA519 9 (by decide)
    refine obl rfl ?_
    have hi526 : e.origin.toNat < (zc n L).length := (by first | omega | (simp only [zu]; omega))
    exact yn (k := 1) (i := e.origin) Try.underlying34 Try.sizeOf3 e524 hv11.sl e525 ⟨by omega, by omega⟩ (fun vals' hv _ => ⟨rfl, hv⟩)
   ·intro k527 vals w528 h531 h532 hW530 hA529
    obtain rfl : k527 = 0 := Nat.le_antisymm h532 h531
    have hS533 : Sep _ _ _ _ := hW530
    have e534 := hA529 10 (by decide)
    refine obl rfl ?_
    have hi536 : e.origin.toNat < (zc n L).length := (by first | omega | (simp only [zu]; omega))
    obtain ⟨hce535, hxe535⟩ := hv11.int hi536
    rw [← zo 0 hi536] at hce535 hxe535
    have hcw537 := hS533.cells hce535 (hv11.foot (ne_of_lt hi536))
    exact zh (v := .int .i64 (((zc n L).getD e.origin.toNat 0))) Try.isAgg3 e534 (hcw537.get (j := 0) rfl) (fun vals' hv _ => ⟨rfl, hv⟩)
   ·intro k538 vals w539 h542 h543 hW541 hA540
    obtain rfl : k538 = 0 := Nat.le_antisymm h543 h542
    have hS544 : Sep _ _ _ _ := hW541
    have e545 := hA540 11 (by decide)
    refine obl rfl ?_
    have hr546 : InR (((zc n L).getD e.origin.toNat 0) + 1) := by omega
    exact zU (r := ((zc n L).getD e.origin.toNat 0) + 1) (k := .i64) (a := ((zc n L).getD e.origin.toNat 0)) (b := 1) e545 rfl (zH hr546) (fun vals' hv _ => ⟨rfl, hv⟩)
   ·intro k547 vals w548 h551 h552 hW550 hA549
    obtain rfl : k547 = 0 := Nat.le_antisymm h552 h551
    have hS553 : Sep _ _ _ _ := hW550
    have e554 := hA549 2 (by decide)
    have e555 := hA549 12 (by decide)
    refine obl rfl ?_
    exact yu (k := .i64) (a := e.seq) (b := ((zc n L).getD e.origin.toNat 0) + 1) e554 e555 (fun vals' hv _ => ⟨rfl, hv⟩)
   intro vals w556 hW557 hA558
   have hS559 : Sep _ _ _ _ := hW557
   have e560 := hA558 13 (by decide)
   refine yj (kv := [(0, .pointer (some ⟨b, 0, none⟩)), (1, .agg (e.cells de0).toArray), (3, .pointer (some ⟨b15, 0, none⟩)), (4, .int .i64 (0)), (5, .int .i64 ((zP e (((zc n L).length : Nat) : Int)))), (16, .int .i64 ((zP e (((zc n L).length : Nat) : Int)))), (17, .bool false), (7, .bool false), (29, .bool false), (43, .bool (!decide (e.seq = (((zc n L).getD e.origin.toNat 0) + 1))))]) ⟨rfl, rfl, rfl, rfl, rfl, rfl, rfl, rfl, rfl, (by exact e560), trivial⟩ (fun ρw556 => ?_)
   refine zg ?_
   cases hc561 : !decide (e.seq = (((zc n L).getD e.origin.toNat 0) + 1))
   ·skip
    have hc561 := yr hc561
    refine zk rfl ?_
    refine zp ?_
    refine zd ?_
    refine zd ?_
    refine za (by kernel_rfl) (fun _ => ?_)
    refine st (zb (v := .pointer (some ⟨b, 0, none⟩)) rfl ?_)
    refine st (zC (b := b) (o := 0) rfl ?_)
    refine st (Ym rfl ?_)
    refine st (zh (v := vv7) Try.isAgg34 rfl (zi (hS559.gblk hb10) rfl) ?_)
    refine st (zB (n := (zc n L).length) Try.underlying34 rfl hv11.sl ?_)
    refine st (zb (v := .int .i64 (0)) rfl ?_)
    refine zg ?_
    refine zx ?_
    refine yb (fun mq σ wq => ∃ (k : Nat) (ρ : Env), mq = (zc n L).length - k ∧ σ = ye ρ [(0, .pointer (some ⟨b, 0, none⟩)), (3, .pointer (some ⟨b15, 0, none⟩)), (48, .int .i64 (((zc n L).length : Nat) : Int)), (49, .int .i64 ((k : Nat) : Int))] ∧ (k ≤ (zc n L).length) ∧ (∀ i, i < k → yM L e i = true) ∧ Sep G1 w ((Blk b224 (x136.cells vd137).toArray 36) :: (Blk b15 (e.cells de0).toArray 36) :: Rs) wq) ⟨0, _, rfl, zn ⟨rfl, rfl, rfl, rfl, trivial⟩, Nat.zero_le _, (fun i h => absurd h (Nat.not_lt_zero i)), hS559⟩ ?_
    rintro m563 σ564 w562 ⟨k, ρl1, rfl, rfl, hkk, hm, hS565⟩
    refine zd ?_
    refine za (by kernel_rfl) (fun _ => ?_)
    refine st (zJ (k := .i64) (a := ((k : Nat) : Int)) (b := (((zc n L).length : Nat) : Int)) rfl rfl ?_)
    refine zg ?_
    refine zd ?_
    cases hc566 : decide (((k : Nat) : Int) < (((zc n L).length : Nat) : Int))
    ·skip
     have hc566 := of_decide_eq_false hc566
     refine zk rfl ?_
     refine ya ?_
     refine zQ ?_
     refine zd ?_
     have hS567 := hk6 _ _ hS565
     obtain ⟨vv568, m569, hS570⟩ := SetO.open hS567
     have hr571 := hS570.row (i := 1) rfl
     have hr571s : _ * 8 ≤ _ := hr571.2
     have hS572 := hS570.mv2
     have hS574 : Sep G W ((Zj yX EV xt m569 (zy L) (e.origin, e.seq) xt) :: (Blk b #[vv568, .map (some m569), .int .i64 (yY L)] 73) :: (RowE (α := Int) own 3 vv568 (zc n L)) :: (Blk b224 (x136.cells vd137).toArray 36) :: (Blk b15 (e.cells de0).toArray 36) :: Rs) w562 := Vf hS572 (by simpa using hc337)
     refine zS ((fun TT pp0 => WF [fun vals wq => Sep G W (pp0 :: TT) wq, fun vals wq => ∃ (v632 : Value), (vals 7 = (.agg (e.cells v632).toArray : Value)) ∧ Sep G W ((RowE (α := Int) own 3 v632 e.deps) :: pp0 :: TT) wq, fun vals wq => ∃ (v632 : Value), (vals 7 = (.agg (e.cells v632).toArray : Value)) ∧ Sep G W ((MapO yX EV m569 (Zy (zy L) (e.origin, e.seq) e)) :: TT) wq]) ((Blk b #[vv568, .map (some m569), .int .i64 (yY L)] 73) :: (RowE (α := Int) own 3 vv568 (zc n L)) :: (Blk b224 (x136.cells vd137).toArray 36) :: (Blk b15 (e.cells de0).toArray 36) :: Rs) (Zj yX EV xt m569 (zy L) (e.origin, e.seq) xt)) (AF [Vl 0 (.pointer (some ⟨b, 0, none⟩)), Vl 1 (.pointer (some ⟨b, 0, none⟩)), Vl 2 (.pointer (some ⟨b, 1, none⟩)), Vl 3 (.map (some m569)), Vl 4 (.pointer (some ⟨b15, 0, none⟩)), Vl 5 (.agg #[.int .i64 (e.origin), .int .i64 (e.seq)]), Vl 6 (.agg (e.cells de0).toArray), fun _ => True, fun _ => True]) [[], [0], [0, 1], [0, 1, 2], [], [4], [], [6], [0, 1, 2, 3, 4, 5, 6, 7]] [7, 8] [(0, 1), (0, 1), (0, 1), (0, 1), (0, 1), (0, 1), (0, 0), (0, 0), (1, 1)] (by kernel_rfl) (by kernel_rfl) (by kernel_rfl) rfl (by kernel_rfl) (by kernel_rfl) (fun _ h1 h2 h3 h4 _ => hS574.same h1 h2 h3 h4) ?_ (yk ⟨dA, dA, dA, dA, dA, dA, dA, dT, dT, trivial⟩) ⟨?_, ?_, ?_, ?_, ?_, ?_, ?_, ?_, ?_, trivial⟩ ?_
     ·intro k vals vals' w hv h
      have e : ∀ j ∈ ([7, 8] : List Nat), vals' j = vals j := hv
      match k, h with
      | 0, h => exact h
      | 1, h => exact (by simpa only [WF, List.getElem?_cons_zero, List.getElem?_cons_succ, e 7 (by decide)] using h)
      | 2, h => exact (by simpa only [WF, List.getElem?_cons_zero, List.getElem?_cons_succ, e 7 (by decide)] using h)
      | _ + 3, _ => trivial
     ·intro k650 vals w651 h654 h655 hW653 hA652
      refine obl rfl ?_
      exact zb (v := .pointer (some ⟨b, 0, none⟩)) rfl (fun vals' hv _ => ⟨rfl, hv⟩)
     ·intro k656 vals w657 h660 h661 hW659 hA658
      have e662 := hA658 0 (by decide)
      refine obl rfl ?_
      exact zC (b := b) (o := 0) e662 (fun vals' hv _ => ⟨rfl, hv⟩)
     ·intro k663 vals w664 h667 h668 hW666 hA665
      have e669 := hA665 1 (by decide)
      refine obl rfl ?_
      exact YX e669 (fun vals' hv _ => ⟨rfl, hv⟩)
     ·intro k670 vals w671 h674 h675 hW673 hA672
      have hkk : k670 = 0 ∨ k670 = 1 := by have h1 : 0 ≤ k670 := h674; have h2 : k670 ≤ 1 := h675; omega
      rcases hkk with rfl | rfl
      ·skip
       have hS676 : Sep _ _ _ _ := hW673
       have e677 := hA672 2 (by decide)
       refine obl rfl ?_
       exact zh (v := .map (some m569)) Try.isAgg71 e677 (zi (hS676.blk (i := 1) rfl) rfl) (fun vals' hv _ => ⟨rfl, hv⟩)
      ·skip
       obtain ⟨v632, he636, hS678⟩ := hW673
       have e679 := hA672 2 (by decide)
       refine obl rfl ?_
       exact zh (v := .map (some m569)) Try.isAgg71 e679 (zi (hS678.blk (i := 2) rfl) rfl) (fun vals' hv _ => ⟨rfl, hv⟩)
     ·intro k680 vals w681 h684 h685 hW683 hA682
      refine obl rfl ?_
      exact yd rfl (fun vals' hv _ => ⟨rfl, hv⟩)
     ·intro k686 vals w687 h690 h691 hW689 hA688
      have hkk : k686 = 0 ∨ k686 = 1 := by have h1 : 0 ≤ k686 := h690; have h2 : k686 ≤ 1 := h691; omega
      rcases hkk with rfl | rfl
      ·skip
       have hS692 : Sep _ _ _ _ := hW689
       have e693 := hA688 4 (by decide)
       refine obl rfl ?_
       exact zv (k := 2) (cs := [.int .i64 (e.origin), .int .i64 (e.seq)]) Try.isAgg33 Try.sizeOf33 rfl e693 (CellsAt.sub (CellsAt.all (hS692.blk (i := 4) rfl)) 0 (cs2 := [.int .i64 (e.origin), .int .i64 (e.seq)]) rfl) (fun vals' hv _ => ⟨rfl, hv⟩)
      ·skip
       obtain ⟨v632, he636, hS694⟩ := hW689
       have e695 := hA688 4 (by decide)
       refine obl rfl ?_
       exact zv (k := 2) (cs := [.int .i64 (e.origin), .int .i64 (e.seq)]) Try.isAgg33 Try.sizeOf33 rfl e695 (CellsAt.sub (CellsAt.all (hS694.blk (i := 5) rfl)) 0 (cs2 := [.int .i64 (e.origin), .int .i64 (e.seq)]) rfl) (fun vals' hv _ => ⟨rfl, hv⟩)
     ·intro k696 vals w697 h700 h701 hW699 hA698
      obtain rfl : k696 = 0 := Nat.le_antisymm h701 h700
      have hS702 : Sep _ _ _ _ := hW699
      refine obl rfl ?_
      exact zv (k := 10) Try.isAgg36 Try.sizeOf36 rfl rfl (CellsAt.all (hS702.blk (i := 4) rfl)) (fun vals' hv _ => ⟨rfl, hv⟩)
     ·intro k624 vals w625 h628 h629 hW627 hA626
      obtain rfl : k624 = 0 := Nat.le_antisymm h629 h628
      have hS630 : Sep _ _ _ _ := hW627
      have e631 := hA626 6 (by decide)
      refine obl rfl ?_
      refine (zj (f := 57) (vals := [.agg (e.cells de0).toArray]) (cap := []) rfl (yD ⟨e631, trivial⟩) Try.call57 (XO (e := e) hde0 oe hS630) ?_)
      rintro _ w633 ⟨v632, rfl, hS634⟩
      have hr635 := hS634.row (i := 0) rfl
      have hr635s : _ * 8 ≤ _ := hr635.2
      intro vals' hv hv'
      refine ⟨?_, trivial⟩
      show ∃ (v632 : Value), (vals' 7 = (.agg (e.cells v632).toArray : Value)) ∧ Sep G W ((RowE (α := Int) own 3 v632 e.deps) :: (Zj yX EV xt m569 (zy L) (e.origin, e.seq) xt) :: (Blk b #[vv568, .map (some m569), .int .i64 (yY L)] 73) :: (RowE (α := Int) own 3 vv568 (zc n L)) :: (Blk b224 (x136.cells vd137).toArray 36) :: (Blk b15 (e.cells de0).toArray 36) :: Rs) w633
      exact ⟨v632, hv, hS634⟩
     ·intro k637 vals w638 h641 h642 hW640 hA639
      obtain rfl : k637 = 1 := Nat.le_antisymm h642 h641
      obtain ⟨v632, he636, hS643⟩ := hW640
      have e644 := hA639 3 (by decide)
      have e645 := hA639 5 (by decide)
      refine obl rfl ?_
      have hS647 : Sep G W ((EV (.agg (e.cells v632).toArray) e) :: (Zj yX EV xt m569 (zy L) (e.origin, e.seq) xt) :: (Blk b #[vv568, .map (some m569), .int .i64 (yY L)] 73) :: (RowE (α := Int) own 3 vv568 (zc n L)) :: (Blk b224 (x136.cells vd137).toArray 36) :: (Blk b15 (e.cells de0).toArray 36) :: Rs) w638 := Qx oe hS643
      have hS648 := hS647.mv1
      refine (Yu (k := (e.origin, e.seq)) hS648 K2 Try.underlying71 e644 (show _ = (.agg #[.int .i64 (e.origin), .int .i64 (e.seq)] : Value) from e645) he636 ?_)
      intro w646 hS649
      have hS649t : Sep G W ((MapO yX EV m569 (Zy (zy L) (e.origin, e.seq) e)) :: (Blk b #[vv568, .map (some m569), .int .i64 (yY L)] 73) :: (RowE (α := Int) own 3 vv568 (zc n L)) :: (Blk b224 (x136.cells vd137).toArray 36) :: (Blk b15 (e.cells de0).toArray 36) :: Rs) w646 := hS649
      intro vals' hv hv'
      refine ⟨?_, trivial⟩
      show ∃ (v632 : Value), (vals' 7 = (.agg (e.cells v632).toArray : Value)) ∧ Sep G W ((MapO yX EV m569 (Zy (zy L) (e.origin, e.seq) e)) :: (Blk b #[vv568, .map (some m569), .int .i64 (yY L)] 73) :: (RowE (α := Int) own 3 vv568 (zc n L)) :: (Blk b224 (x136.cells vd137).toArray 36) :: (Blk b15 (e.cells de0).toArray 36) :: Rs) w646
      exact ⟨v632, (by rw [hv' 7 (by decide)]; exact he636), hS649t⟩
     intro vals w703 hW704 hA705
     obtain ⟨v632, he636, hS706⟩ := hW704
     refine yj (kv := [(0, .pointer (some ⟨b, 0, none⟩)), (3, .pointer (some ⟨b15, 0, none⟩)), (48, .int .i64 (((zc n L).length : Nat) : Int)), (49, .int .i64 ((k : Nat) : Int)), (50, .bool false)]) ⟨rfl, rfl, rfl, rfl, rfl, trivial⟩ (fun ρw703 => ?_)
     refine zg ?_
     refine zd ?_
     refine zS ((fun TT pp0 pp1 => WF [fun vals wq => Sep G W (pp0 :: pp1 :: (RowE (α := Int) own 3 vv568 (zc n L)) :: TT) wq, fun vals wq => Sep G W ((RowE (α := Int) own 3 vv568 ((zc n L).set e.origin.toNat (((zc n L).getD e.origin.toNat 0) + 1))) :: pp0 :: pp1 :: TT) wq]) ((Blk b224 (x136.cells vd137).toArray 36) :: (Blk b15 (e.cells de0).toArray 36) :: Rs) (MapO yX EV m569 (Zy (zy L) (e.origin, e.seq) e)) (Blk b #[vv568, .map (some m569), .int .i64 (yY L)] 73)) (AF [Vl 0 (.pointer (some ⟨b, 0, none⟩)), Vl 1 (.pointer (some ⟨b, 0, none⟩)), Vl 2 (.pointer (some ⟨b, 0, none⟩)), Vl 3 (vv568), Vl 4 (.pointer (some ⟨b15, 0, none⟩)), Vl 5 (.pointer (some ⟨b15, 0, none⟩)), Vl 6 (.int .i64 (e.origin)), Vl 7 (.pointer (some ⟨sb vv568, so vv568 + e.origin.toNat * 1, none⟩)), Vl 8 (.int .i64 (((zc n L).getD e.origin.toNat 0))), Vl 9 (.int .i64 (((zc n L).getD e.origin.toNat 0) + 1)), Vl 10 (.pointer (some ⟨sb vv568, so vv568 + e.origin.toNat * 1, none⟩)), fun _ => True]) [[], [0], [0, 1], [0, 1, 2], [], [4], [4, 5], [0, 1, 2, 3, 4, 5, 6], [0, 1, 2, 3, 4, 5, 6, 7], [0, 1, 2, 3, 4, 5, 6, 7, 8], [0, 1, 2, 3, 4, 5, 6, 7, 8, 9], [0, 1, 2, 3, 4, 5, 6, 7, 8, 9, 10]] [11] [(0, 0), (0, 0), (0, 0), (0, 0), (0, 0), (0, 0), (0, 0), (0, 0), (0, 0), (0, 0), (0, 0), (0, 0)] (by kernel_rfl) (by kernel_rfl) (by kernel_rfl) rfl (by kernel_rfl) (by kernel_rfl) (fun _ h1 h2 h3 h4 _ => hS706.same h1 h2 h3 h4) ?_ (yk ⟨dA, dA, dA, dA, dA, dA, dA, dA, dA, dA, dA, dT, trivial⟩) ⟨?_, ?_, ?_, ?_, ?_, ?_, ?_, ?_, ?_, ?_, ?_, ?_, trivial⟩ ?_
     ·intro k vals vals' w hv h
      have e : ∀ j ∈ ([11] : List Nat), vals' j = vals j := hv
      match k, h with
      | 0, h => exact h
      | 1, h => exact h
      | _ + 2, _ => trivial
     ·intro k809 vals w810 h813 h814 hW812 hA811
      refine obl rfl ?_
      exact zb (v := .pointer (some ⟨b, 0, none⟩)) rfl (fun vals' hv _ => ⟨rfl, hv⟩)
     ·intro k815 vals w816 h819 h820 hW818 hA817
      have e821 := hA817 0 (by decide)
      refine obl rfl ?_
      exact zC (b := b) (o := 0) e821 (fun vals' hv _ => ⟨rfl, hv⟩)
     ·intro k822 vals w823 h826 h827 hW825 hA824
      have e828 := hA824 1 (by decide)
      refine obl rfl ?_
      exact Ym e828 (fun vals' hv _ => ⟨rfl, hv⟩)
     ·intro k829 vals w830 h833 h834 hW832 hA831
      obtain rfl : k829 = 0 := Nat.le_antisymm h834 h833
      have hS835 : Sep _ _ _ _ := hW832
      have e836 := hA831 2 (by decide)
      refine obl rfl ?_
      exact zh (v := vv568) Try.isAgg34 e836 (zi (hS835.blk (i := 1) rfl) rfl) (fun vals' hv _ => ⟨rfl, hv⟩)
     ·intro k837 vals w838 h841 h842 hW840 hA839
      refine obl rfl ?_
      exact yd rfl (fun vals' hv _ => ⟨rfl, hv⟩)
     ·intro k843 vals w844 h847 h848 hW846 hA845
      have e849 := hA845 4 (by decide)
      refine obl rfl ?_
      exact yE e849 (fun vals' hv _ => ⟨rfl, hv⟩)
     ·intro k850 vals w851 h854 h855 hW853 hA852
      obtain rfl : k850 = 0 := Nat.le_antisymm h855 h854
      have hS856 : Sep _ _ _ _ := hW853
      have e857 := hA852 5 (by decide)
      refine obl rfl ?_
      exact zh (v := .int .i64 (e.origin)) Try.isAgg3 e857 (zi (hS856.blk (i := 4) rfl) rfl) (fun vals' hv _ => ⟨rfl, hv⟩)
     ·intro k858 vals w859 h862 h863 hW861 hA860
      obtain rfl : k858 = 0 := Nat.le_antisymm h863 h862
      have hS864 : Sep _ _ _ _ := hW861
      have e865 := hA860 3 (by decide)
      have e866 := hA860 6 (by decide)
      refine obl rfl ?_
      have hi867 : e.origin.toNat < (zc n L).length := (by first | omega | (simp only [zu]; omega))
      exact yn (k := 1) (i := e.origin) Try.underlying34 Try.sizeOf3 e865 hr571.1 e866 ⟨by omega, by omega⟩ (fun vals' hv _ => ⟨rfl, hv⟩)
     ·intro k868 vals w869 h872 h873 hW871 hA870
      obtain rfl : k868 = 0 := Nat.le_antisymm h873 h872
      have hS874 : Sep _ _ _ _ := hW871
      have e875 := hA870 7 (by decide)
      refine obl rfl ?_
      have hi877 : e.origin.toNat < (zc n L).length := (by first | omega | (simp only [zu]; omega))
      obtain ⟨_, _, hce876, rfl, hxe876⟩ := hS874.rowAt (i := 2) (j := e.origin.toNat) rfl hi877
      rw [← zo 0 hi877] at hce876 hxe876
      exact zh (v := .int .i64 (((zc n L).getD e.origin.toNat 0))) Try.isAgg3 e875 (hce876.get (j := 0) rfl) (fun vals' hv _ => ⟨rfl, hv⟩)
     ·intro k878 vals w879 h882 h883 hW881 hA880
      obtain rfl : k878 = 0 := Nat.le_antisymm h883 h882
      have hS884 : Sep _ _ _ _ := hW881
      have e885 := hA880 8 (by decide)
      refine obl rfl ?_
      have hr886 : InR (((zc n L).getD e.origin.toNat 0) + 1) := by omega
      exact zU (r := ((zc n L).getD e.origin.toNat 0) + 1) (k := .i64) (a := ((zc n L).getD e.origin.toNat 0)) (b := 1) e885 rfl (zH hr886) (fun vals' hv _ => ⟨rfl, hv⟩)
     ·intro k887 vals w888 h891 h892 hW890 hA889
      obtain rfl : k887 = 0 := Nat.le_antisymm h892 h891
      have hS893 : Sep _ _ _ _ := hW890
      have e894 := hA889 3 (by decide)
      have e895 := hA889 6 (by decide)
      refine obl rfl ?_
      have hi896 : e.origin.toNat < (zc n L).length := (by first | omega | (simp only [zu]; omega))
      exact yn (k := 1) (i := e.origin) Try.underlying34 Try.sizeOf3 e894 hr571.1 e895 ⟨by omega, by omega⟩ (fun vals' hv _ => ⟨rfl, hv⟩)
     ·intro k795 vals w796 h799 h800 hW798 hA797
      obtain rfl : k795 = 0 := Nat.le_antisymm h800 h799
      have hS801 : Sep _ _ _ _ := hW798
      have e802 := hA797 9 (by decide)
      have e803 := hA797 10 (by decide)
      refine obl rfl ?_
      have hS805 := hS801.mv2
      have hS806 : Sep G W ((RowE (α := Int) own 3 vv568 (zc n L)) :: Emp :: (MapO yX EV m569 (Zy (zy L) (e.origin, e.seq) e)) :: (Blk b #[vv568, .map (some m569), .int .i64 (yY L)] 73) :: (Blk b224 (x136.cells vd137).toArray 36) :: (Blk b15 (e.cells de0).toArray 36) :: Rs) w796 := hS805.emp1
      refine (xl (α := Int) (j := e.origin.toNat) (o := 0) (u := .int .i64 (((zc n L).getD e.origin.toNat 0) + 1)) (us := [.int .i64 (((zc n L).getD e.origin.toNat 0) + 1)]) (x1 := ((zc n L).getD e.origin.toNat 0) + 1) hS806 Try.sizeOf3 (by first | omega | (simp only [zu]; omega)) e803 e802 rfl (Nat.le_of_ble_eq_true rfl) (yz ⟨rfl, trivial⟩) (fun _ _ cs0 hel _ => (by have hl0 := Src.len _ hel; have e0 : cs0.take 0 ++ (([.int .i64 (((zc n L).getD e.origin.toNat 0) + 1)] : List Value)) ++ cs0.drop (0 + (([.int .i64 (((zc n L).getD e.origin.toNat 0) + 1)] : List Value)).length) = (([.int .i64 (((zc n L).getD e.origin.toNat 0) + 1)] : List Value)) := (by rw [List.drop_eq_nil_of_le (by rw [hl0]; exact Nat.le_of_ble_eq_true rfl)]; simp); rw [e0]; exact (show _ from ⟨rfl, (by omega)⟩))) ?_)
      intro w804 hS807
      have hr808 := hS807.row (i := 0) rfl
      have hr808s : _ * 8 ≤ _ := hr808.2
      intro vals' hv hv'
      refine ⟨?_, trivial⟩
      show Sep G W ((RowE (α := Int) own 3 vv568 ((zc n L).set e.origin.toNat (((zc n L).getD e.origin.toNat 0) + 1))) :: (MapO yX EV m569 (Zy (zy L) (e.origin, e.seq) e)) :: (Blk b #[vv568, .map (some m569), .int .i64 (yY L)] 73) :: (Blk b224 (x136.cells vd137).toArray 36) :: (Blk b15 (e.cells de0).toArray 36) :: Rs) w804
      exact hS807
     intro vals w897 hW898 hA899
     have hS900 : Sep _ _ _ _ := hW898
     refine yj (kv := [(0, .pointer (some ⟨b, 0, none⟩)), (3, .pointer (some ⟨b15, 0, none⟩)), (48, .int .i64 (((zc n L).length : Nat) : Int)), (49, .int .i64 ((k : Nat) : Int)), (50, .bool false)]) ⟨rfl, rfl, rfl, rfl, rfl, trivial⟩ (fun ρw897 => ?_)
     refine zg ?_
     refine zd ?_
     refine zS ((fun TT pp0 pp1 => WF [fun vals wq => Sep G W (pp0 :: pp1 :: (Blk b #[vv568, .map (some m569), .int .i64 (yY L)] 73) :: TT) wq, fun vals wq => Sep G W (pp0 :: pp1 :: (Blk b #[vv568, .map (some m569), .int .i64 (max (yY L) e.lam)] 73) :: TT) wq]) ((Blk b224 (x136.cells vd137).toArray 36) :: (Blk b15 (e.cells de0).toArray 36) :: Rs) (RowE (α := Int) own 3 vv568 ((zc n L).set e.origin.toNat (((zc n L).getD e.origin.toNat 0) + 1))) (MapO yX EV m569 (Zy (zy L) (e.origin, e.seq) e))) (AF [Vl 0 (.pointer (some ⟨b, 0, none⟩)), Vl 1 (.pointer (some ⟨b, 0, none⟩)), Vl 2 (.pointer (some ⟨b, 0, none⟩)), Vl 3 (.pointer (some ⟨b, 2, none⟩)), Vl 4 (.int .i64 (yY L)), Vl 5 (.pointer (some ⟨b15, 2, none⟩)), Vl 6 (.int .i64 (e.lam)), Vl 7 (.int .i64 (max (yY L) e.lam)), Vl 8 (.pointer (some ⟨b, 0, none⟩)), Vl 9 (.pointer (some ⟨b, 2, none⟩)), fun _ => True]) [[], [], [1], [1, 2], [1, 2, 3], [], [5], [1, 2, 3, 4, 5, 6], [0, 1, 2, 3, 4, 5, 6, 7], [0, 1, 2, 3, 4, 5, 6, 7, 8], [0, 1, 2, 3, 4, 5, 6, 7, 8, 9]] [10] [(0, 0), (0, 0), (0, 0), (0, 0), (0, 0), (0, 0), (0, 0), (0, 0), (0, 0), (0, 0), (0, 0)] (by kernel_rfl) (by kernel_rfl) (by kernel_rfl) rfl (by kernel_rfl) (by kernel_rfl) (fun _ h1 h2 h3 h4 _ => hS900.same h1 h2 h3 h4) ?_ (yk ⟨dA, dA, dA, dA, dA, dA, dA, dA, dA, dA, dT, trivial⟩) ⟨?_, ?_, ?_, ?_, ?_, ?_, ?_, ?_, ?_, ?_, ?_, trivial⟩ ?_
     ·intro k vals vals' w hv h
      have e : ∀ j ∈ ([10] : List Nat), vals' j = vals j := hv
      match k, h with
      | 0, h => exact h
      | 1, h => exact h
      | _ + 2, _ => trivial
     ·intro k984 vals w985 h988 h989 hW987 hA986
      refine obl rfl ?_
      exact zb (v := .pointer (some ⟨b, 0, none⟩)) rfl (fun vals' hv _ => ⟨rfl, hv⟩)
     ·intro k990 vals w991 h994 h995 hW993 hA992
      refine obl rfl ?_
      exact zb (v := .pointer (some ⟨b, 0, none⟩)) rfl (fun vals' hv _ => ⟨rfl, hv⟩)
     ·intro k996 vals w997 h1000 h1001 hW999 hA998
      have e1002 := hA998 1 (by decide)
      refine obl rfl ?_
      exact zC (b := b) (o := 0) e1002 (fun vals' hv _ => ⟨rfl, hv⟩)
     ·intro k1003 vals w1004 h1007 h1008 hW1006 hA1005
      have e1009 := hA1005 2 (by decide)
      refine obl rfl ?_
      exact Vw e1009 (fun vals' hv _ => ⟨rfl, hv⟩)
     ·intro k1010 vals w1011 h1014 h1015 hW1013 hA1012
      obtain rfl : k1010 = 0 := Nat.le_antisymm h1015 h1014
      have hS1016 : Sep _ _ _ _ := hW1013
      have e1017 := hA1012 3 (by decide)
      refine obl rfl ?_
      exact zh (v := .int .i64 (yY L)) Try.isAgg3 e1017 (zi (hS1016.blk (i := 2) rfl) rfl) (fun vals' hv _ => ⟨rfl, hv⟩)
     ·intro k1018 vals w1019 h1022 h1023 hW1021 hA1020
      refine obl rfl ?_
      exact yP rfl (fun vals' hv _ => ⟨rfl, hv⟩)
     ·intro k1024 vals w1025 h1028 h1029 hW1027 hA1026
      obtain rfl : k1024 = 0 := Nat.le_antisymm h1029 h1028
      have hS1030 : Sep _ _ _ _ := hW1027
      have e1031 := hA1026 5 (by decide)
      refine obl rfl ?_
      exact zh (v := .int .i64 (e.lam)) Try.isAgg3 e1031 (zi (hS1030.blk (i := 4) rfl) rfl) (fun vals' hv _ => ⟨rfl, hv⟩)
     ·intro k1032 vals w1033 h1036 h1037 hW1035 hA1034
      obtain rfl : k1032 = 0 := Nat.le_antisymm h1037 h1036
      have hS1038 : Sep _ _ _ _ := hW1035
      have e1039 := hA1034 4 (by decide)
      have e1040 := hA1034 6 (by decide)
      refine obl rfl ?_
      exact xE (k := .i64) (a := yY L) (b := e.lam) e1039 e1040 (fun vals' hv _ => ⟨rfl, hv⟩)
     ·intro k1041 vals w1042 h1045 h1046 hW1044 hA1043
      have e1047 := hA1043 0 (by decide)
      refine obl rfl ?_
      exact zC (b := b) (o := 0) e1047 (fun vals' hv _ => ⟨rfl, hv⟩)
     ·intro k1048 vals w1049 h1052 h1053 hW1051 hA1050
      have e1054 := hA1050 8 (by decide)
      refine obl rfl ?_
      exact Vw e1054 (fun vals' hv _ => ⟨rfl, hv⟩)
     ·intro k972 vals w973 h976 h977 hW975 hA974
      obtain rfl : k972 = 0 := Nat.le_antisymm h977 h976
      have hS978 : Sep _ _ _ _ := hW975
      have e979 := hA974 7 (by decide)
      have e980 := hA974 9 (by decide)
      refine obl rfl ?_
      refine (yZ (v := .int .i64 (max (yY L) e.lam)) (c := [vv568, .map (some m569), .int .i64 (yY L)]) (c' := [vv568, .map (some m569), .int .i64 (max (yY L) e.lam)]) Try.sizeOf3 e980 e979 (hS978.blk (i := 2) rfl) rfl rfl rfl ?_)
      intro w981 hp982
      have hS983 := hS978.pt2 hp982
      intro vals' hv hv'
      refine ⟨?_, trivial⟩
      show Sep G W ((RowE (α := Int) own 3 vv568 ((zc n L).set e.origin.toNat (((zc n L).getD e.origin.toNat 0) + 1))) :: (MapO yX EV m569 (Zy (zy L) (e.origin, e.seq) e)) :: (Blk b #[vv568, .map (some m569), .int .i64 (max (yY L) e.lam)] 73) :: (Blk b224 (x136.cells vd137).toArray 36) :: (Blk b15 (e.cells de0).toArray 36) :: Rs) w981
      exact hS983
     intro vals w1055 hW1056 hA1057
     have hS1058 : Sep _ _ _ _ := hW1056
     refine yj (kv := [(0, .pointer (some ⟨b, 0, none⟩)), (3, .pointer (some ⟨b15, 0, none⟩)), (48, .int .i64 (((zc n L).length : Nat) : Int)), (49, .int .i64 ((k : Nat) : Int)), (50, .bool false)]) ⟨rfl, rfl, rfl, rfl, rfl, trivial⟩ (fun ρw1055 => ?_)
     refine zg ?_
     refine zd ?_
     refine za (by kernel_rfl) (fun _ => ?_)
     refine st (zf (v := .int .i64 (0)) rfl ?_)
     refine zg ?_
     refine zw ?_
     refine zM Try.results21 (show _ = (.int .i64 (0) : Value) from rfl) ?_
     have hS1059 := hS1058.mv2
     have hS1060 : Sep G W ((SetO b n (yw e L)) :: (Blk b224 (x136.cells vd137).toArray 36) :: (Blk b15 (e.cells de0).toArray 36) :: Rs) w1055 := SetO.close hS1059 UL (by rw [hv9]; exact Wu ho9 ho9') (XA (by simpa using hc337))
     have hS1061 : Sep G W ((SetO b n (yw e L)) :: Rs) w1055 := hS1060.sel 3 [0] (Nat.le_add_left _ _) rfl rfl
     refine ⟨(yw e L), ?_, ?_, hS1061⟩
     · rw [Yo hc135 hc337 (by rw [hv9] at hc561; exact hc561) (fun i hi => hm i (by omega))]
     · rw [Zl (Yo hc135 hc337 (by rw [hv9] at hc561; exact hc561) (fun i hi => hm i (by omega)))]
    ·skip
     have hc566 := of_decide_eq_true hc566
     refine zm rfl ?_
     refine zp ?_
     refine zd ?_
     refine zx ?_
     refine zd ?_
     refine za (by kernel_rfl) (fun _ => ?_)
     refine st (zb (v := .int .i64 ((k : Nat) : Int)) rfl ?_)
     refine st (zf (v := .int .i64 ((k : Nat) : Int)) rfl ?_)
     refine zg ?_
     refine zd ?_
     refine za (by kernel_rfl) (fun _ => ?_)
     refine st (zb (v := .pointer (some ⟨b, 0, none⟩)) rfl ?_)
     refine st (zv (k := 10) Try.isAgg36 Try.sizeOf36 rfl rfl (CellsAt.all (hS565.blk (i := 1) rfl)) ?_)
     refine st (zb (v := .int .i64 ((k : Nat) : Int)) rfl ?_)
     refine st (zj (f := 56) (vals := [.pointer (some ⟨b, 0, none⟩), .agg (e.cells de0).toArray, .int .i64 ((k : Nat) : Int)]) (cap := []) rfl rfl Try.call56 (Qr (e := e) (o := k) hA3 (RdS.base hde0 hB4) oe (by first | omega | (refine ⟨?_, ?_⟩ <;> omega)) hS565 (hd9) (hlen)) ?_)
     rintro _ w1062 ⟨rfl, hS1063⟩
     refine st (yH (a := (yM L e k)) rfl ?_)
     refine zg ?_
     cases hc1064 : !(yM L e k)
     ·skip
      try simp only [zr] at hc1064
      refine zk rfl ?_
      refine zp ?_
      refine za (by kernel_rfl) (fun _ => ?_)
      have hr1065 : InR ((k + 1 : Nat) : Int) := by first | omega | (simp only [zu]; omega)
      refine st (zU (r := ((k + 1 : Nat) : Int)) (k := .i64) (a := ((k : Nat) : Int)) (b := 1) rfl rfl (by rw [show (((k : Nat) : Int) + 1 : Int) = ((k + 1 : Nat) : Int) by first | omega | (simp only [zu]; omega)]; exact zH hr1065) ?_)
      refine st (zb (v := .int .i64 ((k + 1 : Nat) : Int)) rfl ?_)
      refine zg ?_
      exact ⟨_, by omega, k + 1, _, rfl, zn ⟨rfl, rfl, rfl, rfl, trivial⟩, by omega, (yU hm (by simpa using hc1064)), hS1063⟩
     ·skip
      try simp only [zr] at hc1064
      refine zm rfl ?_
      refine zd ?_
      refine za (by kernel_rfl) (fun _ => ?_)
      refine st (zf (v := .int .i64 (9)) rfl ?_)
      refine zg ?_
      refine zw ?_
      refine zM Try.results21 (show _ = (.int .i64 (9) : Value) from rfl) ?_
      have hS1066 := hk6 _ _ hS1063
      have hS1067 : Sep G W ((SetO b n L) :: Rs) w1062 := hS1066.sel 3 [0] (Nat.le_add_left _ _) rfl rfl
      refine ⟨L, ?_, ?_, hS1067⟩
      · rw [WE hc135 hc337 (by rw [hv9] at hc561; exact hc561) (k := k) (by omega) (by simpa using hc1064)]
      · rw [xw (by rw [WE hc135 hc337 (by rw [hv9] at hc561; exact hc561) (k := k) (by omega) (by simpa using hc1064)]; decide)]
   ·skip
    have hc561 := yc hc561
    refine zm rfl ?_
    refine zd ?_
    refine za (by kernel_rfl) (fun _ => ?_)
    refine st (zf (v := .int .i64 (9)) rfl ?_)
    refine zg ?_
    refine zw ?_
    refine zM Try.results21 (show _ = (.int .i64 (9) : Value) from rfl) ?_
    have hS1068 := hk6 _ _ hS559
    have hS1069 : Sep G W ((SetO b n L) :: Rs) w556 := hS1068.sel 3 [0] (Nat.le_add_left _ _) rfl rfl
    refine ⟨L, ?_, ?_, hS1069⟩
    · rw [WC hc135 hc337 (by rw [hv9] at hc561; exact hc561)]
    · rw [xw (by rw [WC hc135 hc337 (by rw [hv9] at hc561; exact hc561)]; decide)]
  ·skip
   refine zm rfl ?_
   refine zd ?_
   refine za (by kernel_rfl) (fun _ => ?_)
   refine st (zf (v := .int .i64 (16)) rfl ?_)
   refine zg ?_
   refine zw ?_
   refine zM Try.results21 (show _ = (.int .i64 (16) : Value) from rfl) ?_
   have hS1070 := hk6 _ _ hS335
   have hS1071 : Sep G W ((SetO b n L) :: Rs) w332 := hS1070.sel 3 [0] (Nat.le_add_left _ _) rfl rfl
   refine ⟨L, ?_, ?_, hS1071⟩
   · rw [Wt hc135 hc337]
   · rw [xw (by rw [Wt hc135 hc337]; decide)]
 ·skip
  have hc135 := yc hc135
  refine zm rfl ?_
  refine zd ?_
  refine za (by kernel_rfl) (fun _ => ?_)
  refine st (zb (v := .int .i64 ((zP e (((zc n L).length : Nat) : Int)))) rfl ?_)
  refine st (zf (v := .int .i64 ((zP e (((zc n L).length : Nat) : Int)))) rfl ?_)
  refine zg ?_
  refine zw ?_
  refine zM Try.results21 (show _ = (.int .i64 ((zP e (((zc n L).length : Nat) : Int))) : Value) from rfl) ?_
  have hS1072 := hk6 _ _ hS133
  have hS1073 : Sep G W ((SetO b n L) :: Rs) w130 := hS1072.sel 2 [0] (Nat.le_add_left _ _) rfl rfl
  refine ⟨L, ?_, ?_, hS1073⟩
  · rw [hvl9] at *; rw [Ws hc135]
  · rw [hvl9] at *; rw [xw (by rw [Ws hc135]; exact hc135)]

end Go.Proofs.Ytgjgmojjeehieaa
end

section
/- Plain laws of sets of events: what is known is there; parts of a set. -/
namespace Go.Proofs.Ytgjgmojjeehieaa

theorem XS {a b : Ev} : ltE a b = true ↔ xq a b < 0 := by
  rw [yT]
  unfold ltE
  by_cases h1 : a.lam = b.lam
  · by_cases h2 : a.origin = b.origin
    · simp [h1, h2]
    · simp [h1, h2]
  · simp [h1]
theorem WU {a b c : Ev} (h1 : xq a b < 0) (h2 : xq b c < 0) : xq a c < 0 := by rw [yT] at *; omega
theorem Yc {a b : Ev} (h1 : xq a b < 0) : ¬ xq b a < 0 := by rw [yT] at *; omega
theorem WW {a b : Ev} (h : idE a ≠ idE b) : xq a b < 0 ∨ xq b a < 0 := by
  rw [yT, yT]
  have h' : ¬ (a.origin = b.origin ∧ a.seq = b.seq) := fun e => h (by unfold idE; rw [e.1, e.2])
  omega
theorem WM {a b : Ev} (h : a.lam < b.lam) : xq a b < 0 := by rw [yT]; omega

section
variable {n : Nat} {L T : List Ev} {e x y : Ev}
theorem xC : x ∈ yw e L ↔ x = e ∨ x ∈ L := by rw [insE_perm.mem_iff, List.mem_cons]
theorem Uc (hs : Srt L) (hn : idE e ∉ L.map idE) : Srt (yw e L) := by
  induction L with
  | nil => exact List.pairwise_singleton _ _
  | cons x l ih =>
    unfold Srt at hs ⊢
    rw [List.pairwise_cons] at hs
    have hne : idE e ≠ idE x := fun h => hn (by rw [h]; exact List.mem_map.2 ⟨x, List.mem_cons_self .., rfl⟩)
    simp only [yw]
    split
    · rename_i hlt
      have h1 := XS.1 hlt
      rw [List.pairwise_cons, List.pairwise_cons]
      refine ⟨fun y hy => ?_, hs.1, hs.2⟩
      rcases List.mem_cons.1 hy with rfl | hy
      · exact h1
      · exact WU h1 (hs.1 y hy)
    · rename_i hlt
      rw [List.pairwise_cons]
      refine ⟨fun y hy => ?_, ih hs.2 (fun h => hn (List.mem_cons_of_mem _ h))⟩
      rcases xC.1 hy with rfl | hy
      · rcases WW hne with h | h
        · exact absurd (XS.2 h) hlt
        · exact h
      · exact hs.1 y hy

structure Good (n : Nat) (L : List Ev) : Prop where
  chk : ∀ e ∈ L, zP e n = 0
  ids : (L.map idE).Nodup
  srt : Srt L
  knw : ∀ e ∈ L, ∀ o, o < n → yM L e o = true
  seqle : ∀ e ∈ L, e.seq ≤ ((xr L e.origin.toNat : Nat) : Int)
  fill : ∀ (o : Nat) (q : Int), 1 ≤ q → q ≤ ((xr L o : Nat) : Int) → (zy L ((o : Int), q)).isSome = true
theorem Good.nil : Good n [] := by
  refine ⟨fun _ h => by simp at h, List.nodup_nil, List.Pairwise.nil, fun _ h => by simp at h, fun _ h => by simp at h, fun o q h1 h2 => ?_⟩
  have h3 : xr [] o = 0 := rfl
  omega
theorem Good.nodup (h : Good n L) : L.Nodup := (List.pairwise_map.1 h.ids).imp fun hab e => hab (congrArg idE e)
theorem Good.len (h : Good n L) : ∀ y ∈ L, y.deps.length = n := fun y hy => (yS (h.chk y hy)).2.2.1
theorem Good.org (h : Good n L) (hx : x ∈ L) : ((x.origin.toNat : Nat) : Int) = x.origin := by
  have := (yS (h.chk x hx)).1.1; omega
theorem Good.uniq (h : Good n L) (hx : x ∈ L) (hy : y ∈ L) (he : idE x = idE y) : x = y := by
  have h1 := xB h.ids hx
  have h2 := xB h.ids hy
  rw [he, h2] at h1
  exact (Option.some.inj h1).symm
theorem Good.get (h : Good n L) (hx : x ∈ L) : zy L (x.origin, x.seq) = some x := xB h.ids hx
theorem YH {k : Int × Int} (h : (zy L k).isSome = true) : ∃ x, zy L k = some x ∧ x ∈ L ∧ idE x = k := by
  obtain ⟨x, hx⟩ := Option.isSome_iff_exists.1 h
  obtain ⟨h1, h2, h3⟩ := xU hx
  exact ⟨x, hx, h1, by unfold idE; rw [h2, h3]⟩
theorem Yd {o : Nat} : yM L e o = true ↔ e.deps.getD o 0 = 0 ∨ ∃ x, zy L ((o : Int), e.deps.getD o 0) = some x ∧ x.lam < e.lam ∧ ∀ i, i < x.deps.length → x.deps.getD i 0 ≤ e.deps.getD i 0 := by
  unfold yM
  by_cases h : e.deps.getD o 0 = 0
  · rw [decide_eq_true h, Bool.true_or]; exact ⟨fun _ => .inl h, fun _ => rfl⟩
  · rw [decide_eq_false h, Bool.false_or]
    constructor
    · intro h1
      cases hg : zy L ((o : Int), e.deps.getD o 0) with
      | none => rw [hg] at h1; cases h1
      | some x =>
        rw [hg] at h1
        simp only [Bool.and_eq_true, decide_eq_true_eq, List.all_eq_true, List.mem_range] at h1
        exact .inr ⟨x, rfl, h1.1, fun i hi => h1.2 i hi⟩
    · rintro (h1 | ⟨x, hg, h1, h2⟩)
      · exact absurd h1 h
      · rw [hg]
        simp only [Bool.and_eq_true, decide_eq_true_eq, List.all_eq_true, List.mem_range]
        exact ⟨h1, fun i hi => h2 i hi⟩
theorem Good.pred (h : Good n L) (hx : x ∈ L) (h1 : 1 < x.seq) : ∃ z ∈ L, z.origin = x.origin ∧ z.seq = x.seq - 1 ∧ z.lam < x.lam := by
  obtain ⟨⟨ho, ho'⟩, _, _, hd⟩ := yS (h.chk x hx)
  have hk := h.knw x hx x.origin.toNat (by omega)
  rw [Yd, hd] at hk
  rcases hk with hk | ⟨z, hz, hl, _⟩
  · omega
  · obtain ⟨h2, h3, h4⟩ := xU hz
    exact ⟨z, h2, by rw [h3]; exact h.org hx, h4, hl⟩
theorem Good.order (h : Good n L) : ∀ (k : Nat) {x y : Ev}, x ∈ L → y ∈ L → x.origin = y.origin → y.seq = x.seq + (k : Int) + 1 → x.lam < y.lam
  | k, x, y, hx, hy, ho, hk => by
    have h1 : 1 < y.seq := by have := (yS (h.chk x hx)).2.1.1; omega
    obtain ⟨z, hz, hzo, hzs, hzl⟩ := h.pred hy h1
    cases k with
    | zero =>
      have : x = z := h.uniq hx hz (by unfold idE; rw [ho, hzo, hzs]; congr 1; omega)
      rw [this]; exact hzl
    | succ k =>
      have := Good.order h k hx hz (ho.trans hzo.symm) (by rw [hzs, hk]; omega)
      omega
theorem Good.ahead (h : Good n L) (hx : x ∈ L) (hy : y ∈ L) (ho : x.origin = y.origin) (hs : x.seq < y.seq) : xq x y < 0 :=
  WM (h.order (y.seq - x.seq - 1).toNat hx hy ho (by omega))

theorem add_zero (h : xA n L e = 0) : zP e n = 0 ∧ (zy L (e.origin, e.seq)).isSome = false ∧ e.seq = ((xr L e.origin.toNat : Nat) : Int) + 1 ∧ ∀ o, o < n → yM L e o = true := by
  unfold xA at h
  split at h
  · rename_i h1; exact absurd h h1
  · rename_i h1
    split at h
    · cases h
    · rename_i h2
      split at h
      · cases h
      · rename_i h3
        split at h
        · rename_i h4
          refine ⟨by simpa using h1, by simpa using h2, by simpa using h3, fun o ho => ?_⟩
          exact (List.all_eq_true.1 h4) o (List.mem_range.2 ho)
        · cases h
theorem YJ {k : Int × Int} (h : (zy L (e.origin, e.seq)).isSome = false) : zy (yw e L) k = if (e.origin, e.seq) = k then some e else zy L k := by
  rw [← XA h]; rfl
theorem Good.add (h : Good n L) (h0 : xA n L e = 0) : Good n (yw e L) := by
  obtain ⟨hc, hg, hs, hk⟩ := add_zero h0
  obtain ⟨⟨ho, ho'⟩, ⟨hs1, _⟩, hdl, hdq⟩ := yS hc
  have hid : idE e ∉ L.map idE := fun hm => by
    have := Xn.2 hm
    unfold idE at this
    rw [hg] at this; cases this
  have hkn : ∀ {x : Ev} {o : Nat}, yM L x o = true → yM (yw e L) x o = true := fun {x o} hx => by
    rw [Yd] at hx ⊢
    rcases hx with hx | ⟨z, hz, h1, h2⟩
    · exact .inl hx
    · refine .inr ⟨z, ?_, h1, h2⟩
      rw [YJ hg, if_neg, hz]
      intro he
      rw [he, hz] at hg; cases hg
  refine ⟨fun x hx => ?_, ?_, Uc h.srt hid, fun x hx o hlt => ?_, fun x hx => ?_, fun o q h1 h2 => ?_⟩
  · rcases xC.1 hx with rfl | hx
    · exact hc
    · exact h.chk x hx
  · have hp : ((yw e L).map idE).Perm (idE e :: L.map idE) := insE_perm.map idE
    exact hp.nodup_iff.2 (List.nodup_cons.2 ⟨hid, h.ids⟩)
  · rcases xC.1 hx with rfl | hx
    · exact hkn (hk o hlt)
    · exact hkn (h.knw x hx o hlt)
  · rw [Xd]
    rcases xC.1 hx with rfl | hx
    · rw [if_pos (by omega)]; omega
    · have := h.seqle x hx; omega
  · rw [Xd] at h2
    rw [YJ hg]
    by_cases he : (e.origin, e.seq) = ((o : Int), q)
    · rw [if_pos he]; rfl
    · rw [if_neg he]
      refine h.fill o q h1 ?_
      by_cases hoe : e.origin = (o : Int)
      · rw [if_pos hoe] at h2
        have : e.seq ≠ q := fun hq => he (by rw [hoe, hq])
        have h3 : e.origin.toNat = o := by omega
        rw [h3] at hs
        omega
      · rw [if_neg hoe] at h2; simpa using h2
theorem Good.addL (h : Good n L) : Good n (addL n L e) := by
  unfold Go.Proofs.Ytgjgmojjeehieaa.addL
  split
  · rename_i h0; exact h.add h0
  · exact h
def ze (n : Nat) (l : List Ev) : List Ev := l.foldl (addL n) []
theorem Wq {l : List Ev} : ze n (l ++ [e]) = addL n (ze n l) e := by unfold ze; rw [List.foldl_append]; rfl
theorem Ye : ∀ {l : List Ev} {L : List Ev}, Good n L → Good n (l.foldl (addL n) L)
  | [], _, h => h
  | _ :: l, _, h => Ye (l := l) h.addL
theorem laidL_good {l : List Ev} : Good n (ze n l) := Ye Good.nil
theorem XB : (addL n L e).length ≤ L.length + 1 := by
  unfold addL
  split
  · rw [Xw]; omega
  · omega
theorem YF : ∀ {l : List Ev} {L : List Ev}, (l.foldl (addL n) L).length ≤ L.length + l.length
  | [], _ => Nat.le_refl _
  | x :: l, L => by
    have := YF (l := l) (L := addL n L x)
    have h2 := XB (n := n) (L := L) (e := x)
    simp only [List.foldl_cons, List.length_cons]
    omega
theorem ZA {l : List Ev} : (ze n l).length ≤ l.length := by have := YF (n := n) (l := l) (L := []); simpa [ze] using this

theorem Good.sub_add (h : Good n L) (ht : Good n T) (hsub : ∀ x ∈ T, x ∈ L) (he : e ∈ L) (hne : e ∉ T) (hall : ∀ x ∈ L, xq x e < 0 → x ∈ T) : xA n T e = 0 := by
  have hc := h.chk e he
  obtain ⟨⟨ho, ho'⟩, ⟨hs1, _⟩, _, _⟩ := yS hc
  have hg : (zy T (e.origin, e.seq)).isSome = false := by
    cases hb : (zy T (e.origin, e.seq)).isSome with
    | false => rfl
    | true =>
      obtain ⟨x, _, hx, hid⟩ := YH hb
      exact absurd (h.uniq (hsub x hx) he hid ▸ hx) hne
  have horg := h.org he
  have hseq : e.seq = ((xr T e.origin.toNat : Nat) : Int) + 1 := by
    rcases Int.lt_trichotomy e.seq (((xr T e.origin.toNat : Nat) : Int) + 1) with h1 | h1 | h1
    · have := ht.fill e.origin.toNat e.seq hs1 (by omega)
      rw [horg, hg] at this; cases this
    · exact h1
    · exfalso
      have h2 := h.seqle e he
      have h3 := h.fill e.origin.toNat (((xr T e.origin.toNat : Nat) : Int) + 1) (by omega) (by omega)
      obtain ⟨y, _, hy, hid⟩ := YH h3
      have hyo : y.origin = e.origin := by have := congrArg Prod.fst hid; simpa [idE, horg] using this
      have hys : y.seq = ((xr T e.origin.toNat : Nat) : Int) + 1 := congrArg Prod.snd hid
      have hyt := hall y hy (h.ahead hy he hyo (by omega))
      have := ht.seqle y hyt
      rw [hyo] at this
      omega
  refine Yo hc hg hseq fun o hlt => ?_
  have hk := h.knw e he o hlt
  rw [Yd] at hk ⊢
  rcases hk with hk | ⟨x, hx, hl, hd⟩
  · exact .inl hk
  · obtain ⟨hx1, hx2, hx3⟩ := xU hx
    have hxt := hall x hx1 (WM hl)
    refine .inr ⟨x, ?_, hl, hd⟩
    have := ht.get hxt
    rw [hx2, hx3] at this
    exact this
theorem Good.of_mem (h : Good n L) (ht : Good n T) (hsub : ∀ x, x ∈ T ↔ x ∈ L) : T = L := by
  have hp : T.Perm L := (List.perm_ext_iff_of_nodup ht.nodup h.nodup).2 hsub
  exact xZ hp h.srt (ht.srt.imp fun hab => Yc hab)
end
end Go.Proofs.Ytgjgmojjeehieaa
end

section
/- Steps of the proofs of this seat: part B1. -/
set_option maxRecDepth 8000
set_option maxHeartbeats 4000000
namespace Go.Proofs.Ytgjgmojjeehieaa
open Go.Proofs Go.RowKit

theorem yO {G : Nat → Prop} {W w : World} {Rs : List HP} {va : Value} {a : List Ev} (ha : RdS W G va a) {vb : Value} {b : List Ev} (hb : RdS W G vb b) (hS0 : Sep G W Rs w) : Ret Try.prog 22 [va, vb] w (fun r w' => r = (.bool (decide (a = b)) : Value) ∧ Sep G W Rs w') := by
 have has : _ * 96 ≤ _ := ha.small
 have hbs : _ * 96 ≤ _ := hb.small
 refine zq (args := [va, vb]) Try.func22 rfl rfl ?_
 refine zd ?_
 refine za (by kernel_rfl) (fun _ => ?_)
 refine st (zf (v := .bool false) rfl ?_)
 refine zg ?_
 refine zd ?_
 refine zd ?_
 refine za (by kernel_rfl) (fun _ => ?_)
 refine st (zb (v := va) rfl ?_)
 refine st (zB (n := a.length) Try.underlying22 rfl ha.sl ?_)
 refine st (zb (v := vb) rfl ?_)
 refine st (zB (n := b.length) Try.underlying22 rfl hb.sl ?_)
 refine st (yu (k := .i64) (a := ((a.length : Nat) : Int)) (b := ((b.length : Nat) : Int)) rfl rfl ?_)
 refine zg ?_
 cases hc1 : !decide (((a.length : Nat) : Int) = ((b.length : Nat) : Int))
 ·skip
  have hc1 := yr hc1
  refine zk rfl ?_
  refine zp ?_
  refine zd ?_
  refine zd ?_
  refine za (by kernel_rfl) (fun _ => ?_)
  refine st (zf (v := .int .i64 (0)) rfl ?_)
  refine zg ?_
  refine zx ?_
  refine yb (fun mq σ wq => ∃ (k : Nat) (ρ : Env), mq = a.length - k ∧ σ = ye ρ [(0, va), (1, vb), (5, .int .i64 ((k : Nat) : Int))] ∧ (k ≤ a.length) ∧ (∀ i, i < k → a.getD i default = b.getD i default) ∧ Sep G W Rs wq) ⟨0, _, rfl, zn ⟨rfl, rfl, rfl, trivial⟩, Nat.zero_le _, (fun i h => absurd h (Nat.not_lt_zero i)), hS0⟩ ?_
  rintro m3 σ4 w2 ⟨k, ρl1, rfl, rfl, hkk, hm, hS5⟩
  refine zd ?_
  refine zd ?_
  refine za (by kernel_rfl) (fun _ => ?_)
  refine st (zb (v := .int .i64 ((k : Nat) : Int)) rfl ?_)
  refine st (zb (v := va) rfl ?_)
  refine st (zB (n := a.length) Try.underlying22 rfl ha.sl ?_)
  refine st (zJ (k := .i64) (a := ((k : Nat) : Int)) (b := ((a.length : Nat) : Int)) rfl rfl ?_)
  refine zg ?_
  cases hc6 : decide (((k : Nat) : Int) < ((a.length : Nat) : Int))
  ·skip
   have hc6 := of_decide_eq_false hc6
   refine zk rfl ?_
   refine ya ?_
   refine zQ ?_
   refine zd ?_
   refine za (by kernel_rfl) (fun _ => ?_)
   refine st (zf (v := .bool true) rfl ?_)
   refine zg ?_
   refine zw ?_
   refine zM Try.results22 (show _ = (.bool true : Value) from rfl) ?_
   refine ⟨?_, hS5⟩
   rw [decide_eq_true (XL (by omega) (fun i hi => hm i (by omega)))]
  ·skip
   have hc6 := of_decide_eq_true hc6
   refine zm rfl ?_
   refine zp ?_
   refine zd ?_
   refine zx ?_
   refine zd ?_
   refine zS (WF [fun vals wq => Sep G W Rs wq, fun vals wq => (vals 8 = (.bool (decide ((a.getD k default) = (b.getD k default))) : Value)) ∧ Sep G W Rs wq]) (AF [Vl 0 (va), Vl 1 (.int .i64 ((k : Nat) : Int)), Vl 2 (.pointer (some ⟨sb va, so va + k * 10, none⟩)), Vl 3 (.agg ((a.getD k default).cells (zR W (sb va) (so va + k * 10 + 3))).toArray), Vl 4 (vb), Vl 5 (.int .i64 ((k : Nat) : Int)), Vl 6 (.pointer (some ⟨sb vb, so vb + k * 10, none⟩)), Vl 7 (.agg ((b.getD k default).cells (zR W (sb vb) (so vb + k * 10 + 3))).toArray), fun _ => True, Vl 9 (.bool (!(decide ((a.getD k default) = (b.getD k default)))))]) [[], [], [0, 1], [0, 1, 2], [], [], [4, 5], [4, 5, 6], [0, 1, 2, 3, 4, 5, 6, 7], [0, 1, 2, 3, 4, 5, 6, 7, 8]] [8] [(0, 0), (0, 0), (0, 0), (0, 0), (0, 0), (0, 0), (0, 0), (0, 0), (0, 0), (1, 1)] (by kernel_rfl) (by kernel_rfl) (by kernel_rfl) rfl (by kernel_rfl) (by kernel_rfl) (fun _ h1 h2 h3 h4 _ => hS5.same h1 h2 h3 h4) ?_ (yk ⟨dA, dA, dA, dA, dA, dA, dA, dA, dT, dA, trivial⟩) ⟨?_, ?_, ?_, ?_, ?_, ?_, ?_, ?_, ?_, ?_, trivial⟩ ?_
   ·intro k vals vals' w hv h
    have e : ∀ j ∈ ([8] : List Nat), vals' j = vals j := hv
    match k, h with
    | 0, h => exact h
    | 1, h => exact (by simpa only [WF, List.getElem?_cons_zero, List.getElem?_cons_succ, e 8 (by decide)] using h)
    | _ + 2, _ => trivial
   ·intro k102 vals w103 h106 h107 hW105 hA104
    refine obl rfl ?_
    exact zb (v := va) rfl (fun vals' hv _ => ⟨rfl, hv⟩)
   ·intro k108 vals w109 h112 h113 hW111 hA110
    refine obl rfl ?_
    exact zb (v := .int .i64 ((k : Nat) : Int)) rfl (fun vals' hv _ => ⟨rfl, hv⟩)
   ·intro k114 vals w115 h118 h119 hW117 hA116
    obtain rfl : k114 = 0 := Nat.le_antisymm h119 h118
    have hS120 : Sep _ _ _ _ := hW117
    have e121 := hA116 0 (by decide)
    have e122 := hA116 1 (by decide)
    refine obl rfl ?_
    have hi123 : k < a.length := (by first | omega | (simp only [zu]; omega))
    exact zl (k := 10) (i := k) Try.underlying22 Try.sizeOf36 e121 ha.sl e122 hi123 (fun vals' hv _ => ⟨rfl, hv⟩)
   ·intro k124 vals w125 h128 h129 hW127 hA126
    obtain rfl : k124 = 0 := Nat.le_antisymm h129 h128
    have hS130 : Sep _ _ _ _ := hW127
    have e131 := hA126 2 (by decide)
    refine obl rfl ?_
    have hi133 : k < a.length := (by first | omega | (simp only [zu]; omega))
    obtain ⟨hce132, hde132_0, hoke132⟩ := ha.ev hi133
    rw [← zo default hi133] at hce132 hde132_0 hoke132
    have hsm134 : ((a.getD k default).deps).length * 8 ≤ 140737488355328 := hde132_0.small
    have hcw135 := hS130.cells hce132 (ha.foot (ne_of_lt hi133))
    exact zv (k := 10) Try.isAgg36 Try.sizeOf36 rfl e131 hcw135 (fun vals' hv _ => ⟨rfl, hv⟩)
   ·intro k136 vals w137 h140 h141 hW139 hA138
    refine obl rfl ?_
    exact zb (v := vb) rfl (fun vals' hv _ => ⟨rfl, hv⟩)
   ·intro k142 vals w143 h146 h147 hW145 hA144
    refine obl rfl ?_
    exact zb (v := .int .i64 ((k : Nat) : Int)) rfl (fun vals' hv _ => ⟨rfl, hv⟩)
   ·intro k148 vals w149 h152 h153 hW151 hA150
    obtain rfl : k148 = 0 := Nat.le_antisymm h153 h152
    have hS154 : Sep _ _ _ _ := hW151
    have e155 := hA150 4 (by decide)
    have e156 := hA150 5 (by decide)
    refine obl rfl ?_
    have hi157 : k < b.length := (by first | omega | (simp only [zu]; omega))
    exact zl (k := 10) (i := k) Try.underlying22 Try.sizeOf36 e155 hb.sl e156 hi157 (fun vals' hv _ => ⟨rfl, hv⟩)
   ·intro k158 vals w159 h162 h163 hW161 hA160
    obtain rfl : k158 = 0 := Nat.le_antisymm h163 h162
    have hS164 : Sep _ _ _ _ := hW161
    have e165 := hA160 6 (by decide)
    refine obl rfl ?_
    have hi167 : k < b.length := (by first | omega | (simp only [zu]; omega))
    obtain ⟨hce166, hde166_0, hoke166⟩ := hb.ev hi167
    rw [← zo default hi167] at hce166 hde166_0 hoke166
    have hsm168 : ((b.getD k default).deps).length * 8 ≤ 140737488355328 := hde166_0.small
    have hcw169 := hS164.cells hce166 (hb.foot (ne_of_lt hi167))
    exact zv (k := 10) Try.isAgg36 Try.sizeOf36 rfl e165 hcw169 (fun vals' hv _ => ⟨rfl, hv⟩)
   ·intro k75 vals w76 h79 h80 hW78 hA77
    obtain rfl : k75 = 0 := Nat.le_antisymm h80 h79
    have hS81 : Sep _ _ _ _ := hW78
    have e82 := hA77 3 (by decide)
    have e83 := hA77 7 (by decide)
    refine obl rfl ?_
    have hi85 : k < a.length := (by first | omega | (simp only [zu]; omega))
    obtain ⟨hce84, hde84_0, hoke84⟩ := ha.ev hi85
    rw [← zo default hi85] at hce84 hde84_0 hoke84
    have hsm86 : ((a.getD k default).deps).length * 8 ≤ 140737488355328 := hde84_0.small
    have hcw87 := hS81.cells hce84 (ha.foot (ne_of_lt hi85))
    have hi89 : k < b.length := (by first | omega | (simp only [zu]; omega))
    obtain ⟨hce88, hde88_0, hoke88⟩ := hb.ev hi89
    rw [← zo default hi89] at hce88 hde88_0 hoke88
    have hsm90 : ((b.getD k default).deps).length * 8 ≤ 140737488355328 := hde88_0.small
    have hcw91 := hS81.cells hce88 (hb.foot (ne_of_lt hi89))
    refine (zj (f := 30) (vals := [.agg ((a.getD k default).cells (zR W (sb va) (so va + k * 10 + 3))).toArray, .agg ((b.getD k default).cells (zR W (sb vb) (so vb + k * 10 + 3))).toArray]) (cap := []) rfl (yD ⟨e82, e83, trivial⟩) Try.call30 (Xr (a := (a.getD k default)) (b := (b.getD k default)) hde84_0 hoke84 hde88_0 hoke88 hS81) ?_)
    rintro _ w92 ⟨rfl, hS93⟩
    intro vals' hv hv'
    refine ⟨?_, trivial⟩
    show (vals' 8 = (.bool (decide ((a.getD k default) = (b.getD k default))) : Value)) ∧ Sep G W Rs w92
    exact ⟨hv, hS93⟩
   ·intro k170 vals w171 h174 h175 hW173 hA172
    obtain rfl : k170 = 1 := Nat.le_antisymm h175 h174
    obtain ⟨he94, hS176⟩ := hW173
    refine obl rfl ?_
    exact yH (a := decide ((a.getD k default) = (b.getD k default))) he94 (fun vals' hv _ => ⟨rfl, hv⟩)
   intro vals w177 hW178 hA179
   obtain ⟨he94, hS180⟩ := hW178
   have e181 := hA179 9 (by decide)
   refine yj (kv := [(0, va), (1, vb), (5, .int .i64 ((k : Nat) : Int)), (11, .int .i64 ((k : Nat) : Int)), (12, va), (13, .int .i64 ((a.length : Nat) : Int)), (14, .bool true), (26, .bool (!(decide ((a.getD k default) = (b.getD k default)))))]) ⟨rfl, rfl, rfl, rfl, rfl, rfl, rfl, (by exact e181), trivial⟩ (fun ρw177 => ?_)
   refine zg ?_
   cases hc182 : !(decide ((a.getD k default) = (b.getD k default)))
   ·skip
    have hc182 := yr hc182
    refine zk rfl ?_
    refine zp ?_
    refine za (by kernel_rfl) (fun _ => ?_)
    refine st (zb (v := .int .i64 ((k : Nat) : Int)) rfl ?_)
    have hr183 : InR ((k + 1 : Nat) : Int) := by first | omega | (simp only [zu]; omega)
    refine st (zU (r := ((k + 1 : Nat) : Int)) (k := .i64) (a := ((k : Nat) : Int)) (b := 1) rfl rfl (by rw [show (((k : Nat) : Int) + 1 : Int) = ((k + 1 : Nat) : Int) by first | omega | (simp only [zu]; omega)]; exact zH hr183) ?_)
    refine st (zf (v := .int .i64 ((k + 1 : Nat) : Int)) rfl ?_)
    refine zg ?_
    exact ⟨_, by omega, k + 1, _, rfl, zn ⟨rfl, rfl, rfl, trivial⟩, by omega, (yU hm (by simpa using hc182)), hS180⟩
   ·skip
    have hc182 := yc hc182
    refine zm rfl ?_
    refine zd ?_
    refine za (by kernel_rfl) (fun _ => ?_)
    refine st (zf (v := .bool false) rfl ?_)
    refine zg ?_
    refine zw ?_
    refine zM Try.results22 (show _ = (.bool false : Value) from rfl) ?_
    refine ⟨?_, hS180⟩
    rw [decide_eq_false (fun e => by subst e; first | omega | (simp at hc182))]
 ·skip
  have hc1 := yc hc1
  refine zm rfl ?_
  refine zd ?_
  refine za (by kernel_rfl) (fun _ => ?_)
  refine st (zf (v := .bool false) rfl ?_)
  refine zg ?_
  refine zw ?_
  refine zM Try.results22 (show _ = (.bool false : Value) from rfl) ?_
  refine ⟨?_, hS0⟩
  rw [decide_eq_false (fun e => by subst e; first | omega | (simp at hc1))]

theorem YD {n : Nat} {l : List Ev} {k : Nat} (hk : k < l.length) : addL n (ze n (l.take k)) (l.getD k default) = ze n (l.take (k + 1)) := by
  rw [List.take_succ_eq_append_getElem hk, Wq, zo _ hk]
theorem Zx {n : Nat} {l : List Ev} {k : Nat} : (ze n (l.take k)).length ≤ l.length := Nat.le_trans ZA (List.length_take_le' ..)
def evB : Ev := ⟨1, 1, 2, [1, 0], 0, 0, 0, 1, 1, 0⟩
end Go.Proofs.Ytgjgmojjeehieaa
end

section
/- Steps of the proofs of this seat: part B2. -/
set_option maxRecDepth 8000
set_option maxHeartbeats 4000000
namespace Go.Proofs.Ytgjgmojjeehieaa
open Go.Proofs Go.RowKit

end Go.Proofs.Ytgjgmojjeehieaa
end

section
/- Steps of the proofs of this seat: part B6. -/
set_option maxRecDepth 8000
set_option maxHeartbeats 4000000
namespace Go.Proofs.Ytgjgmojjeehieaa
open Go.Proofs Go.RowKit

section
variable {n : Nat} {L T : List Ev} {e x : Ev}
theorem Ww : ∀ {T : List Ev}, (∀ x ∈ T, xq x e < 0) → yw e T = T ++ [e]
  | [], _ => rfl
  | x :: l, h => by
    have h1 := h x (List.mem_cons_self ..)
    have h2 : ¬ ltE e x = true := fun h3 => Yc h1 (XS.1 h3)
    simp only [yw]
    rw [if_neg h2, Ww fun y hy => h y (List.mem_cons_of_mem _ hy)]; rfl
theorem Good.at_lt (h : Good n L) {i j : Nat} (hij : i < j) (hj : j < L.length) : xq (L.getD i default) (L.getD j default) < 0 := by
  rw [zo _ (by omega), zo _ hj]
  exact List.pairwise_iff_getElem.1 h.srt i j (by omega) hj hij
theorem Ur {i : Nat} (hx : x ∈ L.take i) : ∃ j, j < i ∧ j < L.length ∧ x = L.getD j default := by
  obtain ⟨j, hj, rfl⟩ := List.getElem_of_mem hx
  rw [List.length_take] at hj
  refine ⟨j, by omega, by omega, ?_⟩
  rw [zo _ (by omega), List.getElem_take]
theorem Yk {i : Nat} (hi : i < L.length) : L.getD i default ∈ L := by rw [zo _ hi]; exact List.getElem_mem hi
theorem VN {i j : Nat} (hi : i < j) (hj : i < L.length) : L.getD i default ∈ L.take j := by
  rw [zo _ hj]
  exact List.mem_take_iff_getElem.2 ⟨i, by omega, rfl⟩
theorem xb {i : Nat} (hi : i < L.length) : L.take (i + 1) = L.take i ++ [L.getD i default] := by
  rw [List.take_succ_eq_append_getElem hi, zo _ hi]
theorem Good.ins_take (h : Good n L) {i : Nat} (hi : i < L.length) : yw (L.getD i default) (L.take i) = L.take (i + 1) := by
  rw [xb hi]
  refine Ww fun x hx => ?_
  obtain ⟨j, h1, h2, rfl⟩ := Ur hx
  exact h.at_lt h1 hi
theorem VV (h : Good n L) {i : Nat} (hi : i < L.length) : (zc n (L.take i)).set (L.getD i default).origin.toNat ((zc n (L.take i)).getD (L.getD i default).origin.toNat 0 + 1) = zc n (L.take (i + 1)) := by
  obtain ⟨⟨h0, h1⟩, _⟩ := yS (h.chk _ (Yk hi))
  rw [ZP (by omega), Wu h0 h1, h.ins_take hi]
theorem Good.chk_at (h : Good n L) {i : Nat} (hi : i < L.length) : (0 ≤ (L.getD i default).origin ∧ (L.getD i default).origin < n) ∧ (L.getD i default).deps.length = n := by
  obtain ⟨h0, _, h2, _⟩ := yS (h.chk _ (Yk hi))
  exact ⟨h0, h2⟩
end
end Go.Proofs.Ytgjgmojjeehieaa
end

section
/- Steps of the proofs of this seat: part B7. -/
set_option maxRecDepth 8000
set_option maxHeartbeats 4000000
namespace Go.Proofs.Ytgjgmojjeehieaa
open Go.Proofs Go.RowKit

def Uu (x : Int) (n : Nat) : Nat := if x.tmod n < 0 then (x.tmod n + n).toNat else (x.tmod n).toNat
theorem Wy {q n : Nat} {x : Int} (h : (q : Int) = if x.tmod n < 0 then x.tmod n + n else x.tmod n) : q = Uu x n := by
  unfold Uu
  split <;> rename_i h1
  · rw [if_pos h1] at h; omega
  · rw [if_neg h1] at h; omega
theorem UA {G : Nat → Prop} {W w : World} {Rs : List HP} {x : Int} (hx : InR x) {n : Nat} (hn : 1 ≤ n ∧ n ≤ 281474976710656) (hS0 : Sep G W Rs w) : Ret Try.prog 17 [.int .i64 (x), .int .i64 ((n : Nat) : Int)] w (fun r w' => ∃ (q : Nat), r = (.int .i64 ((q : Nat) : Int) : Value) ∧ (q < n) ∧ (q = Uu x n) ∧ Sep G W Rs w') := by
 refine zq (args := [.int .i64 (x), .int .i64 ((n : Nat) : Int)]) Try.func17 rfl rfl ?_
 refine zd ?_
 refine za (by kernel_rfl) (fun _ => ?_)
 refine st (zf (v := .int .i64 (0)) rfl ?_)
 refine zg ?_
 refine zd ?_
 refine zd ?_
 refine za (by kernel_rfl) (fun _ => ?_)
 refine st (zb (v := .int .i64 ((n : Nat) : Int)) rfl ?_)
 refine st (zJ (k := .i64) (a := ((n : Nat) : Int)) (b := 1) rfl rfl ?_)
 refine zg ?_
 cases hc1 : decide (((n : Nat) : Int) < 1)
 ·skip
  have hc1 := of_decide_eq_false hc1
  refine zk rfl ?_
  refine zp ?_
  refine zd ?_
  refine za (by kernel_rfl) (fun _ => ?_)
  refine st (zb (v := .int .i64 (x)) rfl ?_)
  refine st (zb (v := .int .i64 ((n : Nat) : Int)) rfl ?_)
  have h03 : (0 : Int) < ((n : Nat) : Int) := by omega
  have hr4 := Int.tmod_lt_of_pos x h03; have hr5 := Int.lt_tmod_of_pos x h03
  obtain ⟨rm2, hr6⟩ : ∃ z, Int.tmod x ((n : Nat) : Int) = z := ⟨_, rfl⟩; rw [hr6] at hr4 hr5
  refine st (Qs (r := rm2) rfl rfl h03 hr6 ?_)
  refine st (zf (v := .int .i64 (rm2)) rfl ?_)
  refine zg ?_
  refine zd ?_
  refine zd ?_
  refine za (by kernel_rfl) (fun _ => ?_)
  refine st (zb (v := .int .i64 (rm2)) rfl ?_)
  refine st (zJ (k := .i64) (a := rm2) (b := 0) rfl rfl ?_)
  refine zg ?_
  cases hc7 : decide (rm2 < 0)
  ·skip
   have hc7 := of_decide_eq_false hc7
   refine zk rfl ?_
   refine zp ?_
   refine zd ?_
   refine za (by kernel_rfl) (fun _ => ?_)
   refine st (zb (v := .int .i64 (rm2)) rfl ?_)
   refine st (zf (v := .int .i64 (rm2)) rfl ?_)
   refine zg ?_
   refine zw ?_
   refine zM Try.results17 (show _ = (.int .i64 (rm2) : Value) from rfl) ?_
   refine ⟨(rm2).toNat, ?_, ?_, ?_, hS0⟩
   · rw [Int.toNat_of_nonneg (by omega)]
   · omega
   · refine Wy ?_
     first | (rw [if_pos (by omega)]; omega) | (rw [if_neg (by omega)]; omega)
  ·skip
   have hc7 := of_decide_eq_true hc7
   refine zm rfl ?_
   refine za (by kernel_rfl) (fun _ => ?_)
   refine st (zb (v := .int .i64 (rm2)) rfl ?_)
   refine st (zb (v := .int .i64 ((n : Nat) : Int)) rfl ?_)
   have hr8 : InR (rm2 + ((n : Nat) : Int)) := by omega
   refine st (zU (r := rm2 + ((n : Nat) : Int)) (k := .i64) (a := rm2) (b := ((n : Nat) : Int)) rfl rfl (zH hr8) ?_)
   refine st (zf (v := .int .i64 (rm2 + ((n : Nat) : Int))) rfl ?_)
   refine zg ?_
   refine zd ?_
   refine za (by kernel_rfl) (fun _ => ?_)
   refine st (zb (v := .int .i64 (rm2 + ((n : Nat) : Int))) rfl ?_)
   refine st (zf (v := .int .i64 (rm2 + ((n : Nat) : Int))) rfl ?_)
   refine zg ?_
   refine zw ?_
   refine zM Try.results17 (show _ = (.int .i64 (rm2 + ((n : Nat) : Int)) : Value) from rfl) ?_
   refine ⟨(rm2 + ((n : Nat) : Int)).toNat, ?_, ?_, ?_, hS0⟩
   · rw [Int.toNat_of_nonneg (by omega)]
   · omega
   · refine Wy ?_
     first | (rw [if_pos (by omega)]; omega) | (rw [if_neg (by omega)]; omega)
 ·skip
  have hc1 := of_decide_eq_true hc1
  refine zm rfl ?_
  refine zd ?_
  refine za (by kernel_rfl) (fun _ => ?_)
  refine st (zf (v := .int .i64 (0)) rfl ?_)
  refine zg ?_
  refine zw ?_
  refine zM Try.results17 (show _ = (.int .i64 (0) : Value) from rfl) ?_
  refine ⟨0, ?_, ?_, ?_, hS0⟩
  · exfalso; omega
  · exfalso; omega
  · exfalso; omega

def Part (n : Nat) (S T : List Ev) : Prop := Good n T ∧ ∀ x ∈ T, x ∈ S
section
variable {n : Nat} {S T : List Ev} {e x : Ev} {i k f len : Nat}
theorem Vo (h : x ∈ T) : x ∈ addL n T e := by
  unfold addL
  split
  · exact xC.2 (.inr h)
  · exact h
theorem Part.has (hG : Good n S) (h : Part n S T) (hk : k < S.length) (hK : ∀ x ∈ S.take k, x ∈ T) : S.getD k default ∈ addL n T (S.getD k default) := by
  by_cases hm : S.getD k default ∈ T
  · exact Vo hm
  · have h0 : xA n T (S.getD k default) = 0 := by
      refine hG.sub_add h.1 h.2 (Yk hk) hm (fun x hx hlt => ?_)
      obtain ⟨j, hj, rfl⟩ := List.getElem_of_mem hx
      rw [← zo default hj] at hlt ⊢
      rcases Nat.lt_trichotomy j k with h1 | h1 | h1
      · exact hK _ (VN h1 hj)
      · subst h1; rw [yT] at hlt; omega
      · exact absurd (hG.at_lt h1 hj) (Yc hlt)
    rw [Zl h0]
    exact xC.2 (.inl rfl)
theorem Part.all (hG : Good n S) (h : Part n S T) (hK : ∀ x ∈ S.take k, x ∈ T) (hk : S.length ≤ k) : T = S := by
  rw [List.take_of_length_le hk] at hK
  exact hG.of_mem h.1 (fun x => ⟨h.2 x, hK x⟩)
end
end Go.Proofs.Ytgjgmojjeehieaa
end
