/- Steps of the proofs of this seat: part Fns10. -/
import Derived.Test.YtbbhpddgjiifmaaSrt3
set_option linter.unusedSimpArgs false
set_option linter.unusedVariables false
namespace Go.Proofs.Ytbbhpddgjiifmaa
open Go.Proofs Go.RowKit

theorem C_by {w : World}  : Ret Try.prog 32 [.func (.func 28) #[] #[]] w (fun r w' => ∃ cb, r = .func (.func 39) #[] #[.pointer (some ⟨cb, 0, none⟩)] ∧ w'.heap[cb]? = some (.cells #[.func (.func 28) #[] #[]] 49) ∧ Ext w w' ∧ w.heap.size ≤ cb) := by
  refine Calls_of_WP (args := [.func (.func 28) #[] #[]]) Try.func32 rfl rfl ?_
  refine WP_seq ?_
  refine WP_region0 (by kernel_rfl) (fun _ => ?_)
  refine st (ov_box (v := .func (.func 28) #[] #[]) rfl (fun w1 b2 hn1 => ?_))
  have hb3 : w1.heap[b2]? = some (.cells #[.func (.func 28) #[] #[]] 49) := hn1.at_
  have hs4 := hn1.size; have hs4e := hn1.eq
  refine st (ov_assign (v := .nilFunc) rfl ?_)
  refine st_nil ?_
  refine WP_seq ?_
  refine WP_region0 (by kernel_rfl) (fun _ => ?_)
  refine st (ov_makeFunc (vals := [.pointer (some ⟨b2, 0, none⟩)]) rfl ?_)
  refine st (ov_assign (v := .func (.func 39) #[] #[.pointer (some ⟨b2, 0, none⟩)]) rfl ?_)
  refine st_nil ?_
  refine WP_ret ?_
  refine fin1 Try.results32 (show _ = (.func (.func 39) #[] #[.pointer (some ⟨b2, 0, none⟩)] : Value) from rfl) ?_
  exact ⟨_, rfl, hb3, hn1.ext, by omega⟩

theorem C_Sort {w : World} {Fl : Nat → Prop} {vl : Value} {l : List Ev} (hl : RdS w Fl vl l) : Ret Try.prog 18 [vl] w (fun r w' => Ext w w' ∧ Fresh 29 w.heap.size w' r (insFrom 0 ((l).length - (0 + 1)) (0 + 1) (l))) := by
  have hls : l.length * 96 ≤ 140737488355328 := hl.small
  refine Calls_of_WP (args := [vl]) Try.func18 rfl rfl ?_
  refine WP_seq ?_
  refine WP_region0 (by kernel_rfl) (fun _ => ?_)
  refine st (ov_assign (v := (.slice none 0 0)) rfl ?_)
  refine st_nil ?_
  refine WP_seq ?_
  refine WP_region0 (by kernel_rfl) (fun _ => ?_)
  refine st (ov_assign (v := (.slice none 0 0)) rfl ?_)
  refine st_nil ?_
  refine WP_seq ?_
  refine WP_seq ?_
  refine WP_region0 (by kernel_rfl) (fun _ => ?_)
  refine st (ov_move (v := vl) rfl ?_)
  refine st (ov_len (n := l.length) Try.underlying22 rfl hl.sl ?_)
  refine st (ov_move (v := .int .i64 (0)) rfl ?_)
  refine st_nil ?_
  refine WP_block ?_
  refine WP_loop (fun m σ wq => ∃ (k : Nat) (vo : Value) (G : Nat → Prop) (ρ : Env), m = l.length - k ∧ σ = setAll ρ [(0, vl), (6, vl), (7, .int .i64 ((l.length : Nat) : Int)), (8, .int .i64 ((k : Nat) : Int)), (3, vo)] ∧ (Ext w wq) ∧ (k ≤ l.length) ∧ (OwnS 29 w.heap.size wq G vo (l.take k)) ∧ (∀ b, G b → w.heap.size ≤ b)) ⟨0, (.slice none 0 0), (fun _ => False), _, rfl, setAll_self ⟨rfl, rfl, rfl, rfl, rfl, trivial⟩, (Chg.refl _ _), Nat.zero_le _, OwnS.nil _ _ _ _ (fun _ h => h.elim), (fun _ h => h.elim)⟩ ?_
  rintro m5 σ6 w1 ⟨k, vo, G, ρ1, rfl, rfl, hx1, hk2, ho3, hF4⟩
  have hx1s := hx1.size
  refine WP_seq ?_
  refine WP_region0 (by kernel_rfl) (fun _ => ?_)
  refine st (ov_lss (k := .i64) (a := ((k : Nat) : Int)) (b := ((l.length : Nat) : Int)) rfl rfl ?_)
  refine st_nil ?_
  refine WP_seq ?_
  cases hc7 : decide (((k : Nat) : Int) < ((l.length : Nat) : Int))
  · skip
    have hc7 := of_decide_eq_false hc7
    refine WP_cond_f rfl ?_
    refine WP_exit ?_
    refine blk_exit ?_
    refine WP_seq ?_
    refine WP_region0 (by kernel_rfl) (fun _ => ?_)
    refine st (ov_move (v := vo) rfl ?_)
    refine st (ov_call (f := 32) (vals := [.func (.func 28) #[] #[]]) (cap := []) (show _ = (.func (.func 32) #[] #[] : Value) from rfl) rfl Try.call32 C_by ?_)
    rintro _ w2 ⟨cb8, rfl, hcb9, hx10, hlo11⟩
    have hx10s := hx10.size
    have hne12 : vo.ownBlock ≠ some cb8 := fun e => by have := (ho3.lt _ e).2; omega
    have h13 := ho3.ext hx10
    refine st (ov_call (f := 31) (vals := [vo, .func (.func 39) #[] #[.pointer (some ⟨cb8, 0, none⟩)]]) (cap := []) (show _ = (.func (.func 31) #[] #[] : Value) from rfl) rfl Try.call31 (C_sortStable  h13 hcb9  hne12) ?_)
    rintro _ w3 ⟨rfl, ho15, hch14⟩
    have hch14s := hch14.size
    have h16 := hch14.keep hcb9 (fun e => hne12 e)
    refine st_nil ?_
    refine WP_seq ?_
    refine WP_region0 (by kernel_rfl) (fun _ => ?_)
    refine st (ov_move (v := vo) rfl ?_)
    refine st (ov_assign (v := vo) rfl ?_)
    refine st_nil ?_
    refine WP_ret ?_
    refine fin1 Try.results18 (show _ = (vo : Value) from rfl) ?_
    have hz := List.take_of_length_le (l := l) (i := k) (by omega)
    rw [hz] at ho15
    exact ⟨(Chg.new (Chg.trans hx1 hx10) hch14 (fun i hi hO => by have := (ho3.lt i hO).1; omega)), G, ho15, hF4⟩
  · skip
    have hc7 := of_decide_eq_true hc7
    refine WP_cond_t rfl ?_
    refine WP_skip ?_
    refine WP_seq ?_
    refine WP_block ?_
    refine WP_seq ?_
    refine WP_region0 (by kernel_rfl) (fun _ => ?_)
    have hi17 : k < l.length := by omega
    have h19 := hl.ext hx1
    have hi18 : k < l.length := by omega
    obtain ⟨hc18, hd18, hok18⟩ := h19.ev hi18
    refine st (ov_indexAddrN (k := 10) (i := k) Try.underlying22 Try.sizeOf29 rfl hl.sl rfl hi17 ?_)
    refine st (ov_loadk (k := 10) Try.isAgg29 Try.sizeOf29 rfl rfl hc18 ?_)
    refine st (ov_alloc Try.zeroValue29 (fun w4 b21 hn20 => ?_))
    have hb22 : w4.heap[b21]? = some (.cells #[.int .i64 (0), .int .i64 (0), .int .i64 (0), (.slice none 0 0), .int .i64 (0), .int .i64 (0), .int .i64 (0), .int .i64 (0), .int .i64 (0), .int .i64 (0)] 29) := hn20.at_
    have hs23 := hn20.size; have hs23e := hn20.eq
    refine stn (ov_store (v := .agg ((l[k]).cells (cellV w1 (sb vl) (so vl + k * 10 + 3))).toArray) (c' := ((l[k]).cells (cellV w1 (sb vl) (so vl + k * 10 + 3))).toArray) Try.sizeOf29 rfl rfl hb22 (all1 ⟨rfl, rfl, rfl, hd18.sl.one, rfl, rfl, rfl, rfl, rfl, rfl, trivial⟩) (Nat.le_of_ble_eq_true rfl) rfl (fun w5 hp24 => ?_))
    have hs25 := hp24.size
    refine st_nil ?_
    refine WP_seq ?_
    refine WP_region0 (by kernel_rfl) (fun _ => ?_)
    refine st (fa29_2 rfl ?_)
    refine st (ov_load1 (v := (cellV w1 (sb vl) (so vl + k * 10 + 3))) Try.isAgg27 rfl (blk_cellL hp24.at_ rfl) ?_)
    have h26 := hd18.ext (Chg.new hn20.ext hp24.chg (fun i hi hO => by subst hO; omega))
    refine st (ov_call (f := 30) (vals := [(cellV w1 (sb vl) (so vl + k * 10 + 3))]) (cap := []) (show _ = (.func (.func 30) #[] #[] : Value) from rfl) rfl Try.call30 (C_CloneInts h26) ?_)
    rintro v29 w6 ⟨hx27, hf28⟩
    have hx27s := hx27.size
    have hf28r := hf28.rd
    refine st (fa29_2 rfl ?_)
    have h30 := hx27.keep hp24.at_ (fun h => h)
    refine stn (ov_store1 (v := v29) (c := [.int .i64 ((l[k]).origin), .int .i64 ((l[k]).seq), .int .i64 ((l[k]).lam), (cellV w1 (sb vl) (so vl + k * 10 + 3)), .int .i64 ((l[k]).typ), .int .i64 ((l[k]).agg), .int .i64 ((l[k]).field), .int .i64 ((l[k]).op), .int .i64 ((l[k]).arg), .int .i64 ((l[k]).key)]) (c' := [.int .i64 ((l[k]).origin), .int .i64 ((l[k]).seq), .int .i64 ((l[k]).lam), v29, .int .i64 ((l[k]).typ), .int .i64 ((l[k]).agg), .int .i64 ((l[k]).field), .int .i64 ((l[k]).op), .int .i64 ((l[k]).arg), .int .i64 ((l[k]).key)]) Try.sizeOf27 rfl rfl h30 hf28r.sl.one rfl rfl (fun w7 hp31 => ?_))
    have hs32 := hp31.size
    refine st_nil ?_
    refine WP_region0 (by kernel_rfl) (fun _ => ?_)
    refine st (ov_move (v := vo) rfl ?_)
    refine st (ov_loadk (k := 10) Try.isAgg29 Try.sizeOf29 rfl rfl (CellsAt.all hp31.at_) ?_)
    refine st (ov_buildSlice (k := 10) (parts' := [(0, .agg ((l[k]).cells v29).toArray)]) (c := ((l[k]).cells v29).toArray) Try.underlying22 Try.sizeOf29 Try.zeroValue29 (by decide) rfl (by kernel_rfl) (fun w8 b34 hn33 => ?_))
    have hb35 : w8.heap[b34]? = some (.cells ((l[k]).cells v29).toArray 29) := hn33.at_
    have hs36 := hn33.size; have hs36e := hn33.eq
    have h37 := ((hf28.put hp31.chg (by omega)).ext hn33.ext)
    have h38 := ho3.ext (Chg.trans (Chg.new (Chg.trans (Chg.new hn20.ext hp24.chg (fun i hi hO => by subst hO; omega)) hx27) hp31.chg (fun i hi hO => by subst hO; omega)) hn33.ext)
    refine st (ov_append1 (bytes := 96) (x1 := l[k]) (F' := (fun b => G b ∨ v29.ownBlock = some b)) elem22 rfl h38 rfl hb35 (G := (fun b => G b ∨ v29.ownBlock = some b)) (show Rep.rd _ _ _ _ from ⟨_, rfl, (h37.rdInt).weak (fun _ _ h => .inr h), hok18⟩) (fun _ h => .inl h) (fun _ _ h => h) (fun b hb h => h.elim (ho3.apart b hb) (fun h => by have h1 := (ho3.lt b hb).2; have h2 := (hf28.lt b h).1; omega)) (fun b h => h.elim (h38.bound b) (fun h => (h37.lt b h).2)) (by omega) (by first | omega | (simp only [List.length_take, List.length_drop, List.length_nil, List.length_append, List.length_cons]; omega)) rfl (fun v39 w9 ho40 hch41 => ?_))
    have hla42 : (l.take k ++ [l[k]]).length = (l.take k).length + 1 := by simp only [List.length_append, List.length_cons, List.length_nil]
    have hs43 := hch41.size
    refine st (ov_assign (v := v39) rfl ?_)
    refine st_nil ?_
    refine WP_region0 (by kernel_rfl) (fun _ => ?_)
    have hr44 : InR ((k + 1 : Nat) : Int) := by omega
    refine st (ov_add (r := ((k + 1 : Nat) : Int)) (k := .i64) (a := ((k : Nat) : Int)) (b := 1) rfl rfl (by rw [show (((k : Nat) : Int) + 1 : Int) = ((k + 1 : Nat) : Int) by omega]; exact wrap_in hr44) ?_)
    refine st (ov_move (v := .int .i64 ((k + 1 : Nat) : Int)) rfl ?_)
    refine st_nil ?_
    exact ⟨_, by omega, k + 1, v39, (fun b => G b ∨ v29.ownBlock = some b), _, rfl, setAll_self ⟨rfl, rfl, rfl, rfl, rfl, trivial⟩, (Chg.new (Chg.trans (Chg.new (Chg.trans (Chg.new (Chg.trans hx1 hn20.ext) hp24.chg (fun i hi hO => by subst hO; omega)) hx27) hp31.chg (fun i hi hO => by subst hO; omega)) hn33.ext) hch41 (fun i hi hO => by have := (h38.lt i hO).1; omega)), by omega, (by rw [List.take_succ_eq_append_getElem (by omega)]; exact ho40), (fun b h => h.elim (hF4 b) (fun h => by have := (hf28.lt b h).1; omega))⟩

end Go.Proofs.Ytbbhpddgjiifmaa
