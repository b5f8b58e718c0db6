/- Steps of the proofs of this seat: part S2. -/
import Derived.Test.YtbbpmhfcgoljdaaS1
import Derived.Test.YtbbpmhfcgoljdaaClone
set_option linter.unusedSimpArgs false
set_option linter.unusedVariables false
namespace Go.Proofs.Ytbbpmhfcgoljdaa
open Go.Proofs Go.RowKit

/-- A map of rows. -/
def MapF (m : Nat) (L : List (Int × Row)) : HP := ⟨fun w f => f m ∧ MapR (α := Row) w (fun _ => False) m L, fun ⟨h1, h2⟩ hf => ⟨(hf _ h1 h2.lt).2, h2.mono (hf _ h1 h2.lt).1 (fun _ h => h.elim)⟩⟩
/-- The program's object. -/
def ProjO (a : Nat) (p : Prj) (L : List (Int × Row)) : HP := And1 p.Ok (Ex1 fun m => Star [Blk a #[.int .i64 (p.ptyp), .int .i64 (p.pfield), .int .i64 (p.pgroup), .int .i64 (p.pby), .int .i64 (p.pmake), .map (some m)] 58, MapF m L])
theorem ProjO.mk {w : World} {f : Nat → Prop} {a m : Nat} {p : Prj} {L : List (Int × Row)} (op : p.Ok) (hb : w.heap[a]? = some (.cells #[.int .i64 (p.ptyp), .int .i64 (p.pfield), .int .i64 (p.pgroup), .int .i64 (p.pby), .int .i64 (p.pmake), .map (some m)] 58)) (hm : MapR (α := Row) w (fun _ => False) m L) (hne : a ≠ m) (ha : f a) (hfm : f m) : (ProjO a p L).p w f := by
  refine ⟨op, m, fun i b => match i with | 0 => b = a | 1 => b = m | _ => False, fun i A hA => ?_, fun i j hi hj hij b hb1 hb2 => ?_⟩
  · match i, hA with
    | 0, hA => simp only [List.getElem?_cons_zero, Option.some.injEq] at hA; subst hA; exact ⟨⟨hb, rfl⟩, fun b h => by subst h; exact ⟨ha, blk_lt hb⟩⟩
    | 1, hA => simp only [List.getElem?_cons_succ, List.getElem?_cons_zero, Option.some.injEq] at hA; subst hA; exact ⟨⟨rfl, hm⟩, fun b h => by subst h; exact ⟨hfm, hm.lt⟩⟩
    | _ + 2, hA => simp at hA
  · match i, j, hb1, hb2 with
    | 0, 0, _, _ => exact hij rfl
    | 0, 1, h1, h2 => exact hne (h1.symm.trans h2)
    | 1, 0, h1, h2 => exact hne (h2.symm.trans h1)
    | 1, 1, _, _ => exact hij rfl
    | _ + 2, _, h, _ => exact h
    | 0, _ + 2, _, h => exact h
    | 1, _ + 2, _, h => exact h
theorem ProjO.get {w : World} {f : Nat → Prop} {a : Nat} {p : Prj} {L : List (Int × Row)} (h : (ProjO a p L).p w f) : p.Ok ∧ ∃ m, w.heap[a]? = some (.cells #[.int .i64 (p.ptyp), .int .i64 (p.pfield), .int .i64 (p.pgroup), .int .i64 (p.pby), .int .i64 (p.pmake), .map (some m)] 58) ∧ MapR (α := Row) w (fun _ => False) m L ∧ a ≠ m ∧ f a ∧ f m := by
  obtain ⟨op, m, fs, h1, h2⟩ := h
  obtain ⟨hA, hfA⟩ := h1 0 _ rfl
  obtain ⟨hB, hfB⟩ := h1 1 _ rfl
  exact ⟨op, m, hA.1, hB.2, fun e => h2 0 1 (by simp) (by simp) (by simp) a hA.2 (e ▸ hB.1), (hfA a hA.2).1, (hfB m hB.1).1⟩
theorem ProjO.open {G : Nat → Prop} {W w : World} {As : List HP} {a : Nat} {p : Prj} {L : List (Int × Row)} (h : Sep G W (ProjO a p L :: As) w) : p.Ok ∧ ∃ m, Sep G W (Blk a #[.int .i64 (p.ptyp), .int .i64 (p.pfield), .int .i64 (p.pgroup), .int .i64 (p.pby), .int .i64 (p.pmake), .map (some m)] 58 :: MapF m L :: As) w := by
  obtain ⟨h1, h2⟩ := h.openAnd
  obtain ⟨v, h3⟩ := h2.openEx
  exact ⟨h1, v, h3.openStar⟩
theorem ProjO.close {G : Nat → Prop} {W w : World} {As : List HP} {a m : Nat} {p : Prj} {L : List (Int × Row)} (hp : p.Ok) (h : Sep G W (Blk a #[.int .i64 (p.ptyp), .int .i64 (p.pfield), .int .i64 (p.pgroup), .int .i64 (p.pby), .int .i64 (p.pmake), .map (some m)] 58 :: MapF m L :: As) w) : Sep G W (ProjO a p L :: As) w :=
  Sep.closeAnd hp (Sep.closeEx (A := fun m => Star [Blk a #[.int .i64 (p.ptyp), .int .i64 (p.pfield), .int .i64 (p.pgroup), .int .i64 (p.pby), .int .i64 (p.pmake), .map (some m)] 58, MapF m L]) m (Sep.closeStar (Bs := [Blk a #[.int .i64 (p.ptyp), .int .i64 (p.pfield), .int .i64 (p.pgroup), .int .i64 (p.pby), .int .i64 (p.pmake), .map (some m)] 58, MapF m L]) h))

theorem D_New {G : Nat → Prop} {W w : World} {Rs : List HP} {p : Prj} (op : p.Ok) (hS0 : Sep G W Rs w) : Ret Try.prog 17 [.agg (p.cells).toArray] w (fun r w' => ∃ (a : Nat), r = (.pointer (some ⟨a, 0, none⟩) : Value) ∧ Sep G W ((ProjO a p []) :: Rs) w') := by
  refine Ret.mono (C_New op) ?_
  rintro r w1 ⟨a, m, rfl, hx, ha, hm, hne, hb, hmr⟩
  exact ⟨a, rfl, hS0.push hx (ProjO.mk op hb hmr hne (f := fun b => w.heap.size ≤ b) ha hm) (fun _ h => h)⟩

theorem D_Add {G : Nat → Prop} {W w : World} {Rs : List HP} {a : Nat} {p : Prj} {L : List (Int × Row)} {e : Ent} {de0 : Value} (hde0 : RdS W G de0 e.ev.deps) (oe : e.Ok) {reg : Int} (hreg : InR reg) (hS0 : Sep G W ((ProjO a p L) :: Rs) w) (hcnt : ∀ g, ((lookM L g).getD (⟨0, 0, 0⟩ : Row)).count < 4611686018427387904) : Ret Try.prog 19 [.pointer (some ⟨a, 0, none⟩), .agg (e.cells de0).toArray, .int .i64 (reg)] w (fun r w' => r = (.tuple #[] : Value) ∧ Sep G W ((ProjO a p (addM p L e reg)) :: Rs) w') := by
  obtain ⟨f, hA, hl, hT⟩ := hS0.take (i := 0) rfl
  obtain ⟨op, m, hb, hm, hne, hfa, hfm⟩ := ProjO.get hA
  refine Ret.mono (C_Add hb op hm hne (hS0.rds hde0) oe hreg hcnt) ?_
  rintro r w1 ⟨rfl, hm2, hch⟩
  exact ⟨rfl, hT w1 _ f (hch.weak (fun i _ h => by subst h; exact hfm)) (ProjO.mk op (hch.keep hb hne) hm2 hne hfa hfm) (fun _ h => .inl h)⟩

theorem D_List {G : Nat → Prop} {W w : World} {Rs : List HP} {a : Nat} {p : Prj} {L : List (Int × Row)} (hS0 : Sep G W ((ProjO a p L) :: Rs) w) (hgrp : ∀ q ∈ L, q.1 = q.2.group) (hLs : L.length ≤ 1000000) : Ret Try.prog 23 [.pointer (some ⟨a, 0, none⟩)] w (fun r w' => ∃ (v : Value), r = (v : Value) ∧ Sep G W ((ProjO a p L) :: (RowE (α := Row) own 31 v (srtR (L.map (·.2)))) :: Rs) w') := by
  obtain ⟨f, hA, hl⟩ := hS0.get (i := 0) rfl
  obtain ⟨op, m, hb, hm, hne, hfa, hfm⟩ := ProjO.get hA
  refine Ret.mono (C_List hb op hm hne hgrp hLs) ?_
  rintro r w1 ⟨hx, hF⟩
  exact ⟨r, rfl, (hS0.push hx (RowE.ofFresh hF) (fun _ h => h)).sel 2 [1, 0] (Nat.le_add_left _ _) rfl rfl⟩

theorem D_SameRows {G : Nat → Prop} {W w : World} {Rs : List HP} {vx : Value} {x : List Row} (hx : RdS W G vx x) {vy : Value} {y : List Row} (hy : RdS W G vy y) (hS0 : Sep G W Rs w) : Ret Try.prog 15 [vx, vy] w (fun r w' => r = (.bool (decide (x = y)) : Value) ∧ Sep G W Rs w') := by
  refine Ret.mono (C_SameRows (hS0.rds hx) (hS0.rds hy)) ?_
  rintro r w1 ⟨rfl, hx⟩
  exact ⟨rfl, hS0.ext hx⟩

theorem D_Long {G : Nat → Prop} {W w : World} {Rs : List HP} {vl : Value} {l : List Ent} (hl : RdS W G vl l) (hS0 : Sep G W Rs w) : Ret Try.prog 9 [vl] w (fun r w' => ∃ (bb : Bool), r = (.bool bb : Value) ∧ (bb = false → l.length ≤ 300) ∧ Sep G W Rs w') := by
  refine Ret.mono (C_Long (hS0.rds hl)) ?_
  rintro r w1 ⟨b, rfl, hb, hx⟩
  exact ⟨b, rfl, hb, hS0.ext hx⟩

theorem D_Pick {G : Nat → Prop} {W w : World} {Rs : List HP} {x : Int} (hx : InR x) {n : Nat} (hn : 1 ≤ n ∧ n ≤ 281474976710656) (hS0 : Sep G W Rs w) : Ret Try.prog 14 [.int .i64 (x), .int .i64 ((n : Nat) : Int)] w (fun r w' => ∃ (q : Nat), r = (.int .i64 ((q : Nat) : Int) : Value) ∧ (q < n) ∧ Sep G W Rs w') := by
  refine Ret.mono (C_Pick hx hn.1 hn.2) ?_
  rintro r w1 ⟨q, rfl, hq, hx⟩
  exact ⟨q, rfl, hq, hS0.ext hx⟩

theorem D_reg {G : Nat → Prop} {W w : World} {Rs : List HP} {vg : Value} {g : List Int} (hg : RdS W G vg g) {i : Nat} (hi : i ≤ 1000000) (hS0 : Sep G W Rs w) : Ret Try.prog 13 [vg, .int .i64 ((i : Nat) : Int)] w (fun r w' => r = (.int .i64 (regI g i) : Value) ∧ Sep G W Rs w') := by
  refine Ret.mono (C_reg (hS0.rds hg) hi) ?_
  rintro r w1 ⟨rfl, hx⟩
  exact ⟨rfl, hS0.ext hx⟩

theorem D_works {G : Nat → Prop} {W w : World} {Rs : List HP}  (hS0 : Sep G W Rs w) : Ret Try.prog 10 [] w (fun r w' => r = (.bool true : Value) ∧ Sep G W Rs w') := by
  refine Ret.mono C_works ?_
  rintro r w1 ⟨rfl, hx⟩
  exact ⟨rfl, hS0.ext hx⟩

theorem D_clone {G : Nat → Prop} {W w : World} {Rs : List HP} {m : Nat} {L : List (Int × Row)} (hS0 : Sep G W ((MapF m L) :: Rs) w) : Ret Try.prog 30 [.map (some m)] w (fun r w' => ∃ (m2 : Nat), r = (.map (some m2) : Value) ∧ Sep G W ((MapF m L) :: (MapF m2 L) :: Rs) w') := by
  refine Calls_of_WP (args := [.map (some m)]) Try.func30 rfl rfl ?_
  refine WP_seq ?_
  refine WP_region0 (by kernel_rfl) (fun _ => ?_)
  refine st (ov_assign (v := .map none) rfl ?_)
  refine st_nil ?_
  refine WP_seq ?_
  refine WP_seq ?_
  refine WP_region0 (by kernel_rfl) (fun _ => ?_)
  refine st (ov_move (v := .map (some m)) rfl ?_)
  refine st (ov_eqlMap (m := m) Try.underlying56 rfl ?_)
  refine st_nil ?_
  refine WP_cond_f rfl ?_
  refine WP_skip ?_
  refine WP_seq ?_
  refine WP_region0 (by kernel_rfl) (fun _ => ?_)
  refine st (ov_move (v := .map (some m)) rfl ?_)
  refine st (ov_makeIface (v := .map (some m)) Try.underlying56 rfl ?_)
  obtain ⟨f1, ⟨_, hz2⟩, hl3⟩ := hS0.get (i := 0) rfl
  refine st (ov_cloneMap (α := Row) (f := 34) (t := 56) (m := m) (show _ = (.func (.func 34) #[] #[] : Value) from rfl) rfl (fun a w => run_callFunc_extern Try.func34 (by kernel_rfl) (by kernel_rfl) (by kernel_rfl) (e := Extern.MapsClone.clone) (by kernel_rfl) a w) hz2 ?_)
  intro w4 hx5 hs6 hm7
  obtain ⟨m8, m8e⟩ : ∃ z, z = w.heap.size := ⟨_, rfl⟩; rw [← m8e] at hm7 ⊢
  have hS9 : Sep G W ((MapF m8 L) :: (MapF m L) :: Rs) w4 := hS0.push hx5 (B := MapF m8 L) (f := fun i => i = m8) ⟨rfl, hm7⟩ (fun i hi => by omega)
  refine st (ov_assertMap (v := .map (some m8)) Try.underlying56 rfl ?_)
  refine st (ov_assign (v := .map (some m8)) rfl ?_)
  refine st_nil ?_
  refine WP_ret ?_
  refine fin1 Try.results30 (show _ = (.map (some m8) : Value) from rfl) ?_
  have hS10 : Sep G W ((MapF m L) :: (MapF m8 L) :: Rs) w4 := hS9.sel 2 [1, 0] (Nat.le_add_left _ _) rfl rfl
  refine ⟨m8, rfl, hS10⟩

theorem fd58_0 {d : Option Tmp} {ty : TypeId} {pos : String} {af : Array Edge} {g : Option (Nat × Bool)} {σ : Env} {w : World} {K : Value → World → Prop} {x : Operand} {b o : Nat} (hx : ev σ x = .pointer (some ⟨b, o, none⟩)) (h : K (.pointer (some ⟨b, o + 0, none⟩)) w) : opV Try.prog ⟨d, .fieldAddr 58 x 0, ty, pos, af, g⟩ σ w K := ov_fieldAddr Try.underlying58 rfl rfl (fun w => ⟨4, Try.sizeOf23 w⟩) hx h
theorem fd58_1 {d : Option Tmp} {ty : TypeId} {pos : String} {af : Array Edge} {g : Option (Nat × Bool)} {σ : Env} {w : World} {K : Value → World → Prop} {x : Operand} {b o : Nat} (hx : ev σ x = .pointer (some ⟨b, o, none⟩)) (h : K (.pointer (some ⟨b, o + 5, none⟩)) w) : opV Try.prog ⟨d, .fieldAddr 58 x 1, ty, pos, af, g⟩ σ w K := ov_fieldAddr Try.underlying58 rfl rfl (fun w => ⟨0, Try.sizeOf56 w⟩) hx h
theorem D_Copy {G : Nat → Prop} {W w : World} {Rs : List HP} {a : Nat} {p : Prj} {L : List (Int × Row)} (hS0 : Sep G W ((ProjO a p L) :: Rs) w) : Ret Try.prog 21 [.pointer (some ⟨a, 0, none⟩)] w (fun r w' => ∃ (a2 : Nat), r = (.pointer (some ⟨a2, 0, none⟩) : Value) ∧ Sep G W ((ProjO a p L) :: (ProjO a2 p L) :: Rs) w') := by
  refine Calls_of_WP (args := [.pointer (some ⟨a, 0, none⟩)]) Try.func21 rfl rfl ?_
  obtain ⟨op1, m2, hS3⟩ := ProjO.open hS0
  have hS3t : Sep G W ((Blk a #[.int .i64 (p.ptyp), .int .i64 (p.pfield), .int .i64 (p.pgroup), .int .i64 (p.pby), .int .i64 (p.pmake), .map (some m2)] 58) :: (MapF m2 L) :: Rs) w := hS3
  refine WP_seq ?_
  refine WP_region0 (by kernel_rfl) (fun _ => ?_)
  refine st (ov_assign (v := .pointer none) rfl ?_)
  refine st_nil ?_
  refine WP_seq ?_
  refine WP_draw4 (WF [fun vals wq => Sep G W ((Blk a #[.int .i64 (p.ptyp), .int .i64 (p.pfield), .int .i64 (p.pgroup), .int .i64 (p.pby), .int .i64 (p.pmake), .map (some m2)] 58) :: (MapF m2 L) :: Rs) wq, fun vals wq => ∃ (m270 : Nat), (vals 8 = (.map (some m270) : Value)) ∧ Sep G W ((MapF m2 L) :: (MapF m270 L) :: (Blk a #[.int .i64 (p.ptyp), .int .i64 (p.pfield), .int .i64 (p.pgroup), .int .i64 (p.pby), .int .i64 (p.pmake), .map (some m2)] 58) :: Rs) wq, fun vals wq => ∃ (m270 : Nat) (b91 : Nat), (vals 8 = (.map (some m270) : Value)) ∧ (vals 10 = (.pointer (some ⟨b91, 0, none⟩) : Value)) ∧ Sep G W ((Blk b91 #[.int .i64 (p.ptyp), .int .i64 (p.pfield), .int .i64 (p.pgroup), .int .i64 (p.pby), .int .i64 (p.pmake), .map (some m270)] 58) :: (MapF m2 L) :: (MapF m270 L) :: (Blk a #[.int .i64 (p.ptyp), .int .i64 (p.pfield), .int .i64 (p.pgroup), .int .i64 (p.pby), .int .i64 (p.pmake), .map (some m2)] 58) :: Rs) wq]) (AF [fun vals => vals 0 = (.pointer (some ⟨a, 0, none⟩) : Value), fun vals => vals 1 = (.pointer (some ⟨a, 0, none⟩) : Value), fun vals => vals 2 = (.pointer (some ⟨a, 0, none⟩) : Value), fun vals => vals 3 = (.agg (p.cells).toArray : Value), fun vals => vals 4 = (.pointer (some ⟨a, 0, none⟩) : Value), fun vals => vals 5 = (.pointer (some ⟨a, 0, none⟩) : Value), fun vals => vals 6 = (.pointer (some ⟨a, 5, none⟩) : Value), fun vals => vals 7 = (.map (some m2) : Value), fun _ => True, fun vals => ∀ (m270 : Nat), vals 8 = (.map (some m270) : Value) → vals 9 = (.agg #[.int .i64 (p.ptyp), .int .i64 (p.pfield), .int .i64 (p.pgroup), .int .i64 (p.pby), .int .i64 (p.pmake), .map (some m270)] : Value), fun _ => True, fun vals => ∀ (b91 : Nat), vals 10 = (.pointer (some ⟨b91, 0, none⟩) : Value) → vals 11 = (.pointer (some ⟨b91, 0, none⟩) : Value)]) [[], [0], [0, 1], [0, 1, 2], [], [4], [4, 5], [4, 5, 6], [4, 5, 6, 7], [0, 1, 2, 3, 4, 5, 6, 7, 8], [0, 1, 2, 3, 4, 5, 6, 7, 8, 9], [0, 1, 2, 3, 4, 5, 6, 7, 8, 9, 10]] [8, 10] [(0, 1), (0, 1), (0, 1), (0, 1), (0, 0), (0, 0), (0, 0), (0, 0), (0, 0), (1, 1), (1, 1), (2, 2)] (by kernel_rfl) (by kernel_rfl) (by kernel_rfl) rfl (by kernel_rfl) (by kernel_rfl) (fun _ h1 h2 h3 h4 _ => hS3t.same h1 h2 h3 h4) ?_ ?_ ⟨?_, ?_, ?_, ?_, ?_, ?_, ?_, ?_, ?_, ?_, ?_, ?_, trivial⟩ ?_
  · intro k vals vals' w hv h
    have e : ∀ j ∈ ([8, 10] : List Nat), vals' j = vals j := hv
    match k, h with
    | 0, h => exact h
    | 1, h => exact (by simpa only [WF, List.getElem?_cons_zero, List.getElem?_cons_succ, e 8 (by decide)] using h)
    | 2, h => exact (by simpa only [WF, List.getElem?_cons_zero, List.getElem?_cons_succ, e 8 (by decide), e 10 (by decide)] using h)
    | _ + 3, _ => trivial
  · intro i vals vals' hv h
    match i, hv, h with
    | 0, hv, h => exact (hv 0 (.inl rfl)).trans h
    | 1, hv, h => exact (hv 1 (.inl rfl)).trans h
    | 2, hv, h => exact (hv 2 (.inl rfl)).trans h
    | 3, hv, h => exact (hv 3 (.inl rfl)).trans h
    | 4, hv, h => exact (hv 4 (.inl rfl)).trans h
    | 5, hv, h => exact (hv 5 (.inl rfl)).trans h
    | 6, hv, h => exact (hv 6 (.inl rfl)).trans h
    | 7, hv, h => exact (hv 7 (.inl rfl)).trans h
    | 8, _, _ => trivial
    | 9, hv, h => exact fun m270 hq0 => (hv 9 (.inl rfl)).trans (h m270 ((hv 8 (.inr (by decide))).symm.trans hq0))
    | 10, _, _ => trivial
    | 11, hv, h => exact fun b91 hq0 => (hv 11 (.inl rfl)).trans (h b91 ((hv 10 (.inr (by decide))).symm.trans hq0))
    | _ + 12, _, _ => trivial
  · intro k102 vals w103 h106 h107 hW105 hA104
    refine obl rfl ?_
    exact ov_move (v := .pointer (some ⟨a, 0, none⟩)) rfl (fun vals' hv _ => ⟨rfl, hv⟩)
  · intro k108 vals w109 h112 h113 hW111 hA110
    have e114 : vals 0 = (.pointer (some ⟨a, 0, none⟩) : Value) := hA110 0 (by decide)
    refine obl rfl ?_
    exact ov_nilCheck (b := a) (o := 0) (show _ = (.pointer (some ⟨a, 0, none⟩) : Value) from e114) (fun vals' hv _ => ⟨rfl, hv⟩)
  · intro k115 vals w116 h119 h120 hW118 hA117
    have e121 : vals 1 = (.pointer (some ⟨a, 0, none⟩) : Value) := hA117 1 (by decide)
    refine obl rfl ?_
    exact fd58_0 (show _ = (.pointer (some ⟨a, 0, none⟩) : Value) from e121) (fun vals' hv _ => ⟨rfl, hv⟩)
  · intro k122 vals w123 h126 h127 hW125 hA124
    have hkk : k122 = 0 ∨ k122 = 1 := by have h1 : 0 ≤ k122 := h126; have h2 : k122 ≤ 1 := h127; omega
    rcases hkk with rfl | rfl
    · skip
      have hS128 : Sep G W ((Blk a #[.int .i64 (p.ptyp), .int .i64 (p.pfield), .int .i64 (p.pgroup), .int .i64 (p.pby), .int .i64 (p.pmake), .map (some m2)] 58) :: (MapF m2 L) :: Rs) w123 := hW125
      have e129 : vals 2 = (.pointer (some ⟨a, 0, none⟩) : Value) := hA124 2 (by decide)
      refine obl rfl ?_
      have ok130 : Prj.Ok p := ⟨(show InR (p.ptyp) from op1.ptyp), (show InR (p.pfield) from op1.pfield), (show InR (p.pgroup) from op1.pgroup), (show InR (p.pby) from op1.pby), (show InR (p.pmake) from op1.pmake)⟩
      exact ov_loadk (k := 5) (cs := [.int .i64 (p.ptyp), .int .i64 (p.pfield), .int .i64 (p.pgroup), .int .i64 (p.pby), .int .i64 (p.pmake)]) Try.isAgg23 Try.sizeOf23 rfl (show _ = (.pointer (some ⟨a, 0, none⟩) : Value) from e129) (CellsAt.sub (CellsAt.all (hS128.blk (i := 0) rfl)) 0 (cs2 := [.int .i64 (p.ptyp), .int .i64 (p.pfield), .int .i64 (p.pgroup), .int .i64 (p.pby), .int .i64 (p.pmake)]) rfl) (fun vals' hv _ => ⟨rfl, hv⟩)
    · skip
      obtain ⟨m270, he73, hS131⟩ : ∃ (m270 : Nat), (vals 8 = (.map (some m270) : Value)) ∧ Sep G W ((MapF m2 L) :: (MapF m270 L) :: (Blk a #[.int .i64 (p.ptyp), .int .i64 (p.pfield), .int .i64 (p.pgroup), .int .i64 (p.pby), .int .i64 (p.pmake), .map (some m2)] 58) :: Rs) w123 := hW125
      have e132 : vals 2 = (.pointer (some ⟨a, 0, none⟩) : Value) := hA124 2 (by decide)
      refine obl rfl ?_
      have ok133 : Prj.Ok p := ⟨(show InR (p.ptyp) from op1.ptyp), (show InR (p.pfield) from op1.pfield), (show InR (p.pgroup) from op1.pgroup), (show InR (p.pby) from op1.pby), (show InR (p.pmake) from op1.pmake)⟩
      exact ov_loadk (k := 5) (cs := [.int .i64 (p.ptyp), .int .i64 (p.pfield), .int .i64 (p.pgroup), .int .i64 (p.pby), .int .i64 (p.pmake)]) Try.isAgg23 Try.sizeOf23 rfl (show _ = (.pointer (some ⟨a, 0, none⟩) : Value) from e132) (CellsAt.sub (CellsAt.all (hS131.blk (i := 2) rfl)) 0 (cs2 := [.int .i64 (p.ptyp), .int .i64 (p.pfield), .int .i64 (p.pgroup), .int .i64 (p.pby), .int .i64 (p.pmake)]) rfl) (fun vals' hv _ => ⟨rfl, hv⟩)
  · intro k134 vals w135 h138 h139 hW137 hA136
    refine obl rfl ?_
    exact ov_move (v := .pointer (some ⟨a, 0, none⟩)) rfl (fun vals' hv _ => ⟨rfl, hv⟩)
  · intro k140 vals w141 h144 h145 hW143 hA142
    have e146 : vals 4 = (.pointer (some ⟨a, 0, none⟩) : Value) := hA142 4 (by decide)
    refine obl rfl ?_
    exact ov_nilCheck (b := a) (o := 0) (show _ = (.pointer (some ⟨a, 0, none⟩) : Value) from e146) (fun vals' hv _ => ⟨rfl, hv⟩)
  · intro k147 vals w148 h151 h152 hW150 hA149
    have e153 : vals 5 = (.pointer (some ⟨a, 0, none⟩) : Value) := hA149 5 (by decide)
    refine obl rfl ?_
    exact fd58_1 (show _ = (.pointer (some ⟨a, 0, none⟩) : Value) from e153) (fun vals' hv _ => ⟨rfl, hv⟩)
  · intro k154 vals w155 h158 h159 hW157 hA156
    obtain rfl : k154 = 0 := Nat.le_antisymm h159 h158
    have hS160 : Sep G W ((Blk a #[.int .i64 (p.ptyp), .int .i64 (p.pfield), .int .i64 (p.pgroup), .int .i64 (p.pby), .int .i64 (p.pmake), .map (some m2)] 58) :: (MapF m2 L) :: Rs) w155 := hW157
    have e161 : vals 6 = (.pointer (some ⟨a, 5, none⟩) : Value) := hA156 6 (by decide)
    refine obl rfl ?_
    exact ov_load1 (v := .map (some m2)) Try.isAgg56 (show _ = (.pointer (some ⟨a, 5, none⟩) : Value) from e161) (blk_cellL (hS160.blk (i := 0) rfl) rfl) (fun vals' hv _ => ⟨rfl, hv⟩)
  · intro k61 vals w62 h65 h66 hW64 hA63
    obtain rfl : k61 = 0 := Nat.le_antisymm h66 h65
    have hS67 : Sep G W ((Blk a #[.int .i64 (p.ptyp), .int .i64 (p.pfield), .int .i64 (p.pgroup), .int .i64 (p.pby), .int .i64 (p.pmake), .map (some m2)] 58) :: (MapF m2 L) :: Rs) w62 := hW64
    have e68 : vals 7 = (.map (some m2) : Value) := hA63 7 (by decide)
    refine obl rfl ?_
    have hS69 : Sep G W ((MapF m2 L) :: (Blk a #[.int .i64 (p.ptyp), .int .i64 (p.pfield), .int .i64 (p.pgroup), .int .i64 (p.pby), .int .i64 (p.pmake), .map (some m2)] 58) :: Rs) w62 := hS67.sel 2 [1, 0] (Nat.le_add_left _ _) rfl rfl
    refine (ov_call (f := 30) (vals := [.map (some m2)]) (cap := []) (show _ = (.func (.func 30) #[] #[] : Value) from rfl) (mapL ⟨(show _ = (.map (some m2) : Value) from e68), trivial⟩) Try.call30 (D_clone  hS69) ?_)
    rintro _ w71 ⟨m270, rfl, hS72⟩
    intro vals' hv hv'
    refine ⟨?_, trivial⟩
    show ∃ (m270 : Nat), (vals' 8 = (.map (some m270) : Value)) ∧ Sep G W ((MapF m2 L) :: (MapF m270 L) :: (Blk a #[.int .i64 (p.ptyp), .int .i64 (p.pfield), .int .i64 (p.pgroup), .int .i64 (p.pby), .int .i64 (p.pmake), .map (some m2)] 58) :: Rs) w71
    exact ⟨m270, hv, hS72⟩
  · intro k162 vals w163 h166 h167 hW165 hA164
    obtain rfl : k162 = 1 := Nat.le_antisymm h167 h166
    obtain ⟨m270, he73, hS168⟩ : ∃ (m270 : Nat), (vals 8 = (.map (some m270) : Value)) ∧ Sep G W ((MapF m2 L) :: (MapF m270 L) :: (Blk a #[.int .i64 (p.ptyp), .int .i64 (p.pfield), .int .i64 (p.pgroup), .int .i64 (p.pby), .int .i64 (p.pmake), .map (some m2)] 58) :: Rs) w163 := hW165
    have e169 : vals 3 = (.agg (p.cells).toArray : Value) := hA164 3 (by decide)
    refine obl rfl ?_
    refine ov_build (parts' := [(0, .agg (p.cells).toArray), (1, .map (some m270))]) (v := .agg #[.int .i64 (p.ptyp), .int .i64 (p.pfield), .int .i64 (p.pgroup), .int .i64 (p.pby), .int .i64 (p.pmake), .map (some m270)]) (mapP ⟨rfl, (show _ = (.agg (p.cells).toArray : Value) from e169), rfl, (show _ = (.map (some m270) : Value) from he73), trivial⟩) (by simp [Instr.build, Instr.fill, Ev.cells, go_sem, Ev.cells, Ent.cells, Row.cells, Prj.cells]) (fun vals' hv hv' => ⟨rfl, ?_⟩)
    intro m270q hq0
    rw [hv' 8 (by decide)] at hq0; cases he73.symm.trans hq0
    exact hv
  · intro k82 vals w83 h86 h87 hW85 hA84
    obtain rfl : k82 = 1 := Nat.le_antisymm h87 h86
    obtain ⟨m270, he73, hS88⟩ : ∃ (m270 : Nat), (vals 8 = (.map (some m270) : Value)) ∧ Sep G W ((MapF m2 L) :: (MapF m270 L) :: (Blk a #[.int .i64 (p.ptyp), .int .i64 (p.pfield), .int .i64 (p.pgroup), .int .i64 (p.pby), .int .i64 (p.pmake), .map (some m2)] 58) :: Rs) w83 := hW85
    have e89 : vals 9 = (.agg #[.int .i64 (p.ptyp), .int .i64 (p.pfield), .int .i64 (p.pgroup), .int .i64 (p.pby), .int .i64 (p.pmake), .map (some m270)] : Value) := hA84 9 (by decide) m270 he73
    refine obl rfl ?_
    refine (ov_box (v := .agg #[.int .i64 (p.ptyp), .int .i64 (p.pfield), .int .i64 (p.pgroup), .int .i64 (p.pby), .int .i64 (p.pmake), .map (some m270)]) (show _ = (.agg #[.int .i64 (p.ptyp), .int .i64 (p.pfield), .int .i64 (p.pgroup), .int .i64 (p.pby), .int .i64 (p.pmake), .map (some m270)] : Value) from e89) ?_)
    intro w92 b91 hn90
    have hS93 : Sep G W ((Blk b91 #[.int .i64 (p.ptyp), .int .i64 (p.pfield), .int .i64 (p.pgroup), .int .i64 (p.pby), .int .i64 (p.pmake), .map (some m270)] 58) :: (MapF m2 L) :: (MapF m270 L) :: (Blk a #[.int .i64 (p.ptyp), .int .i64 (p.pfield), .int .i64 (p.pgroup), .int .i64 (p.pby), .int .i64 (p.pmake), .map (some m2)] 58) :: Rs) w92 := hS88.new hn90
    intro vals' hv hv'
    refine ⟨?_, trivial⟩
    show ∃ (m270 : Nat) (b91 : Nat), (vals' 8 = (.map (some m270) : Value)) ∧ (vals' 10 = (.pointer (some ⟨b91, 0, none⟩) : Value)) ∧ Sep G W ((Blk b91 #[.int .i64 (p.ptyp), .int .i64 (p.pfield), .int .i64 (p.pgroup), .int .i64 (p.pby), .int .i64 (p.pmake), .map (some m270)] 58) :: (MapF m2 L) :: (MapF m270 L) :: (Blk a #[.int .i64 (p.ptyp), .int .i64 (p.pfield), .int .i64 (p.pgroup), .int .i64 (p.pby), .int .i64 (p.pmake), .map (some m2)] 58) :: Rs) w92
    exact ⟨m270, b91, (by rw [hv' 8 (by decide)]; exact he73), hv, hS93⟩
  · intro k170 vals w171 h174 h175 hW173 hA172
    obtain rfl : k170 = 2 := Nat.le_antisymm h175 h174
    obtain ⟨m270, b91, he73, he94, hS176⟩ : ∃ (m270 : Nat) (b91 : Nat), (vals 8 = (.map (some m270) : Value)) ∧ (vals 10 = (.pointer (some ⟨b91, 0, none⟩) : Value)) ∧ Sep G W ((Blk b91 #[.int .i64 (p.ptyp), .int .i64 (p.pfield), .int .i64 (p.pgroup), .int .i64 (p.pby), .int .i64 (p.pmake), .map (some m270)] 58) :: (MapF m2 L) :: (MapF m270 L) :: (Blk a #[.int .i64 (p.ptyp), .int .i64 (p.pfield), .int .i64 (p.pgroup), .int .i64 (p.pby), .int .i64 (p.pmake), .map (some m2)] 58) :: Rs) w171 := hW173
    refine obl rfl ?_
    refine ov_assign (v := .pointer (some ⟨b91, 0, none⟩)) (show _ = (.pointer (some ⟨b91, 0, none⟩) : Value) from he94) (fun vals' hv hv' => ⟨rfl, ?_⟩)
    intro b91q hq1
    rw [hv' 10 (by decide)] at hq1; cases he94.symm.trans hq1
    exact hv
  intro vals w177 hW178 hA179
  obtain ⟨m270, b91, he73, he94, hS180⟩ : ∃ (m270 : Nat) (b91 : Nat), (vals 8 = (.map (some m270) : Value)) ∧ (vals 10 = (.pointer (some ⟨b91, 0, none⟩) : Value)) ∧ Sep G W ((Blk b91 #[.int .i64 (p.ptyp), .int .i64 (p.pfield), .int .i64 (p.pgroup), .int .i64 (p.pby), .int .i64 (p.pmake), .map (some m270)] 58) :: (MapF m2 L) :: (MapF m270 L) :: (Blk a #[.int .i64 (p.ptyp), .int .i64 (p.pfield), .int .i64 (p.pgroup), .int .i64 (p.pby), .int .i64 (p.pmake), .map (some m2)] 58) :: Rs) w177 := hW178
  have e181 : vals 11 = (.pointer (some ⟨b91, 0, none⟩) : Value) := hA179 11 (by decide) b91 he94
  refine st_env (kv := [(0, .pointer (some ⟨a, 0, none⟩)), (2, .pointer (some ⟨b91, 0, none⟩))]) ⟨rfl, (by exact e181), trivial⟩ (fun ρw177 => ?_)
  refine st_nil ?_
  refine WP_ret ?_
  refine fin1 Try.results21 (show _ = (.pointer (some ⟨b91, 0, none⟩) : Value) from rfl) ?_
  have hS182 : Sep G W ((Blk a #[.int .i64 (p.ptyp), .int .i64 (p.pfield), .int .i64 (p.pgroup), .int .i64 (p.pby), .int .i64 (p.pmake), .map (some m2)] 58) :: (MapF m2 L) :: (Blk b91 #[.int .i64 (p.ptyp), .int .i64 (p.pfield), .int .i64 (p.pgroup), .int .i64 (p.pby), .int .i64 (p.pmake), .map (some m270)] 58) :: (MapF m270 L) :: Rs) w177 := hS180.sel 4 [3, 1, 0, 2] (Nat.le_add_left _ _) rfl rfl
  have hS183 : Sep G W ((ProjO a p L) :: (Blk b91 #[.int .i64 (p.ptyp), .int .i64 (p.pfield), .int .i64 (p.pgroup), .int .i64 (p.pby), .int .i64 (p.pmake), .map (some m270)] 58) :: (MapF m270 L) :: Rs) w177 := ProjO.close (m := m2) op1 hS182
  have hS184 : Sep G W ((Blk b91 #[.int .i64 (p.ptyp), .int .i64 (p.pfield), .int .i64 (p.pgroup), .int .i64 (p.pby), .int .i64 (p.pmake), .map (some m270)] 58) :: (MapF m270 L) :: (ProjO a p L) :: Rs) w177 := hS183.sel 3 [1, 2, 0] (Nat.le_add_left _ _) rfl rfl
  have hS185 : Sep G W ((ProjO b91 p L) :: (ProjO a p L) :: Rs) w177 := ProjO.close (m := m270) op1 hS184
  have hS186 : Sep G W ((ProjO a p L) :: (ProjO b91 p L) :: Rs) w177 := hS185.sel 2 [1, 0] (Nat.le_add_left _ _) rfl rfl
  refine ⟨b91, rfl, hS186⟩

end Go.Proofs.Ytbbpmhfcgoljdaa
