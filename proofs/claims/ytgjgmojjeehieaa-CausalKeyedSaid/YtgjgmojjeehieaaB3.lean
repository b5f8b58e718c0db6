/- Steps of the proofs of this seat: part B3. -/
import Derived.Test.YtgjgmojjeehieaaB2
set_option linter.unusedSimpArgs false
set_option linter.unusedVariables false
set_option maxRecDepth 8000
set_option maxHeartbeats 4000000
namespace Go.Proofs.Ytgjgmojjeehieaa
open Go.Proofs Go.RowKit

/-- The first one, from k on, that has a key; -1: there is none. -/
def AtE (L : List Ev) (key : Int) (k : Nat) (b : Int) : Prop := (b = -1 ∧ ∀ j, k ≤ j → j < L.length → keyP key (L.getD j default) = false) ∨ ∃ j : Nat, b = (j : Int) ∧ k ≤ j ∧ j < L.length ∧ keyP key (L.getD j default) = true ∧ ∀ j', k ≤ j' → j' < j → keyP key (L.getD j' default) = false
section
variable {L : List Ev} {key b : Int} {k : Nat}
theorem AtE.start : AtE L key L.length (-1) := .inl ⟨rfl, fun j h1 h2 => absurd h2 (Nat.not_lt.2 h1)⟩
theorem AtE.hit (hk : 1 ≤ k) (hk2 : k ≤ L.length) (h : keyP key (L.getD (((k : Nat) : Int) - 1).toNat default) = true) : AtE L key (k - 1) (((k : Nat) : Int) - 1) :=
  .inr ⟨k - 1, by omega, Nat.le_refl _, by omega, by rwa [show (((k : Nat) : Int) - 1).toNat = k - 1 by omega] at h, fun j' h1 h2 => by omega⟩
theorem AtE.miss (h : AtE L key k b) (hk : 1 ≤ k) (hf : keyP key (L.getD (((k : Nat) : Int) - 1).toNat default) = false) : AtE L key (k - 1) b := by
  rw [show (((k : Nat) : Int) - 1).toNat = k - 1 by omega] at hf
  rcases h with ⟨h1, h2⟩ | ⟨j, h1, h2, h3, h4, h5⟩
  · refine .inl ⟨h1, fun j hj hl => ?_⟩
    by_cases he : j = k - 1
    · rw [he]; exact hf
    · exact h2 j (by omega) hl
  · refine .inr ⟨j, h1, by omega, h3, h4, fun j' hj hl => ?_⟩
    by_cases he : j' = k - 1
    · rw [he]; exact hf
    · exact h5 j' (by omega) hl
theorem AtE.fin (h : AtE L key 0 b) : (keyE L key = none ∧ b = -1) ∨ ∃ j : Nat, b = (j : Int) ∧ j < L.length ∧ keyE L key = some (L.getD j default) := by
  unfold keyE
  rcases h with ⟨h1, h2⟩ | ⟨j, h1, _, h3, h4, h5⟩
  · refine .inl ⟨List.find?_eq_none.2 fun x hx => ?_, h1⟩
    obtain ⟨i, hi, rfl⟩ := List.getElem_of_mem hx
    have := h2 i (Nat.zero_le _) hi
    rw [getD_at _ hi] at this
    rw [this]; decide
  · refine .inr ⟨j, h1, h3, ?_⟩
    rw [List.find?_eq_some_iff_getElem]
    rw [getD_at _ h3] at h4 ⊢
    refine ⟨h4, j, h3, rfl, fun i hi => ?_⟩
    have := h5 i (Nat.zero_le _) hi
    rw [getD_at _ (by omega)] at this
    rw [this]; decide
end
theorem keyP_and {key : Int} {e : Ev} : (decide (e.key = key) && !decide (key = 0)) = keyP key e := Bool.and_comm ..
theorem D_CausalKeyed {G : Nat → Prop} {W w : World} {Rs : List HP} {n : Int} (hn : InR n) {vl : Value} {l : List Ev} (hl : RdS W G vl l) {key : Int} (hkey : InR key) (hS0 : Sep G W Rs w) : Ret Try.prog 7 [.int .i64 (n), vl, .int .i64 (key)] w (fun r w' => r = (.bool true : Value) ∧ Sep G W Rs w') := by
 have hls : l.length * 96 ≤ 140737488355328 := hl.small
 refine Calls_of_WP (args := [.int .i64 (n), vl, .int .i64 (key)]) Try.func7 rfl rfl ?_
 refine WP_seq ?_
 refine WP_region0 (by kernel_rfl) (fun _ => ?_)
 refine st (ov_assign (v := .bool false) rfl ?_)
 refine st_nil ?_
 refine WP_seq ?_
 refine WP_seq ?_
 refine WP_region0 (by kernel_rfl) (fun _ => ?_)
 refine st (ov_move (v := vl) rfl ?_)
 refine st (ov_call (f := 15) (vals := [vl]) (cap := []) (show _ = (.func (.func 15) #[] #[] : Value) from rfl) rfl Try.call15 (D_long (l := l) (vl := vl) hl hS0) ?_)
 rintro _ w3 ⟨b1, rfl, hb2, hS4⟩
 refine st_nil ?_
 cases hc5 : b1
 ·skip
  have hc5r := hc5
  obtain ⟨hf9, _⟩ := hb2 hc5r
  refine WP_cond_f rfl ?_
  refine WP_skip ?_
  refine WP_seq ?_
  refine WP_region0 (by kernel_rfl) (fun _ => ?_)
  refine st (ov_move (v := .int .i64 (n)) rfl ?_)
  refine st (ov_call (f := 17) (vals := [.int .i64 (n), .int .i64 (64)]) (cap := []) (show _ = (.func (.func 17) #[] #[] : Value) from rfl) rfl Try.call17 (D_Pick (x := n) (n := 64) hn (by first | omega | (refine ⟨?_, ?_⟩ <;> omega)) hS4) ?_)
  rintro _ w8 ⟨q6, rfl, hq7, hS9⟩
  have hr10 : InR ((1 + q6 : Nat) : Int) := by first | omega | (simp only [lens]; omega)
  refine st (ov_add (r := ((1 + q6 : Nat) : Int)) (k := .i64) (a := 1) (b := ((q6 : Nat) : Int)) rfl rfl (by rw [show (1 + ((q6 : Nat) : Int) : Int) = ((1 + q6 : Nat) : Int) by first | omega | (simp only [lens]; omega)]; exact wrap_in hr10) ?_)
  refine st (ov_move (v := vl) rfl ?_)
  refine st (ov_call (f := 18) (vals := [.int .i64 ((1 + q6 : Nat) : Int), vl]) (cap := []) (show _ = (.func (.func 18) #[] #[] : Value) from rfl) rfl Try.call18 (D_laid (n := 1 + q6) (l := l) (vl := vl) (by first | omega | (refine ⟨?_, ?_⟩ <;> omega)) hl hS9 (by first | omega | (simp only [lens]; omega))) ?_)
  rintro _ w12 ⟨b11, rfl, hS13⟩
  refine st (ov_assign (v := .pointer (some ⟨b11, 0, none⟩)) rfl ?_)
  refine st_nil ?_
  refine WP_seq ?_
  refine WP_seq ?_
  refine WP_region0 (by kernel_rfl) (fun _ => ?_)
  refine st (ov_move (v := .pointer (some ⟨b11, 0, none⟩)) rfl ?_)
  refine st (ov_eqlPtr (b := b11) (o := 0) Try.underlying26 rfl ?_)
  refine st_nil ?_
  refine WP_cond_f rfl ?_
  refine WP_skip ?_
  refine WP_seq ?_
  refine WP_region0 (by kernel_rfl) (fun _ => ?_)
  refine st (ov_move (v := .pointer (some ⟨b11, 0, none⟩)) rfl ?_)
  obtain ⟨G14, hA16, hB17, hS18, hk19⟩ := hS13.lend
  obtain ⟨vv20, m21, R22, hb23, hv24, hr25⟩ := SetO.sh hA16
  have hsm26 : (vecE (1 + q6) (laidL (1 + q6) l)).length * 8 ≤ 140737488355328 := hv24.small
  refine st (ov_call (f := 19) (vals := [.pointer (some ⟨b11, 0, none⟩)]) (cap := []) (show _ = (.func (.func 19) #[] #[] : Value) from rfl) rfl Try.call19 (D_All  hA16 hS18 (laidL_good.ids) (laidL_good.srt) ((Nat.le_trans laidL_len (by omega)))) ?_)
  rintro v27 w28 ⟨_, rfl, hS29⟩
  have hr30 := hS29.row (i := 0) rfl
  have hr30s : (laidL (1 + q6) l).length * 96 ≤ 140737488355328 := hr30.2
  have hS31 : Sep G W ((SetO b11 (1 + q6) (laidL (1 + q6) l)) :: (RowE (α := Ev) own 36 v27 (laidL (1 + q6) l)) :: Rs) w28 := hk19 _ _ hS29
  refine st (ov_assign (v := v27) rfl ?_)
  refine st_nil ?_
  refine WP_seq ?_
  have hS32 : Sep G W ((RowE (α := Ev) own 36 v27 (laidL (1 + q6) l)) :: (SetO b11 (1 + q6) (laidL (1 + q6) l)) :: Rs) w28 := hS31.sel 2 [1, 0] (Nat.le_add_left _ _) rfl rfl
  obtain ⟨G33, hA35, hB36, hS37, hk38⟩ := hS32.lend
  have hrd39 := RowE.rd hA35
  have hrd39s : (laidL (1 + q6) l).length * 96 ≤ 140737488355328 := hrd39.small
  refine WP_region0 (by kernel_rfl) (fun _ => ?_)
  refine st (ov_assign (v := .int .i64 (-1)) rfl ?_)
  refine st_nil ?_
  refine WP_seq ?_
  refine WP_seq ?_
  refine WP_region0 (by kernel_rfl) (fun _ => ?_)
  refine st (ov_move (v := v27) rfl ?_)
  refine st (ov_len (n := (laidL (1 + q6) l).length) Try.underlying22 rfl hrd39.sl ?_)
  have hr40 : InR ((((laidL (1 + q6) l).length : Nat) : Int) - 1) := by omega
  refine st (ov_sub (r := (((laidL (1 + q6) l).length : Nat) : Int) - 1) (k := .i64) (a := (((laidL (1 + q6) l).length : Nat) : Int)) (b := 1) rfl rfl (wrap_in hr40) ?_)
  refine st (ov_assign (v := .int .i64 ((((laidL (1 + q6) l).length : Nat) : Int) - 1)) rfl ?_)
  refine st_nil ?_
  refine WP_block ?_
  refine WP_loop (fun mq σ wq => ∃ (k : Nat) (b9 : Int) (ρ : Env), mq = 1 + k ∧ σ = setAll ρ [(2, .int .i64 (key)), (7, .pointer (some ⟨b11, 0, none⟩)), (8, v27), (9, .int .i64 (b9)), (10, .int .i64 (((k : Nat) : Int) - 1))] ∧ (k ≤ (laidL (1 + q6) l).length) ∧ (AtE (laidL (1 + q6) l) key k b9) ∧ Sep G33 w28 ((SetO b11 (1 + q6) (laidL (1 + q6) l)) :: Rs) wq) ⟨(laidL (1 + q6) l).length, (-1), _, rfl, setAll_self ⟨rfl, rfl, rfl, rfl, rfl, trivial⟩, Nat.le_refl _, AtE.start, hS37⟩ ?_
  rintro m42 σ43 w41 ⟨k, b9, ρl1, rfl, rfl, hkk, hat, hS44⟩
  refine WP_seq ?_
  refine WP_seq ?_
  refine WP_region0 (by kernel_rfl) (fun _ => ?_)
  refine st (ov_move (v := .int .i64 (((k : Nat) : Int) - 1)) rfl ?_)
  refine st (ov_geq (k := .i64) (a := ((k : Nat) : Int) - 1) (b := 0) rfl rfl ?_)
  refine st_nil ?_
  cases hc45 : decide (0 ≤ (((k : Nat) : Int) - 1))
  ·skip
   have hc45r := hc45
   have hc45 := of_decide_eq_false hc45
   refine WP_cond_f rfl ?_
   refine WP_exit ?_
   refine blk_exit ?_
   refine WP_seq ?_
   refine WP_region0 (by kernel_rfl) (fun _ => ?_)
   refine st (ov_move (v := .pointer (some ⟨b11, 0, none⟩)) rfl ?_)
   refine st (ov_move (v := .int .i64 (key)) rfl ?_)
   obtain ⟨G46, hA48, hB49, hS50, hk51⟩ := hS44.lend
   obtain ⟨vv52, m53, R54, hb55, hv56, hr57⟩ := SetO.sh hA48
   have hsm58 : (vecE (1 + q6) (laidL (1 + q6) l)).length * 8 ≤ 140737488355328 := hv56.small
   refine st (ov_call (f := 31) (vals := [.pointer (some ⟨b11, 0, none⟩), .int .i64 (key)]) (cap := []) (show _ = (.func (.func 31) #[] #[] : Value) from rfl) rfl Try.call31 (D_Keyed (key := key) hA48 hkey hS50 (laidL_good.ids) (laidL_good.srt) ((Nat.le_trans laidL_len (by omega)))) ?_)
   rintro _ w60 ⟨d59, rfl, hS61⟩
   have hS62 : Sep G33 w28 ((SetO b11 (1 + q6) (laidL (1 + q6) l)) :: (DepO d59 (((keyE (laidL (1 + q6) l) key).getD default).deps)) :: Rs) w60 := hk51 _ _ hS61
   refine st (ov_move (v := .tuple #[.agg (((keyE (laidL (1 + q6) l) key).getD default).cells d59).toArray, .bool (keyE (laidL (1 + q6) l) key).isSome]) rfl ?_)
   refine st (ov_extract (vs := [.agg (((keyE (laidL (1 + q6) l) key).getD default).cells d59).toArray, .bool ((keyE (laidL (1 + q6) l) key).isSome)]) (i := 0) (v := .agg (((keyE (laidL (1 + q6) l) key).getD default).cells d59).toArray) rfl rfl ?_)
   refine st (ov_extract (vs := [.agg (((keyE (laidL (1 + q6) l) key).getD default).cells d59).toArray, .bool ((keyE (laidL (1 + q6) l) key).isSome)]) (i := 1) (v := .bool ((keyE (laidL (1 + q6) l) key).isSome)) rfl rfl ?_)
   refine st (ov_alloc Try.zeroValue36 ?_)
   intro w65 b64 hn63
   have hS66 : Sep G33 w28 ((Blk b64 #[.int .i64 (0), .int .i64 (0), .int .i64 (0), (.slice none 0 0), .int .i64 (0), .int .i64 (0), .int .i64 (0), .int .i64 (0), .int .i64 (0), .int .i64 (0)] 36) :: (SetO b11 (1 + q6) (laidL (1 + q6) l)) :: (DepO d59 (((keyE (laidL (1 + q6) l) key).getD default).deps)) :: Rs) w65 := hS62.new hn63
   refine stn (ov_store (v := .agg (((keyE (laidL (1 + q6) l) key).getD default).cells d59).toArray) (c' := (((keyE (laidL (1 + q6) l) key).getD default).cells d59).toArray) Try.sizeOf36 rfl rfl (hS66.blk (i := 0) rfl) (all1 ⟨rfl, rfl, rfl, (hS66.depSl (i := 2) rfl).one, rfl, rfl, rfl, rfl, rfl, rfl, trivial⟩) (Nat.le_of_ble_eq_true rfl) rfl ?_)
   intro w67 hp68
   have hS69 : Sep G33 w28 ((Blk b64 (((keyE (laidL (1 + q6) l) key).getD default).cells d59).toArray 36) :: (SetO b11 (1 + q6) (laidL (1 + q6) l)) :: (DepO d59 (((keyE (laidL (1 + q6) l) key).getD default).deps)) :: Rs) w67 := hS66.put (i := 0) rfl hp68
   refine st (ov_assign (v := .bool ((keyE (laidL (1 + q6) l) key).isSome)) rfl ?_)
   refine st_nil ?_
   refine WP_seq ?_
   refine WP_seq ?_
   have hk0 : k = 0 := by omega
   subst hk0
   rcases hat.fin with hn9 | hn9
   ·skip
    obtain ⟨hk9, rfl⟩ := hn9
    rw [hk9] at hS69 ⊢
    have hS70 : Sep G33 w28 ((Blk b64 ((default : Ev).cells d59).toArray 36) :: (SetO b11 (1 + q6) (laidL (1 + q6) l)) :: (DepO d59 ((default : Ev).deps)) :: Rs) w67 := hS69
    have hS71 : Sep G33 w28 ((DepO d59 ((default : Ev).deps)) :: (Blk b64 ((default : Ev).cells d59).toArray 36) :: (SetO b11 (1 + q6) (laidL (1 + q6) l)) :: Rs) w67 := hS70.sel 3 [2, 0, 1] (Nat.le_add_left _ _) rfl rfl
    obtain ⟨G72, hA74, hB75, hS76, hk77⟩ := hS71.lend
    have hd78 := DepO.rd hA74
    have hsm79 : ((default : Ev).deps).length * 8 ≤ 140737488355328 := hd78.small
    have hdo9 : (default : Ev).Ok := by constructor <;> decide
    refine WP_draw4 (WF [fun vals wq => Sep G72 w67 ((Blk b64 ((default : Ev).cells d59).toArray 36) :: (SetO b11 (1 + q6) (laidL (1 + q6) l)) :: Rs) wq, fun vals wq => (vals 10 = (.bool (decide ((default : Ev) = (⟨0, 0, 0, [], 0, 0, 0, 0, 0, 0⟩ : Ev))) : Value)) ∧ Sep G72 w67 ((Blk b64 ((default : Ev).cells d59).toArray 36) :: (SetO b11 (1 + q6) (laidL (1 + q6) l)) :: Rs) wq, fun vals wq => (vals 10 = (.bool (decide ((default : Ev) = (⟨0, 0, 0, [], 0, 0, 0, 0, 0, 0⟩ : Ev))) : Value)) ∧ Sep G72 w67 ((Blk b64 ((default : Ev).cells d59).toArray 36) :: (SetO b11 (1 + q6) (laidL (1 + q6) l)) :: Rs) wq]) (AF [Vl 0 (.bool false), Vl 1 (.int .i64 (-1)), Vl 2 (.bool false), Vl 3 (.bool false), Vl 4 (.bool false), Vl 5 (.bool false), Vl 6 (.bool true), Vl 7 (.bool true), Vl 8 (.agg ((default : Ev).cells d59).toArray), Vl 9 (.agg ((⟨0, 0, 0, [], 0, 0, 0, 0, 0, 0⟩ : Ev).cells (.slice none 0 0)).toArray), fun _ => True, Vl 11 (.bool false), Vl 12 (.bool false), Vl 13 (.bool false), Vl 14 (.bool false), Vl 15 (.bool false), Vl 16 (.bool false), Vl 17 (undef), Vl 18 (undef), Vl 19 (undef), Vl 20 (undef), Vl 21 (undef), fun _ => True, Vl 23 (undef), Vl 24 (.bool false), Vl 25 (.bool false)]) [[], [], [1], [0, 1, 2], [0, 1, 2, 3], [0, 1, 2, 3, 4], [0, 1, 2, 3, 4, 5], [0, 1, 2, 3, 4, 5, 6], [0, 1, 2, 3, 4, 5, 6, 7], [0, 1, 2, 3, 4, 5, 6, 7], [0, 1, 2, 3, 4, 5, 6, 7, 8, 9], [0, 1, 2, 3, 4, 5, 6, 7, 8, 9, 10], [0, 1, 2, 3, 4, 5, 6, 7, 8, 9, 10, 11], [0, 1, 2, 3, 4, 5, 6, 7, 8, 9, 10, 11, 12], [0, 1, 2, 3, 4, 5, 6, 7, 8, 9, 10, 11, 12, 13], [0, 1, 2, 3, 4, 5, 6, 7, 8, 9, 10, 11, 12, 13, 14], [0, 1, 2, 3, 4, 5, 6, 7, 8, 9, 10, 11, 12, 13, 14, 15], [0, 1, 2, 3, 4, 5, 6, 7, 8, 9, 10, 11, 12, 13, 14, 15, 16], [0, 1, 2, 3, 4, 5, 6, 7, 8, 9, 10, 11, 12, 13, 14, 15, 16], [0, 1, 2, 3, 4, 5, 6, 7, 8, 9, 10, 11, 12, 13, 14, 15, 16], [0, 1, 2, 3, 4, 5, 6, 7, 8, 9, 10, 11, 12, 13, 14, 15, 16, 18, 19], [0, 1, 2, 3, 4, 5, 6, 7, 8, 9, 10, 11, 12, 13, 14, 15, 16, 18, 19, 20], [0, 1, 2, 3, 4, 5, 6, 7, 8, 9, 10, 11, 12, 13, 14, 15, 16, 17, 18, 19, 20, 21], [0, 1, 2, 3, 4, 5, 6, 7, 8, 9, 10, 11, 12, 13, 14, 15, 16, 17, 18, 19, 20, 21, 22], [0, 1, 2, 3, 4, 5, 6, 7, 8, 9, 10, 11, 12, 13, 14, 15, 16, 17, 18, 19, 20, 21, 22, 23], [0, 1, 2, 3, 4, 5, 6, 7, 8, 9, 10, 11, 12, 13, 14, 15, 16, 17, 18, 19, 20, 21, 22, 23, 24]] [10, 22] [(0, 0), (0, 0), (0, 0), (0, 0), (0, 0), (0, 0), (0, 0), (0, 0), (0, 0), (0, 0), (0, 0), (1, 1), (1, 1), (1, 1), (1, 1), (1, 1), (1, 1), (1, 1), (1, 1), (1, 1), (1, 1), (1, 1), (1, 1), (2, 2), (2, 2), (2, 2)] (by kernel_rfl) (by kernel_rfl) (by kernel_rfl) rfl (by kernel_rfl) (by kernel_rfl) (fun _ h1 h2 h3 h4 _ => hS76.same h1 h2 h3 h4) ?_ (AF_loc ⟨dA, dA, dA, dA, dA, dA, dA, dA, dA, dA, dT, dA, dA, dA, dA, dA, dA, dA, dA, dA, dA, dA, dT, dA, dA, dA, trivial⟩) ⟨?_, ?_, ?_, ?_, ?_, ?_, ?_, ?_, ?_, ?_, ?_, ?_, ?_, ?_, ?_, ?_, ?_, ?_, ?_, ?_, ?_, ?_, ?_, ?_, ?_, ?_, trivial⟩ ?_
    ·intro k vals vals' w hv h
     have e : ∀ j ∈ ([10, 22] : List Nat), vals' j = vals j := hv
     match k, h with
     | 0, h => exact h
     | 1, h => exact (by simpa only [WF, List.getElem?_cons_zero, List.getElem?_cons_succ, e 10 (by decide)] using h)
     | 2, h => exact (by simpa only [WF, List.getElem?_cons_zero, List.getElem?_cons_succ, e 10 (by decide)] using h)
     | _ + 3, _ => trivial
    ·intro k295 vals w296 h299 h300 hW298 hA297
     refine obl rfl ?_
     exact ov_move (v := .bool false) rfl (fun vals' hv _ => ⟨rfl, hv⟩)
    ·intro k301 vals w302 h305 h306 hW304 hA303
     refine obl rfl ?_
     exact ov_move (v := .int .i64 (-1)) rfl (fun vals' hv _ => ⟨rfl, hv⟩)
    ·intro k307 vals w308 h311 h312 hW310 hA309
     obtain rfl : k307 = 0 := Nat.le_antisymm h312 h311
     have hS313 : Sep G72 w67 ((Blk b64 ((default : Ev).cells d59).toArray 36) :: (SetO b11 (1 + q6) (laidL (1 + q6) l)) :: Rs) w308 := hW310
     have e314 := hA309 1 (by decide)
     refine obl rfl ?_
     have hl315 : (decide (0 ≤ (-1))) = false := by decide +kernel
     exact ov_geq (k := .i64) (a := -1) (b := 0) e314 rfl (fun vals' hv _ => ⟨rfl, hv.trans (congrArg Value.bool hl315)⟩)
    ·intro k316 vals w317 h320 h321 hW319 hA318
     obtain rfl : k316 = 0 := Nat.le_antisymm h321 h320
     have hS322 : Sep G72 w67 ((Blk b64 ((default : Ev).cells d59).toArray 36) :: (SetO b11 (1 + q6) (laidL (1 + q6) l)) :: Rs) w317 := hW319
     have e323 := hA318 0 (by decide)
     have e324 := hA318 2 (by decide)
     refine obl rfl ?_
     have hl325 : (!(false == false)) = false := by decide +kernel
     exact ov_neqb (a := false) (b := false) Try.underlying4 e323 e324 (fun vals' hv _ => ⟨rfl, hv.trans (congrArg Value.bool hl325)⟩)
    ·intro k326 vals w327 h330 h331 hW329 hA328
     have e332 := hA328 3 (by decide)
     refine obl rfl ?_
     exact ov_move (v := .bool false) e332 (fun vals' hv _ => ⟨rfl, hv⟩)
    ·intro k333 vals w334 h337 h338 hW336 hA335
     have e339 := hA335 4 (by decide)
     refine oblc rfl rfl e339 (fun _ => ?_) (fun hb => absurd rfl hb)
     exact ov_move (v := .bool false) rfl (fun vals' hv _ => ⟨rfl, hv⟩)
    ·intro k340 vals w341 h344 h345 hW343 hA342
     have e346 := hA342 4 (by decide)
     have e347 := hA342 5 (by decide)
     refine oblc rfl rfl e346 (fun _ => ?_) (fun hb => absurd rfl hb)
     exact ov_not (a := false) e347 (fun vals' hv _ => ⟨rfl, hv⟩)
    ·intro k348 vals w349 h352 h353 hW351 hA350
     have e354 := hA350 4 (by decide)
     have e355 := hA350 6 (by decide)
     refine oblc rfl rfl e354 (fun _ => ?_) (fun hb => absurd rfl hb)
     exact ov_move (v := .bool true) e355 (fun vals' hv _ => ⟨rfl, hv⟩)
    ·intro k356 vals w357 h360 h361 hW359 hA358
     obtain rfl : k356 = 0 := Nat.le_antisymm h361 h360
     have hS362 : Sep G72 w67 ((Blk b64 ((default : Ev).cells d59).toArray 36) :: (SetO b11 (1 + q6) (laidL (1 + q6) l)) :: Rs) w357 := hW359
     have e363 := hA358 7 (by decide)
     refine oblc rfl rfl e363 (fun _ => ?_) (fun hb => absurd rfl hb)
     exact ov_loadk (k := 10) Try.isAgg36 Try.sizeOf36 rfl rfl (CellsAt.all (hS362.blk (i := 0) rfl)) (fun vals' hv _ => ⟨rfl, hv⟩)
    ·intro k364 vals w365 h368 h369 hW367 hA366
     have e370 := hA366 7 (by decide)
     refine oblc rfl rfl e370 (fun _ => ?_) (fun hb => absurd rfl hb)
     have ok371 : Ev.Ok (⟨0, 0, 0, [], 0, 0, 0, 0, 0, 0⟩ : Ev) := ⟨(show InR (0) from (by decide)), (show InR (0) from (by decide)), (show InR (0) from (by decide)), (show InR (0) from (by decide)), (show InR (0) from (by decide)), (show InR (0) from (by decide)), (show InR (0) from (by decide)), (show InR (0) from (by decide)), (show InR (0) from (by decide))⟩
     exact ov_build (parts' := []) (v := .agg ((⟨0, 0, 0, [], 0, 0, 0, 0, 0, 0⟩ : Ev).cells (.slice none 0 0)).toArray) rfl (by simp [Instr.build, Instr.fill, Ev.cells, go_sem, Ev.cells]) (fun vals' hv _ => ⟨rfl, hv⟩)
    ·intro k157 vals w158 h161 h162 hW160 hA159
     obtain rfl : k157 = 0 := Nat.le_antisymm h162 h161
     have hS163 : Sep G72 w67 ((Blk b64 ((default : Ev).cells d59).toArray 36) :: (SetO b11 (1 + q6) (laidL (1 + q6) l)) :: Rs) w158 := hW160
     have e164 := hA159 7 (by decide)
     have e165 := hA159 8 (by decide)
     have e166 := hA159 9 (by decide)
     refine oblc rfl rfl e164 (fun _ => ?_) (fun hb => absurd rfl hb)
     have ok167 : Ev.Ok (⟨0, 0, 0, [], 0, 0, 0, 0, 0, 0⟩ : Ev) := ⟨(show InR (0) from (by decide)), (show InR (0) from (by decide)), (show InR (0) from (by decide)), (show InR (0) from (by decide)), (show InR (0) from (by decide)), (show InR (0) from (by decide)), (show InR (0) from (by decide)), (show InR (0) from (by decide)), (show InR (0) from (by decide))⟩
     refine (ov_call (f := 30) (vals := [.agg ((default : Ev).cells d59).toArray, .agg ((⟨0, 0, 0, [], 0, 0, 0, 0, 0, 0⟩ : Ev).cells (.slice none 0 0)).toArray]) (cap := []) (show _ = (.func (.func 30) #[] #[] : Value) from rfl) (mapL ⟨e165, e166, trivial⟩) Try.call30 (D_sameEvent (a := (default : Ev)) (b := (⟨0, 0, 0, [], 0, 0, 0, 0, 0, 0⟩ : Ev)) hd78 hdo9 (RdS.nil _ _) ok167 hS163) ?_)
     rintro _ w168 ⟨rfl, hS169⟩
     intro vals' hv hv'
     refine ⟨?_, trivial⟩
     show (vals' 10 = (.bool (decide ((default : Ev) = (⟨0, 0, 0, [], 0, 0, 0, 0, 0, 0⟩ : Ev))) : Value)) ∧ Sep G72 w67 ((Blk b64 ((default : Ev).cells d59).toArray 36) :: (SetO b11 (1 + q6) (laidL (1 + q6) l)) :: Rs) w168
     exact ⟨hv, hS169⟩
    ·intro k372 vals w373 h376 h377 hW375 hA374
     obtain rfl : k372 = 1 := Nat.le_antisymm h377 h376
     obtain ⟨he170, hS378⟩ := hW375
     have e379 := hA374 7 (by decide)
     refine oblc rfl rfl e379 (fun _ => ?_) (fun hb => absurd rfl hb)
     have hl380 : (!(decide ((default : Ev) = (⟨0, 0, 0, [], 0, 0, 0, 0, 0, 0⟩ : Ev)))) = false := by decide +kernel
     exact ov_not (a := decide ((default : Ev) = (⟨0, 0, 0, [], 0, 0, 0, 0, 0, 0⟩ : Ev))) he170 (fun vals' hv _ => ⟨rfl, hv.trans (congrArg Value.bool hl380)⟩)
    ·intro k381 vals w382 h385 h386 hW384 hA383
     have e387 := hA383 4 (by decide)
     have e388 := hA383 7 (by decide)
     have e389 := hA383 11 (by decide)
     refine oblc rfl rfl e387 (fun _ => ?_) (fun hb => absurd rfl hb)
     exact ov_pick_t (v := .bool false) e388 e389 (fun vals' hv _ => ⟨rfl, hv⟩)
    ·intro k390 vals w391 h394 h395 hW393 hA392
     have e396 := hA392 4 (by decide)
     have e397 := hA392 12 (by decide)
     refine obl rfl ?_
     exact ov_pick_f (v := .bool false) e396 e397 (fun vals' hv _ => ⟨rfl, hv⟩)
    ·intro k398 vals w399 h402 h403 hW401 hA400
     have e404 := hA400 13 (by decide)
     refine obl rfl ?_
     exact ov_move (v := .bool false) e404 (fun vals' hv _ => ⟨rfl, hv⟩)
    ·intro k405 vals w406 h409 h410 hW408 hA407
     have e411 := hA407 14 (by decide)
     refine oblc rfl rfl e411 (fun _ => ?_) (fun hb => absurd rfl hb)
     exact ov_move (v := .bool false) rfl (fun vals' hv _ => ⟨rfl, hv⟩)
    ·intro k412 vals w413 h416 h417 hW415 hA414
     have e418 := hA414 14 (by decide)
     have e419 := hA414 15 (by decide)
     refine oblc rfl rfl e418 (fun _ => ?_) (fun hb => absurd rfl hb)
     exact ov_move (v := .bool false) e419 (fun vals' hv _ => ⟨rfl, hv⟩)
    ·intro k420 vals w421 h424 h425 hW423 hA422
     obtain rfl : k420 = 1 := Nat.le_antisymm h425 h424
     obtain ⟨he170, hS426⟩ := hW423
     have e427 := hA422 16 (by decide)
     exact oblc rfl rfl e427 (fun hb => absurd hb (by decide)) (fun _ vals' hv _ => ⟨trivial, hv⟩)
    ·intro k428 vals w429 h432 h433 hW431 hA430
     have e434 := hA430 16 (by decide)
     exact oblc rfl rfl e434 (fun hb => absurd hb (by decide)) (fun _ vals' hv _ => ⟨trivial, hv⟩)
    ·intro k435 vals w436 h439 h440 hW438 hA437
     have e441 := hA437 16 (by decide)
     exact oblc rfl rfl e441 (fun hb => absurd hb (by decide)) (fun _ vals' hv _ => ⟨trivial, hv⟩)
    ·intro k442 vals w443 h446 h447 hW445 hA444
     obtain rfl : k442 = 1 := Nat.le_antisymm h447 h446
     obtain ⟨he170, hS448⟩ := hW445
     have e449 := hA444 16 (by decide)
     have e450 := hA444 18 (by decide)
     have e451 := hA444 19 (by decide)
     exact oblc rfl rfl e449 (fun hb => absurd hb (by decide)) (fun _ vals' hv _ => ⟨trivial, hv⟩)
    ·intro k452 vals w453 h456 h457 hW455 hA454
     obtain rfl : k452 = 1 := Nat.le_antisymm h457 h456
     obtain ⟨he170, hS458⟩ := hW455
     have e459 := hA454 16 (by decide)
     have e460 := hA454 20 (by decide)
     exact oblc rfl rfl e459 (fun hb => absurd hb (by decide)) (fun _ vals' hv _ => ⟨trivial, hv⟩)
    ·intro k260 vals w261 h264 h265 hW263 hA262
     obtain rfl : k260 = 1 := Nat.le_antisymm h265 h264
     obtain ⟨he170, hS266⟩ := hW263
     have e267 := hA262 16 (by decide)
     have e268 := hA262 17 (by decide)
     have e269 := hA262 21 (by decide)
     refine oblc rfl rfl e267 (fun hb => absurd hb (by decide)) (fun _ vals' hv hv' => ?_)
     refine ⟨?_, trivial⟩
     show (vals' 10 = (.bool (decide ((default : Ev) = (⟨0, 0, 0, [], 0, 0, 0, 0, 0, 0⟩ : Ev))) : Value)) ∧ Sep G72 w67 ((Blk b64 ((default : Ev).cells d59).toArray 36) :: (SetO b11 (1 + q6) (laidL (1 + q6) l)) :: Rs) w261
     exact ⟨(by rw [hv' 10 (by decide)]; exact he170), hS266⟩
    ·intro k461 vals w462 h465 h466 hW464 hA463
     obtain rfl : k461 = 2 := Nat.le_antisymm h466 h465
     obtain ⟨he170, hS467⟩ := hW464
     have e468 := hA463 16 (by decide)
     exact oblc rfl rfl e468 (fun hb => absurd hb (by decide)) (fun _ vals' hv _ => ⟨trivial, hv⟩)
    ·intro k469 vals w470 h473 h474 hW472 hA471
     have e475 := hA471 14 (by decide)
     have e476 := hA471 16 (by decide)
     have e477 := hA471 23 (by decide)
     refine oblc rfl rfl e475 (fun _ => ?_) (fun hb => absurd rfl hb)
     exact ov_pick_f (v := .bool false) e476 rfl (fun vals' hv _ => ⟨rfl, hv⟩)
    ·intro k478 vals w479 h482 h483 hW481 hA480
     have e484 := hA480 14 (by decide)
     have e485 := hA480 24 (by decide)
     refine obl rfl ?_
     exact ov_pick_f (v := .bool false) e484 e485 (fun vals' hv _ => ⟨rfl, hv⟩)
    intro vals w486 hW487 hA488
    obtain ⟨he170, hS489⟩ := hW487
    have e490 := hA488 25 (by decide)
    refine st_env (kv := [(2, .int .i64 (key)), (7, .pointer (some ⟨b11, 0, none⟩)), (8, v27), (9, .int .i64 (-1)), (11, .pointer (some ⟨b64, 0, none⟩)), (12, .bool false), (75, .bool false)]) ⟨rfl, rfl, rfl, rfl, rfl, rfl, (by exact e490), trivial⟩ (fun ρw486 => ?_)
    refine st_nil ?_
    refine WP_cond_f rfl ?_
    refine WP_skip ?_
    refine WP_seq ?_
    refine WP_region0 (by kernel_rfl) (fun _ => ?_)
    refine st (ov_call (f := 16) (vals := []) (cap := []) (show _ = (.func (.func 16) #[] #[] : Value) from rfl) rfl Try.call16 (D_known9  hS489) ?_)
    rintro _ w491 ⟨rfl, hS492⟩
    refine st (ov_assign (v := .bool true) rfl ?_)
    refine st_nil ?_
    refine WP_ret ?_
    refine fin1 Try.results7 (show _ = (.bool true : Value) from rfl) ?_
    have hS493 : Sep G33 w28 ((DepO d59 ((default : Ev).deps)) :: (Blk b64 ((default : Ev).cells d59).toArray 36) :: (SetO b11 (1 + q6) (laidL (1 + q6) l)) :: Rs) w491 := hk77 _ _ hS492
    have hS494 : Sep G W ((RowE (α := Ev) own 36 v27 (laidL (1 + q6) l)) :: (DepO d59 ((default : Ev).deps)) :: (Blk b64 ((default : Ev).cells d59).toArray 36) :: (SetO b11 (1 + q6) (laidL (1 + q6) l)) :: Rs) w491 := hk38 _ _ hS493
    have hS495 : Sep G W Rs w491 := hS494.sel 4 [] (Nat.le_add_left _ _) rfl rfl
    refine ⟨rfl, hS495⟩
   ·skip
    obtain ⟨j9, rfl, hj9, hk9⟩ := hn9
    rw [hk9] at hS69 ⊢
    have hS496 : Sep G33 w28 ((Blk b64 (((laidL (1 + q6) l).getD j9 default).cells d59).toArray 36) :: (SetO b11 (1 + q6) (laidL (1 + q6) l)) :: (DepO d59 (((laidL (1 + q6) l).getD j9 default).deps)) :: Rs) w67 := hS69
    have hS497 : Sep G33 w28 ((DepO d59 (((laidL (1 + q6) l).getD j9 default).deps)) :: (Blk b64 (((laidL (1 + q6) l).getD j9 default).cells d59).toArray 36) :: (SetO b11 (1 + q6) (laidL (1 + q6) l)) :: Rs) w67 := hS496.sel 3 [2, 0, 1] (Nat.le_add_left _ _) rfl rfl
    obtain ⟨G498, hA500, hB501, hS502, hk503⟩ := hS497.lend
    have hd504 := DepO.rd hA500
    have hsm505 : (((laidL (1 + q6) l).getD j9 default).deps).length * 8 ≤ 140737488355328 := hd504.small
    refine WP_draw4 (WF [fun vals wq => Sep G498 w67 ((Blk b64 (((laidL (1 + q6) l).getD j9 default).cells d59).toArray 36) :: (SetO b11 (1 + q6) (laidL (1 + q6) l)) :: Rs) wq, fun vals wq => Sep G498 w67 ((Blk b64 (((laidL (1 + q6) l).getD j9 default).cells d59).toArray 36) :: (SetO b11 (1 + q6) (laidL (1 + q6) l)) :: Rs) wq, fun vals wq => (vals 22 = (.bool (decide (((laidL (1 + q6) l).getD j9 default) = ((laidL (1 + q6) l).getD j9 default))) : Value)) ∧ Sep G498 w67 ((Blk b64 (((laidL (1 + q6) l).getD j9 default).cells d59).toArray 36) :: (SetO b11 (1 + q6) (laidL (1 + q6) l)) :: Rs) wq]) (AF [Vl 0 (.bool true), Vl 1 (.int .i64 ((j9 : Nat) : Int)), Vl 2 (.bool true), Vl 3 (.bool false), Vl 4 (.bool false), Vl 5 (.bool true), Vl 6 (.bool false), Vl 7 (.bool false), Vl 8 (undef), Vl 9 (undef), fun _ => True, Vl 11 (undef), Vl 12 (.bool false), Vl 13 (.bool false), Vl 14 (.bool false), Vl 15 (.bool true), Vl 16 (.bool true), Vl 17 (.agg (((laidL (1 + q6) l).getD j9 default).cells d59).toArray), Vl 18 (v27), Vl 19 (.int .i64 ((j9 : Nat) : Int)), Vl 20 (.pointer (some ⟨sb v27, so v27 + j9 * 10, none⟩)), Vl 21 (.agg (((laidL (1 + q6) l).getD j9 default).cells (cellV w67 (sb v27) (so v27 + j9 * 10 + 3))).toArray), fun _ => True, Vl 23 (.bool false), Vl 24 (.bool false), Vl 25 (.bool false)]) [[], [], [1], [0, 1, 2], [0, 1, 2, 3], [0, 1, 2, 3, 4], [0, 1, 2, 3, 4, 5], [0, 1, 2, 3, 4, 5, 6], [0, 1, 2, 3, 4, 5, 6, 7], [0, 1, 2, 3, 4, 5, 6, 7], [0, 1, 2, 3, 4, 5, 6, 7, 8, 9], [0, 1, 2, 3, 4, 5, 6, 7, 8, 9, 10], [0, 1, 2, 3, 4, 5, 6, 7, 8, 9, 10, 11], [0, 1, 2, 3, 4, 5, 6, 7, 8, 9, 10, 11, 12], [0, 1, 2, 3, 4, 5, 6, 7, 8, 9, 10, 11, 12, 13], [0, 1, 2, 3, 4, 5, 6, 7, 8, 9, 10, 11, 12, 13, 14], [0, 1, 2, 3, 4, 5, 6, 7, 8, 9, 10, 11, 12, 13, 14, 15], [0, 1, 2, 3, 4, 5, 6, 7, 8, 9, 10, 11, 12, 13, 14, 15, 16], [0, 1, 2, 3, 4, 5, 6, 7, 8, 9, 10, 11, 12, 13, 14, 15, 16], [0, 1, 2, 3, 4, 5, 6, 7, 8, 9, 10, 11, 12, 13, 14, 15, 16], [0, 1, 2, 3, 4, 5, 6, 7, 8, 9, 10, 11, 12, 13, 14, 15, 16, 18, 19], [0, 1, 2, 3, 4, 5, 6, 7, 8, 9, 10, 11, 12, 13, 14, 15, 16, 18, 19, 20], [0, 1, 2, 3, 4, 5, 6, 7, 8, 9, 10, 11, 12, 13, 14, 15, 16, 17, 18, 19, 20, 21], [0, 1, 2, 3, 4, 5, 6, 7, 8, 9, 10, 11, 12, 13, 14, 15, 16, 17, 18, 19, 20, 21, 22], [0, 1, 2, 3, 4, 5, 6, 7, 8, 9, 10, 11, 12, 13, 14, 15, 16, 17, 18, 19, 20, 21, 22, 23], [0, 1, 2, 3, 4, 5, 6, 7, 8, 9, 10, 11, 12, 13, 14, 15, 16, 17, 18, 19, 20, 21, 22, 23, 24]] [10, 22] [(0, 0), (0, 0), (0, 0), (0, 0), (0, 0), (0, 0), (0, 0), (0, 0), (0, 0), (0, 0), (0, 0), (1, 1), (1, 1), (1, 1), (1, 1), (1, 1), (1, 1), (1, 1), (1, 1), (1, 1), (1, 1), (1, 1), (1, 1), (2, 2), (2, 2), (2, 2)] (by kernel_rfl) (by kernel_rfl) (by kernel_rfl) rfl (by kernel_rfl) (by kernel_rfl) (fun _ h1 h2 h3 h4 _ => hS502.same h1 h2 h3 h4) ?_ (AF_loc ⟨dA, dA, dA, dA, dA, dA, dA, dA, dA, dA, dT, dA, dA, dA, dA, dA, dA, dA, dA, dA, dA, dA, dT, dA, dA, dA, trivial⟩) ⟨?_, ?_, ?_, ?_, ?_, ?_, ?_, ?_, ?_, ?_, ?_, ?_, ?_, ?_, ?_, ?_, ?_, ?_, ?_, ?_, ?_, ?_, ?_, ?_, ?_, ?_, trivial⟩ ?_
    ·intro k vals vals' w hv h
     have e : ∀ j ∈ ([10, 22] : List Nat), vals' j = vals j := hv
     match k, h with
     | 0, h => exact h
     | 1, h => exact h
     | 2, h => exact (by simpa only [WF, List.getElem?_cons_zero, List.getElem?_cons_succ, e 22 (by decide)] using h)
     | _ + 3, _ => trivial
    ·intro k728 vals w729 h732 h733 hW731 hA730
     refine obl rfl ?_
     exact ov_move (v := .bool true) rfl (fun vals' hv _ => ⟨rfl, hv⟩)
    ·intro k734 vals w735 h738 h739 hW737 hA736
     refine obl rfl ?_
     exact ov_move (v := .int .i64 ((j9 : Nat) : Int)) rfl (fun vals' hv _ => ⟨rfl, hv⟩)
    ·intro k740 vals w741 h744 h745 hW743 hA742
     obtain rfl : k740 = 0 := Nat.le_antisymm h745 h744
     have hS746 : Sep G498 w67 ((Blk b64 (((laidL (1 + q6) l).getD j9 default).cells d59).toArray 36) :: (SetO b11 (1 + q6) (laidL (1 + q6) l)) :: Rs) w741 := hW743
     have e747 := hA742 1 (by decide)
     refine obl rfl ?_
     have hl748 : (decide (0 ≤ ((j9 : Nat) : Int))) = true := decide_eq_true (by omega)
     exact ov_geq (k := .i64) (a := ((j9 : Nat) : Int)) (b := 0) e747 rfl (fun vals' hv _ => ⟨rfl, hv.trans (congrArg Value.bool hl748)⟩)
    ·intro k749 vals w750 h753 h754 hW752 hA751
     obtain rfl : k749 = 0 := Nat.le_antisymm h754 h753
     have hS755 : Sep G498 w67 ((Blk b64 (((laidL (1 + q6) l).getD j9 default).cells d59).toArray 36) :: (SetO b11 (1 + q6) (laidL (1 + q6) l)) :: Rs) w750 := hW752
     have e756 := hA751 0 (by decide)
     have e757 := hA751 2 (by decide)
     refine obl rfl ?_
     have hl758 : (!(true == true)) = false := by decide +kernel
     exact ov_neqb (a := true) (b := true) Try.underlying4 e756 e757 (fun vals' hv _ => ⟨rfl, hv.trans (congrArg Value.bool hl758)⟩)
    ·intro k759 vals w760 h763 h764 hW762 hA761
     have e765 := hA761 3 (by decide)
     refine obl rfl ?_
     exact ov_move (v := .bool false) e765 (fun vals' hv _ => ⟨rfl, hv⟩)
    ·intro k766 vals w767 h770 h771 hW769 hA768
     have e772 := hA768 4 (by decide)
     refine oblc rfl rfl e772 (fun _ => ?_) (fun hb => absurd rfl hb)
     exact ov_move (v := .bool true) rfl (fun vals' hv _ => ⟨rfl, hv⟩)
    ·intro k773 vals w774 h777 h778 hW776 hA775
     have e779 := hA775 4 (by decide)
     have e780 := hA775 5 (by decide)
     refine oblc rfl rfl e779 (fun _ => ?_) (fun hb => absurd rfl hb)
     exact ov_not (a := true) e780 (fun vals' hv _ => ⟨rfl, hv⟩)
    ·intro k781 vals w782 h785 h786 hW784 hA783
     have e787 := hA783 4 (by decide)
     have e788 := hA783 6 (by decide)
     refine oblc rfl rfl e787 (fun _ => ?_) (fun hb => absurd rfl hb)
     exact ov_move (v := .bool false) e788 (fun vals' hv _ => ⟨rfl, hv⟩)
    ·intro k789 vals w790 h793 h794 hW792 hA791
     obtain rfl : k789 = 0 := Nat.le_antisymm h794 h793
     have hS795 : Sep G498 w67 ((Blk b64 (((laidL (1 + q6) l).getD j9 default).cells d59).toArray 36) :: (SetO b11 (1 + q6) (laidL (1 + q6) l)) :: Rs) w790 := hW792
     have e796 := hA791 7 (by decide)
     exact oblc rfl rfl e796 (fun hb => absurd hb (by decide)) (fun _ vals' hv _ => ⟨trivial, hv⟩)
    ·intro k797 vals w798 h801 h802 hW800 hA799
     have e803 := hA799 7 (by decide)
     exact oblc rfl rfl e803 (fun hb => absurd hb (by decide)) (fun _ vals' hv _ => ⟨trivial, hv⟩)
    ·intro k582 vals w583 h586 h587 hW585 hA584
     obtain rfl : k582 = 0 := Nat.le_antisymm h587 h586
     have hS588 : Sep G498 w67 ((Blk b64 (((laidL (1 + q6) l).getD j9 default).cells d59).toArray 36) :: (SetO b11 (1 + q6) (laidL (1 + q6) l)) :: Rs) w583 := hW585
     have e589 := hA584 7 (by decide)
     have e590 := hA584 8 (by decide)
     have e591 := hA584 9 (by decide)
     refine oblc rfl rfl e589 (fun hb => absurd hb (by decide)) (fun _ vals' hv hv' => ?_)
     refine ⟨?_, trivial⟩
     show Sep G498 w67 ((Blk b64 (((laidL (1 + q6) l).getD j9 default).cells d59).toArray 36) :: (SetO b11 (1 + q6) (laidL (1 + q6) l)) :: Rs) w583
     exact hS588
    ·intro k804 vals w805 h808 h809 hW807 hA806
     obtain rfl : k804 = 1 := Nat.le_antisymm h809 h808
     have hS810 : Sep G498 w67 ((Blk b64 (((laidL (1 + q6) l).getD j9 default).cells d59).toArray 36) :: (SetO b11 (1 + q6) (laidL (1 + q6) l)) :: Rs) w805 := hW807
     have e811 := hA806 7 (by decide)
     exact oblc rfl rfl e811 (fun hb => absurd hb (by decide)) (fun _ vals' hv _ => ⟨trivial, hv⟩)
    ·intro k812 vals w813 h816 h817 hW815 hA814
     have e818 := hA814 4 (by decide)
     have e819 := hA814 7 (by decide)
     have e820 := hA814 11 (by decide)
     refine oblc rfl rfl e818 (fun _ => ?_) (fun hb => absurd rfl hb)
     exact ov_pick_f (v := .bool false) e819 rfl (fun vals' hv _ => ⟨rfl, hv⟩)
    ·intro k821 vals w822 h825 h826 hW824 hA823
     have e827 := hA823 4 (by decide)
     have e828 := hA823 12 (by decide)
     refine obl rfl ?_
     exact ov_pick_f (v := .bool false) e827 e828 (fun vals' hv _ => ⟨rfl, hv⟩)
    ·intro k829 vals w830 h833 h834 hW832 hA831
     have e835 := hA831 13 (by decide)
     refine obl rfl ?_
     exact ov_move (v := .bool false) e835 (fun vals' hv _ => ⟨rfl, hv⟩)
    ·intro k836 vals w837 h840 h841 hW839 hA838
     have e842 := hA838 14 (by decide)
     refine oblc rfl rfl e842 (fun _ => ?_) (fun hb => absurd rfl hb)
     exact ov_move (v := .bool true) rfl (fun vals' hv _ => ⟨rfl, hv⟩)
    ·intro k843 vals w844 h847 h848 hW846 hA845
     have e849 := hA845 14 (by decide)
     have e850 := hA845 15 (by decide)
     refine oblc rfl rfl e849 (fun _ => ?_) (fun hb => absurd rfl hb)
     exact ov_move (v := .bool true) e850 (fun vals' hv _ => ⟨rfl, hv⟩)
    ·intro k851 vals w852 h855 h856 hW854 hA853
     obtain rfl : k851 = 1 := Nat.le_antisymm h856 h855
     have hS857 : Sep G498 w67 ((Blk b64 (((laidL (1 + q6) l).getD j9 default).cells d59).toArray 36) :: (SetO b11 (1 + q6) (laidL (1 + q6) l)) :: Rs) w852 := hW854
     have e858 := hA853 16 (by decide)
     refine oblc rfl rfl e858 (fun _ => ?_) (fun hb => absurd rfl hb)
     exact ov_loadk (k := 10) Try.isAgg36 Try.sizeOf36 rfl rfl (CellsAt.all (hS857.blk (i := 0) rfl)) (fun vals' hv _ => ⟨rfl, hv⟩)
    ·intro k859 vals w860 h863 h864 hW862 hA861
     have e865 := hA861 16 (by decide)
     refine oblc rfl rfl e865 (fun _ => ?_) (fun hb => absurd rfl hb)
     exact ov_move (v := v27) rfl (fun vals' hv _ => ⟨rfl, hv⟩)
    ·intro k866 vals w867 h870 h871 hW869 hA868
     have e872 := hA868 16 (by decide)
     refine oblc rfl rfl e872 (fun _ => ?_) (fun hb => absurd rfl hb)
     exact ov_move (v := .int .i64 ((j9 : Nat) : Int)) rfl (fun vals' hv _ => ⟨rfl, hv⟩)
    ·intro k873 vals w874 h877 h878 hW876 hA875
     obtain rfl : k873 = 1 := Nat.le_antisymm h878 h877
     have hS879 : Sep G498 w67 ((Blk b64 (((laidL (1 + q6) l).getD j9 default).cells d59).toArray 36) :: (SetO b11 (1 + q6) (laidL (1 + q6) l)) :: Rs) w874 := hW876
     have e880 := hA875 16 (by decide)
     have e881 := hA875 18 (by decide)
     have e882 := hA875 19 (by decide)
     refine oblc rfl rfl e880 (fun _ => ?_) (fun hb => absurd rfl hb)
     have hi883 : j9 < (laidL (1 + q6) l).length := (by first | omega | (simp only [lens]; omega))
     exact ov_indexAddrN (k := 10) (i := j9) Try.underlying22 Try.sizeOf36 e881 (RdS.base hrd39 hB501).sl e882 hi883 (fun vals' hv _ => ⟨rfl, hv⟩)
    ·intro k884 vals w885 h888 h889 hW887 hA886
     obtain rfl : k884 = 1 := Nat.le_antisymm h889 h888
     have hS890 : Sep G498 w67 ((Blk b64 (((laidL (1 + q6) l).getD j9 default).cells d59).toArray 36) :: (SetO b11 (1 + q6) (laidL (1 + q6) l)) :: Rs) w885 := hW887
     have e891 := hA886 16 (by decide)
     have e892 := hA886 20 (by decide)
     refine oblc rfl rfl e891 (fun _ => ?_) (fun hb => absurd rfl hb)
     have hi894 : j9 < (laidL (1 + q6) l).length := (by first | omega | (simp only [lens]; omega))
     obtain ⟨hce893, hde893_0, hoke893⟩ := (RdS.base hrd39 hB501).ev hi894
     rw [← getD_at default hi894] at hce893 hde893_0 hoke893
     have hsm895 : (((laidL (1 + q6) l).getD j9 default).deps).length * 8 ≤ 140737488355328 := hde893_0.small
     have hcw896 := hS890.cells hce893 ((RdS.base hrd39 hB501).foot (ne_of_lt hi894))
     exact ov_loadk (k := 10) Try.isAgg36 Try.sizeOf36 rfl e892 hcw896 (fun vals' hv _ => ⟨rfl, hv⟩)
    ·intro k685 vals w686 h689 h690 hW688 hA687
     obtain rfl : k685 = 1 := Nat.le_antisymm h690 h689
     have hS691 : Sep G498 w67 ((Blk b64 (((laidL (1 + q6) l).getD j9 default).cells d59).toArray 36) :: (SetO b11 (1 + q6) (laidL (1 + q6) l)) :: Rs) w686 := hW688
     have e692 := hA687 16 (by decide)
     have e693 := hA687 17 (by decide)
     have e694 := hA687 21 (by decide)
     refine oblc rfl rfl e692 (fun _ => ?_) (fun hb => absurd rfl hb)
     have hi696 : j9 < (laidL (1 + q6) l).length := (by first | omega | (simp only [lens]; omega))
     obtain ⟨hce695, hde695_0, hoke695⟩ := (RdS.base hrd39 hB501).ev hi696
     rw [← getD_at default hi696] at hce695 hde695_0 hoke695
     have hsm697 : (((laidL (1 + q6) l).getD j9 default).deps).length * 8 ≤ 140737488355328 := hde695_0.small
     have hcw698 := hS691.cells hce695 ((RdS.base hrd39 hB501).foot (ne_of_lt hi696))
     refine (ov_call (f := 30) (vals := [.agg (((laidL (1 + q6) l).getD j9 default).cells d59).toArray, .agg (((laidL (1 + q6) l).getD j9 default).cells (cellV w67 (sb v27) (so v27 + j9 * 10 + 3))).toArray]) (cap := []) (show _ = (.func (.func 30) #[] #[] : Value) from rfl) (mapL ⟨e693, e694, trivial⟩) Try.call30 (D_sameEvent (a := ((laidL (1 + q6) l).getD j9 default)) (b := ((laidL (1 + q6) l).getD j9 default)) hd504 hoke695 hde695_0 hoke695 hS691) ?_)
     rintro _ w699 ⟨rfl, hS700⟩
     intro vals' hv hv'
     refine ⟨?_, trivial⟩
     show (vals' 22 = (.bool (decide (((laidL (1 + q6) l).getD j9 default) = ((laidL (1 + q6) l).getD j9 default))) : Value)) ∧ Sep G498 w67 ((Blk b64 (((laidL (1 + q6) l).getD j9 default).cells d59).toArray 36) :: (SetO b11 (1 + q6) (laidL (1 + q6) l)) :: Rs) w699
     exact ⟨hv, hS700⟩
    ·intro k897 vals w898 h901 h902 hW900 hA899
     obtain rfl : k897 = 2 := Nat.le_antisymm h902 h901
     obtain ⟨he701, hS903⟩ := hW900
     have e904 := hA899 16 (by decide)
     refine oblc rfl rfl e904 (fun _ => ?_) (fun hb => absurd rfl hb)
     have hl905 : (!(decide (((laidL (1 + q6) l).getD j9 default) = ((laidL (1 + q6) l).getD j9 default)))) = false := by simp
     exact ov_not (a := decide (((laidL (1 + q6) l).getD j9 default) = ((laidL (1 + q6) l).getD j9 default))) he701 (fun vals' hv _ => ⟨rfl, hv.trans (congrArg Value.bool hl905)⟩)
    ·intro k906 vals w907 h910 h911 hW909 hA908
     have e912 := hA908 14 (by decide)
     have e913 := hA908 16 (by decide)
     have e914 := hA908 23 (by decide)
     refine oblc rfl rfl e912 (fun _ => ?_) (fun hb => absurd rfl hb)
     exact ov_pick_t (v := .bool false) e913 e914 (fun vals' hv _ => ⟨rfl, hv⟩)
    ·intro k915 vals w916 h919 h920 hW918 hA917
     have e921 := hA917 14 (by decide)
     have e922 := hA917 24 (by decide)
     refine obl rfl ?_
     exact ov_pick_f (v := .bool false) e921 e922 (fun vals' hv _ => ⟨rfl, hv⟩)
    intro vals w923 hW924 hA925
    obtain ⟨he701, hS926⟩ := hW924
    have e927 := hA925 25 (by decide)
    refine st_env (kv := [(2, .int .i64 (key)), (7, .pointer (some ⟨b11, 0, none⟩)), (8, v27), (9, .int .i64 ((j9 : Nat) : Int)), (11, .pointer (some ⟨b64, 0, none⟩)), (12, .bool true), (75, .bool false)]) ⟨rfl, rfl, rfl, rfl, rfl, rfl, (by exact e927), trivial⟩ (fun ρw923 => ?_)
    refine st_nil ?_
    refine WP_cond_f rfl ?_
    refine WP_skip ?_
    refine WP_seq ?_
    refine WP_region0 (by kernel_rfl) (fun _ => ?_)
    refine st (ov_call (f := 16) (vals := []) (cap := []) (show _ = (.func (.func 16) #[] #[] : Value) from rfl) rfl Try.call16 (D_known9  hS926) ?_)
    rintro _ w928 ⟨rfl, hS929⟩
    refine st (ov_assign (v := .bool true) rfl ?_)
    refine st_nil ?_
    refine WP_ret ?_
    refine fin1 Try.results7 (show _ = (.bool true : Value) from rfl) ?_
    have hS930 : Sep G33 w28 ((DepO d59 (((laidL (1 + q6) l).getD j9 default).deps)) :: (Blk b64 (((laidL (1 + q6) l).getD j9 default).cells d59).toArray 36) :: (SetO b11 (1 + q6) (laidL (1 + q6) l)) :: Rs) w928 := hk503 _ _ hS929
    have hS931 : Sep G W ((RowE (α := Ev) own 36 v27 (laidL (1 + q6) l)) :: (DepO d59 (((laidL (1 + q6) l).getD j9 default).deps)) :: (Blk b64 (((laidL (1 + q6) l).getD j9 default).cells d59).toArray 36) :: (SetO b11 (1 + q6) (laidL (1 + q6) l)) :: Rs) w928 := hk38 _ _ hS930
    have hS932 : Sep G W Rs w928 := hS931.sel 4 [] (Nat.le_add_left _ _) rfl rfl
    refine ⟨rfl, hS932⟩
  ·skip
   have hc45r := hc45
   have hc45 := of_decide_eq_true hc45
   refine WP_cond_t rfl ?_
   refine WP_skip ?_
   refine WP_seq ?_
   refine WP_block ?_
   refine WP_seq ?_
   refine WP_region (by kernel_rfl) ?_
   refine st (ov_move (v := v27) rfl ?_)
   refine st (ov_move (v := .int .i64 (((k : Nat) : Int) - 1)) rfl ?_)
   have hi933 : (((k : Nat) : Int) - 1).toNat < (laidL (1 + q6) l).length := (by first | omega | (simp only [lens]; omega))
   refine st (ov_indexAddr (k := 10) (i := ((k : Nat) : Int) - 1) Try.underlying22 Try.sizeOf36 rfl hrd39.sl rfl ⟨by omega, by omega⟩ ?_)
   refine st (fd36_8 rfl ?_)
   have hi935 : (((k : Nat) : Int) - 1).toNat < (laidL (1 + q6) l).length := (by first | omega | (simp only [lens]; omega))
   obtain ⟨hce934, hde934_0, hoke934⟩ := hrd39.ev hi935
   rw [← getD_at default hi935] at hce934 hde934_0 hoke934
   have hsm936 : (((laidL (1 + q6) l).getD ((((k : Nat) : Int) - 1).toNat) default).deps).length * 8 ≤ 140737488355328 := hde934_0.small
   have hcw937 := hS44.cells hce934 (hrd39.foot (ne_of_lt hi935))
   refine st (ov_load1 (v := .int .i64 (((laidL (1 + q6) l).getD ((((k : Nat) : Int) - 1).toNat) default).key)) Try.isAgg3 rfl (hcw937.get (j := 9) rfl) ?_)
   refine st (ov_move (v := .int .i64 (key)) rfl ?_)
   refine st (ov_eql (k := .i64) (a := ((laidL (1 + q6) l).getD ((((k : Nat) : Int) - 1).toNat) default).key) (b := key) rfl rfl ?_)
   refine st (ov_move (v := .bool (decide ((((laidL (1 + q6) l).getD ((((k : Nat) : Int) - 1).toNat) default).key) = key))) rfl ?_)
   refine stc (V := .int .i64 (key)) rfl rfl (fun hb938 => ?_) ?_
   ·have hl939 := hb938
    have hl939 := of_decide_eq_true hl939
    exact ov_move (v := .int .i64 (key)) rfl ⟨rfl, rfl⟩
   refine stc (V := .bool (!decide (key = 0))) rfl rfl (fun hb940 => ?_) ?_
   ·have hl941 := hb940
    have hl941 := of_decide_eq_true hl941
    exact ov_neq (k := .i64) (a := key) (b := 0) (show _ = (.int .i64 (key) : Value) from (if_pos hb940)) rfl ⟨rfl, rfl⟩
   refine st (ov_pick_and (b := decide ((((laidL (1 + q6) l).getD ((((k : Nat) : Int) - 1).toNat) default).key) = key)) (b' := !decide (key = 0)) rfl (fun hbp => (show _ = (.bool (!decide (key = 0)) : Value) from (if_pos hbp))) ?_)
   refine st_nil ?_
   cases hc942 : (decide ((((laidL (1 + q6) l).getD ((((k : Nat) : Int) - 1).toNat) default).key) = key)) && (!decide (key = 0))
   ·skip
    have hc942r := hc942
    try simp only [bools] at hc942
    refine WP_cond_f rfl ?_
    refine WP_skip ?_
    refine WP_region0 (by kernel_rfl) (fun _ => ?_)
    refine st (ov_move (v := .int .i64 (((k : Nat) : Int) - 1)) rfl ?_)
    have hr943 : InR ((((k - 1 : Nat) : Int) - 1)) := (by omega)
    refine st (ov_sub (r := (((k - 1 : Nat) : Int) - 1)) (k := .i64) (a := ((k : Nat) : Int) - 1) (b := 1) rfl rfl (by rw [show ((((k : Nat) : Int) - 1) - 1 : Int) = (((k - 1 : Nat) : Int) - 1) from (by omega)]; exact wrap_in hr943) ?_)
    refine st (ov_assign (v := .int .i64 ((((k - 1 : Nat) : Int) - 1))) rfl ?_)
    refine st_nil ?_
    exact ⟨_, by omega, k - 1, b9, _, rfl, setAll_self ⟨rfl, rfl, rfl, rfl, rfl, trivial⟩, by omega, (AtE.miss hat (by omega) (by rw [← keyP_and]; simpa using hc942r)), hS44⟩
   ·skip
    have hc942r := hc942
    try simp only [bools] at hc942
    refine WP_cond_t rfl ?_
    refine WP_region0 (by kernel_rfl) (fun _ => ?_)
    refine st (ov_move (v := .int .i64 (((k : Nat) : Int) - 1)) rfl ?_)
    refine st (ov_assign (v := .int .i64 (((k : Nat) : Int) - 1)) rfl ?_)
    refine st_nil ?_
    refine WP_region0 (by kernel_rfl) (fun _ => ?_)
    refine st (ov_move (v := .int .i64 (((k : Nat) : Int) - 1)) rfl ?_)
    have hr944 : InR ((((k - 1 : Nat) : Int) - 1)) := (by omega)
    refine st (ov_sub (r := (((k - 1 : Nat) : Int) - 1)) (k := .i64) (a := ((k : Nat) : Int) - 1) (b := 1) rfl rfl (by rw [show ((((k : Nat) : Int) - 1) - 1 : Int) = (((k - 1 : Nat) : Int) - 1) from (by omega)]; exact wrap_in hr944) ?_)
    refine st (ov_assign (v := .int .i64 ((((k - 1 : Nat) : Int) - 1))) rfl ?_)
    refine st_nil ?_
    exact ⟨_, by omega, k - 1, (((k : Nat) : Int) - 1), _, rfl, setAll_self ⟨rfl, rfl, rfl, rfl, rfl, trivial⟩, by omega, (AtE.hit (by omega) (by omega) (by rw [← keyP_and]; simpa using hc942r)), hS44⟩
 ·skip
  have hc5r := hc5
  refine WP_cond_t rfl ?_
  refine WP_seq ?_
  refine WP_region0 (by kernel_rfl) (fun _ => ?_)
  refine st (ov_call (f := 16) (vals := []) (cap := []) (show _ = (.func (.func 16) #[] #[] : Value) from rfl) rfl Try.call16 (D_known9  hS4) ?_)
  rintro _ w945 ⟨rfl, hS946⟩
  refine st (ov_assign (v := .bool true) rfl ?_)
  refine st_nil ?_
  refine WP_ret ?_
  refine fin1 Try.results7 (show _ = (.bool true : Value) from rfl) ?_
  refine ⟨rfl, hS946⟩

end Go.Proofs.Ytgjgmojjeehieaa
