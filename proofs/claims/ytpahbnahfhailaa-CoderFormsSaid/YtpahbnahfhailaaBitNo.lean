/- coder.Bit at a coder, a bit or a chance that may not be. -/
import Derived.Test.YtpahbnahfhailaaCBasex
import Derived.Test.YtpahbnahfhailaaSpec
import Derived.Outline
import Derived.WalkLawsBesides
import Derived.Lib.Hide
import Derived.Laws.Rows
import Derived.Deep.RegionWith
import Derived.Deep.LoopGhost
namespace Go.Proofs.Ytpahbnahfhailaa
open Go.RowKit Go.Proofs.YtpahbnahfhailaaW.PrintWords Go.Proofs.YtpahbnahfhailaaW.PrintLast Go.Proofs.YtpahbnahfhailaaW.PrintMore Go.Proofs.Ytpahbnahfhailaa.CBase

theorem bcell {W w1 : World} (hb : Below W.heap.size W w1) : (∀ b o, b < W.heap.size → w1.cell? ⟨b, o, none⟩ = W.cell? ⟨b, o, none⟩) ∧ (∀ b o, b < W.heap.size → w1.frozen? ⟨b, o, none⟩ = W.frozen? ⟨b, o, none⟩) :=
  ⟨fun b o h => hb.cell (p := ⟨b, o, none⟩) h, fun b o h => hb.frozen (p := ⟨b, o, none⟩) h⟩
theorem may_some (lo hi : Int) (out : ByteArray) : coder_May.f lo hi out = some (Cd.may lo hi out) := by
  unfold coder_May.f coder_Ends.f Cd.may
  by_cases h1 : lo ≥ 0
  · rw [if_pos h1]
    by_cases h2 : hi ≤ 4294967295
    · rw [if_pos h2]
      by_cases h3 : hi / 16777216 > lo / 16777216
      · rw [decide_eq_true h3, Option.bind_some, if_pos rfl]
        congr 1
        rw [decide_eq_decide]
        exact ⟨fun h => ⟨h1, h2, h3, by omega⟩, fun h => by have := h.2.2.2; omega⟩
      · simp [h3]
    · rw [if_neg h2]
      have : ¬ (0 ≤ lo ∧ hi ≤ 4294967295 ∧ lo / 16777216 < hi / 16777216 ∧ out.size ≤ 65536) := by omega
      simp [this]
  · rw [if_neg h1]
    have : ¬ (0 ≤ lo ∧ hi ≤ 4294967295 ∧ lo / 16777216 < hi / 16777216 ∧ out.size ≤ 65536) := by omega
    simp [this]
theorem chance_some (p : Int) : coder_Chance.f p = some (Cd.chance p) := by
  unfold coder_Chance.f Cd.chance
  by_cases h : p ≥ 1
  · rw [if_pos h]; congr 1; rw [decide_eq_decide]; omega
  · rw [if_neg h]; congr 1; symm; rw [decide_eq_false_iff_not]; omega

theorem info23 : (Try.prog.info? 23).map (·.size) = some 3 := by kernel_rfl
def box (lo hi : Int) (out : ByteArray) : Obj := .cells #[.int .i64 lo, .int .i64 hi, .string out] 23 (0, 0)
theorem below_two {w w1 : World} {A B : Obj} (hb : Below ((w.alloc A).alloc B).heap.size ((w.alloc A).alloc B) w1) : Below w.heap.size w w1 :=
  (((Below.refl _ _).alloc (Nat.le_refl _) A).alloc (by simp) B).trans (hb.mono (by simp; omega))
theorem gone_calls (x y : Int) (w : World) : Calls Try.prog 21 #[.int .i64 x, .int .i64 y] w fun e w' => e = .returned (.bool (x / 16777216 == y / 16777216)) ∧ w = w' := by
  go_enter Try.func21, Try.ntmps21
  go_wp2
  go_ret
  exact ⟨rfl, rfl⟩
theorem chance_calls (p : Int) (c : Bool) (w : World) (h : coder_Chance.f p = some c) : Calls Try.prog 19 #[.int .i64 p] w fun e w' => e = .returned (.bool c) ∧ w = w' := by
  unfold coder_Chance.f at h
  by_cases h1 : p ≥ 1
  · rw [if_pos h1] at h
    obtain rfl := Option.some.inj h
    clear h
    go_enter Try.func19, Try.ntmps19
    go_wp2
    go_ret
    exact ⟨by simp, rfl⟩
  · rw [if_neg h1] at h
    obtain rfl := Option.some.inj h
    clear h
    have h1' : p < 1 := by omega
    go_enter Try.func19, Try.ntmps19
    go_wp2
    go_ret
    exact ⟨by simp, rfl⟩
def badV : Value := .tuple #[.agg #[.int .i64 0, .int .i64 0, .string ⟨#[]⟩], .int .i64 400]
set_option maxHeartbeats 1000000 in
/-- A coder that may not be, or a bit, or a chance. -/
theorem bit_no (lo hi : Int) (out : ByteArray) (b p : Int) (w : World) (hbad : Cd.may lo hi out = false ∨ (b < 0 ∨ b > 1) ∨ Cd.chance p = false) :
    Calls Try.prog 9 #[.agg #[.int .i64 lo, .int .i64 hi, .string out], .int .i64 b, .int .i64 p] w fun e w' => e = .returned badV ∧ Below w.heap.size w w' := by
  have hu23 := Try.underlying23
  have HM := Lib.hid (may_some lo hi out)
  have HC := Lib.hid (chance_some p)
  cases hm : Cd.may lo hi out with
  | false =>
    rw [hm] at HM
    clear hm hbad HC
    go_enter Try.func9, Try.ntmps9
    go_wp2_with (go_at_call 14; refine (coder_May.calls lo hi out _ _ HM.out).mono ?_; rintro e w1 ⟨rfl, hb⟩; obtain ⟨hc, hf⟩ := bcell hb)
    have hg := hb.block (w.heap.size + 1) (by simp)
    rw [heap_alloc2_new] at hg
    refine bodyPost_ret (results_ct rfl _ _ (w.heap.size + 1) 23 #[.int .i64 0, .int .i64 0, .string ⟨#[]⟩] (0, 0) _ rfl (blk_put (blk_put (blk_put hg 0 _ rfl) 1 _ rfl) 2 _ rfl) Try.underlying23 rfl info23) rfl ⟨rfl, ?_⟩
    exact below_set (below_set (below_set (below_two hb) (by omega)) (by omega)) (by omega)
  | true =>
    have hbad' : (b < 0 ∨ b > 1) ∨ Cd.chance p = false := hbad.resolve_left (by rw [hm]; decide)
    rw [hm] at HM
    clear hm hbad
    rcases hbad' with hbad | hbad
    · rcases hbad with hb0 | hb1
      · clear HC
        go_enter Try.func9, Try.ntmps9
        go_wp2_with (first
          | (go_at_call 14; refine (coder_May.calls lo hi out _ _ HM.out).mono ?_; rintro e w1 ⟨rfl, hb⟩; obtain ⟨hc, hf⟩ := bcell hb)
          | (go_at_call 19; refine (chance_calls p _ _ HC.out).mono ?_; rintro e w2 ⟨rfl, rfl⟩))
        have hg := hb.block (w.heap.size + 1) (by simp)
        rw [heap_alloc2_new] at hg
        refine bodyPost_ret (results_ct rfl _ _ (w.heap.size + 1) 23 #[.int .i64 0, .int .i64 0, .string ⟨#[]⟩] (0, 0) _ rfl (blk_put (blk_put (blk_put hg 0 _ rfl) 1 _ rfl) 2 _ rfl) Try.underlying23 rfl info23) rfl ⟨rfl, ?_⟩
        exact below_set (below_set (below_set (below_two hb) (by omega)) (by omega)) (by omega)
      · have hb0 : ¬ b < 0 := by omega
        clear HC
        go_enter Try.func9, Try.ntmps9
        go_wp2_with (first
          | (go_at_call 14; refine (coder_May.calls lo hi out _ _ HM.out).mono ?_; rintro e w1 ⟨rfl, hb⟩; obtain ⟨hc, hf⟩ := bcell hb)
          | (go_at_call 19; refine (chance_calls p _ _ HC.out).mono ?_; rintro e w2 ⟨rfl, rfl⟩))
        have hg := hb.block (w.heap.size + 1) (by simp)
        rw [heap_alloc2_new] at hg
        refine bodyPost_ret (results_ct rfl _ _ (w.heap.size + 1) 23 #[.int .i64 0, .int .i64 0, .string ⟨#[]⟩] (0, 0) _ rfl (blk_put (blk_put (blk_put hg 0 _ rfl) 1 _ rfl) 2 _ rfl) Try.underlying23 rfl info23) rfl ⟨rfl, ?_⟩
        exact below_set (below_set (below_set (below_two hb) (by omega)) (by omega)) (by omega)
    · rw [hbad] at HC
      clear hbad
      by_cases hb0 : b < 0
      · clear HC
        go_enter Try.func9, Try.ntmps9
        go_wp2_with (first
          | (go_at_call 14; refine (coder_May.calls lo hi out _ _ HM.out).mono ?_; rintro e w1 ⟨rfl, hb⟩; obtain ⟨hc, hf⟩ := bcell hb)
          | (go_at_call 19; refine (chance_calls p _ _ HC.out).mono ?_; rintro e w2 ⟨rfl, rfl⟩))
        have hg := hb.block (w.heap.size + 1) (by simp)
        rw [heap_alloc2_new] at hg
        refine bodyPost_ret (results_ct rfl _ _ (w.heap.size + 1) 23 #[.int .i64 0, .int .i64 0, .string ⟨#[]⟩] (0, 0) _ rfl (blk_put (blk_put (blk_put hg 0 _ rfl) 1 _ rfl) 2 _ rfl) Try.underlying23 rfl info23) rfl ⟨rfl, ?_⟩
        exact below_set (below_set (below_set (below_two hb) (by omega)) (by omega)) (by omega)
      · by_cases hb1 : b > 1
        · clear HC
          go_enter Try.func9, Try.ntmps9
          go_wp2_with (first
            | (go_at_call 14; refine (coder_May.calls lo hi out _ _ HM.out).mono ?_; rintro e w1 ⟨rfl, hb⟩; obtain ⟨hc, hf⟩ := bcell hb)
            | (go_at_call 19; refine (chance_calls p _ _ HC.out).mono ?_; rintro e w2 ⟨rfl, rfl⟩))
          have hg := hb.block (w.heap.size + 1) (by simp)
          rw [heap_alloc2_new] at hg
          refine bodyPost_ret (results_ct rfl _ _ (w.heap.size + 1) 23 #[.int .i64 0, .int .i64 0, .string ⟨#[]⟩] (0, 0) _ rfl (blk_put (blk_put (blk_put hg 0 _ rfl) 1 _ rfl) 2 _ rfl) Try.underlying23 rfl info23) rfl ⟨rfl, ?_⟩
          exact below_set (below_set (below_set (below_two hb) (by omega)) (by omega)) (by omega)
        · have hb1' : ¬ 1 < b := by omega
          go_enter Try.func9, Try.ntmps9
          go_wp2_with (first
            | (go_at_call 14; refine (coder_May.calls lo hi out _ _ HM.out).mono ?_; rintro e w1 ⟨rfl, hb⟩; obtain ⟨hc, hf⟩ := bcell hb)
            | (go_at_call 19; refine (chance_calls p _ _ HC.out).mono ?_; rintro e w2 ⟨rfl, rfl⟩))
          have hg := hb.block (w.heap.size + 1) (by simp)
          rw [heap_alloc2_new] at hg
          refine bodyPost_ret (results_ct rfl _ _ (w.heap.size + 1) 23 #[.int .i64 0, .int .i64 0, .string ⟨#[]⟩] (0, 0) _ rfl (blk_put (blk_put (blk_put hg 0 _ rfl) 1 _ rfl) 2 _ rfl) Try.underlying23 rfl info23) rfl ⟨rfl, ?_⟩
          exact below_set (below_set (below_set (below_two hb) (by omega)) (by omega)) (by omega)


end Go.Proofs.Ytpahbnahfhailaa
