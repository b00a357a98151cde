/- The document's DecodeBit where it takes a bit 0. -/
import Derived.Test.YtbhmpmhjklkghaaRef1
namespace Go.Proofs.Ytbhmpmhjklkghaa
open Go.RowKit Go.Proofs.YtbhmpmhjklkghaaW.PrintWords Go.Proofs.YtbhmpmhjklkghaaW.PrintLast Go.Proofs.YtbhmpmhjklkghaaW.PrintMore Go.Proofs.Ytbhmpmhjklkghaa.CBase
set_option linter.unusedVariables false
set_option linter.unusedSimpArgs false
set_option maxRecDepth 100000 in
set_option maxHeartbeats 4000000 in
theorem dref_zero (lo hi now : Int) (t : ByteArray) (a p : Int) (w : World) (hm : Dd.may lo hi now t a = true) (hp : Cd.chance p = true) (m : Int) (hmid : coder_Middle.f lo hi p = some m) (hm0 : lo ≤ m) (hm1 : m < hi) (hgt : m < now) :
    Calls Try.prog 9 #[.agg #[.int .i64 lo, .int .i64 hi, .int .i64 now, .string t, .int .i64 a], .int .i64 p] w fun e w' => e = .returned (dres (Dd.fin (Dd.sh 4 (m + 1) hi now t a) t 0)) ∧ Below w.heap.size w w' := by
  have hu23 := Try.underlying23
  have HM := Lib.hid (rmay_some lo hi now t a)
  rw [hm] at HM
  have HC := Lib.hid (rchance_some p)
  rw [hp] at HC
  have HD := Lib.hid (show descantref1_middle.f lo hi p = some m from hmid)
  have HB := of_decide_eq_true hm
  clear hm hp hmid
  obtain ⟨hl0, hh0, hlh, hn0, hn1, ht0, ha0, ha1⟩ := HB
  have hmt : decide (now ≤ m) = false := decide_eq_false (by omega)
  go_enter Try.func9, Try.ntmps9
  go_wp2_with (first
    | (go_at_call 14; refine (descantref1_DecoderMay.calls lo hi now t a _ _ HM.out).mono ?_; rintro e w1 ⟨rfl, hb⟩; obtain ⟨hc, hf⟩ := bcell hb)
    | (go_at_call 24; refine (descantref1_chance.calls p _ _ HC.out).mono ?_; rintro e w2 ⟨rfl, ⟨nc, rfl⟩⟩)
    | (go_at_call 25; refine (descantref1_middle.calls lo hi p m _ HD.out).mono ?_; rintro e w3 ⟨rfl, ⟨nd, rfl⟩⟩))
  have hg3 := hb.block w.heap.size (by simp; omega)
  rw [heap_alloc2_old] at hg3
  have hg6 := hb.block (w.heap.size + 1) (by simp)
  rw [heap_alloc2_new] at hg6
  have hgb : Below w.heap.size w ((w1.drewN (nc + nd)).setCell ⟨w.heap.size, 0, none⟩ (.int .i64 (m + 1))) := below_set (pw_below_drewN (below_two hb) (nc + nd)) (Nat.le_refl _)
  have A3 : Aside0 (((w1.drewN (nc + nd)).setCell ⟨w.heap.size, 0, none⟩ (.int .i64 (m + 1))).heap[w.heap.size]? = some (dbox (m + 1) hi now t a)) := ⟨blk_put (blk_drewN hg3 (nc + nd)) 0 _ rfl⟩
  have A6 : Aside0 (((w1.drewN (nc + nd)).setCell ⟨w.heap.size, 0, none⟩ (.int .i64 (m + 1))).heap[w.heap.size + 1]? = some (dbox 0 0 0 ⟨#[]⟩ 0)) := ⟨blk_far (blk_drewN hg6 (nc + nd)) (p := ⟨w.heap.size, 0, none⟩) (by simp) _⟩
  have AB := Aside0.mk hgb
  have AI := Aside0.mk (show Cd.Inv 4 (m + 1) hi from Cd.Inv.start (by omega) (by omega) (by omega) (by omega))
  have hnn : 0 ≤ now ∧ now ≤ 4294967295 := by omega
  clear hg3 hg6 hgb hc hf hb
  generalize ((w1.drewN (nc + nd)).setCell ⟨w.heap.size, 0, none⟩ (.int .i64 (m + 1))) = wx at A3 A6 AB ⊢
  go_loopg [] 4 (fun d wr => ∃ (l h n x : Int), Aside0 (Cd.Inv d l h) ∧ Aside0 (Dd.sh d l h n t x = Dd.sh 4 (m + 1) hi now t a) ∧ Aside0 (4 ≤ x ∧ x + d ≤ 65548) ∧ Aside0 (0 ≤ n ∧ n ≤ 4294967295) ∧ Aside0 (wr.heap[w.heap.size]? = some (dbox l h n t x)) ∧ Aside0 (wr.heap[w.heap.size + 1]? = some (dbox 0 0 0 ⟨#[]⟩ 0)) ∧ Aside0 (Below w.heap.size w wr))
  case atStart => exact ⟨(m + 1), hi, now, a, AI, ⟨rfl⟩, ⟨ha0, by omega⟩, ⟨hnn⟩, A3, A6, AB⟩
  case round =>
    clear A3 A6 AB AI ha0 ha1 hn0 hn1 hnn hl0 hh0 hlh hgt hm0 hm1 hmt ht0
    obtain ⟨l, h, n, x, AI, AS, AO, AN', A3, A6, AB⟩ := hrel
    have c0 : wr.cell? ⟨w.heap.size, 0, none⟩ = some (.int .i64 l) := blk_cell A3.out 0
    have c1 : wr.cell? ⟨w.heap.size, 1, none⟩ = some (.int .i64 h) := blk_cell A3.out 1
    have c2 : wr.cell? ⟨w.heap.size, 2, none⟩ = some (.int .i64 n) := blk_cell A3.out 2
    have c3 : wr.cell? ⟨w.heap.size, 3, none⟩ = some (.string t) := blk_cell A3.out 3
    have c4 : wr.cell? ⟨w.heap.size, 4, none⟩ = some (.int .i64 x) := blk_cell A3.out 4
    have l3 := blk_lt A3.out
    have l6 := blk_lt A6.out
    have f0 := blk_frozen A3.out 0
    have f1 := blk_frozen A3.out 1
    have f2 := blk_frozen A3.out 2
    have f4 := blk_frozen A3.out 4
    have ha0 : 0 ≤ x := by have := AO.out; omega
    have ha1 : x ≤ 65548 := by have := AO.out; omega
    by_cases hgone : l / 16777216 = h / 16777216
    · cases gk with
      | zero => exact absurd hgone AI.out.zero
      | succ d =>
        have heq : (l / 16777216 == h / 16777216) = true := beq_iff_eq.2 hgone
        have AN := Aside0.mk (AI.out.next hgone)
        have AG := Aside0.mk hgone
        have hl0 := AI.out.2.1
        have hl1 := AI.out.2.2.1
        have hh0 := AI.out.2.2.2.1
        have hh1 := AI.out.2.2.2.2.1
        obtain ⟨hn0, hn1⟩ := AN'.out
        obtain ⟨hb0, hb1⟩ := Dd.at_bd t x
        obtain ⟨l', hl'⟩ : ∃ l', l * 256 % 4294967296 + 0 = l' := ⟨_, rfl⟩
        obtain ⟨h', hh'⟩ : ∃ h', h * 256 % 4294967296 + 255 = h' := ⟨_, rfl⟩
        obtain ⟨n', hn'⟩ : ∃ n', n * 256 % 4294967296 + Dd.at_ t x = n' := ⟨_, rfl⟩
        have gn : 0 ≤ n' ∧ n' ≤ 4294967295 := by omega
        have HL := Lib.hid hl'
        have HH := Lib.hid hh'
        have HN := Lib.hid hn'
        have GN := Aside0.mk gn
        clear hgone hl' hh' hn' gn
        have hul := and_up l hl0 hl1
        have huh := and_up h hh0 hh1
        have hor := or_up h 255 hh0 hh1 (by omega) (by omega)
        have hun := and_up n hn0 hn1
        have hon := or_up n (Dd.at_ t x) hn0 hn1 hb0 hb1
        rw [HH.out] at hor
        rw [HN.out] at hon
        rw [show l * 256 % 4294967296 = l' by have := HL.out; omega] at hul
        have hul2 := hul
        have huh2 := huh
        have hun2 := hun
        rw [w64_of (l * 256) (by omega) (by omega)] at hul2
        rw [w64_of (h * 256) (by omega) (by omega)] at huh2
        rw [w64_of (n * 256) (by omega) (by omega)] at hun2
        go_wp2
        have hne : w.heap.size + 1 ≠ w.heap.size := by omega
        have hle := Nat.le_refl w.heap.size
        have Y3 := Aside0.mk (blk_drew (blk_set (blk_set A3.out 0 (.int .i64 l')) 1 (.int .i64 h')))
        have Y6 := Aside0.mk (blk_drew (blk_far (p := ⟨w.heap.size, 1, none⟩) (blk_far (p := ⟨w.heap.size, 0, none⟩) A6.out hne (.int .i64 l')) hne (.int .i64 h')))
        have YB := Aside0.mk (below_drew1 (below_set (j := 1) (v := .int .i64 h') (below_set (j := 0) (v := .int .i64 l') AB.out hle) hle))
        clear c0 c1 c2 c3 c4 l3 l6 f0 f1 f2 f4 A3 A6 AB
        refine start_ (n := 12) (S := fun w' => w'.heap[w.heap.size]? = some (dbox l' h' n t x)) (ds := [11]) #[false, false, false, false, false, false, false, false, false, false, false, false] (by kernel_rfl) rfl rfl Y3.out (fun hHeld => ?_); refine with_tabW dref.tab12 dref.bits12 (fun HT_ HW_ => ?_)
        generalize (((wr.setCell ⟨w.heap.size, 0, none⟩ (.int .i64 l')).setCell ⟨w.heap.size, 1, none⟩ (.int .i64 h')).drew) = w5 at Y3 Y6 YB hHeld ⊢
        refine pure_ (i := 0) (N := some 51) (v := ?_) (a' := ?_) #[true, false, false, false, false, false, false, false, false, false, false, false] rfl rfl (any_of HT_.out (by kernel_rfl)) (fun _ _ _ h => h) (Or.inl ⟨by rfl, ?_⟩) ?_ ?_
        rotate_left
        · intro w'
          go_simp
          with_reducible rfl
        rotate_left
        · simp only [Act.put, List.setIfInBounds_toArray, List.set_cons_zero, List.set_cons_succ, i64_w, i32_w]
          rfl
        refine pure_ (i := 4) (N := some 55) (v := ?_) (a' := ?_) #[true, false, false, false, true, false, false, false, false, false, false, false] rfl rfl (any_of HT_.out (by kernel_rfl)) (fun _ _ _ h => h) (Or.inl ⟨by rfl, ?_⟩) ?_ ?_
        rotate_left
        · intro w'
          go_simp
          with_reducible rfl
        rotate_left
        · simp only [Act.put, List.setIfInBounds_toArray, List.set_cons_zero, List.set_cons_succ, i64_w, i32_w]
          rfl
        refine pure_ (i := 6) (N := some 57) (v := ?_) (a' := ?_) #[true, false, false, false, true, false, true, false, false, false, false, false] rfl rfl (any_of HT_.out (by kernel_rfl)) (fun _ _ _ h => h) (Or.inl ⟨by rfl, ?_⟩) ?_ ?_
        rotate_left
        · intro w'
          go_simp
          with_reducible rfl
        rotate_left
        · simp only [Act.put, List.setIfInBounds_toArray, List.set_cons_zero, List.set_cons_succ, i64_w, i32_w]
          rfl
        refine take_ (i := 1) (N := some 52) (v := ?_) (a' := ?_) #[true, true, false, false, true, false, true, false, false, false, false, false] rfl rfl (take_ofW HT_.out HW_.out (by kernel_rfl)) (fun _ _ _ h => h) (Or.inl ⟨by rfl, ?_⟩) hHeld ?_ ?_
        rotate_left
        · rintro w' s0
          have s10 := blk_cell s0 0
          have s11 := blk_cell s0 1
          have s12 := blk_cell s0 2
          have s13 := blk_cell s0 3
          have s14 := blk_cell s0 4
          simp at s10 s11 s12 s13 s14
          go_simp
          with_reducible rfl
        rotate_left
        · simp only [Act.put, List.setIfInBounds_toArray, List.set_cons_zero, List.set_cons_succ, i64_w, i32_w]
          rfl
        refine pure_ (i := 2) (N := some 53) (v := ?_) (a' := ?_) #[true, true, true, false, true, false, true, false, false, false, false, false] rfl rfl (any_of HT_.out (by kernel_rfl)) (fun _ _ _ h => h) (Or.inl ⟨by rfl, ?_⟩) ?_ ?_
        rotate_left
        · intro w'
          go_simp
          with_reducible rfl
        rotate_left
        · simp only [Act.put, List.setIfInBounds_toArray, List.set_cons_zero, List.set_cons_succ, i64_w, i32_w]
          rfl
        refine pure_ (i := 3) (N := some 54) (v := ?_) (a' := ?_) #[true, true, true, true, true, false, true, false, false, false, false, false] rfl rfl (any_of HT_.out (by kernel_rfl)) (fun _ _ _ h => h) (Or.inl ⟨by rfl, ?_⟩) ?_ ?_
        rotate_left
        · intro w'
          go_simp
          with_reducible rfl
        rotate_left
        · simp only [Act.put, List.setIfInBounds_toArray, List.set_cons_zero, List.set_cons_succ, i64_w, i32_w]
          rfl
        refine take_ (i := 5) (N := some 56) (v := ?_) (a' := ?_) #[true, true, true, true, true, true, true, false, false, false, false, false] rfl rfl (take_ofW HT_.out HW_.out (by kernel_rfl)) (fun _ _ _ h => h) (Or.inl ⟨by rfl, ?_⟩) hHeld ?_ ?_
        rotate_left
        · rintro w' s0
          have s10 := blk_cell s0 0
          have s11 := blk_cell s0 1
          have s12 := blk_cell s0 2
          have s13 := blk_cell s0 3
          have s14 := blk_cell s0 4
          simp at s10 s11 s12 s13 s14
          go_simp
          with_reducible rfl
        rotate_left
        · simp only [Act.put, List.setIfInBounds_toArray, List.set_cons_zero, List.set_cons_succ, i64_w, i32_w]
          rfl
        refine take_ (i := 7) (N := some 58) (v := ?_) (a' := ?_) #[true, true, true, true, true, true, true, true, false, false, false, false] rfl rfl (take_ofW HT_.out HW_.out (by kernel_rfl)) (fun _ _ _ h => h) (Or.inl ⟨by rfl, ?_⟩) hHeld ?_ ?_
        rotate_left
        · rintro w' s0
          have s10 := blk_cell s0 0
          have s11 := blk_cell s0 1
          have s12 := blk_cell s0 2
          have s13 := blk_cell s0 3
          have s14 := blk_cell s0 4
          simp at s10 s11 s12 s13 s14
          go_simp
          with_reducible rfl
        rotate_left
        · simp only [Act.put, List.setIfInBounds_toArray, List.set_cons_zero, List.set_cons_succ, i64_w, i32_w]
          rfl
        refine one_ (i := 8) (N := some 59) #[true, true, true, true, true, true, true, true, true, false, false, false] rfl rfl (one_of HT_.out (by kernel_rfl)) (by decide) (fun K hK => ?_)
        refine goes_ Try.func26 (by kernel_rfl) rfl #[.string t, .int .i64 x] (by rfl) rfl rfl (by (try simp only [List.map_toArray, List.map_cons, List.map_nil]); first | done | rfl) ?_
        refine (byteAt_calls t x _ ha0).mono ?_
        rintro e w' ⟨rfl, ⟨nd, rfl⟩⟩
        refine ⟨_, rfl, ?_⟩
        have m3 := Aside0.mk (blk_drewN Y3.out nd); have m6 := Aside0.mk (blk_drewN Y6.out nd); have mB := Aside0.mk (pw_below_drewN YB.out nd); clear Y3 Y6 YB hHeld; generalize World.drewN _ nd = w6 at m3 m6 mB ⊢; have Y3 := m3; have Y6 := m6; have YB := mB; clear m3 m6 mB
        refine hK.out _ _ Y3.out (fun hHeld => ?_)
        clear hK K
        refine norm_ (a' := ?_) ?_ ?_
        rotate_left
        · show Act.put _ (some 59) _ = _
          simp only [Act.put, List.setIfInBounds_toArray, List.set_cons_zero, List.set_cons_succ, i64_w, i32_w]
          rfl
        refine pure_ (i := 9) (N := some 60) (v := ?_) (a' := ?_) #[true, true, true, true, true, true, true, true, true, true, false, false] rfl rfl (any_of HT_.out (by kernel_rfl)) (fun _ _ _ h => h) (Or.inl ⟨by rfl, ?_⟩) ?_ ?_
        rotate_left
        · intro w'
          go_simp
          with_reducible rfl
        rotate_left
        · simp only [Act.put, List.setIfInBounds_toArray, List.set_cons_zero, List.set_cons_succ, i64_w, i32_w]
          rfl
        refine pure_ (i := 10) (N := some 61) (v := ?_) (a' := ?_) #[true, true, true, true, true, true, true, true, true, true, true, false] rfl rfl (any_of HT_.out (by kernel_rfl)) (fun _ _ _ h => h) (Or.inl ⟨by rfl, ?_⟩) ?_ ?_
        rotate_left
        · intro w'
          go_simp
          with_reducible rfl
        rotate_left
        · simp only [Act.put, List.setIfInBounds_toArray, List.set_cons_zero, List.set_cons_succ, i64_w, i32_w]
          rfl
        have c0 := blk_cell Y3.out 0
        have c1 := blk_cell Y3.out 1
        have c2 := blk_cell Y3.out 2
        have c3 := blk_cell Y3.out 3
        have c4 := blk_cell Y3.out 4
        have f0 := blk_frozen Y3.out 0
        have f1 := blk_frozen Y3.out 1
        have f2 := blk_frozen Y3.out 2
        have f3 := blk_frozen Y3.out 3
        have f4 := blk_frozen Y3.out 4
        have l3 := blk_lt Y3.out
        simp at c0 c1 c2 c3 c4
        refine last_ (i := 11) (N := none) #[true, true, true, true, true, true, true, true, true, true, true, true] rfl rfl (one_of HT_.out (by kernel_rfl)) (by decide) (fun K hK => ?_)
        refine skip_ (w1 := ?_) (by rfl) rfl ?_ ?_
        rotate_left
        · go_simp
          rfl
        refine hK.out _ _ ?_
        clear hK K
        refine done_ (done_of HT_.out (by kernel_rfl)) ?_
        go_wp2
        go_roundg d
        case measure => omega
        case rel =>
          refine ⟨l', h', n', x + 1, ⟨?_⟩, ⟨?_⟩, ⟨?_⟩, GN, ⟨?_⟩, ⟨?_⟩, ⟨?_⟩⟩
          · have := AN.out
            rw [HH.out, show l * 256 % 4294967296 = l' by have := HL.out; omega] at this
            exact this
          · have := AS.out
            simp only [Dd.sh] at this
            rw [if_pos AG.out, HN.out, HH.out, show l * 256 % 4294967296 = l' by have := HL.out; omega] at this
            exact this
          · have := AO.out
            omega
          · exact blk_put (blk_set Y3.out 2 _) 4 _ rfl
          · exact blk_far (p := ⟨w.heap.size, _, none⟩) (blk_far (p := ⟨w.heap.size, _, none⟩) Y6.out hne _) hne _
          · exact below_set (below_set YB.out hle) hle
    · have hne : (l / 16777216 == h / 16777216) = false := beq_eq_false_iff_ne.2 hgone
      have AE := AS.out
      rw [Dd.stop hgone] at AE
      clear hgone
      have f6 := blk_frozen A6.out
      have d0 : wr.cell? ⟨w.heap.size + 1, 0, none⟩ = some (.int .i64 0) := blk_cell A6.out 0
      have d1 : wr.cell? ⟨w.heap.size + 1, 1, none⟩ = some (.int .i64 0) := blk_cell A6.out 1
      have d2 : wr.cell? ⟨w.heap.size + 1, 2, none⟩ = some (.int .i64 0) := blk_cell A6.out 2
      have d3 : wr.cell? ⟨w.heap.size + 1, 3, none⟩ = some (.string ⟨#[]⟩) := blk_cell A6.out 3
      have d4 : wr.cell? ⟨w.heap.size + 1, 4, none⟩ = some (.int .i64 0) := blk_cell A6.out 4
      by_cases hs : x ≤ 65544
      · have hfin : Dd.fin (Dd.sh 4 (m + 1) hi now t a) t 0 = (l, h, n, t, x, 0, 0) := by rw [← AE]; unfold Dd.fin; rw [if_pos hs]
        have HF := Lib.hid hfin
        have hs' : ¬ 65544 < x := by omega
        clear AE hfin hs
        go_wp2
        refine bodyPost_ret (results_ctt rfl _ _ (w.heap.size + 1) 23 #[.int .i64 l, .int .i64 h, .int .i64 n, .string t, .int .i64 x] (0, 0) _ rfl (blk_set (blk_set (blk_set (blk_set (blk_set A6.out 0 _) 1 _) 2 _) 3 _) 4 _) Try.underlying23 rfl info23) rfl ⟨by rw [HF.out]; rfl, ?_⟩
        exact below_set (below_set (below_set (below_set (below_set AB.out (by omega)) (by omega)) (by omega)) (by omega)) (by omega)
      · have hfin : Dd.fin (Dd.sh 4 (m + 1) hi now t a) t 0 = (0, 0, 0, ⟨#[]⟩, 0, 0, 500) := by rw [← AE]; unfold Dd.fin; rw [if_neg hs]; rfl
        have HF := Lib.hid hfin
        have hs' : 65544 < x := by omega
        clear AE hfin hs
        go_wp2
        refine bodyPost_ret (results_ctt rfl _ _ (w.heap.size + 1) 23 #[.int .i64 0, .int .i64 0, .int .i64 0, .string ⟨#[]⟩, .int .i64 0] (0, 0) _ rfl (blk_set (blk_set (blk_set (blk_set (blk_set A6.out 0 _) 1 _) 2 _) 3 _) 4 _) Try.underlying23 rfl info23) rfl ⟨by rw [HF.out]; rfl, ?_⟩
        exact below_set (below_set (below_set (below_set (below_set AB.out (by omega)) (by omega)) (by omega)) (by omega)) (by omega)
end Go.Proofs.Ytbhmpmhjklkghaa
