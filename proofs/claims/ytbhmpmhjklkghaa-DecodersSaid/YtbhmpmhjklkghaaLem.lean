/- A coder's bits and a decoder's: one goes with the other (plain Lean). -/
import Derived.Test.YtbhmpmhjklkghaaSpec
namespace Go.Proofs.Ytbhmpmhjklkghaa
namespace Dd
theorem at_app_left (a b : ByteArray) (j : Int) (h0 : 0 ≤ j) (h : j < (a.size : Int)) : at_ (a ++ b) j = at_ a j := by
  unfold at_
  rw [if_pos h, if_pos (by rw [ByteArray.size_append]; omega), if_pos h0, if_pos h0]
  congr 2
  rw [ByteArray.data_append, Array.toList_append, List.getD_eq_getElem?_getD, List.getD_eq_getElem?_getD, List.getElem?_append_left]
  have : a.data.toList.length = a.size := by rw [Array.length_toList]; rfl
  omega
theorem at_app_right (a b : ByteArray) (j : Int) (h : (a.size : Int) ≤ j) : at_ (a ++ b) j = at_ b (j - a.size) := by
  unfold at_
  by_cases h1 : j - a.size < (b.size : Int)
  · rw [if_pos (by rw [ByteArray.size_append]; omega), if_pos h1, if_pos (by omega), if_pos (by omega)]
    congr 2
    have e : a.data.toList.length = a.size := by rw [Array.length_toList]; rfl
    rw [ByteArray.data_append, Array.toList_append, List.getD_eq_getElem?_getD, List.getD_eq_getElem?_getD, List.getElem?_append_right (by omega), e]
    congr 2
    omega
  · rw [if_neg (by rw [ByteArray.size_append]; omega), if_neg h1]
theorem at_one (x : Int) (h0 : 0 ≤ x) (h : x < 256) : at_ (strOfNums [x]) 0 = x := by
  unfold at_
  rw [strOfNums_size, if_pos (by simp), if_pos (by omega)]
  simp only [strOfNums, List.map_cons, List.map_nil, List.getD_eq_getElem?_getD]
  simp
  omega
/-- Four bytes of a text from a place on, the highest first. -/
def val (s : ByteArray) (a : Int) : Int := ((at_ s a * 256 + at_ s (a + 1)) * 256 + at_ s (a + 2)) * 256 + at_ s (a + 3)
theorem first_val (s : ByteArray) : first s = val s 0 := rfl
theorem val_bd (s : ByteArray) (a : Int) : 0 ≤ val s a ∧ val s a ≤ 4294967295 := by
  unfold val
  have b0 := at_bd s a
  have b1 := at_bd s (a + 1)
  have b2 := at_bd s (a + 2)
  have b3 := at_bd s (a + 3)
  omega
theorem val_next (s : ByteArray) (a : Int) : val s a * 256 % 4294967296 + at_ s (a + 4) = val s (a + 1) := by
  unfold val
  have b0 := at_bd s a
  have b1 := at_bd s (a + 1)
  have b2 := at_bd s (a + 2)
  have b3 := at_bd s (a + 3)
  have b4 := at_bd s (a + 4)
  rw [show a + 1 + 1 = a + 2 by omega, show a + 1 + 2 = a + 3 by omega, show a + 1 + 3 = a + 4 by omega]
  omega
theorem val_top (s : ByteArray) (a : Int) : val s a = at_ s a * 16777216 + val s (a + 1) / 256 ∧ val s a / 16777216 = at_ s a := by
  unfold val
  have b0 := at_bd s a
  have b1 := at_bd s (a + 1)
  have b2 := at_bd s (a + 2)
  have b3 := at_bd s (a + 3)
  have b4 := at_bd s (a + 4)
  rw [show a + 1 + 1 = a + 2 by omega, show a + 1 + 2 = a + 3 by omega, show a + 1 + 3 = a + 4 by omega]
  omega
/-- A text goes on from a place as another one is. -/
def Has (s : ByteArray) (a : Int) (t : ByteArray) : Prop := ∀ j : Int, 0 ≤ j → j < t.size → at_ s (a + j) = at_ t j
theorem Has.nil (s : ByteArray) (a : Int) : Has s a ⟨#[]⟩ := fun j h0 h => by
  have : (ByteArray.mk #[]).size = 0 := rfl
  omega
theorem Has.app {s : ByteArray} {a : Int} {t u : ByteArray} (h : Has s a t) (g : Has s (a + t.size) u) : Has s a (t ++ u) := fun j h0 hj => by
  rw [ByteArray.size_append] at hj
  by_cases hl : j < (t.size : Int)
  · rw [h j h0 hl, at_app_left t u j h0 hl]
  · rw [at_app_right t u j (by omega), ← g (j - t.size) (by omega) (by omega)]
    congr 1
    omega
theorem Has.left {s : ByteArray} {a : Int} {t u : ByteArray} (h : Has s a (t ++ u)) : Has s a t := fun j h0 hj => by
  rw [h j h0 (by rw [ByteArray.size_append]; omega), at_app_left t u j h0 hj]
theorem Has.right {s : ByteArray} {a : Int} {t u : ByteArray} (h : Has s a (t ++ u)) : Has s (a + t.size) u := fun j h0 hj => by
  have := h (t.size + j) (by omega) (by rw [ByteArray.size_append]; omega)
  rw [at_app_right t u _ (by omega)] at this
  rw [show a + (t.size : Int) + j = a + (t.size + j) by omega, this]
  congr 1
  omega
theorem Has.self (s t : ByteArray) : Has (s ++ t) 0 s := fun j h0 hj => by rw [Int.zero_add, at_app_left s t j h0 hj]
theorem four_bytes (lo : Int) (h0 : 0 ≤ lo) (h : lo ≤ 4294967295) : val (strOfNums (Cd.four lo)) 0 = lo := by
  have e : ∀ k : Nat, k < 4 → at_ (strOfNums (Cd.four lo)) (k : Int) = (Cd.four lo).getD k 0 := by
    intro k hk
    unfold at_
    rw [strOfNums_size, if_pos (by show (k : Int) < ((Cd.four lo).length : Int); simp [Cd.four]; omega), if_pos (by omega)]
    have : k = 0 ∨ k = 1 ∨ k = 2 ∨ k = 3 := by omega
    unfold strOfNums Cd.four
    rcases this with rfl | rfl | rfl | rfl <;> simp [List.getD_eq_getElem?_getD] <;> omega
  unfold val
  have e0 := e 0 (by omega)
  have e1 := e 1 (by omega)
  have e2 := e 2 (by omega)
  have e3 := e 3 (by omega)
  simp only [Cd.four, List.getD_cons_zero, List.getD_cons_succ] at e0 e1 e2 e3
  have f0 : at_ (strOfNums (Cd.four lo)) 0 = lo / 16777216 % 256 := e0
  have f1 : at_ (strOfNums (Cd.four lo)) (0 + 1) = lo / 65536 % 256 := e1
  have f2 : at_ (strOfNums (Cd.four lo)) (0 + 2) = lo / 256 % 256 := e2
  have f3 : at_ (strOfNums (Cd.four lo)) (0 + 3) = lo % 256 := e3
  rw [f0, f1, f2, f3]
  omega
theorem val_app (s t : ByteArray) : val (s ++ t) s.size = val t 0 := by
  unfold val
  rw [at_app_right s t _ (by omega), at_app_right s t _ (by omega), at_app_right s t _ (by omega), at_app_right s t _ (by omega)]
  rw [show (s.size : Int) - s.size = 0 by omega, show (s.size : Int) + 1 - s.size = 0 + 1 by omega, show (s.size : Int) + 2 - s.size = 0 + 2 by omega, show (s.size : Int) + 3 - s.size = 0 + 3 by omega]
/-- What the coder's turns leave, the decoder's leave; backward: where the value lies between the ends behind the turns, it lies between those ahead; forward: the bytes that go out are the text's. -/
theorem turns (d : Nat) : ∀ (a c : Int) (out s : ByteArray) (x : Int), Cd.Inv d a c → a ≤ c →
    ∃ (lo hi : Int) (t : ByteArray), Cd.sh d a c out = (lo, hi, out ++ t) ∧ t.size ≤ d ∧ 0 ≤ lo ∧ hi ≤ 4294967295 ∧ lo / 16777216 < hi / 16777216 ∧
      sh d a c (val s x) s (x + 4) = (lo, hi, val s (x + t.size), x + t.size + 4) ∧
      (Has s x t → lo ≤ val s (x + t.size) → val s (x + t.size) ≤ hi → a ≤ val s x ∧ val s x ≤ c) ∧
      (a ≤ val s x → val s x ≤ c → Has s x t ∧ lo ≤ val s (x + t.size) ∧ val s (x + t.size) ≤ hi) := by
  induction d with
  | zero =>
    intro a c out s x hI hac
    have hz := hI.zero
    obtain ⟨h1, h2, h3, h4, h5, -⟩ := hI
    have e0 : ((ByteArray.mk #[]).size : Int) = 0 := rfl
    refine ⟨a, c, ⟨#[]⟩, ?_, Nat.le_refl _, h2, h5, by omega, ?_, ?_, ?_⟩
    · simp only [Cd.sh]
      congr 2
      apply ByteArray.ext
      simp
    · rw [e0, Int.add_zero]
      rfl
    · rw [e0, Int.add_zero]
      exact fun _ h g => ⟨h, g⟩
    · rw [e0, Int.add_zero]
      exact fun h g => ⟨Has.nil s x, h, g⟩
  | succ d ih =>
    intro a c out s x hI hac
    by_cases hg : a / 16777216 = c / 16777216
    · have hn := hI.next hg
      have hr : Cd.sh (d + 1) a c out = Cd.sh d (a * 256 % 4294967296) (c * 256 % 4294967296 + 255) (out ++ strOfNums [a / 16777216 % 256]) := by
        simp only [Cd.sh]
        rw [if_pos hg]
      have hr2 : sh (d + 1) a c (val s x) s (x + 4) = sh d (a * 256 % 4294967296) (c * 256 % 4294967296 + 255) (val s (x + 1)) s (x + 1 + 4) := by
        simp only [sh]
        rw [if_pos hg, val_next, show x + 1 + 4 = x + 4 + 1 by omega]
      obtain ⟨h1, h2, h3, h4, h5, -⟩ := hI
      obtain ⟨lo, hi, t, q1, q2, q3, q4, q5, q6, q7, q8⟩ := ih _ _ (out ++ strOfNums [a / 16777216 % 256]) s (x + 1) hn (by omega)
      have hz : (strOfNums [a / 16777216 % 256]).size = 1 := strOfNums_size _
      have hs : ((strOfNums [a / 16777216 % 256] ++ t).size : Int) = 1 + t.size := by rw [ByteArray.size_append, hz]; omega
      have h1b : at_ (strOfNums [a / 16777216 % 256]) 0 = a / 16777216 % 256 := at_one _ (by omega) (by omega)
      have hx : x + 1 + (t.size : Int) = x + ((strOfNums [a / 16777216 % 256] ++ t).size : Int) := by omega
      rw [hx] at q6 q7 q8
      have hv := val_bd s x
      have hv1 := val_bd s (x + 1)
      have hvt := val_top s x
      refine ⟨lo, hi, strOfNums [a / 16777216 % 256] ++ t, by rw [hr, q1, ByteArray.append_assoc], by omega, q3, q4, q5, by rw [hr2, q6], ?_, ?_⟩
      · intro hh k1 k2
        have hl := hh.left 0 (by omega) (by rw [hz]; decide)
        rw [Int.add_zero, h1b] at hl
        have hrt := hh.right
        rw [hz] at hrt
        obtain ⟨z1, z2⟩ := q7 hrt k1 k2
        omega
      · intro k1 k2
        have hl : at_ s x = a / 16777216 % 256 := by omega
        obtain ⟨z1, z2, z3⟩ := q8 (by omega) (by omega)
        refine ⟨Has.app ?_ (by rw [hz]; exact z1), z2, z3⟩
        intro j h0 hj
        rw [hz] at hj
        obtain rfl : j = 0 := by omega
        rw [Int.add_zero, h1b, hl]
    · rw [hI.stop out hg]
      obtain ⟨h1, h2, h3, h4, h5, -⟩ := hI
      have e0 : ((ByteArray.mk #[]).size : Int) = 0 := rfl
      refine ⟨a, c, ⟨#[]⟩, ?_, Nat.zero_le _, h2, h5, by omega, ?_, ?_, ?_⟩
      · congr 2
        apply ByteArray.ext
        simp
      · rw [e0, Int.add_zero]
        exact stop hg
      · rw [e0, Int.add_zero]
        exact fun _ h g => ⟨h, g⟩
      · rw [e0, Int.add_zero]
        exact fun h g => ⟨Has.nil s x, h, g⟩
/-- A bit: the coder's, and the decoder's that stands where the coder is. -/
theorem bits (lo hi : Int) (out : ByteArray) (p : Int) (hm : Cd.may lo hi out = true) (hp : 1 ≤ p) (hp2 : p ≤ 4095) (hs : out.size + 4 ≤ 65536) (s : ByteArray) (hss : s.size ≤ 65536) (b : Int) (hb : b = 0 ∨ b = 1) :
    ∃ lo' hi' t, Cd.bit lo hi out b p = (lo', hi', out ++ t, 0) ∧ t.size ≤ 4 ∧ Cd.may lo' hi' (out ++ t) = true ∧
      (Has s out.size t → lo' ≤ val s (out ++ t).size → val s (out ++ t).size ≤ hi' →
        lo ≤ val s out.size ∧ val s out.size ≤ hi ∧ bit lo hi (val s out.size) s ((out.size : Int) + 4) p = (lo', hi', val s (out ++ t).size, s, ((out ++ t).size : Int) + 4, b, 0)) ∧
      (lo ≤ val s out.size → val s out.size ≤ hi → (b = 1 ↔ val s out.size ≤ Cd.mid lo hi p) →
        Has s out.size t ∧ lo' ≤ val s (out ++ t).size ∧ val s (out ++ t).size ≤ hi' ∧ bit lo hi (val s out.size) s ((out.size : Int) + 4) p = (lo', hi', val s (out ++ t).size, s, ((out ++ t).size : Int) + 4, b, 0)) := by
  obtain ⟨h1, h2, h3, h4⟩ : 0 ≤ lo ∧ hi ≤ 4294967295 ∧ lo / 16777216 < hi / 16777216 ∧ out.size ≤ 65536 := of_decide_eq_true hm
  have hlo := Cd.mid_lo (show lo ≤ hi by omega) (show 0 ≤ p by omega)
  have hhi := Cd.mid_hi (show lo < hi by omega) (show 0 ≤ p by omega) hp2
  have hc : Cd.chance p = true := decide_eq_true ⟨hp, hp2⟩
  have hmay : ∀ v : Int, lo ≤ v → v ≤ hi → may lo hi v s (out.size + 4) = true := fun v k1 k2 => decide_eq_true ⟨h1, h2, h3, k1, k2, hss, by omega, by omega⟩
  have key : ∀ a c : Int, (b = 1 → a = lo ∧ c = Cd.mid lo hi p) → (b = 0 → a = Cd.mid lo hi p + 1 ∧ c = hi) → ∃ lo' hi' t, Cd.bit lo hi out b p = (lo', hi', out ++ t, 0) ∧ t.size ≤ 4 ∧ Cd.may lo' hi' (out ++ t) = true ∧
      (Has s out.size t → lo' ≤ val s (out ++ t).size → val s (out ++ t).size ≤ hi' →
        lo ≤ val s out.size ∧ val s out.size ≤ hi ∧ bit lo hi (val s out.size) s ((out.size : Int) + 4) p = (lo', hi', val s (out ++ t).size, s, ((out ++ t).size : Int) + 4, b, 0)) ∧
      (lo ≤ val s out.size → val s out.size ≤ hi → (b = 1 ↔ val s out.size ≤ Cd.mid lo hi p) →
        Has s out.size t ∧ lo' ≤ val s (out ++ t).size ∧ val s (out ++ t).size ≤ hi' ∧ bit lo hi (val s out.size) s ((out.size : Int) + 4) p = (lo', hi', val s (out ++ t).size, s, ((out ++ t).size : Int) + 4, b, 0)) := by
    intro a c e1 e0
    have hac : 0 ≤ a ∧ a ≤ c ∧ c ≤ 4294967295 ∧ lo ≤ a ∧ c ≤ hi := by
      rcases hb with rfl | rfl
      · obtain ⟨rfl, rfl⟩ := e0 rfl; omega
      · obtain ⟨rfl, rfl⟩ := e1 rfl; omega
    obtain ⟨lo', hi', t, q1, q2, q3, q4, q5, q6, q7, q8⟩ := turns 4 a c out s out.size (Cd.Inv.start (by omega) (by omega) (by omega) (by omega)) hac.2.1
    have hsz : ((out ++ t).size : Int) = out.size + t.size := by rw [ByteArray.size_append]; omega
    rw [← hsz] at q6 q7 q8
    have hcb : Cd.bit lo hi out b p = (lo', hi', out ++ t, 0) := by
      unfold Cd.bit
      rw [if_pos ⟨hm, hb, hc⟩]
      have e : (if b = 1 then Cd.sh 4 lo (Cd.mid lo hi p) out else Cd.sh 4 (Cd.mid lo hi p + 1) hi out) = Cd.sh 4 a c out := by
        rcases hb with rfl | rfl
        · rw [if_neg (by decide), (e0 rfl).1, (e0 rfl).2]
        · rw [if_pos rfl, (e1 rfl).1, (e1 rfl).2]
      rw [e, q1]
      unfold Cd.fin
      rw [if_pos (by rw [ByteArray.size_append]; omega)]
    have hdb : lo ≤ val s out.size → val s out.size ≤ hi → (b = 1 ↔ val s out.size ≤ Cd.mid lo hi p) → bit lo hi (val s out.size) s ((out.size : Int) + 4) p = (lo', hi', val s (out ++ t).size, s, ((out ++ t).size : Int) + 4, b, 0) := by
      intro k1 k2 hbit
      unfold bit
      rw [if_pos ⟨hmay _ k1 k2, hc⟩]
      have hfin : ∀ bb : Int, fin (lo', hi', val s (out ++ t).size, ((out ++ t).size : Int) + 4) s bb = (lo', hi', val s (out ++ t).size, s, ((out ++ t).size : Int) + 4, bb, 0) := fun bb => by
        unfold fin
        rw [if_pos (by show ((out ++ t).size : Int) + 4 ≤ 65544; omega)]
      by_cases hn : val s out.size ≤ Cd.mid lo hi p
      · rw [if_pos hn]
        have h1 := hbit.2 hn
        rw [← (e1 h1).1, ← (e1 h1).2] at *
        rw [q6, hfin, h1]
      · rw [if_neg hn]
        have h0 : b = 0 := hb.resolve_right fun h => hn (hbit.1 h)
        have q6' := q6
        rw [(e0 h0).1, (e0 h0).2] at q6'
        rw [q6', hfin, h0]
    refine ⟨lo', hi', t, hcb, q2, decide_eq_true ⟨q3, q4, q5, by rw [ByteArray.size_append]; omega⟩, ?_, ?_⟩
    · intro hh k1 k2
      obtain ⟨z1, z2⟩ := q7 hh k1 k2
      refine ⟨by omega, by omega, hdb (by omega) (by omega) ?_⟩
      rcases hb with rfl | rfl
      · obtain ⟨r1, r2⟩ := e0 rfl
        exact ⟨fun h => absurd h (by decide), fun h => by omega⟩
      · obtain ⟨r1, r2⟩ := e1 rfl
        exact ⟨fun _ => by omega, fun _ => rfl⟩
    · intro k1 k2 hbit
      have : a ≤ val s out.size ∧ val s out.size ≤ c := by
        rcases hb with rfl | rfl
        · obtain ⟨r1, r2⟩ := e0 rfl
          have : ¬ val s out.size ≤ Cd.mid lo hi p := fun h => absurd (hbit.2 h) (by decide)
          omega
        · obtain ⟨r1, r2⟩ := e1 rfl
          have := hbit.1 rfl
          omega
      obtain ⟨z1, z2, z3⟩ := q8 this.1 this.2
      exact ⟨z1, z2, z3, hdb k1 k2 hbit⟩
  rcases hb with rfl | rfl
  · exact key _ _ (fun h => absurd h (by decide)) (fun _ => ⟨rfl, rfl⟩)
  · exact key _ _ (fun _ => ⟨rfl, rfl⟩) (fun h => absurd h (by decide))
end Dd
end Go.Proofs.Ytbhmpmhjklkghaa
