/- How texts of one length are turned tells how the sum is turned. -/
import Derived.Test.YtdojomdnnmaoeaaQCrcTurnedx
import Derived.Laws.BitsAllLaws
namespace Go.Proofs.Ytdojomdnnmaoeaa.Pure
open Go.RowKit Go.Proofs.Ytdojomdnnmaoeaa.QCrcTurned Go.Proofs.YtdojomdnnmaoeaaW.PrintWords Go.Proofs.YtdojomdnnmaoeaaW.PrintLast Go.Proofs.YtdojomdnnmaoeaaW.PrintMore

theorem awake_ok : descantlaw3_awake.f = some true := by decide +kernel
theorem sum_ok (s : ByteArray) (h : s.size ≤ 281474976710656) : crc_Sum.f s = some (Crc.sum s.data.toList : Int) := crc_Sum.some_ s (by omega)

theorem xor64 (a b : Nat) (ha : a < 4294967296) (hb : b < 4294967296) : Go.bits .xor .i64 (a : Int) (b : Int) = ((a ^^^ b : Nat) : Int) := by
  have h := Crc.xor_lt ha hb
  have e : (BitVec.ofInt 64 (a : Int) ^^^ BitVec.ofInt 64 (b : Int)).toNat = a ^^^ b := by
    rw [BitVec.toNat_xor, BitVec.ofInt_natCast, BitVec.ofInt_natCast, BitVec.toNat_ofNat, BitVec.toNat_ofNat, Nat.mod_eq_of_lt (by omega), Nat.mod_eq_of_lt (by omega)]
  show IntKind.i64.wrap ((BitVec.ofInt 64 (a : Int) ^^^ BitVec.ofInt 64 (b : Int)).toNat : Int) = _
  rw [e, IntKind.wrap_i64]
  omega
theorem w64e {x y : Int} (h : x = y) (h0 : -9223372036854775808 ≤ y) (h1 : y ≤ 9223372036854775807) : wrap64 x = y := by
  rw [h]
  unfold wrap64
  omega
theorem xor3_len (a : List UInt8) : ∀ b c, a.length = b.length → a.length = c.length → (Crc.xor3 a b c).length = a.length := by
  induction a with
  | nil => intro b c _ _; cases b <;> cases c <;> rfl
  | cons x a ih =>
    intro b c h1 h2
    cases b with
    | nil => simp at h1
    | cons y b =>
      cases c with
      | nil => simp at h2
      | cons z c => simp only [Crc.xor3, List.length_cons]; rw [ih b c (by simpa using h1) (by simpa using h2)]
theorem xor3_at (a : List UInt8) : ∀ (b c : List UInt8) (i : Nat) (x y z : UInt8), a[i]? = some x → b[i]? = some y → c[i]? = some z → (Crc.xor3 a b c)[i]? = some (x ^^^ y ^^^ z) := by
  induction a with
  | nil => intro b c i x y z h; simp at h
  | cons p a ih =>
    intro b c i x y z h1 h2 h3
    cases b with
    | nil => simp at h2
    | cons q b =>
      cases c with
      | nil => simp at h3
      | cons r c =>
        cases i with
        | zero =>
          simp only [List.getElem?_cons_zero, Option.some.injEq] at h1 h2 h3
          subst h1 h2 h3
          rfl
        | succ i =>
          simp only [List.getElem?_cons_succ] at h1 h2 h3
          simp only [Crc.xor3, List.getElem?_cons_succ]
          exact ih b c i x y z h1 h2 h3
def ns (l : List UInt8) : List Int := l.map fun b => (b.toNat : Int)
theorem ns_back (l : List UInt8) : (strOfNums (ns l)).data.toList = l := by
  rw [strOfNums_data]
  unfold ns
  rw [List.map_map]
  conv => rhs; rw [← List.map_id l]
  apply List.map_congr_left
  intro b _
  simp
theorem bt_at' (s : ByteArray) (i : Nat) (h : i < s.size) : bt s (i : Int) = (s[i].toNat : Int) := by
  unfold bt
  rw [dif_pos (by rw [Int.toNat_natCast]; exact h)]
  rfl
theorem take_at (s : ByteArray) (k i : Nat) (h : i < k) (hs : i < s.size) : (s.data.toList.take k)[i]? = some s[i] := by
  rw [List.getElem?_take_of_lt h]
  rw [List.getElem?_eq_getElem (by simpa using hs)]
  rfl
theorem extract_take (s : ByteArray) (k : Nat) : (s.extract 0 k).data.toList = s.data.toList.take k := by
  rw [ByteArray.data_extract, Array.toList_extract, List.extract_eq_take_drop]
  simp
theorem loop (s t u : ByteArray) (k : Nat) (hs : k ≤ s.size) (ht : k ≤ t.size) (hu : k ≤ u.size) (hk : k ≤ 140737488351232) (X : List UInt8) (hX : X = Crc.xor3 (s.data.toList.take k) (t.data.toList.take k) (u.data.toList.take k)) (d : Nat) : ∀ (i n : Nat), i + d = k → d < n →
    descantlaw3_CrcTurned.l0 n s t u (k : Int) (ns (X.take i) ++ List.replicate d 0) (i : Int) = some true := by
  have ls : (s.data.toList.take k).length = k := by rw [List.length_take, Array.length_toList]; exact Nat.min_eq_left hs
  have lt : (t.data.toList.take k).length = k := by rw [List.length_take, Array.length_toList]; exact Nat.min_eq_left ht
  have lu : (u.data.toList.take k).length = k := by rw [List.length_take, Array.length_toList]; exact Nat.min_eq_left hu
  have lX : X.length = k := by rw [hX, xor3_len _ _ _ (ls.trans lt.symm) (ls.trans lu.symm), ls]
  induction d with
  | zero =>
    intro i n hi hn
    obtain ⟨n, rfl⟩ : ∃ m, n = m + 1 := ⟨n - 1, by omega⟩
    simp only [descantlaw3_CrcTurned.l0]
    have hsum := Crc.sum_xor3 _ _ _ (ls.trans lt.symm) (ls.trans lu.symm)
    rw [← hX] at hsum
    have e0 : ns (X.take i) ++ List.replicate 0 0 = ns X := by rw [List.take_of_length_le (by omega)]; simp
    rw [e0, if_neg (by omega)]
    simp only [descantlaw0_Num.f, Option.bind_some, if_true, Int.toNat_natCast]
    have z1 : (strOfNums (ns X)).size ≤ 281474976710656 := by rw [strOfNums_size]; unfold ns; rw [List.length_map]; omega
    have z2 : ∀ a : ByteArray, k ≤ a.size → (a.extract 0 k).size ≤ 281474976710656 := by intro a ha; rw [ByteArray.size_extract]; omega
    rw [sum_ok _ z1, Option.bind_some, if_pos (Int.natCast_nonneg _), if_pos (by omega), sum_ok _ (z2 s hs), Option.bind_some, if_pos (by omega), sum_ok _ (z2 t ht), Option.bind_some, if_pos (by omega), sum_ok _ (z2 u hu), Option.bind_some]
    rw [ns_back, extract_take, extract_take, extract_take, xor64 _ _ (Crc.sum_lt _) (Crc.sum_lt _), xor64 _ _ (Crc.xor_lt (Crc.sum_lt _) (Crc.sum_lt _)) (Crc.sum_lt _), hsum]
    simp
  | succ d ih =>
    intro i n hi hn
    obtain ⟨n, rfl⟩ : ∃ m, n = m + 1 := ⟨n - 1, by omega⟩
    simp only [descantlaw3_CrcTurned.l0]
    have hik : i < k := by omega
    have h1 := xor3_at _ _ _ i _ _ _ (take_at s k i hik (by omega)) (take_at t k i hik (by omega)) (take_at u k i hik (by omega))
    rw [← hX] at h1
    have hlen : (ns (X.take i)).length = i := by unfold ns; rw [List.length_map, List.length_take]; omega
    have c1 : (i : Int) < ((ns (X.take i) ++ List.replicate (d + 1) (0 : Int)).length : Int) := by rw [List.length_append, hlen, List.length_replicate]; omega
    have hx : Go.bits .xor .u8 (Go.bits .xor .u8 (bt s (i : Int)) (bt t (i : Int))) (bt u (i : Int)) = ((s[i]'(by omega) ^^^ t[i]'(by omega) ^^^ u[i]'(by omega)).toNat : Int) := by
      rw [bt_at' s i (by omega), bt_at' t i (by omega), bt_at' u i (by omega), u8_xor_nat _ _ (UInt8.toNat_lt _) (UInt8.toNat_lt _), ← UInt8.toNat_xor, u8_xor_nat _ _ (UInt8.toNat_lt _) (UInt8.toNat_lt _), ← UInt8.toNat_xor]
    have hset : (ns (X.take i) ++ List.replicate (d + 1) (0 : Int)).set i ((s[i]'(by omega) ^^^ t[i]'(by omega) ^^^ u[i]'(by omega)).toNat : Int) = ns (X.take (i + 1)) ++ List.replicate d 0 := by
      obtain ⟨hiX, hXi⟩ := List.getElem?_eq_some_iff.1 h1
      rw [List.take_succ_eq_append_getElem hiX, hXi, List.set_append_right _ _ (by omega), hlen, Nat.sub_self, List.replicate_succ, List.set_cons_zero]
      unfold ns
      simp
    have c2 : (i : Int) < (s.size : Int) := by omega
    have c3 : (i : Int) < (t.size : Int) := by omega
    have c4 : (i : Int) < (u.size : Int) := by omega
    have c5 : (i : Int) < (k : Int) := by omega
    have hw : wrap64 ((i : Int) + 1) = ((i + 1 : Nat) : Int) := w64e (by omega) (by omega) (by omega)
    rw [if_pos c5, if_pos (Int.natCast_nonneg _), if_pos c2, if_pos c3, if_pos c4, if_pos c1, hx, Int.toNat_natCast, hset, hw]
    exact ih (i + 1) n (by omega) (by omega)
/-- YOURS -/
theorem CrcTurned : descantlaw3_CrcTurned.Pure := by
  intro s t u hs ht hu
  obtain ⟨k, hk, h1, h2, h3⟩ : ∃ k : Nat, mn (mn (s.size : Int) (t.size : Int)) (u.size : Int) = (k : Int) ∧ k ≤ s.size ∧ k ≤ t.size ∧ k ≤ u.size := by
    refine ⟨min (min s.size t.size) u.size, ?_, by omega, by omega, by omega⟩
    unfold mn
    split <;> split <;> omega
  refine ⟨k + 1, ?_⟩
  unfold descantlaw3_CrcTurned.f
  rw [awake_ok, Option.bind_some, if_pos rfl, hk, if_pos (Int.natCast_nonneg _), Int.toNat_natCast, if_pos (by omega)]
  have h := loop s t u k h1 h2 h3 (by omega) _ rfl k 0 (k + 1) (by omega) (by omega)
  simpa [ns] using h

end Go.Proofs.Ytdojomdnnmaoeaa.Pure
