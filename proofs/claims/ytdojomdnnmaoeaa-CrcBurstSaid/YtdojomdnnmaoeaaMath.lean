/- The plain mathematics of the sum (CRC-32): one bit's step is linear and can be undone; so sums of texts of one length add up by xor, sums go on alike, and a burst of at most 32 bits turns the sum. -/
namespace Go.Proofs.Ytdojomdnnmaoeaa
namespace Crc

def poly : Nat := 3988292384
def step (x : Nat) : Nat := if x % 2 = 1 then (x / 2) ^^^ poly else x / 2
def step4 (x : Nat) : Nat := step (step (step (step x)))
def step8 (x : Nat) : Nat := step4 (step4 x)
def upd (x b : Nat) : Nat := step8 (x ^^^ b)
def run (x : Nat) (l : List UInt8) : Nat := l.foldl (fun x b => upd x b.toNat) x
def sum (l : List UInt8) : Nat := 4294967295 ^^^ run 4294967295 l

theorem step_bit (x i : Nat) : (step x).testBit i = (x.testBit (i + 1) != (x.testBit 0 && poly.testBit i)) := by
  unfold step
  rw [Nat.testBit_succ, Nat.testBit_zero]
  split
  next h => simp [h]
  next h => simp [h]

theorem step_xor (a b : Nat) : step (a ^^^ b) = step a ^^^ step b := by
  apply Nat.eq_of_testBit_eq
  intro i
  simp only [step_bit, Nat.testBit_xor]
  cases a.testBit (i + 1) <;> cases b.testBit (i + 1) <;> cases a.testBit 0 <;> cases b.testBit 0 <;> cases poly.testBit i <;> rfl

theorem step_lt {x : Nat} (h : x < 4294967296) : step x < 4294967296 := by
  unfold step
  split
  · exact Nat.xor_lt_two_pow (n := 32) (by omega) (by decide)
  · omega

theorem bit_high {x : Nat} (h : x < 4294967296) : x.testBit 32 = false := Nat.testBit_lt_two_pow (by omega)

theorem step_inj {x y : Nat} (hx : x < 4294967296) (hy : y < 4294967296) (h : step x = step y) : x = y := by
  have hb : ∀ i, (step x).testBit i = (step y).testBit i := fun i => by rw [h]
  simp only [step_bit] at hb
  have h31 := hb 31
  rw [bit_high hx, bit_high hy, show poly.testBit 31 = true by decide] at h31
  have h0 : x.testBit 0 = y.testBit 0 := by
    revert h31
    cases x.testBit 0 <;> cases y.testBit 0 <;> simp
  apply Nat.eq_of_testBit_eq
  intro i
  cases i with
  | zero => exact h0
  | succ i =>
    have := hb i
    rw [h0] at this
    revert this
    cases x.testBit (i + 1) <;> cases y.testBit (i + 1) <;> cases y.testBit 0 <;> cases poly.testBit i <;> simp

theorem step4_xor (a b : Nat) : step4 (a ^^^ b) = step4 a ^^^ step4 b := by simp only [step4, step_xor]
theorem step8_xor (a b : Nat) : step8 (a ^^^ b) = step8 a ^^^ step8 b := by simp only [step8, step4_xor]
theorem step4_lt {x : Nat} (h : x < 4294967296) : step4 x < 4294967296 := step_lt (step_lt (step_lt (step_lt h)))
theorem step8_lt {x : Nat} (h : x < 4294967296) : step8 x < 4294967296 := step4_lt (step4_lt h)
theorem step4_inj {x y : Nat} (hx : x < 4294967296) (hy : y < 4294967296) (h : step4 x = step4 y) : x = y :=
  step_inj hx hy (step_inj (step_lt hx) (step_lt hy) (step_inj (step_lt (step_lt hx)) (step_lt (step_lt hy))
    (step_inj (step_lt (step_lt (step_lt hx))) (step_lt (step_lt (step_lt hy))) h)))
theorem step8_inj {x y : Nat} (hx : x < 4294967296) (hy : y < 4294967296) (h : step8 x = step8 y) : x = y :=
  step4_inj hx hy (step4_inj (step4_lt hx) (step4_lt hy) h)

theorem step_two (y : Nat) : step (2 * y) = y := by
  unfold step
  rw [if_neg (by omega)]
  omega
theorem step4_sixteen (y : Nat) : step4 (16 * y) = y := by
  unfold step4
  rw [show 16 * y = 2 * (2 * (2 * (2 * y))) by omega, step_two, step_two, step_two, step_two]
theorem step8_high (y : Nat) : step8 (256 * y) = y := by
  unfold step8
  rw [show 256 * y = 16 * (16 * y) by omega, step4_sixteen, step4_sixteen]

theorem xor_parts (k x : Nat) : (2 ^ k * (x / 2 ^ k)) ^^^ (x % 2 ^ k) = x := by
  apply Nat.eq_of_testBit_eq
  intro i
  rw [Nat.testBit_xor, Nat.testBit_mod_two_pow, Nat.testBit_two_pow_mul, Nat.testBit_div_two_pow]
  by_cases h : i < k
  · simp [h, show ¬ k ≤ i by omega]
  · simp [h, show k ≤ i by omega, show i - k + k = i by omega]

theorem step4_table (x : Nat) : step4 x = (x / 16) ^^^ step4 (x % 16) := by
  have h := xor_parts 4 x
  have h2 : step4 ((16 * (x / 16)) ^^^ (x % 16)) = step4 x := congrArg step4 h
  rw [step4_xor, step4_sixteen] at h2
  exact h2.symm

theorem xor_lt {a b : Nat} (ha : a < 4294967296) (hb : b < 4294967296) : a ^^^ b < 4294967296 := Nat.xor_lt_two_pow (n := 32) ha hb
theorem byte_lt (b : UInt8) : b.toNat < 4294967296 := Nat.lt_trans b.toNat_lt (by decide)
theorem upd_lt {x b : Nat} (hx : x < 4294967296) (hb : b < 4294967296) : upd x b < 4294967296 := step8_lt (xor_lt hx hb)
theorem run_lt (l : List UInt8) : ∀ {x : Nat}, x < 4294967296 → run x l < 4294967296 := by
  induction l with
  | nil => intro x h; exact h
  | cons b l ih => intro x h; exact ih (upd_lt h (byte_lt b))
theorem run_append (x : Nat) (l m : List UInt8) : run x (l ++ m) = run (run x l) m := by simp [run, List.foldl_append]
theorem run_cons (x : Nat) (b : UInt8) (l : List UInt8) : run x (b :: l) = run (upd x b.toNat) l := rfl
theorem sum_lt (l : List UInt8) : sum l < 4294967296 := xor_lt (by decide) (run_lt l (by decide))

theorem xor_cancel {a b c : Nat} (h : a ^^^ b = a ^^^ c) : b = c := by
  have := congrArg (fun z => a ^^^ z) h
  simpa [← Nat.xor_assoc] using this
theorem xor_cancel_right {a b c : Nat} (h : a ^^^ c = b ^^^ c) : a = b := by
  rw [Nat.xor_comm a, Nat.xor_comm b] at h
  exact xor_cancel h

theorem run_inj (l : List UInt8) : ∀ {x y : Nat}, x < 4294967296 → y < 4294967296 → run x l = run y l → x = y := by
  induction l with
  | nil => intro x y _ _ h; exact h
  | cons b l ih =>
    intro x y hx hy h
    have h1 := ih (upd_lt hx (byte_lt b)) (upd_lt hy (byte_lt b)) h
    exact xor_cancel_right (step8_inj (xor_lt hx (byte_lt b)) (xor_lt hy (byte_lt b)) h1)

/-- Two texts of one sum go on alike, of two they do not. -/
theorem sum_append_iff (s t m : List UInt8) : sum s = sum t ↔ sum (s ++ m) = sum (t ++ m) := by
  unfold sum
  rw [run_append, run_append]
  constructor
  · intro h; rw [xor_cancel h]
  · intro h
    rw [run_inj m (run_lt s (by decide)) (run_lt t (by decide)) (xor_cancel h)]

/-- Three texts byte by byte. -/
def xor3 : List UInt8 → List UInt8 → List UInt8 → List UInt8
  | a :: s, b :: t, c :: u => (a ^^^ b ^^^ c) :: xor3 s t u
  | _, _, _ => []

theorem run_xor3 (s : List UInt8) : ∀ (t u : List UInt8) (x y z : Nat), s.length = t.length → s.length = u.length →
    run (x ^^^ y ^^^ z) (xor3 s t u) = run x s ^^^ run y t ^^^ run z u := by
  induction s with
  | nil =>
    intro t u x y z h1 h2
    cases t with
    | nil => cases u with
      | nil => rfl
      | cons _ _ => simp at h2
    | cons _ _ => simp at h1
  | cons a s ih =>
    intro t u x y z h1 h2
    cases t with
    | nil => simp at h1
    | cons b t =>
      cases u with
      | nil => simp at h2
      | cons c u =>
        simp only [xor3, run_cons]
        have e : upd (x ^^^ y ^^^ z) (a ^^^ b ^^^ c).toNat = upd x a.toNat ^^^ upd y b.toNat ^^^ upd z c.toNat := by
          unfold upd
          rw [← step8_xor, ← step8_xor, UInt8.toNat_xor, UInt8.toNat_xor]
          congr 1
          apply Nat.eq_of_testBit_eq
          intro i
          simp only [Nat.testBit_xor]
          cases x.testBit i <;> cases y.testBit i <;> cases z.testBit i <;> cases a.toNat.testBit i <;> cases b.toNat.testBit i <;> cases c.toNat.testBit i <;> rfl
        rw [e]
        exact ih t u _ _ _ (by simpa using h1) (by simpa using h2)

theorem sum_xor3 (s t u : List UInt8) (h1 : s.length = t.length) (h2 : s.length = u.length) : sum (xor3 s t u) = sum s ^^^ sum t ^^^ sum u := by
  unfold sum
  have h := run_xor3 s t u 4294967295 4294967295 4294967295 h1 h2
  rw [show (4294967295 ^^^ 4294967295 ^^^ 4294967295 : Nat) = 4294967295 by decide] at h
  rw [h]
  apply Nat.eq_of_testBit_eq
  intro i
  simp only [Nat.testBit_xor]
  cases (4294967295 : Nat).testBit i <;> cases (run 4294967295 s).testBit i <;> cases (run 4294967295 t).testBit i <;> cases (run 4294967295 u).testBit i <;> rfl

/-- Four bytes of a number, turned at the place of four bytes: the register differs. -/
theorem four_turned (x n : Nat) (a b c d : UInt8) (a' b' c' d' : UInt8) (hn : 0 < n) (hn2 : n < 4294967296)
    (ha : a'.toNat = a.toNat ^^^ (n % 256)) (hb : b'.toNat = b.toNat ^^^ (n / 256 % 256)) (hc : c'.toNat = c.toNat ^^^ (n / 65536 % 256)) (hd : d'.toNat = d.toNat ^^^ (n / 16777216 % 256)) :
    run x [a', b', c', d'] ≠ run x [a, b, c, d] := by
  intro h
  simp only [run_cons, upd, ha, hb, hc, hd] at h
  -- the register of what is turned: step8 four times of n
  have key : ∀ x : Nat, step8 (step8 (step8 (step8 (x ^^^ (a.toNat ^^^ n % 256)) ^^^ (b.toNat ^^^ n / 256 % 256)) ^^^ (c.toNat ^^^ n / 65536 % 256)) ^^^ (d.toNat ^^^ n / 16777216 % 256))
      = step8 (step8 (step8 (step8 (x ^^^ a.toNat) ^^^ b.toNat) ^^^ c.toNat) ^^^ d.toNat) ^^^ step8 (step8 (step8 (step8 n))) := by
    intro x
    have e1 : n = 256 * (n / 256) ^^^ n % 256 := (xor_parts 8 n).symm
    have e2 : n / 256 = 256 * (n / 65536) ^^^ n / 256 % 256 := by
      have := (xor_parts 8 (n / 256)).symm
      rwa [show n / 256 / 2 ^ 8 = n / 65536 by omega, show (2 : Nat) ^ 8 = 256 by decide] at this
    have e3 : n / 65536 = 256 * (n / 16777216) ^^^ n / 65536 % 256 := by
      have := (xor_parts 8 (n / 65536)).symm
      rwa [show n / 65536 / 2 ^ 8 = n / 16777216 by omega, show (2 : Nat) ^ 8 = 256 by decide] at this
    have e4 : n / 16777216 % 256 = n / 16777216 := by omega
    have f : step8 (step8 (step8 (step8 n))) = step8 (step8 (step8 (step8 (n % 256) ^^^ (n / 256 % 256)) ^^^ (n / 65536 % 256)) ^^^ (n / 16777216 % 256)) := by
      have g1 : step8 n = step8 (n % 256) ^^^ n / 256 := by
        conv => lhs; rw [e1]
        rw [step8_xor, step8_high, Nat.xor_comm]
      have g2 : step8 (step8 n) = step8 (step8 (n % 256) ^^^ n / 256 % 256) ^^^ n / 65536 := by
        rw [g1]
        conv => lhs; rw [e2]
        simp only [step8_xor, step8_high]
        rw [Nat.xor_comm (n / 65536), Nat.xor_assoc]
      have g3 : step8 (step8 (step8 n)) = step8 (step8 (step8 (n % 256) ^^^ n / 256 % 256) ^^^ n / 65536 % 256) ^^^ n / 16777216 := by
        rw [g2]
        conv => lhs; rw [e3]
        simp only [step8_xor, step8_high]
        rw [Nat.xor_comm (n / 16777216)]
        simp only [Nat.xor_assoc]
      rw [g3, e4]
    rw [f]
    simp only [step8_xor]
    apply Nat.eq_of_testBit_eq
    intro i
    simp only [Nat.testBit_xor]
    generalize (step8 (step8 (step8 (step8 x)))).testBit i = p1
    generalize (step8 (step8 (step8 (step8 a.toNat)))).testBit i = p2
    generalize (step8 (step8 (step8 (step8 (n % 256))))).testBit i = p3
    generalize (step8 (step8 (step8 b.toNat))).testBit i = p4
    generalize (step8 (step8 (step8 (n / 256 % 256)))).testBit i = p5
    generalize (step8 (step8 c.toNat)).testBit i = p6
    generalize (step8 (step8 (n / 65536 % 256))).testBit i = p7
    generalize (step8 d.toNat).testBit i = p8
    generalize (step8 (n / 16777216 % 256)).testBit i = p9
    cases p1 <;> cases p2 <;> cases p3 <;> cases p4 <;> cases p5 <;> cases p6 <;> cases p7 <;> cases p8 <;> cases p9 <;> rfl
  have h' : run x [a', b', c', d'] = run x [a, b, c, d] ^^^ step8 (step8 (step8 (step8 n))) := by
    simp only [run_cons, upd, ha, hb, hc, hd]
    exact key x
  have h2 : run x [a', b', c', d'] = run x [a, b, c, d] := by
    simp only [run_cons, upd, ha, hb, hc, hd]
    exact h
  rw [h2] at h'
  have h3 : run x [a, b, c, d] ^^^ 0 = run x [a, b, c, d] ^^^ step8 (step8 (step8 (step8 n))) := by rw [Nat.xor_zero]; exact h'
  have h4 := xor_cancel h3
  have z : step8 0 = 0 := by decide
  have l1 := step8_lt hn2
  have l2 := step8_lt l1
  have l3 := step8_lt l2
  have h5 : step8 0 = step8 (step8 (step8 (step8 n))) := by rw [z]; exact h4
  have h6 := step8_inj (by decide) l3 h5
  have h7 := step8_inj (by decide) l2 (z.trans h6)
  have h8 := step8_inj (by decide) l1 (z.trans h7)
  have h9 := step8_inj (by decide) hn2 (z.trans h8)
  omega

theorem burst (p q : List UInt8) (n : Nat) (a b c d a' b' c' d' : UInt8) (hn : 0 < n) (hn2 : n < 4294967296)
    (ha : a'.toNat = a.toNat ^^^ (n % 256)) (hb : b'.toNat = b.toNat ^^^ (n / 256 % 256)) (hc : c'.toNat = c.toNat ^^^ (n / 65536 % 256)) (hd : d'.toNat = d.toNat ^^^ (n / 16777216 % 256)) :
    sum (p ++ [a', b', c', d'] ++ q) ≠ sum (p ++ [a, b, c, d] ++ q) := by
  intro h
  have hr : run 4294967295 (p ++ [a', b', c', d'] ++ q) = run 4294967295 (p ++ [a, b, c, d] ++ q) := xor_cancel h
  rw [run_append, run_append, run_append, run_append] at hr
  have hp := run_lt p (x := 4294967295) (by decide)
  exact four_turned _ n a b c d a' b' c' d' hn hn2 ha hb hc hd (run_inj q (run_lt _ hp) (run_lt _ hp) hr)

end Crc
end Go.Proofs.Ytdojomdnnmaoeaa
