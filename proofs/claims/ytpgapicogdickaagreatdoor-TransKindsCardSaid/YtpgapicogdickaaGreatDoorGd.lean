/-
  Plain: a product of ratios in lowest terms.
-/
import Derived.Test.YtpgapicogdickaaGreatDoorRp
namespace Go.Gk
theorem nrm_nat {a b : Nat} (h : ratOK ((a : Int), (b : Int)) = true) : nrm ((a : Int), (b : Int)) = (((a / Nat.gcd a b : Nat) : Int), ((b / Nat.gcd a b : Nat) : Int)) := by
  unfold nrm
  rw [if_pos h]
  simp
theorem nrm_split {a b x y g : Nat} (h : ratOK ((a : Int), (b : Int)) = true) (hc : Nat.Coprime x y) (ha : a = x * g) (hb : b = y * g) : nrm ((a : Int), (b : Int)) = ((x : Int), (y : Int)) := by
  rw [nrm_nat h]
  have hg : 0 < g := by
    have := (ratOK_iff.1 h).1
    rcases Nat.eq_zero_or_pos g with h0 | h0
    · subst h0; simp at ha; subst ha; simp at this
    · exact h0
  have e : Nat.gcd a b = g := by
    rw [ha, hb, Nat.gcd_mul_right]
    unfold Nat.Coprime at hc
    rw [hc, Nat.one_mul]
  rw [e, ha, hb, Nat.mul_div_cancel _ hg, Nat.mul_div_cancel _ hg]
theorem crs_low {a b c d : Nat} (h1 : ratOK ((a : Int), (b : Int)) = true) (h2 : ratOK ((c : Int), (d : Int)) = true) :
    crs ((a : Int), (b : Int)) ((c : Int), (d : Int)) = (((a * c / Nat.gcd (a * c) (b * d) : Nat) : Int), ((b * d / Nat.gcd (a * c) (b * d) : Nat) : Int)) := by
  obtain ⟨a1, b1, hab, ea, eb⟩ := Nat.exists_coprime a b
  obtain ⟨c1, d1, hcd, ec, ed⟩ := Nat.exists_coprime c d
  generalize Nat.gcd a b = g1 at ea eb
  generalize Nat.gcd c d = g4 at ec ed
  have n1 := nrm_split h1 hab ea eb
  have n2 := nrm_split h2 hcd ec ed
  have k1 := nrm_ok h1
  have k2 := nrm_ok h2
  unfold crs
  rw [n1, n2] at *
  simp only at *
  obtain ⟨x1, x2, hx, ex1, ex2⟩ := Nat.exists_coprime a1 d1
  obtain ⟨y1, y2, hy, ey1, ey2⟩ := Nat.exists_coprime c1 b1
  generalize Nat.gcd a1 d1 = g2 at ex1 ex2
  generalize Nat.gcd c1 b1 = g3 at ey1 ey2
  have n3 := nrm_split (ratOK_mk k1 k2) hx ex1 ex2
  have n4 := nrm_split (ratOK_mk k2 k1) hy ey1 ey2
  have k3 := nrm_ok (ratOK_mk k1 k2)
  have k4 := nrm_ok (ratOK_mk k2 k1)
  simp only at n3 n4 k3 k4
  rw [n3] at k3
  rw [n4] at k4
  rw [n3, n4]
  simp only
  have hxy : Nat.Coprime x1 y2 := by
    rw [ex1, ey2] at hab
    exact (Nat.Coprime.coprime_mul_right hab).coprime_mul_right_right
  have hyx : Nat.Coprime y1 x2 := by
    rw [ey1, ex2] at hcd
    exact (Nat.Coprime.coprime_mul_right hcd).coprime_mul_right_right
  have hall : Nat.Coprime (x1 * y1) (x2 * y2) := Nat.Coprime.mul_left (hx.mul_right hxy) (hyx.mul_right hy)
  have hN : a * c = (x1 * y1) * (g1 * g2 * g3 * g4) := by rw [ea, ec, ex1, ey1]; simp only [Nat.mul_left_comm, Nat.mul_comm]
  have hD : b * d = (x2 * y2) * (g1 * g2 * g3 * g4) := by rw [eb, ed, ex2, ey2]; simp only [Nat.mul_left_comm, Nat.mul_comm]
  have hK : 0 < g1 * g2 * g3 * g4 := by
    have ha0 := (ratOK_iff.1 h1).1
    have hc0 := (ratOK_iff.1 h2).1
    have hac : 0 < a * c := Nat.mul_pos (by simp only at ha0; omega) (by simp only at hc0; omega)
    rcases Nat.eq_zero_or_pos (g1 * g2 * g3 * g4) with h0 | h0
    · rw [h0, Nat.mul_zero] at hN; omega
    · exact h0
  have hG : Nat.gcd (a * c) (b * d) = g1 * g2 * g3 * g4 := by
    rw [hN, hD, Nat.gcd_mul_right]
    unfold Nat.Coprime at hall
    rw [hall, Nat.one_mul]
  rw [hG, hN, hD, Nat.mul_div_cancel _ hK, Nat.mul_div_cancel _ hK]
  simp
end Go.Gk
