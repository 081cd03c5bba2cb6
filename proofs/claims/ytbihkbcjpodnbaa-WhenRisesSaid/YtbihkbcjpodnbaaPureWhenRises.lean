/- Of two times that may be, of which the second is later by at most 2^40 seconds, the dates are told and the first place in which they part is less in the first: for every pair of 64-bit numbers. -/
import Derived.Test.YtbihkbcjpodnbaaPAllx9
import Derived.Test.YtbihkbcjpodnbaaFacts
namespace Go.Proofs.Ytbihkbcjpodnbaa.Pure
open Go.RowKit Go.Proofs.Ytbihkbcjpodnbaa.PAll Go.Proofs.YtbihkbcjpodnbaaW.PrintWords Go.Proofs.YtbihkbcjpodnbaaW.PrintLast Go.Proofs.YtbihkbcjpodnbaaH
set_option linter.unusedSimpArgs false
set_option linter.unusedVariables false

/-- The first place in which two dates part. -/
theorem dates_part {t t' y m d h i s y' m' d' h' i' s' : Int} (D : IsDate t y m d h i s) (E : IsDate t' y' m' d' h' i' s') (hlt : t < t') :
    y < y' ∨ (y = y' ∧ m < m') ∨ (y = y' ∧ m = m' ∧ d < d') ∨ (y = y' ∧ m = m' ∧ d = d' ∧ h < h') ∨ (y = y' ∧ m = m' ∧ d = d' ∧ h = h' ∧ i < i') ∨ (y = y' ∧ m = m' ∧ d = d' ∧ h = h' ∧ i = i' ∧ s < s') := by
  have a1 := D.day
  have a2 := E.day
  have hday : dayNo y m d ≤ dayNo y' m' d' := by omega
  obtain ⟨b1, b2, b3, b4⟩ := D.within
  obtain ⟨c1, c2, c3, c4⟩ := E.within
  rcases Int.lt_trichotomy y y' with hy | rfl | hy
  · exact .inl hy
  · right
    rcases Int.lt_trichotomy m m' with hm | rfl | hm
    · exact .inl ⟨rfl, hm⟩
    · right
      have hd : d ≤ d' := by unfold dayNo at hday; omega
      by_cases hdd : d < d'
      · exact .inl ⟨rfl, rfl, hdd⟩
      · right
        obtain rfl : d = d' := by omega
        have := D.tm; have := D.h1; have := D.h2; have := D.i1; have := D.i2; have := D.s1; have := D.s2
        have := E.tm; have := E.h1; have := E.h2; have := E.i1; have := E.i2; have := E.s1; have := E.s2
        by_cases hh : h < h'
        · exact .inl ⟨rfl, rfl, rfl, hh⟩
        · right
          obtain rfl : h = h' := by omega
          by_cases hi : i < i'
          · exact .inl ⟨rfl, rfl, rfl, rfl, hi⟩
          · right
            obtain rfl : i = i' := by omega
            exact ⟨rfl, rfl, rfl, rfl, rfl, by omega⟩
    · exfalso
      have := cum_mono y (m' + 1) m (by have := E.m1; omega) (by omega) (by have := D.m2; omega)
      omega
  · exfalso
    have := ahead_mono (y' + 1) y (by have := E.y1; omega) (by omega)
    omega

theorem rises_l0 (x0 x1 : Int) (xs ys : List Int) (hx : xs.length = 6) (hy : ys.length = 6) (j : Nat) (hj : j < 6) (hlt : xs.getD j 0 < ys.getD j 0) : ∀ (n : Nat) (i : Nat), i + n = j → (∀ q, i ≤ q → q < j → xs.getD q 0 = ys.getD q 0) →
    ∀ k, 10050 + n ≤ k → apostillelaw14_WhenRises.l0 k x0 x1 xs ys i = some true := by
  intro n
  induction n with
  | zero =>
    intro i hij heq k hk
    obtain rfl : i = j := by omega
    obtain ⟨k, rfl⟩ : ∃ q, k = q + 1 := ⟨k - 1, by omega⟩
    simp only [apostillelaw14_WhenRises.l0]
    rw [if_pos (by omega), if_pos (by omega), if_pos (by omega), if_pos (by omega)]
    have e1 : rd xs (i : Int) = xs.getD i 0 := rfl
    have e2 : rd ys (i : Int) = ys.getD i 0 := rfl
    rw [e1, e2, if_neg (by omega), if_pos hlt]
    simp only [apostillelaw14_date.f, Option.bind_some, if_true]
    rw [known_true k (by omega)]
    rfl
  | succ n ih =>
    intro i hij heq k hk
    obtain ⟨k, rfl⟩ : ∃ q, k = q + 1 := ⟨k - 1, by omega⟩
    simp only [apostillelaw14_WhenRises.l0]
    rw [if_pos (by omega), if_pos (by omega), if_pos (by omega), if_pos (by omega)]
    have e1 : rd xs (i : Int) = xs.getD i 0 := rfl
    have e2 : rd ys (i : Int) = ys.getD i 0 := rfl
    rw [e1, e2, if_pos (heq i (by omega) (by omega)), w64 (by omega) (by omega)]
    have := ih (i + 1) (by omega) (fun q h1 h2 => heq q (by omega) h2) k (by omega)
    rwa [show ((i + 1 : Nat) : Int) = (i : Int) + 1 from by omega] at this

theorem rises_at (K : Nat) (hK : 10060 ≤ K) (a0 a1 : Int) (w0 : (Lit.int .i64 a0).wf = true) (w1 : (Lit.int .i64 a1).wf = true) : apostillelaw14_WhenRises.f (K + 1) a0 a1 = some true := by
  unfold apostillelaw14_WhenRises.f
  by_cases hT : IsTime a0
  · rw [ref_Is_yes hT]
    simp only [Option.bind_some, if_true]
    by_cases h1 : a1 < 1
    · rw [if_pos h1]; rfl
    · rw [if_neg h1]
      by_cases h2 : a1 > 1099511627776
      · rw [if_pos h2]; rfl
      · rw [if_neg h2]
        have hw : wrap64 (a0 + a1) = a0 + a1 := w64 (by have := hT.1; omega) (by have := hT.2; omega)
        rw [hw]
        by_cases hT2 : IsTime (a0 + a1)
        · rw [ref_Is_yes hT2]
          simp only [Option.bind_some, Bool.not_true]
          have hstep : ∀ x0 x1 k, apostillelaw14_WhenRises.j0 (k + 1) x0 x1 false = ((when_Date.f k x0).bind fun bt253 => ((when_Date.f k (wrap64 (x0 + x1))).bind fun bt259 => (apostillelaw14_WhenRises.l0 k x0 x1 (([bt253.1, bt253.2.1, bt253.2.2.1, bt253.2.2.2.1, bt253.2.2.2.2.1, bt253.2.2.2.2.2] : List Int)) (([bt259.1, bt259.2.1, bt259.2.2.1, bt259.2.2.2.1, bt259.2.2.2.2.1, bt259.2.2.2.2.2] : List Int)) 0))) := by
            intro x0 x1 k
            simp only [apostillelaw14_WhenRises.j0]
            rw [if_neg (by decide)]
          rw [hstep a0 a1 K]
          obtain ⟨y, m, d, h, i, s, hf, D⟩ := when_Date_yes hT K (by omega)
          obtain ⟨y', m', d', h', i', s', hf', E⟩ := when_Date_yes hT2 K (by omega)
          rw [hf, hw]
          simp only [Option.bind_some]
          rw [hf']
          simp only [Option.bind_some]
          have hp := dates_part D E (by omega)
          have main : ∀ j : Nat, j < 6 → ([y, m, d, h, i, s] : List Int).getD j 0 < ([y', m', d', h', i', s'] : List Int).getD j 0 → (∀ q, q < j → ([y, m, d, h, i, s] : List Int).getD q 0 = ([y', m', d', h', i', s'] : List Int).getD q 0) → apostillelaw14_WhenRises.l0 K a0 a1 [y, m, d, h, i, s] [y', m', d', h', i', s'] 0 = some true :=
            fun j hj hlt heq => rises_l0 a0 a1 _ _ rfl rfl j hj hlt j 0 (by omega) (fun q _ hq => heq q hq) K (by omega)
          rcases hp with hp | ⟨rfl, hp⟩ | ⟨rfl, rfl, hp⟩ | ⟨rfl, rfl, rfl, hp⟩ | ⟨rfl, rfl, rfl, rfl, hp⟩ | ⟨rfl, rfl, rfl, rfl, rfl, hp⟩
          · exact main 0 (by omega) hp (fun q hq => absurd hq (by omega))
          · exact main 1 (by omega) hp (fun q hq => by (obtain rfl : q = 0 := by omega); rfl)
          · exact main 2 (by omega) hp (fun q hq => by rcases (by omega : q = 0 ∨ q = 1) with rfl | rfl <;> rfl)
          · exact main 3 (by omega) hp (fun q hq => by rcases (by omega : q = 0 ∨ q = 1 ∨ q = 2) with rfl | rfl | rfl <;> rfl)
          · exact main 4 (by omega) hp (fun q hq => by rcases (by omega : q = 0 ∨ q = 1 ∨ q = 2 ∨ q = 3) with rfl | rfl | rfl | rfl <;> rfl)
          · exact main 5 (by omega) hp (fun q hq => by rcases (by omega : q = 0 ∨ q = 1 ∨ q = 2 ∨ q = 3 ∨ q = 4) with rfl | rfl | rfl | rfl | rfl <;> rfl)
        · rw [ref_Is_no hT2]
          simp only [Option.bind_some, Bool.not_false]
          rfl
  · rw [ref_Is_no hT]
    rfl

theorem WhenRises : apostillelaw14_WhenRises.Pure := by
  intro a0 a1 w0 w1
  obtain ⟨K, hK⟩ : ∃ K : Nat, 10060 ≤ K := ⟨10060, Nat.le_refl _⟩
  exact ⟨K + 1, rises_at K hK a0 a1 w0 w1⟩

end Go.Proofs.Ytbihkbcjpodnbaa.Pure
