/- Plain facts on the printed functions of chapter 14: a time's thing is its date's digits, and it is read back. -/
import Derived.Test.YtbihkbcjpodnbaaPAllx3
import Derived.Test.YtbihkbcjpodnbaaPAllx6
namespace Go.Proofs.Ytbihkbcjpodnbaa.Pure
open Go.RowKit Go.Proofs.Ytbihkbcjpodnbaa.PAll Go.Proofs.YtbihkbcjpodnbaaW.PrintWords Go.Proofs.YtbihkbcjpodnbaaW.PrintLast Go.Proofs.YtbihkbcjpodnbaaH
set_option linter.unusedSimpArgs false
set_option linter.unusedVariables false

theorem when_two_eq (n : Int) (h1 : 0 ≤ n) (h2 : n ≤ 9999) : when_two.f n = some (digs n) := by
  unfold when_two.f digs
  rw [Int.tdiv_eq_ediv_of_nonneg h1, Int.tmod_eq_emod_of_nonneg h1]
  have e1 : wrap64 (n / 10) = n / 10 := by unfold wrap64; omega
  rw [e1, Int.tmod_eq_emod_of_nonneg (by omega)]
  have e2 : wrap64 (48 + n / 10 % 10) = 48 + n / 10 % 10 := by unfold wrap64; omega
  have e3 : wrap64 (48 + n % 10) = 48 + n % 10 := by unfold wrap64; omega
  rw [e2, e3]
  have : (48 + n / 10 % 10) % 256 = 48 + n / 10 % 10 := by omega
  have : (48 + n % 10) % 256 = 48 + n % 10 := by omega
  simp [*]

theorem when_Time_l0 (k : Nat) (m d h i s tag : Int) (init : List Int) (hi : init.length ≤ 4) (hm : 0 ≤ m ∧ m ≤ 99) (hd : 0 ≤ d ∧ d ≤ 99) (hh : 0 ≤ h ∧ h ≤ 99) (hi' : 0 ≤ i ∧ i ≤ 99) (hs : 0 ≤ s ∧ s ≤ 99) (hk : 6 ≤ k) :
    when_Time.l0 k [m, d, h, i, s] 5 0 tag init = some (tag, init ++ digsAll [m, d, h, i, s] ++ [90], []) := by
  obtain ⟨k, rfl⟩ : ∃ j, k = j + 6 := ⟨k - 6, by omega⟩
  have L : ∀ x : Int, (digs x).length = 2 := fun _ => rfl
  have w1 : wrap64 (0 + 1) = 1 := by unfold wrap64; omega
  have w2 : wrap64 (1 + 1) = 2 := by unfold wrap64; omega
  have w3 : wrap64 (2 + 1) = 3 := by unfold wrap64; omega
  have w4 : wrap64 (3 + 1) = 4 := by unfold wrap64; omega
  have w5 : wrap64 (4 + 1) = 5 := by unfold wrap64; omega
  have r0 : rd [m, d, h, i, s] 0 = m := rfl
  have r1 : rd [m, d, h, i, s] 1 = d := rfl
  have r2 : rd [m, d, h, i, s] 2 = h := rfl
  have r3 : rd [m, d, h, i, s] 3 = i := rfl
  have r4 : rd [m, d, h, i, s] 4 = s := rfl
  have hl : (([m, d, h, i, s] : List Int).length : Int) = 5 := rfl
  simp only [when_Time.l0, hl]
  rw [if_pos (by decide), if_pos (by decide), if_pos (by decide), r0, when_two_eq m hm.1 (by omega)]
  simp only [Option.bind_some]
  rw [if_pos (by rw [L]; omega), w1, if_pos (by decide), if_pos (by decide), if_pos (by decide), r1, when_two_eq d hd.1 (by omega)]
  simp only [Option.bind_some]
  rw [if_pos (by simp [L]; omega), w2, if_pos (by decide), if_pos (by decide), if_pos (by decide), r2, when_two_eq h hh.1 (by omega)]
  simp only [Option.bind_some]
  rw [if_pos (by simp [L]; omega), w3, if_pos (by decide), if_pos (by decide), if_pos (by decide), r3, when_two_eq i hi'.1 (by omega)]
  simp only [Option.bind_some]
  rw [if_pos (by simp [L]; omega), w4, if_pos (by decide), if_pos (by decide), if_pos (by decide), r4, when_two_eq s hs.1 (by omega)]
  simp only [Option.bind_some]
  rw [if_pos (by simp [L]; omega), w5, if_neg (by decide), if_pos (by simp [L]; omega)]
  simp [digsAll]

theorem when_Is_yes {t : Int} (h : IsTime t) : when_Is.f t = some true := by
  unfold when_Is.f
  unfold IsTime at h
  rw [if_pos (by omega)]; simp; omega
theorem when_Is_no {t : Int} (h : ¬ IsTime t) : when_Is.f t = some false := by
  unfold when_Is.f
  unfold IsTime at h
  split <;> simp <;> omega
theorem ref_Is_yes {t : Int} (h : IsTime t) : apostilleref14_Is.f t = some true := by
  unfold apostilleref14_Is.f
  unfold IsTime at h
  rw [if_pos (by omega)]; simp; omega
theorem ref_Is_no {t : Int} (h : ¬ IsTime t) : apostilleref14_Is.f t = some false := by
  unfold apostilleref14_Is.f
  unfold IsTime at h
  split <;> simp <;> omega

theorem when_Time_yes {t y m d h i s : Int} (D : IsDate t y m d h i s) (k : Nat) (hk : 10030 ≤ k) : when_Time.f k t = some (stampTag y, stampBody y m d h i s, []) := by
  obtain ⟨y', m', d', h', i', s', hf, D'⟩ := when_Date_yes D.time k (by omega)
  obtain ⟨rfl, rfl, rfl, rfl, rfl, rfl⟩ := D.unique D'
  have y1 := D.y1; have y2 := D.y2; have m1 := D.m1; have m2 := D.m2; have d1 := D.d1; have d2 := D.d2; have hml := mlen_bd y m; have h1 := D.h1; have h2 := D.h2; have i1 := D.i1; have i2 := D.i2; have s1 := D.s1; have s2 := D.s2
  unfold when_Time.f
  rw [when_Is_yes D.time]
  simp only [Option.bind_some, if_true]
  rw [hf]
  simp only [Option.bind_some]
  rw [when_two_eq y (by omega) (by omega)]
  simp only [Option.bind_some]
  obtain ⟨k, rfl⟩ : ∃ j, k = j + 1 := ⟨k - 1, by omega⟩
  have hl5 : (([m, d, h, i, s] : List Int).length : Int) = 5 := rfl
  by_cases hy : 2050 ≤ y
  · rw [if_pos (by omega), Int.tdiv_eq_ediv_of_nonneg (by omega), w64 (by omega) (by omega), when_two_eq (y / 100) (by omega) (by omega)]
    simp only [Option.bind_some]
    rw [if_pos (by simp [digs])]
    simp only [when_Time.j0, Option.bind_some]
    rw [hl5, when_Time_l0 k m d h i s 24 _ (by simp [digs]) ⟨by omega, by omega⟩ ⟨by omega, by omega⟩ ⟨by omega, by omega⟩ ⟨by omega, by omega⟩ ⟨by omega, by omega⟩ (by omega)]
    unfold stampTag stampBody
    rw [if_pos hy, if_pos hy]
    simp [digsAll]
  · rw [if_neg (by omega)]
    simp only [when_Time.j0, Option.bind_some]
    rw [hl5, when_Time_l0 k m d h i s 23 _ (by simp [digs]) ⟨by omega, by omega⟩ ⟨by omega, by omega⟩ ⟨by omega, by omega⟩ ⟨by omega, by omega⟩ ⟨by omega, by omega⟩ (by omega)]
    unfold stampTag stampBody
    rw [if_neg hy, if_neg hy]
    simp [digsAll]
theorem when_Time_no {t : Int} (h : ¬ IsTime t) (k : Nat) : when_Time.f k t = some (0, [], []) := by
  unfold when_Time.f
  rw [when_Is_no h]
  simp

theorem digsAll_length (l : List Int) : (digsAll l).length = 2 * l.length := by
  induction l with
  | nil => rfl
  | cons x l ih =>
    have : digsAll (x :: l) = digs x ++ digsAll l := rfl
    rw [this, List.length_append, ih]
    simp [digs]; omega
theorem digsAll_get (l : List Int) : ∀ j, j < l.length → (digsAll l).getD (2 * j) 0 = 48 + l.getD j 0 / 10 % 10 ∧ (digsAll l).getD (2 * j + 1) 0 = 48 + l.getD j 0 % 10 := by
  induction l with
  | nil => intro j hj; simp at hj
  | cons x l ih =>
    intro j hj
    have e : digsAll (x :: l) = (48 + x / 10 % 10) :: (48 + x % 10) :: digsAll l := rfl
    rw [e]
    cases j with
    | zero => exact ⟨rfl, rfl⟩
    | succ j =>
      obtain ⟨a, b⟩ := ih j (by simpa using hj)
      rw [show 2 * (j + 1) = (2 * j + 1) + 1 from by omega, show 2 * j + 1 + 1 + 1 = (2 * j + 1) + 1 + 1 from rfl]
      simp only [List.getD_cons_succ]
      exact ⟨a, b⟩
theorem numbers_digs (l : List Int) (h0 : ∀ x ∈ l, 0 ≤ x) (hl : l.length ≤ 100) : when_numbers.f (digsAll l) = some (l.map (· % 100), true) := by
  have hlen := digsAll_length l
  unfold when_numbers.f
  rw [if_neg (by omega), if_pos]
  · congr 2
    apply List.ext_getElem
    · simp; omega
    · intro j h1 h2
      have hj : j < l.length := by simpa using h2
      obtain ⟨a, b⟩ := digsAll_get l j hj
      have hx : l.getD j 0 = l[j] := by simp [List.getD_eq_getElem?_getD, hj]
      simp only [List.getElem_map, List.getElem_range]
      unfold numVal
      rw [a, b, hx]
      have := h0 l[j] (List.getElem_mem hj)
      omega
  · refine ⟨by omega, ?_⟩
    rw [List.all_eq_true]
    intro j hj
    have hj : j < l.length := by simp at hj; omega
    obtain ⟨a, b⟩ := digsAll_get l j hj
    have hx : l.getD j 0 = l[j] := by simp [List.getD_eq_getElem?_getD, hj]
    have := h0 l[j] (List.getElem_mem hj)
    unfold numOk numDig
    rw [a, b, hx]
    simp
    omega

theorem when_of_l0 {t y m d h i s : Int} (D : IsDate t y m d h i s) : ∀ (k : Nat) (x : Int), 1 ≤ x → x ≤ m → 13 - x ≤ k → when_of.l0 k y [m, d, h, i, s] (aheadI y - 719162 + cumI y x) x = some t := by
  have y1 := D.y1; have y2 := D.y2; have m1 := D.m1; have m2 := D.m2; have d1 := D.d1; have d2 := D.d2; have hml := mlen_bd y m; have h1 := D.h1; have h2 := D.h2; have i1 := D.i1; have i2 := D.i2; have s1 := D.s1; have s2 := D.s2
  have ha1 := ahead_mono 1 y (by omega) (by omega)
  have ha2 := ahead_mono y 10000 (by omega) (by omega)
  rw [ahead_10000] at ha2
  have ha0 : aheadI 1 = 0 := by decide
  rw [ha0] at ha1
  intro k
  induction k with
  | zero => intro x _ _ hk; omega
  | succ k ih =>
    intro x hx1 hx2 hk
    have hc0 := cum_mono y 1 x (by omega) hx1 (by omega)
    have hc1 := cum_mono y x 13 hx1 (by omega) (by omega)
    rw [cum_1] at hc0
    rw [cum_13] at hc1
    have hl := lp_01 y
    have r0 : rd [m, d, h, i, s] 0 = m := rfl
    have r1 : rd [m, d, h, i, s] 1 = d := rfl
    have r2 : rd [m, d, h, i, s] 2 = h := rfl
    have r3 : rd [m, d, h, i, s] 3 = i := rfl
    have r4 : rd [m, d, h, i, s] 4 = s := rfl
    have hl5 : (([m, d, h, i, s] : List Int).length : Int) = 5 := rfl
    simp only [when_of.l0, hl5, r0, r1, r2, r3, r4]
    rw [if_pos (by decide)]
    by_cases hx : x < m
    · rw [if_pos hx, if_pos (by omega), when_days_eq y x (by omega)]
      have hml2 := mlen_bd y x
      simp only [Option.bind_some]
      rw [w64 (by omega) (by omega), w64 (n := x + 1) (by omega) (by omega)]
      have hc := cum_succ y x hx1 (by omega)
      rw [show aheadI y - 719162 + cumI y x + mlen y x = aheadI y - 719162 + cumI y (x + 1) from by omega]
      exact ih (x + 1) (by omega) (by omega) (by omega)
    · obtain rfl : x = m := by omega
      rw [if_neg hx, if_pos (by decide), if_pos (by decide), if_pos (by decide), if_pos (by decide)]
      rw [w64 (n := aheadI y - 719162 + cumI y x + d) (by omega) (by omega), w64 (n := aheadI y - 719162 + cumI y x + d - 1) (by omega) (by omega)]
      rw [w64 (n := (aheadI y - 719162 + cumI y x + d - 1) * 86400) (by omega) (by omega), w64 (n := h * 3600) (by omega) (by omega), w64 (n := i * 60) (by omega) (by omega)]
      rw [w64 (n := (aheadI y - 719162 + cumI y x + d - 1) * 86400 + h * 3600) (by omega) (by omega), w64 (n := (aheadI y - 719162 + cumI y x + d - 1) * 86400 + h * 3600 + i * 60) (by omega) (by omega), w64 (by omega) (by omega)]
      congr 1
      have := D.tm
      unfold dayNo at this
      omega
theorem when_of_eq {t y m d h i s : Int} (D : IsDate t y m d h i s) (k : Nat) (hk : 13 ≤ k) : when_of.f k y [m, d, h, i, s] = some t := by
  have y1 := D.y1; have y2 := D.y2
  have ha1 := ahead_mono 1 y (by omega) (by omega)
  have ha2 := ahead_mono y 10000 (by omega) (by omega)
  rw [ahead_10000] at ha2
  have ha0 : aheadI 1 = 0 := by decide
  rw [ha0] at ha1
  unfold when_of.f
  rw [when_ahead_eq y (by omega) (by omega), when_ahead_eq 1970 (by omega) (by omega), ahead_1970]
  simp only [Option.bind_some]
  rw [w64 (by omega) (by omega)]
  have := when_of_l0 D k 1 (by omega) D.m1 (by omega)
  rwa [cum_1, Int.add_zero] at this

theorem when_Get_yes {t y m d h i s : Int} (D : IsDate t y m d h i s) (k : Nat) (hk : 10040 ≤ k) : when_Get.f k (stampTag y) (stampBody y m d h i s) [] = some (t, true) := by
  have y1 := D.y1; have y2 := D.y2; have m1 := D.m1; have m2 := D.m2; have d1 := D.d1; have d2 := D.d2; have hml := mlen_bd y m; have h1 := D.h1; have h2 := D.h2; have i1 := D.i1; have i2 := D.i2; have s1 := D.s1; have s2 := D.s2
  have hT := when_Time_yes D
  obtain ⟨k, rfl⟩ : ∃ j, k = j + 4 := ⟨k - 4, by omega⟩
  have e3 : when_Get.j3 (k + 1) [y % 100, m, d, h, i, s] y false (stampTag y) (stampBody y m d h i s) [] = some (t, true) := by
    simp only [when_Get.j3]
    rw [if_neg (by decide), if_pos (by simp)]
    rw [show ([y % 100, m, d, h, i, s] : List Int).drop 1 = [m, d, h, i, s] from rfl, when_of_eq D k (by omega)]
    simp only [Option.bind_some]
    rw [hT k (by omega)]
    simp
  have e2 : when_Get.j2 (k + 2) [y % 100, m, d, h, i, s] y (stampTag y) (stampBody y m d h i s) [] = some (t, true) := by
    simp only [when_Get.j2]
    rw [if_pos (by rfl), decide_eq_false (by omega)]
    exact e3
  unfold when_Get.f
  rw [if_neg (by simp)]
  by_cases hy : 2050 ≤ y
  · have eb : stampBody y m d h i s = digsAll [y / 100, y, m, d, h, i, s] ++ [90] := by unfold stampBody; rw [if_pos hy]; simp [digsAll]
    have hlen : (stampBody y m d h i s).length = 15 := by rw [eb]; simp [digsAll_length]
    simp only [when_Get.j0]
    rw [if_neg (by rw [hlen]; decide), hlen, w64 (by omega) (by omega), if_pos (by decide), if_pos (by decide)]
    have htk : (stampBody y m d h i s).take ((((15 : Nat) : Int) - 1) : Int).toNat = digsAll [y / 100, y, m, d, h, i, s] := by
      rw [eb, show ((((15 : Nat) : Int) - 1) : Int).toNat = (digsAll [y / 100, y, m, d, h, i, s]).length from by rw [digsAll_length]; rfl, List.take_left]
    rw [htk, numbers_digs _ (by simp; omega) (by simp)]
    simp only [Option.bind_some, if_true]
    have em : ([y / 100, y, m, d, h, i, s] : List Int).map (· % 100) = [y / 100, y % 100, m, d, h, i, s] := by simp; omega
    rw [em, decide_eq_false (by simp)]
    simp only [when_Get.j1]
    rw [if_neg (by decide), if_pos (by simp), show stampTag y = 24 from by unfold stampTag; rw [if_pos hy], if_pos rfl, if_pos (by simp), if_pos (by simp)]
    rw [show rd [y / 100, y % 100, m, d, h, i, s] 0 = y / 100 from rfl, show rd [y / 100, y % 100, m, d, h, i, s] 1 = y % 100 from rfl, w64 (n := y / 100 * 100) (by omega) (by omega), w64 (by omega) (by omega)]
    rw [show y / 100 * 100 + y % 100 = y from by omega]
    have := e2
    rw [show stampTag y = 24 from by unfold stampTag; rw [if_pos hy]] at this
    exact this
  · have eb : stampBody y m d h i s = digsAll [y, m, d, h, i, s] ++ [90] := by unfold stampBody; rw [if_neg hy]; simp [digsAll]
    have hlen : (stampBody y m d h i s).length = 13 := by rw [eb]; simp [digsAll_length]
    have et : stampTag y = 23 := by unfold stampTag; rw [if_neg hy]
    simp only [when_Get.j0]
    rw [if_neg (by rw [hlen]; decide), hlen, w64 (by omega) (by omega), if_pos (by decide), if_pos (by decide)]
    have htk : (stampBody y m d h i s).take ((((13 : Nat) : Int) - 1) : Int).toNat = digsAll [y, m, d, h, i, s] := by
      rw [eb, show ((((13 : Nat) : Int) - 1) : Int).toNat = (digsAll [y, m, d, h, i, s]).length from by rw [digsAll_length]; rfl, List.take_left]
    rw [htk, numbers_digs _ (by simp; omega) (by simp)]
    simp only [Option.bind_some, if_true]
    have em : ([y, m, d, h, i, s] : List Int).map (· % 100) = [y % 100, m, d, h, i, s] := by simp; omega
    rw [em, decide_eq_false (by simp)]
    rw [et] at e2 ⊢
    simp only [when_Get.j1]
    rw [if_neg (by decide), if_pos (by simp), if_neg (by decide)]
    rw [show rd [y % 100, m, d, h, i, s] 0 = y % 100 from rfl]
    by_cases hc : y % 100 < 50
    · rw [if_pos hc, w64 (by omega) (by omega), show y % 100 + 2000 = y from by omega]
      exact e2
    · rw [if_neg hc, w64 (by omega) (by omega), show y % 100 + 1900 = y from by omega]
      exact e2
theorem when_Get_nothing (k : Nat) (hk : 1 ≤ k) : when_Get.f k 0 [] [] = some (0, false) := by
  obtain ⟨k, rfl⟩ : ∃ j, k = j + 1 := ⟨k - 1, by omega⟩
  unfold when_Get.f
  rw [if_neg (by simp)]
  simp only [when_Get.j0]
  rw [if_pos (by rfl)]

theorem date0 : IsDate 0 1970 1 1 0 0 0 := ⟨by decide, by decide, by decide, by decide, by decide, by decide, by decide, by decide, by decide, by decide, by decide, by decide, by decide⟩
theorem known_true (k : Nat) (hk : 10040 ≤ k) : apostillelaw14_known.f k = some true := by
  unfold apostillelaw14_known.f
  rw [when_Time_yes date0 k (by omega)]
  simp only [Option.bind_some]
  rw [when_Get_yes date0 k hk]
  simp only [Option.bind_some]
  rw [if_pos (by decide), if_pos (by decide +kernel), if_pos trivial, if_pos trivial, when_Is_yes date0.time]
  rfl
theorem same_flat (tag : Int) (b : List Int) (k : Nat) (hk : 5 ≤ k) : apostilleref12_Same.f k tag b [] tag b [] = some true := by
  obtain ⟨k, rfl⟩ : ∃ j, k = j + 5 := ⟨k - 5, by omega⟩
  simp [apostilleref12_Same.f, apostilleref12_Same.j0, apostilleref12_Same.l0]

end Go.Proofs.Ytbihkbcjpodnbaa.Pure
