/- The calendar, in plain numbers: years, months, days; a date is the one of a time. No program is in sight. -/
set_option linter.unusedVariables false
namespace Go.Proofs.YtbihkbcjpodnbaaH

def leapI (y : Int) : Bool := decide (y % 4 = 0) && (decide (y % 100 ≠ 0) || decide (y % 400 = 0))
def aheadI (y : Int) : Int := (y - 1) * 365 + (y - 1) / 4 - (y - 1) / 100 + (y - 1) / 400
def lp (y : Int) : Int := if leapI y = true then 1 else 0
def mlen (y m : Int) : Int := if m = 2 then 28 + lp y else if m = 4 ∨ m = 6 ∨ m = 9 ∨ m = 11 then 30 else 31
def cumI (y m : Int) : Int :=
  if m ≤ 1 then 0 else if m = 2 then 31 else lp y + (if m = 3 then 59 else if m = 4 then 90 else if m = 5 then 120 else if m = 6 then 151 else if m = 7 then 181 else if m = 8 then 212 else if m = 9 then 243 else if m = 10 then 273 else if m = 11 then 304 else if m = 12 then 334 else 365)

theorem lp_cases (y : Int) : (lp y = 1 ∧ y % 4 = 0 ∧ (y % 100 ≠ 0 ∨ y % 400 = 0)) ∨ (lp y = 0 ∧ (y % 4 ≠ 0 ∨ (y % 100 = 0 ∧ y % 400 ≠ 0))) := by
  unfold lp leapI
  by_cases h : (decide (y % 4 = 0) && (decide (y % 100 ≠ 0) || decide (y % 400 = 0))) = true
  · rw [if_pos h]
    simp at h
    exact .inl ⟨rfl, h.1, h.2⟩
  · rw [if_neg h]
    simp at h
    by_cases h4 : y % 4 = 0
    · exact .inr ⟨rfl, .inr (h h4)⟩
    · exact .inr ⟨rfl, .inl h4⟩
theorem lp_01 (y : Int) : 0 ≤ lp y ∧ lp y ≤ 1 := by rcases lp_cases y with h | h <;> omega
theorem leap_lp (y : Int) : leapI y = true ↔ lp y = 1 := by
  unfold lp
  by_cases h : leapI y = true <;> simp [h]
theorem ahead_succ (y : Int) (h : 1 ≤ y) : aheadI (y + 1) = aheadI y + 365 + lp y := by
  unfold aheadI
  rcases lp_cases y with ⟨e, h1, h2⟩ | ⟨e, h1⟩ <;> rw [e] <;> omega
theorem ahead_mono (a b : Int) (h0 : 1 ≤ a) (h : a ≤ b) : aheadI a ≤ aheadI b := by unfold aheadI; omega
theorem ahead_1950 : aheadI 1950 = 711857 := by decide
theorem ahead_1970 : aheadI 1970 = 719162 := by decide
theorem ahead_10000 : aheadI 10000 = 3652059 := by decide
theorem month_cases (m : Int) (h1 : 1 ≤ m) (h2 : m ≤ 12) : m = 1 ∨ m = 2 ∨ m = 3 ∨ m = 4 ∨ m = 5 ∨ m = 6 ∨ m = 7 ∨ m = 8 ∨ m = 9 ∨ m = 10 ∨ m = 11 ∨ m = 12 := by omega
theorem cum_succ (y m : Int) (h1 : 1 ≤ m) (h2 : m ≤ 12) : cumI y (m + 1) = cumI y m + mlen y m := by
  rcases month_cases m h1 h2 with rfl | rfl | rfl | rfl | rfl | rfl | rfl | rfl | rfl | rfl | rfl | rfl <;> simp [cumI, mlen] <;> omega
theorem mlen_bd (y m : Int) : 28 ≤ mlen y m ∧ mlen y m ≤ 31 := by
  have := lp_01 y
  unfold mlen
  split
  · omega
  · split <;> omega
theorem cum_13 (y : Int) : cumI y 13 = 365 + lp y := by simp [cumI]; omega
theorem cum_1 (y : Int) : cumI y 1 = 0 := by simp [cumI]
theorem cum_mono (y a b : Int) (h1 : 1 ≤ a) (h : a ≤ b) (h2 : b ≤ 13) : cumI y a ≤ cumI y b := by
  have hn : ∀ n : Nat, a + n ≤ 13 → cumI y a ≤ cumI y (a + n) := by
    intro n
    induction n with
    | zero => intro _; simp
    | succ n ih =>
      intro hb
      have := cum_succ y (a + n) (by omega) (by omega)
      have hm := mlen_bd y (a + n)
      have e : a + ((n + 1 : Nat) : Int) = a + n + 1 := by omega
      rw [e, this]
      have := ih (by omega)
      omega
  obtain ⟨n, hn'⟩ : ∃ n : Nat, b = a + n := ⟨(b - a).toNat, by omega⟩
  rw [hn']
  exact hn n (by omega)

/-- The times that may be. -/
def IsTime (t : Int) : Prop := -631152000 ≤ t ∧ t ≤ 253402300799
/-- A day's number from the year 1 on. -/
def dayNo (y m d : Int) : Int := aheadI y + cumI y m + d - 1
structure IsDate (t y m d h i s : Int) : Prop where
  y1 : 1950 ≤ y
  y2 : y ≤ 9999
  m1 : 1 ≤ m
  m2 : m ≤ 12
  d1 : 1 ≤ d
  d2 : d ≤ mlen y m
  h1 : 0 ≤ h
  h2 : h ≤ 23
  i1 : 0 ≤ i
  i2 : i ≤ 59
  s1 : 0 ≤ s
  s2 : s ≤ 59
  tm : t = (dayNo y m d - 719162) * 86400 + h * 3600 + i * 60 + s

theorem year_unique {n y y' : Int} (h : 1 ≤ y) (h' : 1 ≤ y') (a : aheadI y ≤ n) (b : n < aheadI (y + 1)) (a' : aheadI y' ≤ n) (b' : n < aheadI (y' + 1)) : y = y' := by
  rcases Int.lt_trichotomy y y' with hlt | he | hgt
  · have := ahead_mono (y + 1) y' (by omega) (by omega); omega
  · exact he
  · have := ahead_mono (y' + 1) y (by omega) (by omega); omega
theorem month_unique {y n m m' : Int} (h : 1 ≤ m) (h2 : m ≤ 12) (h' : 1 ≤ m') (h2' : m' ≤ 12) (a : cumI y m ≤ n) (b : n < cumI y (m + 1)) (a' : cumI y m' ≤ n) (b' : n < cumI y (m' + 1)) : m = m' := by
  rcases Int.lt_trichotomy m m' with hlt | he | hgt
  · have := cum_mono y (m + 1) m' (by omega) (by omega) (by omega); omega
  · exact he
  · have := cum_mono y (m' + 1) m (by omega) (by omega) (by omega); omega
theorem IsDate.within {t y m d h i s : Int} (D : IsDate t y m d h i s) : aheadI y ≤ dayNo y m d ∧ dayNo y m d < aheadI (y + 1) ∧ cumI y m ≤ dayNo y m d - aheadI y ∧ dayNo y m d - aheadI y < cumI y (m + 1) := by
  have e := ahead_succ y (by have := D.y1; omega)
  have c := cum_succ y m D.m1 D.m2
  have c0 := cum_mono y 1 m (by omega) D.m1 (by have := D.m2; omega)
  have c13 := cum_mono y (m + 1) 13 (by have := D.m1; omega) (by have := D.m2; omega) (by omega)
  rw [cum_1] at c0
  rw [cum_13] at c13
  have := D.d1
  have := D.d2
  unfold dayNo
  omega
theorem IsDate.day {t y m d h i s : Int} (D : IsDate t y m d h i s) : dayNo y m d = 719162 + t / 86400 := by
  have := D.tm; have := D.h1; have := D.h2; have := D.i1; have := D.i2; have := D.s1; have := D.s2
  omega
theorem IsDate.unique {t y m d h i s y' m' d' h' i' s' : Int} (D : IsDate t y m d h i s) (E : IsDate t y' m' d' h' i' s') : y = y' ∧ m = m' ∧ d = d' ∧ h = h' ∧ i = i' ∧ s = s' := by
  have e1 := D.day
  have e2 := E.day
  obtain ⟨a1, a2, a3, a4⟩ := D.within
  obtain ⟨b1, b2, b3, b4⟩ := E.within
  have hy : y = y' := year_unique (by have := D.y1; omega) (by have := E.y1; omega) (by rw [e1] at a1; exact a1) (by rw [e1] at a2; exact a2) (by rw [e2] at b1; exact b1) (by rw [e2] at b2; exact b2)
  subst hy
  have hm : m = m' := month_unique D.m1 D.m2 E.m1 E.m2 (n := 719162 + t / 86400 - aheadI y) (by rw [e1] at a3; exact a3) (by rw [e1] at a4; exact a4) (by rw [e2] at b3; exact b3) (by rw [e2] at b4; exact b4)
  subst hm
  have hd : d = d' := by unfold dayNo at e1 e2; omega
  have := D.tm; have := D.h1; have := D.h2; have := D.i1; have := D.i2; have := D.s1; have := D.s2
  have := E.tm; have := E.h1; have := E.h2; have := E.i1; have := E.i2; have := E.s1; have := E.s2
  subst hd
  refine ⟨rfl, rfl, rfl, ?_, ?_, ?_⟩ <;> omega
/-- A time that has a date may be. -/
theorem IsDate.time {t y m d h i s : Int} (D : IsDate t y m d h i s) : IsTime t := by
  obtain ⟨a1, a2, _, _⟩ := D.within
  have h1 := ahead_mono 1950 y (by omega) D.y1
  have h2 := ahead_mono (y + 1) 10000 (by have := D.y1; omega) (by have := D.y2; omega)
  rw [ahead_1950] at h1
  rw [ahead_10000] at h2
  have := D.tm; have := D.h1; have := D.h2; have := D.i1; have := D.i2; have := D.s1; have := D.s2
  unfold IsTime
  omega

/-- Every time that may be has a date. -/
theorem year_of (n : Int) (h1 : 711857 ≤ n) (h2 : n < 3652059) : ∃ y, 1950 ≤ y ∧ y ≤ 9999 ∧ aheadI y ≤ n ∧ n < aheadI (y + 1) := by
  have hk : ∀ k : Nat, k ≤ 8049 → aheadI (1950 + k) ≤ n → ∃ y, 1950 ≤ y ∧ y ≤ 9999 ∧ aheadI y ≤ n ∧ n < aheadI (y + 1) := by
    intro k
    induction hd : 8049 - k generalizing k with
    | zero =>
      intro hk ha
      obtain rfl : k = 8049 := by omega
      exact ⟨9999, by omega, by omega, by simpa using ha, by have : aheadI (9999 + 1) = 3652059 := ahead_10000; omega⟩
    | succ d ih =>
      intro hk ha
      by_cases hx : n < aheadI (1950 + k + 1)
      · exact ⟨1950 + k, by omega, by omega, ha, hx⟩
      · refine ih (k + 1) (by omega) (by omega) ?_
        have e : (1950 : Int) + ((k + 1 : Nat) : Int) = 1950 + k + 1 := by omega
        rw [e]; omega
  exact hk 0 (by omega) (by have := ahead_1950; simpa [this] using h1)
theorem month_of (y n : Int) (h1 : 0 ≤ n) (h2 : n < 365 + lp y) : ∃ m, 1 ≤ m ∧ m ≤ 12 ∧ cumI y m ≤ n ∧ n < cumI y (m + 1) := by
  have hk : ∀ k : Nat, k ≤ 11 → cumI y (1 + k) ≤ n → ∃ m, 1 ≤ m ∧ m ≤ 12 ∧ cumI y m ≤ n ∧ n < cumI y (m + 1) := by
    intro k
    induction hd : 11 - k generalizing k with
    | zero =>
      intro hk ha
      obtain rfl : k = 11 := by omega
      exact ⟨12, by omega, by omega, by simpa using ha, by have : cumI y (12 + 1) = 365 + lp y := cum_13 y; omega⟩
    | succ d ih =>
      intro hk ha
      by_cases hx : n < cumI y (1 + k + 1)
      · exact ⟨1 + k, by omega, by omega, ha, hx⟩
      · refine ih (k + 1) (by omega) (by omega) ?_
        have e : (1 : Int) + ((k + 1 : Nat) : Int) = 1 + k + 1 := by omega
        rw [e]; omega
  exact hk 0 (by omega) (by have := cum_1 y; simpa [this] using h1)
theorem date_of (t : Int) (h : IsTime t) : ∃ y m d h i s, IsDate t y m d h i s := by
  obtain ⟨h1, h2⟩ := h
  obtain ⟨y, y1, y2, a1, a2⟩ := year_of (719162 + t / 86400) (by omega) (by omega)
  have e := ahead_succ y (by omega)
  obtain ⟨m, m1, m2, c1, c2⟩ := month_of y (719162 + t / 86400 - aheadI y) (by omega) (by omega)
  have c := cum_succ y m m1 m2
  exact ⟨y, m, 719162 + t / 86400 - aheadI y - cumI y m + 1, t % 86400 / 3600, t % 86400 / 60 % 60, t % 60, y1, y2, m1, m2, by omega, by omega, by omega, by omega, by omega, by omega, by omega, by omega, by unfold dayNo; omega⟩

open Classical in
/-- The date of a time. -/
noncomputable def dateOf (t : Int) : Int × Int × Int × Int × Int × Int :=
  if h : ∃ p : Int × Int × Int × Int × Int × Int, IsDate t p.1 p.2.1 p.2.2.1 p.2.2.2.1 p.2.2.2.2.1 p.2.2.2.2.2 then choose h else (0, 0, 0, 0, 0, 0)
theorem dateOf_eq {t y m d h i s : Int} (D : IsDate t y m d h i s) : dateOf t = (y, m, d, h, i, s) := by
  unfold dateOf
  have hex : ∃ p : Int × Int × Int × Int × Int × Int, IsDate t p.1 p.2.1 p.2.2.1 p.2.2.2.1 p.2.2.2.2.1 p.2.2.2.2.2 := ⟨(y, m, d, h, i, s), D⟩
  rw [dif_pos hex]
  obtain ⟨e1, e2, e3, e4, e5, e6⟩ := D.unique (Classical.choose_spec hex)
  generalize Classical.choose hex = p at *
  obtain ⟨a, b, c, d', e, f⟩ := p
  simp only at e1 e2 e3 e4 e5 e6
  rw [e1, e2, e3, e4, e5, e6]
theorem dateOf_no {t : Int} (h : ¬ IsTime t) : dateOf t = (0, 0, 0, 0, 0, 0) := by
  unfold dateOf
  rw [dif_neg]
  rintro ⟨p, D⟩
  exact h D.time

/-- Two decimal digits. -/
def digs (n : Int) : List Int := [48 + n / 10 % 10, 48 + n % 10]
def digsAll (l : List Int) : List Int := l.flatMap digs
/-- A date's thing: the tag, the bytes. -/
def stampTag (y : Int) : Int := if 2050 ≤ y then 24 else 23
def stampBody (y m d h i s : Int) : List Int := (if 2050 ≤ y then digs (y / 100) else []) ++ digsAll [y, m, d, h, i, s] ++ [90]
open Classical in
noncomputable def timeTag (t : Int) : Int := if IsTime t then stampTag (dateOf t).1 else 0
open Classical in
noncomputable def timeBody (t : Int) : List Int := if IsTime t then (let p := dateOf t; stampBody p.1 p.2.1 p.2.2.1 p.2.2.2.1 p.2.2.2.2.1 p.2.2.2.2.2) else []
theorem timeTag_eq {t y m d h i s : Int} (D : IsDate t y m d h i s) : timeTag t = stampTag y := by unfold timeTag; rw [if_pos D.time, dateOf_eq D]
theorem timeBody_eq {t y m d h i s : Int} (D : IsDate t y m d h i s) : timeBody t = stampBody y m d h i s := by unfold timeBody; rw [if_pos D.time, dateOf_eq D]
theorem timeTag_no {t : Int} (h : ¬ IsTime t) : timeTag t = 0 := by unfold timeTag; rw [if_neg h]
theorem timeBody_no {t : Int} (h : ¬ IsTime t) : timeBody t = [] := by unfold timeBody; rw [if_neg h]

end Go.Proofs.YtbihkbcjpodnbaaH
