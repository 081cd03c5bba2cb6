/- Of two readers of a time, the program's and the document's: on every thing of at most a hundred bytes both answer the same. Plain, with no program in sight. -/
import Derived.Test.YtbihkbcjpodnbaaRefGet
import Derived.Test.YtbihkbcjpodnbaaFacts
namespace Go.Proofs.Ytbihkbcjpodnbaa.Pure
open Go.RowKit Go.Proofs.Ytbihkbcjpodnbaa.PAll Go.Proofs.YtbihkbcjpodnbaaW.PrintWords Go.Proofs.YtbihkbcjpodnbaaW.PrintLast Go.Proofs.YtbihkbcjpodnbaaH
set_option linter.unusedSimpArgs false
set_option linter.unusedVariables false

/-- What a time that a thing is read as has to do with the thing. -/
def Fits (tag : Int) (body : List Int) (t : Int) : Prop := IsTime t ∧ timeTag t = tag ∧ (strOfNums (timeBody t)).toList = (strOfNums body).toList

theorem when_of_total (y : Int) (hy : 1 ≤ y ∧ y ≤ 100000) (l : List Int) (hl : 4 < l.length) : ∀ (n k : Nat) (a x : Int), 1 ≤ x → 12 - x ≤ n → n < k → ∃ t, when_of.l0 k y l a x = some t := by
  intro n
  induction n with
  | zero =>
    intro k a x hx1 hx2 hk
    obtain ⟨k, rfl⟩ : ∃ q, k = q + 1 := ⟨k - 1, by omega⟩
    simp only [when_of.l0]
    rw [if_pos (by omega)]
    by_cases h1 : x < rd l 0
    · rw [if_pos h1, if_neg (show ¬ x < 12 by omega), if_pos (by omega), if_pos (by omega), if_pos (by omega), if_pos (by omega)]
      exact ⟨_, rfl⟩
    · rw [if_neg h1, if_pos (by omega), if_pos (by omega), if_pos (by omega), if_pos (by omega)]
      exact ⟨_, rfl⟩
  | succ n ih =>
    intro k a x hx1 hx2 hk
    obtain ⟨k, rfl⟩ : ∃ q, k = q + 1 := ⟨k - 1, by omega⟩
    simp only [when_of.l0]
    rw [if_pos (by omega)]
    by_cases h1 : x < rd l 0
    · rw [if_pos h1]
      by_cases h2 : x < 12
      · rw [if_pos h2, when_days_eq y x (by omega)]
        simp only [Option.bind_some]
        rw [w64 (n := x + 1) (by omega) (by omega)]
        exact ih k _ (x + 1) (by omega) (by omega) (by omega)
      · rw [if_neg h2, if_pos (by omega), if_pos (by omega), if_pos (by omega), if_pos (by omega)]
        exact ⟨_, rfl⟩
    · rw [if_neg h1, if_pos (by omega), if_pos (by omega), if_pos (by omega), if_pos (by omega)]
      exact ⟨_, rfl⟩
theorem when_of_some (y : Int) (hy : 1 ≤ y ∧ y ≤ 100000) (l : List Int) (hl : 4 < l.length) (k : Nat) (hk : 20 ≤ k) : ∃ t, when_of.f k y l = some t := by
  unfold when_of.f
  rw [when_ahead_eq y hy.1 (by omega), when_ahead_eq 1970 (by omega) (by omega)]
  simp only [Option.bind_some]
  exact when_of_total y hy l hl 11 k _ 1 (by omega) (by omega) (by omega)
theorem when_Time_any (t : Int) (k : Nat) (hk : 10030 ≤ k) : when_Time.f k t = some (timeTag t, timeBody t, []) := by
  by_cases hT : IsTime t
  · obtain ⟨y, m, d, h, i, s, D⟩ := date_of t hT
    rw [when_Time_yes D k hk, timeTag_eq D, timeBody_eq D]
  · rw [when_Time_no hT k, timeTag_no hT, timeBody_no hT]

theorem get_j3 (k : Nat) (hk : 10040 ≤ k) (l : List Int) (y : Int) (b : Bool) (tag : Int) (body : List Int) (kids : List S25) (hb : b = false → 1 ≤ y ∧ y ≤ 100000 ∧ l.length = 6) (hne : (strOfNums body).toList ≠ (strOfNums []).toList) :
    ∃ t ok, when_Get.j3 k l y b tag body kids = some (t, ok) ∧ ((t = 0 ∧ ok = false) ∨ (ok = true ∧ Fits tag body t)) := by
  obtain ⟨k, rfl⟩ : ∃ q, k = q + 1 := ⟨k - 1, by omega⟩
  simp only [when_Get.j3]
  cases b with
  | true => exact ⟨0, false, by rw [if_pos rfl], .inl ⟨rfl, rfl⟩⟩
  | false =>
    obtain ⟨h1, h2, h3⟩ := hb rfl
    obtain ⟨t, ht⟩ := when_of_some y ⟨h1, h2⟩ (l.drop 1) (by rw [List.length_drop]; omega) k (by omega)
    rw [if_neg (by decide), if_pos (by omega), ht]
    simp only [Option.bind_some]
    rw [when_Time_any t k (by omega)]
    simp only [Option.bind_some]
    by_cases c1 : timeTag t = tag
    · rw [if_pos c1]
      by_cases c2 : (strOfNums (timeBody t)).toList = (strOfNums body).toList
      · rw [if_pos c2]
        refine ⟨t, true, rfl, .inr ⟨rfl, ?_, c1, c2⟩⟩
        apply Classical.byContradiction
        intro hT
        rw [timeBody_no hT] at c2
        exact hne c2.symm
      · rw [if_neg c2]; exact ⟨0, false, rfl, .inl ⟨rfl, rfl⟩⟩
    · rw [if_neg c1]; exact ⟨0, false, rfl, .inl ⟨rfl, rfl⟩⟩
theorem get_j2 (k : Nat) (hk : 10041 ≤ k) (l : List Int) (y : Int) (hy : y ≤ 100000) (tag : Int) (body : List Int) (kids : List S25) (hne : (strOfNums body).toList ≠ (strOfNums []).toList) :
    ∃ t ok, when_Get.j2 k l y tag body kids = some (t, ok) ∧ ((t = 0 ∧ ok = false) ∨ (ok = true ∧ Fits tag body t)) := by
  obtain ⟨k, rfl⟩ : ∃ q, k = q + 1 := ⟨k - 1, by omega⟩
  simp only [when_Get.j2]
  by_cases h : (l.length : Int) = 6
  · rw [if_pos h]
    exact get_j3 k (by omega) l y _ tag body kids (fun hb => by have := of_decide_eq_false hb; omega) hne
  · rw [if_neg h]
    exact get_j3 k (by omega) l y _ tag body kids (fun hb => by cases hb) hne
theorem get_j1 (k : Nat) (hk : 10042 ≤ k) (l : List Int) (hl : ∀ x ∈ l, 0 ≤ x ∧ x ≤ 99) (b : Bool) (hb : b = false → 6 ≤ l.length) (tag : Int) (body : List Int) (kids : List S25) (hne : (strOfNums body).toList ≠ (strOfNums []).toList) :
    ∃ t ok, when_Get.j1 k l b tag body kids = some (t, ok) ∧ ((t = 0 ∧ ok = false) ∨ (ok = true ∧ Fits tag body t)) := by
  obtain ⟨k, rfl⟩ : ∃ q, k = q + 1 := ⟨k - 1, by omega⟩
  simp only [when_Get.j1]
  cases b with
  | true => exact ⟨0, false, by rw [if_pos rfl], .inl ⟨rfl, rfl⟩⟩
  | false =>
    have h6 := hb rfl
    have hr : ∀ j : Nat, j < 6 → 0 ≤ rd l (j : Int) ∧ rd l (j : Int) ≤ 99 := by
      intro j hj
      have e : rd l (j : Int) = l[j]'(by omega) := by simp [rd, show j < l.length from by omega]
      rw [e]; exact hl _ (List.getElem_mem _)
    have h0 := hr 0 (by omega)
    have h1 := hr 1 (by omega)
    have e0 : (((0 : Nat) : Int)) = 0 := rfl
    have e1 : (((1 : Nat) : Int)) = 1 := rfl
    rw [e0] at h0
    rw [e1] at h1
    rw [if_neg (by decide), if_pos (by omega)]
    by_cases ht : tag = 24
    · rw [if_pos ht, if_pos (by omega), if_pos (by omega)]
      exact get_j2 k (by omega) _ _ (by rw [w64 (n := rd l 0 * 100) (by omega) (by omega), w64 (by omega) (by omega)]; omega) tag body kids hne
    · rw [if_neg ht]
      by_cases hc : rd l 0 < 50
      · rw [if_pos hc]
        exact get_j2 k (by omega) _ _ (by rw [w64 (by omega) (by omega)]; omega) tag body kids hne
      · rw [if_neg hc]
        exact get_j2 k (by omega) _ _ (by rw [w64 (by omega) (by omega)]; omega) tag body kids hne
theorem numbers_any (l : List Int) (hl : l.length ≤ 1000) : ∃ r ok, when_numbers.f l = some (r, ok) ∧ (ok = true → ∀ x ∈ r, 0 ≤ x ∧ x ≤ 99) ∧ (ok = false → r = []) := by
  unfold when_numbers.f
  rw [if_neg (by omega)]
  split
  · rename_i h
    refine ⟨_, _, rfl, fun _ x hx => ?_, fun h => by cases h⟩
    obtain ⟨j, hj, rfl⟩ := List.mem_map.1 hx
    have := List.all_eq_true.1 h.2 j hj
    unfold numOk numDig at this
    unfold numVal
    simp only [Bool.and_eq_true, decide_eq_true_eq] at this
    omega
  · exact ⟨_, _, rfl, fun h => by (cases h), fun _ => rfl⟩
theorem when_Get_any (k : Nat) (hk : 10050 ≤ k) (tag : Int) (body : List Int) (kids : List S25) (hl : body.length ≤ 100) (hne0 : body ≠ [] → (strOfNums body).toList ≠ (strOfNums []).toList) :
    ∃ t ok, when_Get.f k tag body kids = some (t, ok) ∧ ((t = 0 ∧ ok = false) ∨ (ok = true ∧ Fits tag body t ∧ kids = [])) := by
  unfold when_Get.f
  obtain ⟨k, rfl⟩ : ∃ q, k = q + 1 := ⟨k - 1, by omega⟩
  by_cases hkd : kids = []
  · subst hkd
    rw [if_neg (by simp)]
    simp only [when_Get.j0]
    by_cases hb : body = []
    · subst hb
      exact ⟨0, false, by rw [if_pos (by rfl)], .inl ⟨rfl, rfl⟩⟩
    · have hp : 0 < body.length := List.length_pos_iff.2 hb
      rw [if_neg (by simp; omega), w64 (by omega) (by omega), if_pos (by omega), if_pos (by omega)]
      obtain ⟨r, ok, hr, h1, h2⟩ := numbers_any (body.take (((body.length : Int) - 1) : Int).toNat) (by rw [List.length_take]; omega)
      rw [hr]
      simp only [Option.bind_some]
      cases ok with
      | true =>
        rw [if_pos rfl]
        obtain ⟨t, ok, e, h⟩ := get_j1 k (by omega) r (h1 rfl) (decide ((r.length : Int) < 6)) (fun hb => by have := of_decide_eq_false hb; omega) tag body [] (hne0 hb)
        exact ⟨t, ok, e, h.imp id (fun ⟨a, b⟩ => ⟨a, b, trivial⟩)⟩
      | false =>
        rw [if_neg (by decide)]
        obtain ⟨t, ok, e, h⟩ := get_j1 k (by omega) r (by rw [h2 rfl]; simp) true (fun hb => by cases hb) tag body [] (hne0 hb)
        exact ⟨t, ok, e, h.imp id (fun ⟨a, b⟩ => ⟨a, b, trivial⟩)⟩
  · have hp : 0 < kids.length := List.length_pos_iff.2 hkd
    rw [if_pos (by omega)]
    simp only [when_Get.j0]
    exact ⟨0, false, by rw [if_pos trivial], .inl ⟨rfl, rfl⟩⟩

theorem refGetV_any (tag : Int) (body : List Int) (n : Nat) : refGetV tag body n = (0, false) ∨ ((refGetV tag body n).2 = true ∧ Fits tag body (refGetV tag body n).1 ∧ n = 0) := by
  unfold refGetV
  by_cases c1 : (tag = 23 ∨ tag = 24) ∧ n = 0 ∧ body.length = getK tag + 11
  · rw [if_pos c1]
    by_cases c2 : 1950 ≤ getY (getK tag) body ∧ 1 ≤ getF (getK tag) body 0 ∧ getF (getK tag) body 0 ≤ 12
    · rw [if_pos c2]
      by_cases c3 : timeTag (getT (getK tag) body) = tag ∧ (strOfNums (timeBody (getT (getK tag) body))).toList = (strOfNums body).toList
      · rw [if_pos c3]
        refine .inr ⟨rfl, ⟨?_, c3.1, c3.2⟩, c1.2.1⟩
        apply Classical.byContradiction
        intro hT
        have h0 := timeTag_no hT
        rw [c3.1] at h0
        rcases c1.1 with h1 | h1 <;> rw [h1] at h0 <;> exact absurd h0 (by decide)
      · rw [if_neg c3]; exact .inl rfl
    · rw [if_neg c2]; exact .inl rfl
  · rw [if_neg c1]; exact .inl rfl

theorem numI_digs (n : Int) (h1 : 0 ≤ n) (h2 : n ≤ 99) : numI (digs n) = n := by
  unfold numI digs
  simp only [numFrom]
  rw [if_neg (by omega), if_neg (by omega), if_neg (by omega), if_neg (by omega)]
  omega
theorem numI_digs4 (n : Int) (h1 : 0 ≤ n) (h2 : n ≤ 9999) : numI (digs (n / 100) ++ digs n) = n := by
  unfold numI digs
  simp only [List.cons_append, List.nil_append, numFrom]
  rw [if_neg (by omega), if_neg (by omega), if_neg (by omega), if_neg (by omega), if_neg (by omega), if_neg (by omega), if_neg (by omega), if_neg (by omega)]
  omega
theorem refGetV_yes {t y m d h i s : Int} (D : IsDate t y m d h i s) : refGetV (stampTag y) (stampBody y m d h i s) 0 = (t, true) := by
  have y1 := D.y1; have y2 := D.y2; have m1 := D.m1; have m2 := D.m2; have d1 := D.d1; have d2 := D.d2; have hml := mlen_bd y m; have h1 := D.h1; have h2 := D.h2; have i1 := D.i1; have i2 := D.i2; have s1 := D.s1; have s2 := D.s2
  have tm := D.tm
  unfold dayNo at tm
  have em := numI_digs m (by omega) (by omega)
  have ed := numI_digs d (by omega) (by omega)
  have eh := numI_digs h (by omega) (by omega)
  have ei := numI_digs i (by omega) (by omega)
  have es := numI_digs s (by omega) (by omega)
  by_cases hy : 2050 ≤ y
  · have et : stampTag y = 24 := by unfold stampTag; rw [if_pos hy]
    have eb : stampBody y m d h i s = digs (y / 100) ++ digs y ++ digs m ++ digs d ++ digs h ++ digs i ++ digs s ++ [90] := by unfold stampBody; rw [if_pos hy]; simp [digsAll]
    have ek : getK 24 = 4 := rfl
    have hT1 := timeTag_eq D
    have hT2 := timeBody_eq D
    rw [et] at hT1 ⊢
    rw [eb] at hT2 ⊢
    have g0 : getF 4 (digs (y / 100) ++ digs y ++ digs m ++ digs d ++ digs h ++ digs i ++ digs s ++ [90]) 0 = m := em
    have g1 : getF 4 (digs (y / 100) ++ digs y ++ digs m ++ digs d ++ digs h ++ digs i ++ digs s ++ [90]) 1 = d := ed
    have g2 : getF 4 (digs (y / 100) ++ digs y ++ digs m ++ digs d ++ digs h ++ digs i ++ digs s ++ [90]) 2 = h := eh
    have g3 : getF 4 (digs (y / 100) ++ digs y ++ digs m ++ digs d ++ digs h ++ digs i ++ digs s ++ [90]) 3 = i := ei
    have g4 : getF 4 (digs (y / 100) ++ digs y ++ digs m ++ digs d ++ digs h ++ digs i ++ digs s ++ [90]) 4 = s := es
    have gy : getY 4 (digs (y / 100) ++ digs y ++ digs m ++ digs d ++ digs h ++ digs i ++ digs s ++ [90]) = y := numI_digs4 y (by omega) (by omega)
    have gt : getT 4 (digs (y / 100) ++ digs y ++ digs m ++ digs d ++ digs h ++ digs i ++ digs s ++ [90]) = t := by
      unfold getT
      rw [gy, g0, g1, g2, g3, g4]
      omega
    unfold refGetV
    rw [if_pos ⟨.inr rfl, rfl, rfl⟩, ek, gy, g0, gt, if_pos ⟨by omega, by omega, by omega⟩, if_pos ⟨hT1, by rw [hT2]⟩]
  · have et : stampTag y = 23 := by unfold stampTag; rw [if_neg hy]
    have eb : stampBody y m d h i s = digs y ++ digs m ++ digs d ++ digs h ++ digs i ++ digs s ++ [90] := by unfold stampBody; rw [if_neg hy]; simp [digsAll]
    have ek : getK 23 = 2 := rfl
    have hT1 := timeTag_eq D
    have hT2 := timeBody_eq D
    rw [et] at hT1 ⊢
    rw [eb] at hT2 ⊢
    have g0 : getF 2 (digs y ++ digs m ++ digs d ++ digs h ++ digs i ++ digs s ++ [90]) 0 = m := em
    have g1 : getF 2 (digs y ++ digs m ++ digs d ++ digs h ++ digs i ++ digs s ++ [90]) 1 = d := ed
    have g2 : getF 2 (digs y ++ digs m ++ digs d ++ digs h ++ digs i ++ digs s ++ [90]) 2 = h := eh
    have g3 : getF 2 (digs y ++ digs m ++ digs d ++ digs h ++ digs i ++ digs s ++ [90]) 3 = i := ei
    have g4 : getF 2 (digs y ++ digs m ++ digs d ++ digs h ++ digs i ++ digs s ++ [90]) 4 = s := es
    have ey : numI ((digs y ++ digs m ++ digs d ++ digs h ++ digs i ++ digs s ++ [90]).take 2) = y % 100 := by
      have e0 : digs y = digs (y % 100) := by unfold digs; rw [show y / 10 % 10 = y % 100 / 10 % 10 from by omega, show y % 10 = y % 100 % 10 from by omega]
      show numI (digs y) = _
      rw [e0]
      exact numI_digs _ (by omega) (by omega)
    have gy : getY 2 (digs y ++ digs m ++ digs d ++ digs h ++ digs i ++ digs s ++ [90]) = y := by
      unfold getY
      rw [if_neg (by decide), ey]
      split <;> omega
    have gt : getT 2 (digs y ++ digs m ++ digs d ++ digs h ++ digs i ++ digs s ++ [90]) = t := by
      unfold getT
      rw [gy, g0, g1, g2, g3, g4]
      omega
    unfold refGetV
    rw [if_pos ⟨.inl rfl, rfl, rfl⟩, ek, gy, g0, gt, if_pos ⟨by omega, by omega, by omega⟩, if_pos ⟨hT1, by rw [hT2]⟩]

/-- A list of bytes. -/
def Bytes8 (l : List Int) : Prop := ∀ x ∈ l, 0 ≤ x ∧ x ≤ 255
theorem toList_loop (bs : ByteArray) : ∀ (n i : Nat) (acc : List UInt8), i + n = bs.size → ByteArray.toList.loop bs i acc = acc.reverse ++ bs.data.toList.drop i := by
  intro n
  induction n with
  | zero =>
    intro i acc h
    have e : bs.data.toList.length = bs.size := rfl
    rw [ByteArray.toList.loop, if_neg (by omega), List.drop_of_length_le (by omega), List.append_nil]
  | succ n ih =>
    intro i acc h
    have e : bs.data.toList.length = bs.size := rfl
    have hi : i < bs.data.toList.length := by omega
    have hi2 : i < bs.data.size := hi
    rw [ByteArray.toList.loop, if_pos (by omega), ih (i + 1) _ (by omega), List.drop_eq_getElem_cons hi]
    have eg : bs.get! i = bs.data.toList[i] := by
      show bs.data[i]! = _
      rw [getElem!_pos bs.data i hi2]
      simp
    rw [eg]
    simp
theorem toList_eq (bs : ByteArray) : bs.toList = bs.data.toList := by
  unfold ByteArray.toList
  rw [toList_loop bs bs.size 0 [] (by omega)]
  simp
theorem strOf_inj {a b : List Int} (ha : Bytes8 a) (hb : Bytes8 b) (h : (strOfNums a).toList = (strOfNums b).toList) : a = b := by
  rw [toList_eq, toList_eq] at h
  unfold strOfNums at h
  have h : a.map (fun n => UInt8.ofNat n.toNat) = b.map (fun n => UInt8.ofNat n.toNat) := by simpa using h
  induction a generalizing b with
  | nil => cases b with
    | nil => rfl
    | cons y b => simp at h
  | cons x a ih => cases b with
    | nil => simp at h
    | cons y b =>
      simp only [List.map_cons, List.cons.injEq] at h
      have hx := ha x List.mem_cons_self
      have hy := hb y List.mem_cons_self
      have e : x.toNat = y.toNat := by
        have := congrArg UInt8.toNat h.1
        simp only [UInt8.toNat_ofNat'] at this
        omega
      have e2 : x = y := by omega
      rw [e2, ih (fun z hz => ha z (List.mem_cons_of_mem _ hz)) (fun z hz => hb z (List.mem_cons_of_mem _ hz)) h.2 h.2]
theorem stamp_bytes {t y m d h i s : Int} (D : IsDate t y m d h i s) : Bytes8 (stampBody y m d h i s) := by
  have dg : ∀ n : Int, ∀ x ∈ digs n, 0 ≤ x ∧ x ≤ 255 := by
    intro n x hx
    unfold digs at hx
    simp only [List.mem_cons, List.not_mem_nil, or_false] at hx
    omega
  intro x hx
  unfold stampBody at hx
  rw [List.mem_append, List.mem_append] at hx
  rcases hx with (hx | hx) | hx
  · split at hx
    · exact dg _ x hx
    · cases hx
  · unfold digsAll at hx
    obtain ⟨n, _, hn⟩ := List.mem_flatMap.1 hx
    exact dg n x hn
  · simp only [List.mem_cons, List.not_mem_nil, or_false] at hx
    omega
theorem Fits.stamp {tag : Int} {body : List Int} {t : Int} (h : Fits tag body t) (hB : Bytes8 body) : ∃ y m d hh i s, IsDate t y m d hh i s ∧ tag = stampTag y ∧ body = stampBody y m d hh i s := by
  obtain ⟨hT, h1, h2⟩ := h
  obtain ⟨y, m, d, hh, i, s, D⟩ := date_of t hT
  rw [timeTag_eq D] at h1
  rw [timeBody_eq D] at h2
  exact ⟨y, m, d, hh, i, s, D, h1.symm, (strOf_inj (stamp_bytes D) hB h2).symm⟩
theorem gets_agree (k : Nat) (hk : 10050 ≤ k) (tag : Int) (body : List Int) (kids : List S25) (hl : body.length ≤ 100) (hB : Bytes8 body) :
    ∃ t ok, when_Get.f k tag body kids = some (t, ok) ∧ refGetV tag body kids.length = (t, ok) := by
  obtain ⟨t, ok, e, h⟩ := when_Get_any k hk tag body kids hl (fun hb h => hb (strOf_inj hB (fun x hx => by cases hx) h))
  refine ⟨t, ok, e, ?_⟩
  rcases h with ⟨rfl, rfl⟩ | ⟨rfl, hF, rfl⟩
  · rcases refGetV_any tag body kids.length with h | ⟨h1, h2, h3⟩
    · exact h
    · exfalso
      obtain ⟨y, m, d, hh, i, s, D, e1, e2⟩ := h2.stamp hB
      obtain rfl : kids = [] := List.eq_nil_of_length_eq_zero h3
      have := when_Get_yes D k (by omega)
      rw [← e1, ← e2, e] at this
      simp at this
  · obtain ⟨y, m, d, hh, i, s, D, rfl, rfl⟩ := hF.stamp hB
    exact refGetV_yes D
end Go.Proofs.Ytbihkbcjpodnbaa.Pure
