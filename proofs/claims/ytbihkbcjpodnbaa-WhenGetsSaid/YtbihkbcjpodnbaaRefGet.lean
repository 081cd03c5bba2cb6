/- The reading back of a time, the document's own way: the walk through its code, for every thing. -/
import Derived.Test.YtbihkbcjpodnbaaPAllx3
import Derived.Test.YtbihkbcjpodnbaaPAllx8
import Derived.Lib.Hide
namespace Go.Proofs.Ytbihkbcjpodnbaa.PAll
open Go.RowKit Go.Proofs.YtbihkbcjpodnbaaW.PrintWords Go.Proofs.YtbihkbcjpodnbaaW.PrintLast Go.Proofs.YtbihkbcjpodnbaaW.PrintMore
attribute [local go_sem] max2_int min2_int max_two min_two max_three min_three max_four min_four   -- for this text's walks alone
set_option linter.unusedVariables false
set_option linter.unusedSimpArgs false
section
open Go.Shelf Go.Proofs.YtbihkbcjpodnbaaH
def numFrom : Int → List Int → Int
  | a, [] => a
  | a, b :: r => if b < 48 then -1 else if 57 < b then -1 else numFrom (a * 10 + b - 48) r
def numI (l : List Int) : Int := numFrom 0 l
theorem numFrom_bd : ∀ (l : List Int) (a M : Int), 0 ≤ a → a < M → -1 ≤ numFrom a l ∧ numFrom a l < M * 10 ^ l.length
  | [], a, M, h0, h1 => by simp [numFrom]; omega
  | b :: r, a, M, h0, h1 => by
    unfold numFrom
    have hM : (0 : Int) < M * 10 ^ (b :: r).length := Int.mul_pos (by omega) (by exact Int.pow_pos (by omega))
    by_cases h2 : b < 48
    · rw [if_pos h2]; exact ⟨by omega, by omega⟩
    · rw [if_neg h2]
      by_cases h3 : 57 < b
      · rw [if_pos h3]; exact ⟨by omega, by omega⟩
      · rw [if_neg h3]
        have := numFrom_bd r (a * 10 + b - 48) (M * 10) (by omega) (by omega)
        rwa [Int.mul_assoc, ← Int.pow_succ'] at this
theorem num_bd2 (l : List Int) (h : l.length = 2) : -1 ≤ numI l ∧ numI l < 100 := by
  have := numFrom_bd l 0 1 (by omega) (by omega)
  rw [h] at this
  exact this
theorem num_bd4 (l : List Int) (h : l.length = 4) : -1 ≤ numI l ∧ numI l < 10000 := by
  have := numFrom_bd l 0 1 (by omega) (by omega)
  rw [h] at this
  exact this
theorem number_l0_eq : ∀ (n k i : Nat) (acc : Int) (l : List Int), i + n = l.length → l.length ≤ 100 → n < k → 0 ≤ acc → (acc + 1) * 10 ^ n ≤ 1000000 → apostilleref14_number.l0 k l acc i = some (numFrom acc (l.drop i)) := by
  intro n
  induction n with
  | zero =>
    intro k i acc l hi hl hk h0 hM
    obtain ⟨k, rfl⟩ : ∃ q, k = q + 1 := ⟨k - 1, by omega⟩
    simp only [apostilleref14_number.l0]
    rw [if_neg (by omega), List.drop_of_length_le (by omega)]
    rfl
  | succ n ih =>
    intro k i acc l hi hl hk h0 hM
    obtain ⟨k, rfl⟩ : ∃ q, k = q + 1 := ⟨k - 1, by omega⟩
    have hil : i < l.length := by omega
    have hr : rd l (i : Int) = l[i] := by simp [rd, hil]
    have hacc : acc + 1 ≤ 1000000 := by
      have h1 : (1 : Int) ≤ 10 ^ (n + 1) := by have : (0 : Int) < 10 ^ (n + 1) := Int.pow_pos (by omega); omega
      have := Int.mul_le_mul_of_nonneg_left h1 (show 0 ≤ acc + 1 by omega)
      omega
    simp only [apostilleref14_number.l0]
    rw [if_pos (by omega), if_pos (by omega), hr, List.drop_eq_getElem_cons hil]
    unfold numFrom
    by_cases h2 : l[i] < 48
    · rw [if_pos h2, if_pos h2]
    · rw [if_neg h2, if_neg h2]
      by_cases h3 : 57 < l[i]
      · rw [if_pos h3, if_pos h3]
      · rw [if_neg h3, if_neg h3]
        have hw : wrap64 (wrap64 (wrap64 (acc * 10) + wrap64 l[i]) - 48) = acc * 10 + l[i] - 48 := by unfold wrap64; omega
        rw [hw, show wrap64 ((i : Int) + 1) = ((i + 1 : Nat) : Int) from by unfold wrap64; omega]
        refine ih k (i + 1) _ l (by omega) hl (by omega) (by omega) ?_
        have e : (acc * 10 + l[i] - 48 + 1) * 10 ^ n ≤ ((acc + 1) * 10) * 10 ^ n := Int.mul_le_mul_of_nonneg_right (by omega) (Int.le_of_lt (Int.pow_pos (by omega)))
        rw [Int.mul_assoc, ← Int.pow_succ'] at e
        omega
theorem number_eq (l : List Int) (h : l.length ≤ 4) (k : Nat) (hk : 5 ≤ k) : apostilleref14_number.f k l = some (numI l) := by
  have : (((0 : Int) + 1) * 10 ^ l.length ≤ 1000000) := by
    rcases (by omega : l.length = 0 ∨ l.length = 1 ∨ l.length = 2 ∨ l.length = 3 ∨ l.length = 4) with e | e | e | e | e <;> rw [e] <;> decide
  exact number_l0_eq l.length k 0 0 l (by omega) (by omega) (by omega) (by omega) this

def getK (tag : Int) : Nat := if tag = 24 then 4 else 2
def getF (k : Nat) (l : List Int) (i : Nat) : Int := numI ((l.take (k + 2 * i + 2)).drop (k + 2 * i))
def getY (k : Nat) (l : List Int) : Int := if k = 4 then numI (l.take 4) else if numI (l.take 2) + 1900 < 1950 then numI (l.take 2) + 2000 else numI (l.take 2) + 1900
def getT (k : Nat) (l : List Int) : Int := (aheadI (getY k l) - 711857 + cumI (getY k l) (getF k l 0) + getF k l 1 - 1) * 86400 + (getF k l 2 * 3600 + getF k l 3 * 60 + getF k l 4) - 631152000
noncomputable def refGetV (tag : Int) (l : List Int) (n : Nat) : Int × Bool :=
  if (tag = 23 ∨ tag = 24) ∧ n = 0 ∧ l.length = getK tag + 11 then
    if 1950 ≤ getY (getK tag) l ∧ 1 ≤ getF (getK tag) l 0 ∧ getF (getK tag) l 0 ≤ 12 then
      if timeTag (getT (getK tag) l) = tag ∧ (strOfNums (timeBody (getT (getK tag) l))).toList = (strOfNums l).toList then (getT (getK tag) l, true) else (0, false)
    else (0, false)
  else (0, false)

set_option maxHeartbeats 2000000 in
set_option maxRecDepth 100000 in
theorem ref_Get_bad (tag : Int) (A1 A2 : Option Addr) (c1 c2 n1 n2 : Nat) (w : World) (hbad : ¬ ((tag = 23 ∨ tag = 24) ∧ n2 = 0 ∧ n1 = getK tag + 11)) :
    Calls Try.prog 16 #[.agg #[.int .u8 tag, .slice A1 n1 c1, .slice A2 n2 c2]] w fun e w' => e = .returned (.tuple #[.int .i64 0, .bool false]) ∧ Below w.heap.size w w' := by
  have hb : Below w.heap.size w (w.alloc (Obj.cells #[.int .u8 tag, .slice A1 n1 c1, .slice A2 n2 c2] 25)) := (Below.refl _ w).alloc (Nat.le_refl _) _
  unfold getK at hbad
  by_cases h24 : tag = 24
  · subst h24
    rw [if_pos rfl] at hbad
    by_cases hn : n2 = 0
    · subst hn
      have hn1 : ¬ n1 = 15 := fun e => hbad ⟨.inr rfl, rfl, e⟩
      have hn2 : ¬ (n1 : Int) = 15 := by omega
      clear hbad
      go_enter Try.func16, Try.ntmps16
      go_wp2
      go_ret2
      exact ⟨rfl, hb⟩
    · have hn2 : (n2 : Int) > 0 := by omega
      clear hbad
      go_enter Try.func16, Try.ntmps16
      go_wp2
      go_ret2
      exact ⟨rfl, hb⟩
  · rw [if_neg h24] at hbad
    by_cases h23 : tag = 23
    · subst h23
      by_cases hn : n2 = 0
      · subst hn
        have hn1 : ¬ n1 = 13 := fun e => hbad ⟨.inl rfl, rfl, e⟩
        have hn2 : ¬ (n1 : Int) = 13 := by omega
        clear hbad
        go_enter Try.func16, Try.ntmps16
        go_wp2
        go_ret2
        exact ⟨rfl, hb⟩
      · have hn2 : (n2 : Int) > 0 := by omega
        clear hbad
        go_enter Try.func16, Try.ntmps16
        go_wp2
        go_ret2
        exact ⟨rfl, hb⟩
    · clear hbad
      go_enter Try.func16, Try.ntmps16
      go_wp2
      go_ret2
      exact ⟨rfl, hb⟩

theorem number_call (A : Option Addr) (c : Nat) (xs : List Int) (n : Nat) (hn : xs.length = n) (hn4 : n ≤ 4) (w : World) (hr : Kd.C (Kd.int .u8) w A n xs) (hc : n ≤ c) :
    Calls Try.prog 23 #[.slice A n c] w fun e w' => e = .returned (.int .i64 (numI xs)) ∧ Drawn0 w w' := by
  subst hn
  exact apostilleref14_number.calls 5 A c xs (numI xs) w hr hc (number_eq xs hn4 5 (by omega))
theorem get_cut (A1 : Option Addr) (c1 : Nat) (l : List Int) (w : World) (hr : Kd.C (Kd.int .u8) w A1 l.length l) (hc : l.length ≤ c1) (lo : Nat) (hlo : lo + 2 ≤ l.length) :
    ∃ Am, (∀ W : World, (Instr.slice 22 (.slice A1 l.length c1) (some (.int .i64 (lo : Int))) (some (.int .i64 ((lo : Int) + 2))) none).run Try.prog W = .ok (.slice Am 2 (c1 - lo)) W) ∧ Kd.C (Kd.int .u8) w Am 2 ((l.take (lo + 2)).drop lo) ∧ 2 ≤ c1 - lo ∧ ((l.take (lo + 2)).drop lo).length = 2 := by
  obtain ⟨i5, hi5, _, hsz5, _⟩ := info_parts info5
  have h1 := cut_mid (P := Try.prog) 22 5 .i64 .i64 Try.underlying22 hi5 1 hsz5 A1 l.length c1 (lo : Int) ((lo : Int) + 2) (by omega) (by omega) (by omega) hc
  have h2 := Kd.C_mid (lo := lo) (hi := lo + 2) hr (by omega) (by omega) hc
  have hlen : ((l.take (lo + 2)).drop lo).length = 2 := by rw [List.length_drop, List.length_take]; omega
  rw [hlen] at h2
  refine ⟨_, fun W => ?_, h2, by omega, hlen⟩
  rw [h1 W, show ((lo : Int) + 2).toNat - ((lo : Int)).toNat = 2 from by omega, show ((lo : Int)).toNat = lo from by omega]
  rfl
def GetL (w : World) (tag : Int) (A1 : Option Addr) (N c1 : Nat) (A2 : Option Addr) (c2 : Nat) (k : Nat) (l : List Int) (v7 : Value) (wr : World) : Prop :=
  ∃ (i : Nat) (cs : Array Value), i ≤ 5 ∧ v7 = .int .i64 i ∧ Aside0 (cs.size = 5 ∧ (∀ j, j < i → cs[j]? = some (.int .i64 (getF k l j)))) ∧ Aside0 (wr.heap[w.heap.size + 1]? = some (.cells cs 48 (0, 0))) ∧ Aside0 (wr.heap[w.heap.size]? = some (.cells #[.int .u8 tag, .slice A1 N c1, .slice A2 0 c2] 25 (0, 0))) ∧ Aside0 (Below w.heap.size w wr)
theorem getL_start (w : World) (tag : Int) (A1 : Option Addr) (N c1 : Nat) (A2 : Option Addr) (c2 : Nat) (k : Nat) (l : List Int) (n : Nat) :
    GetL w tag A1 N c1 A2 c2 k l (.int .i64 0) (((w.alloc (Obj.cells #[.int .u8 tag, .slice A1 N c1, .slice A2 0 c2] 25)).drewN n).alloc (Obj.cells #[.int .i64 0, .int .i64 0, .int .i64 0, .int .i64 0, .int .i64 0] 48)) := by
  have h1 := World.alloc_heap_new w (Obj.cells #[.int .u8 tag, .slice A1 N c1, .slice A2 0 c2] 25)
  have h2 := World.alloc_heap_new ((w.alloc (Obj.cells #[.int .u8 tag, .slice A1 N c1, .slice A2 0 c2] 25)).drewN n) (Obj.cells #[.int .i64 0, .int .i64 0, .int .i64 0, .int .i64 0, .int .i64 0] 48)
  have hs : ((w.alloc (Obj.cells #[.int .u8 tag, .slice A1 N c1, .slice A2 0 c2] 25)).drewN n).heap.size = w.heap.size + 1 := World.size_alloc _ _
  rw [hs] at h2
  exact ⟨0, _, by omega, rfl, ⟨rfl, fun j hj => absurd hj (by omega)⟩, ⟨h2⟩, ⟨(Below.heap_alloc _ _ _ (by rw [hs]; omega)).trans h1⟩, ⟨(pw_below_drewN ((Below.refl _ w).alloc (Nat.le_refl _) _) n).alloc (by rw [hs]; omega) _⟩⟩
theorem getF_bd (k : Nat) (l : List Int) (j : Nat) (h : k + 2 * j + 2 ≤ l.length) : -1 ≤ getF k l j ∧ getF k l j < 100 := num_bd2 _ (by rw [List.length_drop, List.length_take]; omega)
theorem getL_step {w : World} {tag : Int} {A1 A2 : Option Addr} {N c1 c2 k : Nat} {l : List Int} {i : Nat} {cs : Array Value} {wr : World} (hi : i < 5) (HCS : Aside0 (cs.size = 5 ∧ (∀ j, j < i → cs[j]? = some (.int .i64 (getF k l j))))) (HF : Aside0 (wr.heap[w.heap.size + 1]? = some (.cells cs 48 (0, 0))))
    (HREC : Aside0 (wr.heap[w.heap.size]? = some (.cells #[.int .u8 tag, .slice A1 N c1, .slice A2 0 c2] 25 (0, 0)))) (HBW : Aside0 (Below w.heap.size w wr)) (n3 : Nat) (v : Int) (hv : v = getF k l i) :
    GetL w tag A1 N c1 A2 c2 k l (.int .i64 ((i : Int) + 1)) ((wr.drewN n3).setCell ⟨w.heap.size + 1, i, none⟩ (.int .i64 v)) := by
  subst hv
  refine ⟨i + 1, cs.setIfInBounds i (.int .i64 (getF k l i)), by omega, by go_num, ⟨by simpa using HCS.out.1, fun j hj => ?_⟩, ⟨blk_put (w := wr.drewN n3) HF.out i _ rfl⟩, ⟨blk_far (w := wr.drewN n3) HREC.out (by simp) _⟩, ⟨(pw_below_drewN HBW.out n3).setCell (p := ⟨w.heap.size + 1, i, none⟩) (by simp) _⟩⟩
  have h5 := HCS.out.1
  by_cases e : j = i
  · subst e
    rw [Array.getElem?_setIfInBounds_self_of_lt (by omega)]
  · rw [Array.getElem?_setIfInBounds_ne (by omega)]
    exact HCS.out.2 j (by omega)
def GetYr (W : World) (Y : Int) (v8 v9 : Value) (wq : World) : Prop :=
  ∃ x d : Int, 1950 ≤ x ∧ x ≤ Y ∧ d = aheadI x - 711857 ∧ v8 = .int .i64 d ∧ v9 = .int .i64 x ∧ Aside0 (Below W.heap.size W wq)
def GetMo (W : World) (Y f0 : Int) (v8 v10 : Value) (wq : World) : Prop :=
  ∃ m d : Int, 1 ≤ m ∧ m ≤ f0 ∧ d = aheadI Y - 711857 + cumI Y m ∧ v8 = .int .i64 d ∧ v10 = .int .i64 m ∧ Aside0 (Below W.heap.size W wq)
theorem aheadI_bd (y : Int) (h1 : 1950 ≤ y) (h2 : y ≤ 20000) : 711857 ≤ aheadI y ∧ aheadI y ≤ 7400000 := by unfold aheadI; omega
theorem refGet_no {tag : Int} {k : Nat} (hk : getK tag = k) {l : List Int} {Y f0 : Int} (hY : getY k l = Y) (hf : getF k l 0 = f0) (h : Y < 1950 ∨ f0 < 1 ∨ 12 < f0) : refGetV tag l 0 = (0, false) := by
  unfold refGetV
  rw [hk, hY, hf]
  split
  · rw [if_neg (by omega)]
  · rfl
theorem refGet_end {tag : Int} {k : Nat} (hk : getK tag = k) (ht : tag = 23 ∨ tag = 24) {l : List Int} (hl : l.length = k + 11) {Y f0 : Int} (hY : getY k l = Y) (hf : getF k l 0 = f0) (h1 : 1950 ≤ Y) (h2 : 1 ≤ f0) (h3 : f0 ≤ 12) {T : Int} (hT : getT k l = T) :
    refGetV tag l 0 = if timeTag T = tag ∧ (strOfNums (timeBody T)).toList = (strOfNums l).toList then (T, true) else (0, false) := by
  unfold refGetV
  rw [hk, hY, hf, hT, if_pos ⟨ht, rfl, hl⟩, if_pos ⟨h1, h2, h3⟩]
set_option maxHeartbeats 8000000 in
set_option maxRecDepth 100000 in
theorem ref_Get_good (tag : Int) (k : Nat) (hk : (tag = 23 ∧ k = 2) ∨ (tag = 24 ∧ k = 4)) (l : List Int) (hl : l.length = k + 11) (A1 A2 : Option Addr) (c1 c2 : Nat) (w : World) (hr : Kd.C (Kd.int .u8) w A1 l.length l) (hc : l.length ≤ c1) :
    Calls Try.prog 16 #[.agg #[.int .u8 tag, .slice A1 l.length c1, .slice A2 0 c2]] w fun e w' => e = .returned (.tuple #[.int .i64 (refGetV tag l 0).1, .bool (refGetV tag l 0).2]) ∧ Below w.heap.size w w' := by
  obtain ⟨RV, hRV⟩ : ∃ RV, refGetV tag l 0 = RV := ⟨_, rfl⟩
  rw [hRV]
  have HRV := Aside0.mk hRV
  clear hRV
  obtain ⟨i5, hi5, _, hsz5, _⟩ := info_parts info5
  have hC0 := cut_to (P := Try.prog) 22 5 .i64 Try.underlying22 hi5 A1 l.length c1 (k : Int) (by omega) (by omega) hc
  have hR0 : Kd.C (Kd.int .u8) w A1 (l.take k).length (l.take k) := Kd.C_take hr (by omega)
  have hlt : (l.take k).length = k := by rw [List.length_take]; omega
  rw [hlt] at hR0
  have hk4 : k ≤ 4 := by omega
  have HN := fun W hC => number_call A1 c1 (l.take k) k hlt hk4 W hC (by omega)
  obtain ⟨n0, hn0⟩ : ∃ n, n = numI (l.take k) := ⟨_, rfl⟩
  rw [← hn0] at HN
  have hb0 : -1 ≤ n0 ∧ n0 < 10000 := by
    rcases hk with ⟨-, rfl⟩ | ⟨-, rfl⟩
    · have := num_bd2 (l.take 2) hlt; omega
    · have := num_bd4 (l.take 4) hlt; omega
  have hY : ∃ Y, getY k l = Y ∧ (k = 4 → Y = n0) ∧ (k = 2 → Y = if n0 + 1900 < 1950 then n0 + 2000 else n0 + 1900) := by
    refine ⟨_, rfl, fun h => ?_, fun h => ?_⟩
    · unfold getY; rw [if_pos h, hn0, h]
    · unfold getY; rw [if_neg (by omega), hn0, h]
  obtain ⟨Y, hYe, hY4, hY2⟩ := hY
  have HYE := Aside0.mk hYe
  have HB0 := Aside0.mk hb0
  have HR := Aside0.mk hr
  have HR0 := Aside0.mk hR0
  have HHN := Aside0.mk HN
  have HC := Aside0.mk hc
  clear hYe hn0 hr hR0 HN hi5 hsz5 hlt
  rcases hk with ⟨rfl, rfl⟩ | ⟨rfl, rfl⟩
  · have hl2 : (l.length : Int) = 13 := by omega
    have hY2' := hY2 rfl
    clear hY4 hY2
    have HL := Aside0.mk hl
    go_enter Try.func16, Try.ntmps16
    by_cases hc50 : n0 + 1900 < 1950
    all_goals
      go_wp2_with fail
      refine (HHN.out _ (Kd.C_alloc HR0.out _)).mono ?_
      rintro e w1 ⟨rfl, ⟨nd, rfl⟩⟩
      have hyv : n0 + 1900 + 100 = n0 + 2000 := by omega
      have hb1 := HB0.out
      obtain ⟨WL, hWL, HS⟩ : ∃ W, W = (((w.alloc (Obj.cells #[.int .u8 23, .slice A1 13 c1, .slice A2 0 c2] 25)).drewN nd).alloc (Obj.cells #[.int .i64 0, .int .i64 0, .int .i64 0, .int .i64 0, .int .i64 0] 48)) ∧ Aside0 (GetL w 23 A1 13 c1 A2 c2 2 l (.int .i64 0) W) := ⟨_, rfl, ⟨getL_start w 23 A1 13 c1 A2 c2 2 l nd⟩⟩
      go_wp2
      rw [← hWL]
      try rw [hyv]
      first | rw [show n0 + 2000 = Y from by rw [hY2', if_pos hc50]] | rw [show n0 + 1900 = Y from by rw [hY2', if_neg (by omega)]]
      have hYb : -20000 ≤ Y ∧ Y ≤ 20000 := by rw [hY2']; split <;> omega
      have HYB := Aside0.mk hYb
      clear hY2' hyv hYb hb1 hb0 hc50
      clear hWL
      go_loopw [7] (GetL w 23 A1 13 c1 A2 c2 2 l) (fun v7 _ => 5 - (intOf v7).toNat)
      case atStart => exact HS.out
      case round =>
        clear HS
        obtain ⟨i, cs, hi5, rfl, HCS, HF, HREC, HBW⟩ := hrel
        by_cases hi : i < 5
        · obtain ⟨Am, hcut, hCm, hcm, hlm⟩ := get_cut A1 c1 l w HR.out HC.out (2 + 2 * i) (by have := HL.out; omega)
          rw [HL.out, show (((2 + 2 * i : Nat)) : Int) = 2 + 2 * (i : Int) from by omega] at hcut
          have HCM := Aside0.mk (Kd.C_below hCm HBW.out)
          have HLM := Aside0.mk hlm
          have HCC := Aside0.mk hcm
          have hcF : wr.cell? ⟨w.heap.size + 1, i, none⟩ = some (cs[i]'(by have := HCS.out.1; omega)) := (blk_cell HF.out i).trans (Array.getElem?_eq_getElem (by have := HCS.out.1; omega))
          have hfF := blk_frozen HF.out i
          have hc1 := (blk_cell HREC.out 1).trans rfl
          clear hCm hcm hlm
          go_wp2_with (go_at_call 23; refine (number_call Am _ _ 2 HLM.out (by omega) _ HCM.out HCC.out).mono ?_; rintro e w' ⟨rfl, ⟨n3, rfl⟩⟩)
          go_roundw
          case rel => exact getL_step hi HCS HF HREC HBW n3 _ rfl
          case measure => simp [intOf]; omega
        · obtain rfl : i = 5 := by omega
          clear hi hi5
          have HE0 := Aside0.mk (HCS.out.2 0 (by omega)); have HE1 := Aside0.mk (HCS.out.2 1 (by omega)); have HE2 := Aside0.mk (HCS.out.2 2 (by omega)); have HE3 := Aside0.mk (HCS.out.2 3 (by omega)); have HE4 := Aside0.mk (HCS.out.2 4 (by omega))
          have HG0 := Aside0.mk (getF_bd 2 l 0 (by have := HL.out; omega)); have HG1 := Aside0.mk (getF_bd 2 l 1 (by have := HL.out; omega)); have HG2 := Aside0.mk (getF_bd 2 l 2 (by have := HL.out; omega)); have HG3 := Aside0.mk (getF_bd 2 l 3 (by have := HL.out; omega)); have HG4 := Aside0.mk (getF_bd 2 l 4 (by have := HL.out; omega))
          have HTT : Aside0 (getT 2 l = (aheadI (getY 2 l) - 711857 + cumI (getY 2 l) (getF 2 l 0) + getF 2 l 1 - 1) * 86400 + (getF 2 l 2 * 3600 + getF 2 l 3 * 60 + getF 2 l 4) - 631152000) := ⟨rfl⟩
          rw [HYE.out] at HTT
          obtain ⟨f0, hf0⟩ : ∃ f, getF 2 l 0 = f := ⟨_, rfl⟩
          obtain ⟨f1, hf1⟩ : ∃ f, getF 2 l 1 = f := ⟨_, rfl⟩
          obtain ⟨f2, hf2⟩ : ∃ f, getF 2 l 2 = f := ⟨_, rfl⟩
          obtain ⟨f3, hf3⟩ : ∃ f, getF 2 l 3 = f := ⟨_, rfl⟩
          obtain ⟨f4, hf4⟩ : ∃ f, getF 2 l 4 = f := ⟨_, rfl⟩
          rw [hf0] at HE0 HG0 HTT
          rw [hf1] at HE1 HG1 HTT
          rw [hf2] at HE2 HG2 HTT
          rw [hf3] at HE3 HG3 HTT
          rw [hf4] at HE4 HG4 HTT
          have HF0 := Aside0.mk hf0
          clear hf0 hf1 hf2 hf3 hf4
          have q0 := (blk_cell HF.out 0).trans HE0.out
          have hYb : Y ≤ 20000 := HYB.out.2
          by_cases hbad : Y < 1950 ∨ f0 < 1 ∨ 12 < f0
          · have hno := refGet_no (tag := 23) rfl HYE.out HF0.out hbad
            rw [hno] at HRV
            have hrv := HRV.out
            subst hrv
            by_cases hy : Y < 1950
            · first | (go_wp2; done) | (go_wp2; go_ret2; exact ⟨rfl, HBW.out⟩)
            · by_cases h0 : f0 < 1
              · go_wp2
                go_ret2
                exact ⟨rfl, HBW.out⟩
              · have h12 : f0 > 12 := by omega
                go_wp2
                go_ret2
                exact ⟨rfl, HBW.out⟩
          · have hy : ¬ Y < 1950 := by omega
            have h0 : ¬ f0 < 1 := by omega
            have h12 : ¬ f0 > 12 := by omega
            clear hbad
            go_wp2
            clear q0
            obtain ⟨WA, hWA⟩ : ∃ W, W = wr := ⟨_, rfl⟩
            subst hWA
            go_loopw [8, 9] (GetYr WA Y) (fun _ v9 _ => (Y - intOf v9).toNat)
            case atStart => exact ⟨1950, 0, by omega, by omega, by rw [ahead_1950]; rfl, rfl, rfl, ⟨Below.refl _ _⟩⟩
            case round =>
              obtain ⟨x, d, hx1, hx2, hd, rfl, rfl, HBQ⟩ := hrel
              have hs := ahead_succ x (by omega)
              have hab := aheadI_bd x hx1 (by omega)
              have hd0 : 0 ≤ d := by omega
              have hd1 : d ≤ 7400000 := by omega
              by_cases hx : x < Y
              · have hlg := lp_01 x
                have Hs := Lib.hid hs
                have Hd := Lib.hid hd
                clear hs hd hab
                rcases (by omega : lp x = 1 ∨ lp x = 0) with hlp | hlp
                · have hFL : apostilleref14_long.f x = some true := by rw [ref_long_eq x (by omega), (leap_lp x).2 hlp]
                  have Hlp := Lib.hid hlp
                  clear hlp hlg
                  go_wp2_with (go_at_call 24; refine (apostilleref14_long.calls x true _ hFL).mono ?_; rintro e w' ⟨rfl, ⟨n5, rfl⟩⟩)
                  go_roundw
                  case rel => exact ⟨x + 1, d + 365 + 1, by omega, by omega, by have := Hs.out; have := Hd.out; have := Hlp.out; omega, rfl, rfl, ⟨pw_below_drewN HBQ.out _⟩⟩
                  case measure => simp [intOf]; omega
                · have hFL : apostilleref14_long.f x = some false := by
                    rw [ref_long_eq x (by omega)]
                    cases hL : leapI x with
                    | true => have := (leap_lp x).1 hL; omega
                    | false => rfl
                  have Hlp := Lib.hid hlp
                  clear hlp hlg
                  go_wp2_with (go_at_call 24; refine (apostilleref14_long.calls x false _ hFL).mono ?_; rintro e w' ⟨rfl, ⟨n5, rfl⟩⟩)
                  go_roundw
                  case rel => exact ⟨x + 1, d + 365, by omega, by omega, by have := Hs.out; have := Hd.out; have := Hlp.out; omega, rfl, rfl, ⟨pw_below_drewN HBQ.out _⟩⟩
                  case measure => simp [intOf]; omega
              · obtain rfl : x = Y := by omega
                clear hs hab hx
                have Hd := Lib.hid hd
                clear hd
                go_wp2
                obtain ⟨WQ, hWQ⟩ : ∃ W, W = wr := ⟨_, rfl⟩
                subst hWQ
                go_loopw [8, 10] (GetMo WA x f0) (fun _ v10 _ => (f0 - intOf v10).toNat)
                case atStart => exact ⟨1, d, by omega, by omega, by rw [cum_1]; have := Hd.out; omega, rfl, rfl, HBQ⟩
                case round =>
                  clear hd0 hd1 Hd HBQ
                  obtain ⟨m, d2, hm1, hm2, hd2, rfl, rfl, HBM⟩ := hrel
                  have hcu := cum_mono x 1 m (by omega) hm1 (by omega)
                  have hcv := cum_mono x m 13 hm1 (by omega) (by omega)
                  rw [cum_1] at hcu
                  rw [cum_13] at hcv
                  have hlg := lp_01 x
                  have hab := aheadI_bd x hx1 (by omega)
                  have hdd0 : 0 ≤ d2 := by omega
                  have hdd1 : d2 ≤ 7500000 := by omega
                  have q0 := pw_cell_below HBM.out ((blk_cell HF.out 0).trans HE0.out)
                  by_cases hm : m < f0
                  · have hcs := cum_succ x m hm1 (by omega)
                    have hml := mlen_bd x m
                    have hF2 : apostilleref14_days.f x m = some (mlen x m) := ref_days_eq x m (by omega) hm1 (by omega)
                    have Hd2 := Lib.hid hd2
                    have Hcs := Lib.hid hcs
                    clear hcu hcv hlg hab hd2 hcs
                    go_wp2_with (go_at_call 25; refine (apostilleref14_days.calls x m (mlen x m) _ hF2).mono ?_; rintro e w' ⟨rfl, hb3⟩)
                    go_roundw
                    case rel => exact ⟨m + 1, d2 + mlen x m, by omega, by omega, by have := Hd2.out; have := Hcs.out; omega, rfl, rfl, ⟨below_then HBM.out HBM.out.size hb3⟩⟩
                    case measure => simp [intOf]; omega
                  · obtain rfl : m = f0 := by omega
                    clear hm hcu hcv hlg hab
                    have q1 := pw_cell_below HBM.out ((blk_cell HF.out 1).trans HE1.out)
                    have q2 := pw_cell_below HBM.out ((blk_cell HF.out 2).trans HE2.out)
                    have q3 := pw_cell_below HBM.out ((blk_cell HF.out 3).trans HE3.out)
                    have q4 := pw_cell_below HBM.out ((blk_cell HF.out 4).trans HE4.out)
                    have g1 := HG1.out; have g2 := HG2.out; have g3 := HG3.out; have g4 := HG4.out
                    rw [← hd2] at HTT
                    clear hd2
                    obtain ⟨T, hT⟩ : ∃ T, (d2 + f1 - 1) * 86400 + (f2 * 3600 + f3 * 60 + f4) - 631152000 = T := ⟨_, rfl⟩
                    rw [hT] at HTT
                    have HE := refGet_end (tag := 23) rfl (by omega) HL.out HYE.out HF0.out hx1 hm1 (by omega) HTT.out
                    have HRE := Aside0.mk (HE.symm.trans HRV.out)
                    clear HE
                    have HT2 := Lib.hid hT
                    go_wp2_with fail
                    clear hT q0 q1 q2 q3 q4 g1 g2 g3 g4 hdd0 hdd1
                    refine (apostilleref14_Time.calls T (timeTag T) (timeBody T) [] _ rfl).mono ?_
                    rintro e w9 ⟨v1, v2, rfl, ho1, ho2, hb9⟩
                    obtain ⟨A5, c5, rfl⟩ := Kd.R_slice ho1
                    obtain ⟨A6, c6, rfl⟩ := Kd.R_slice ho2
                    have hBB := below_then HBW.out HBW.out.size (below_then HBM.out HBM.out.size hb9)
                    have hRR := blk_below (blk_below HREC.out HBM.out) hb9
                    have hlt9 : w.heap.size < w9.heap.size := (Array.getElem?_eq_some_iff.1 hRR).1
                    have HBX := Aside0.mk (hBB.alloc hBB.size (Obj.cells #[.int .u8 (timeTag T), .slice A5 (timeBody T).length c5, .slice A6 0 c6] 25))
                    have hRX := (Below.heap_alloc w9 (Obj.cells #[.int .u8 (timeTag T), .slice A5 (timeBody T).length c5, .slice A6 0 c6] 25) _ (by omega)).trans hRR
                    have hNX := World.alloc_heap_new w9 (Obj.cells #[.int .u8 (timeTag T), .slice A5 (timeBody T).length c5, .slice A6 0 c6] 25)
                    have hOX := Kd.R_alloc ho1 (o := Obj.cells #[.int .u8 (timeTag T), .slice A5 (timeBody T).length c5, .slice A6 0 c6] 25)
                    have hCX := Kd.C_below HR.out HBX.out
                    have hs1 := own_string (P := Try.prog) Try.underlying22 Try.underlying5 Try.underlying9 (Kd.own_of_R hOX)
                    have hs2 := string_of_reads (P := Try.prog) (c := c1) Try.underlying22 Try.underlying5 Try.underlying9 (Kd.reads_of_C (enc := Value.int .u8) (d := (0 : Int)) (h1 := fun _ => rfl) hCX)
                    rw [HL.out] at hs2
                    have r0 := (blk_cell hRX 0).trans rfl
                    have u0 := (blk_cell hRR 0).trans rfl
                    have u1 := (blk_cell hRR 1).trans rfl
                    have r1 := (blk_cell hRX 1).trans rfl
                    have p0 := (blk_cell hNX 0).trans rfl
                    have p1 := (blk_cell hNX 1).trans rfl
                    clear hBB hRR hRX hNX hOX hCX ho1 ho2 hb9
                    have hre := HRE.out
                    by_cases ht : timeTag T = 23
                    · rw [ht] at hs1 hs2 r0 r1 p0 p1 HBX
                      by_cases hst : (strOfNums (timeBody T)).toList = (strOfNums l).toList
                      · rw [if_pos ⟨ht, hst⟩] at hre
                        subst hre
                        have hst1 : ((strOfNums (timeBody T)).toList == (strOfNums l).toList) = true := beq_iff_eq.mpr hst
                        have hst2 : ((strOfNums (timeBody T)).toList != (strOfNums l).toList) = false := bne_eq_false_iff_eq.mpr hst
                        clear hst
                        go_wp2
                        go_ret2
                        exact ⟨rfl, HBX.out⟩
                      · rw [if_neg (fun h => hst h.2)] at hre
                        subst hre
                        have hst1 : ((strOfNums (timeBody T)).toList == (strOfNums l).toList) = false := beq_eq_false_iff_ne.mpr hst
                        have hst2 : ((strOfNums (timeBody T)).toList != (strOfNums l).toList) = true := bne_iff_ne.mpr hst
                        clear hst
                        go_wp2
                        go_ret2
                        exact ⟨rfl, HBX.out⟩
                    · rw [if_neg (fun h => ht h.1)] at hre
                      subst hre
                      go_wp2
                      go_ret2
                      exact ⟨rfl, HBX.out⟩
  · have hl2 : (l.length : Int) = 15 := by omega
    have hY4' := hY4 rfl
    clear hY4 hY2
    subst hY4'
    have HYB : Aside0 (-20000 ≤ Y ∧ Y ≤ 20000) := ⟨by omega⟩
    have HL := Aside0.mk hl
    go_enter Try.func16, Try.ntmps16
    · go_wp2_with fail
      refine (HHN.out _ (Kd.C_alloc HR0.out _)).mono ?_
      rintro e w1 ⟨rfl, ⟨nd, rfl⟩⟩
      obtain ⟨WL, hWL, HS⟩ : ∃ W, W = (((w.alloc (Obj.cells #[.int .u8 24, .slice A1 15 c1, .slice A2 0 c2] 25)).drewN nd).alloc (Obj.cells #[.int .i64 0, .int .i64 0, .int .i64 0, .int .i64 0, .int .i64 0] 48)) ∧ Aside0 (GetL w 24 A1 15 c1 A2 c2 4 l (.int .i64 0) W) := ⟨_, rfl, ⟨getL_start w 24 A1 15 c1 A2 c2 4 l nd⟩⟩
      go_wp2
      rw [← hWL]
      clear hb0
      clear hWL
      go_loopw [7] (GetL w 24 A1 15 c1 A2 c2 4 l) (fun v7 _ => 5 - (intOf v7).toNat)
      case atStart => exact HS.out
      case round =>
        clear HS
        obtain ⟨i, cs, hi5, rfl, HCS, HF, HREC, HBW⟩ := hrel
        by_cases hi : i < 5
        · obtain ⟨Am, hcut, hCm, hcm, hlm⟩ := get_cut A1 c1 l w HR.out HC.out (4 + 2 * i) (by have := HL.out; omega)
          rw [HL.out, show (((4 + 2 * i : Nat)) : Int) = 4 + 2 * (i : Int) from by omega] at hcut
          have HCM := Aside0.mk (Kd.C_below hCm HBW.out)
          have HLM := Aside0.mk hlm
          have HCC := Aside0.mk hcm
          have hcF : wr.cell? ⟨w.heap.size + 1, i, none⟩ = some (cs[i]'(by have := HCS.out.1; omega)) := (blk_cell HF.out i).trans (Array.getElem?_eq_getElem (by have := HCS.out.1; omega))
          have hfF := blk_frozen HF.out i
          have hc1 := (blk_cell HREC.out 1).trans rfl
          clear hCm hcm hlm
          go_wp2_with (go_at_call 23; refine (number_call Am _ _ 2 HLM.out (by omega) _ HCM.out HCC.out).mono ?_; rintro e w' ⟨rfl, ⟨n3, rfl⟩⟩)
          go_roundw
          case rel => exact getL_step hi HCS HF HREC HBW n3 _ rfl
          case measure => simp [intOf]; omega
        · obtain rfl : i = 5 := by omega
          clear hi hi5
          have HE0 := Aside0.mk (HCS.out.2 0 (by omega)); have HE1 := Aside0.mk (HCS.out.2 1 (by omega)); have HE2 := Aside0.mk (HCS.out.2 2 (by omega)); have HE3 := Aside0.mk (HCS.out.2 3 (by omega)); have HE4 := Aside0.mk (HCS.out.2 4 (by omega))
          have HG0 := Aside0.mk (getF_bd 4 l 0 (by have := HL.out; omega)); have HG1 := Aside0.mk (getF_bd 4 l 1 (by have := HL.out; omega)); have HG2 := Aside0.mk (getF_bd 4 l 2 (by have := HL.out; omega)); have HG3 := Aside0.mk (getF_bd 4 l 3 (by have := HL.out; omega)); have HG4 := Aside0.mk (getF_bd 4 l 4 (by have := HL.out; omega))
          have HTT : Aside0 (getT 4 l = (aheadI (getY 4 l) - 711857 + cumI (getY 4 l) (getF 4 l 0) + getF 4 l 1 - 1) * 86400 + (getF 4 l 2 * 3600 + getF 4 l 3 * 60 + getF 4 l 4) - 631152000) := ⟨rfl⟩
          rw [HYE.out] at HTT
          obtain ⟨f0, hf0⟩ : ∃ f, getF 4 l 0 = f := ⟨_, rfl⟩
          obtain ⟨f1, hf1⟩ : ∃ f, getF 4 l 1 = f := ⟨_, rfl⟩
          obtain ⟨f2, hf2⟩ : ∃ f, getF 4 l 2 = f := ⟨_, rfl⟩
          obtain ⟨f3, hf3⟩ : ∃ f, getF 4 l 3 = f := ⟨_, rfl⟩
          obtain ⟨f4, hf4⟩ : ∃ f, getF 4 l 4 = f := ⟨_, rfl⟩
          rw [hf0] at HE0 HG0 HTT
          rw [hf1] at HE1 HG1 HTT
          rw [hf2] at HE2 HG2 HTT
          rw [hf3] at HE3 HG3 HTT
          rw [hf4] at HE4 HG4 HTT
          have HF0 := Aside0.mk hf0
          clear hf0 hf1 hf2 hf3 hf4
          have q0 := (blk_cell HF.out 0).trans HE0.out
          have hYb : Y ≤ 20000 := HYB.out.2
          by_cases hbad : Y < 1950 ∨ f0 < 1 ∨ 12 < f0
          · have hno := refGet_no (tag := 24) rfl HYE.out HF0.out hbad
            rw [hno] at HRV
            have hrv := HRV.out
            subst hrv
            by_cases hy : Y < 1950
            · first | (go_wp2; done) | (go_wp2; go_ret2; exact ⟨rfl, HBW.out⟩)
            · by_cases h0 : f0 < 1
              · go_wp2
                go_ret2
                exact ⟨rfl, HBW.out⟩
              · have h12 : f0 > 12 := by omega
                go_wp2
                go_ret2
                exact ⟨rfl, HBW.out⟩
          · have hy : ¬ Y < 1950 := by omega
            have h0 : ¬ f0 < 1 := by omega
            have h12 : ¬ f0 > 12 := by omega
            clear hbad
            go_wp2
            clear q0
            obtain ⟨WA, hWA⟩ : ∃ W, W = wr := ⟨_, rfl⟩
            subst hWA
            go_loopw [8, 9] (GetYr WA Y) (fun _ v9 _ => (Y - intOf v9).toNat)
            case atStart => exact ⟨1950, 0, by omega, by omega, by rw [ahead_1950]; rfl, rfl, rfl, ⟨Below.refl _ _⟩⟩
            case round =>
              obtain ⟨x, d, hx1, hx2, hd, rfl, rfl, HBQ⟩ := hrel
              have hs := ahead_succ x (by omega)
              have hab := aheadI_bd x hx1 (by omega)
              have hd0 : 0 ≤ d := by omega
              have hd1 : d ≤ 7400000 := by omega
              by_cases hx : x < Y
              · have hlg := lp_01 x
                have Hs := Lib.hid hs
                have Hd := Lib.hid hd
                clear hs hd hab
                rcases (by omega : lp x = 1 ∨ lp x = 0) with hlp | hlp
                · have hFL : apostilleref14_long.f x = some true := by rw [ref_long_eq x (by omega), (leap_lp x).2 hlp]
                  have Hlp := Lib.hid hlp
                  clear hlp hlg
                  go_wp2_with (go_at_call 24; refine (apostilleref14_long.calls x true _ hFL).mono ?_; rintro e w' ⟨rfl, ⟨n5, rfl⟩⟩)
                  go_roundw
                  case rel => exact ⟨x + 1, d + 365 + 1, by omega, by omega, by have := Hs.out; have := Hd.out; have := Hlp.out; omega, rfl, rfl, ⟨pw_below_drewN HBQ.out _⟩⟩
                  case measure => simp [intOf]; omega
                · have hFL : apostilleref14_long.f x = some false := by
                    rw [ref_long_eq x (by omega)]
                    cases hL : leapI x with
                    | true => have := (leap_lp x).1 hL; omega
                    | false => rfl
                  have Hlp := Lib.hid hlp
                  clear hlp hlg
                  go_wp2_with (go_at_call 24; refine (apostilleref14_long.calls x false _ hFL).mono ?_; rintro e w' ⟨rfl, ⟨n5, rfl⟩⟩)
                  go_roundw
                  case rel => exact ⟨x + 1, d + 365, by omega, by omega, by have := Hs.out; have := Hd.out; have := Hlp.out; omega, rfl, rfl, ⟨pw_below_drewN HBQ.out _⟩⟩
                  case measure => simp [intOf]; omega
              · obtain rfl : x = Y := by omega
                clear hs hab hx
                have Hd := Lib.hid hd
                clear hd
                go_wp2
                obtain ⟨WQ, hWQ⟩ : ∃ W, W = wr := ⟨_, rfl⟩
                subst hWQ
                go_loopw [8, 10] (GetMo WA x f0) (fun _ v10 _ => (f0 - intOf v10).toNat)
                case atStart => exact ⟨1, d, by omega, by omega, by rw [cum_1]; have := Hd.out; omega, rfl, rfl, HBQ⟩
                case round =>
                  clear hd0 hd1 Hd HBQ
                  obtain ⟨m, d2, hm1, hm2, hd2, rfl, rfl, HBM⟩ := hrel
                  have hcu := cum_mono x 1 m (by omega) hm1 (by omega)
                  have hcv := cum_mono x m 13 hm1 (by omega) (by omega)
                  rw [cum_1] at hcu
                  rw [cum_13] at hcv
                  have hlg := lp_01 x
                  have hab := aheadI_bd x hx1 (by omega)
                  have hdd0 : 0 ≤ d2 := by omega
                  have hdd1 : d2 ≤ 7500000 := by omega
                  have q0 := pw_cell_below HBM.out ((blk_cell HF.out 0).trans HE0.out)
                  by_cases hm : m < f0
                  · have hcs := cum_succ x m hm1 (by omega)
                    have hml := mlen_bd x m
                    have hF2 : apostilleref14_days.f x m = some (mlen x m) := ref_days_eq x m (by omega) hm1 (by omega)
                    have Hd2 := Lib.hid hd2
                    have Hcs := Lib.hid hcs
                    clear hcu hcv hlg hab hd2 hcs
                    go_wp2_with (go_at_call 25; refine (apostilleref14_days.calls x m (mlen x m) _ hF2).mono ?_; rintro e w' ⟨rfl, hb3⟩)
                    go_roundw
                    case rel => exact ⟨m + 1, d2 + mlen x m, by omega, by omega, by have := Hd2.out; have := Hcs.out; omega, rfl, rfl, ⟨below_then HBM.out HBM.out.size hb3⟩⟩
                    case measure => simp [intOf]; omega
                  · obtain rfl : m = f0 := by omega
                    clear hm hcu hcv hlg hab
                    have q1 := pw_cell_below HBM.out ((blk_cell HF.out 1).trans HE1.out)
                    have q2 := pw_cell_below HBM.out ((blk_cell HF.out 2).trans HE2.out)
                    have q3 := pw_cell_below HBM.out ((blk_cell HF.out 3).trans HE3.out)
                    have q4 := pw_cell_below HBM.out ((blk_cell HF.out 4).trans HE4.out)
                    have g1 := HG1.out; have g2 := HG2.out; have g3 := HG3.out; have g4 := HG4.out
                    rw [← hd2] at HTT
                    clear hd2
                    obtain ⟨T, hT⟩ : ∃ T, (d2 + f1 - 1) * 86400 + (f2 * 3600 + f3 * 60 + f4) - 631152000 = T := ⟨_, rfl⟩
                    rw [hT] at HTT
                    have HE := refGet_end (tag := 24) rfl (by omega) HL.out HYE.out HF0.out hx1 hm1 (by omega) HTT.out
                    have HRE := Aside0.mk (HE.symm.trans HRV.out)
                    clear HE
                    have HT2 := Lib.hid hT
                    go_wp2_with fail
                    clear hT q0 q1 q2 q3 q4 g1 g2 g3 g4 hdd0 hdd1
                    refine (apostilleref14_Time.calls T (timeTag T) (timeBody T) [] _ rfl).mono ?_
                    rintro e w9 ⟨v1, v2, rfl, ho1, ho2, hb9⟩
                    obtain ⟨A5, c5, rfl⟩ := Kd.R_slice ho1
                    obtain ⟨A6, c6, rfl⟩ := Kd.R_slice ho2
                    have hBB := below_then HBW.out HBW.out.size (below_then HBM.out HBM.out.size hb9)
                    have hRR := blk_below (blk_below HREC.out HBM.out) hb9
                    have hlt9 : w.heap.size < w9.heap.size := (Array.getElem?_eq_some_iff.1 hRR).1
                    have HBX := Aside0.mk (hBB.alloc hBB.size (Obj.cells #[.int .u8 (timeTag T), .slice A5 (timeBody T).length c5, .slice A6 0 c6] 25))
                    have hRX := (Below.heap_alloc w9 (Obj.cells #[.int .u8 (timeTag T), .slice A5 (timeBody T).length c5, .slice A6 0 c6] 25) _ (by omega)).trans hRR
                    have hNX := World.alloc_heap_new w9 (Obj.cells #[.int .u8 (timeTag T), .slice A5 (timeBody T).length c5, .slice A6 0 c6] 25)
                    have hOX := Kd.R_alloc ho1 (o := Obj.cells #[.int .u8 (timeTag T), .slice A5 (timeBody T).length c5, .slice A6 0 c6] 25)
                    have hCX := Kd.C_below HR.out HBX.out
                    have hs1 := own_string (P := Try.prog) Try.underlying22 Try.underlying5 Try.underlying9 (Kd.own_of_R hOX)
                    have hs2 := string_of_reads (P := Try.prog) (c := c1) Try.underlying22 Try.underlying5 Try.underlying9 (Kd.reads_of_C (enc := Value.int .u8) (d := (0 : Int)) (h1 := fun _ => rfl) hCX)
                    rw [HL.out] at hs2
                    have r0 := (blk_cell hRX 0).trans rfl
                    have u0 := (blk_cell hRR 0).trans rfl
                    have u1 := (blk_cell hRR 1).trans rfl
                    have r1 := (blk_cell hRX 1).trans rfl
                    have p0 := (blk_cell hNX 0).trans rfl
                    have p1 := (blk_cell hNX 1).trans rfl
                    clear hBB hRR hRX hNX hOX hCX ho1 ho2 hb9
                    have hre := HRE.out
                    by_cases ht : timeTag T = 24
                    · rw [ht] at hs1 hs2 r0 r1 p0 p1 HBX
                      by_cases hst : (strOfNums (timeBody T)).toList = (strOfNums l).toList
                      · rw [if_pos ⟨ht, hst⟩] at hre
                        subst hre
                        have hst1 : ((strOfNums (timeBody T)).toList == (strOfNums l).toList) = true := beq_iff_eq.mpr hst
                        have hst2 : ((strOfNums (timeBody T)).toList != (strOfNums l).toList) = false := bne_eq_false_iff_eq.mpr hst
                        clear hst
                        go_wp2
                        go_ret2
                        exact ⟨rfl, HBX.out⟩
                      · rw [if_neg (fun h => hst h.2)] at hre
                        subst hre
                        have hst1 : ((strOfNums (timeBody T)).toList == (strOfNums l).toList) = false := beq_eq_false_iff_ne.mpr hst
                        have hst2 : ((strOfNums (timeBody T)).toList != (strOfNums l).toList) = true := bne_iff_ne.mpr hst
                        clear hst
                        go_wp2
                        go_ret2
                        exact ⟨rfl, HBX.out⟩
                    · rw [if_neg (fun h => ht h.1)] at hre
                      subst hre
                      go_wp2
                      go_ret2
                      exact ⟨rfl, HBX.out⟩
theorem apostilleref14_Get_calls (tag : Int) (A1 A2 : Option Addr) (c1 c2 n2 : Nat) (l : List Int) (w : World) (hr : Kd.C (Kd.int .u8) w A1 l.length l) (hc : l.length ≤ c1) :
    Calls Try.prog 16 #[.agg #[.int .u8 tag, .slice A1 l.length c1, .slice A2 n2 c2]] w fun e w' => e = .returned (.tuple #[.int .i64 (refGetV tag l n2).1, .bool (refGetV tag l n2).2]) ∧ Below w.heap.size w w' := by
  by_cases hg : (tag = 23 ∨ tag = 24) ∧ n2 = 0 ∧ l.length = getK tag + 11
  · obtain ⟨ht, rfl, hl⟩ := hg
    refine ref_Get_good tag (getK tag) ?_ l hl A1 A2 c1 c2 w hr hc
    unfold getK
    rcases ht with rfl | rfl
    · exact .inl ⟨rfl, rfl⟩
    · exact .inr ⟨rfl, rfl⟩
  · have e : refGetV tag l n2 = (0, false) := by unfold refGetV; rw [if_neg hg]
    rw [e]
    exact ref_Get_bad tag A1 A2 c1 c2 l.length n2 w hg
end
end Go.Proofs.Ytbihkbcjpodnbaa.PAll
