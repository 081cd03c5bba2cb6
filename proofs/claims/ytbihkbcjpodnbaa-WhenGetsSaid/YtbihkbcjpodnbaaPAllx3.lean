-- Made by hprint.py (a session's script over the kit's print.py, hand-written texts among the printed ones). Lean checks it.
import Derived.Test.YtbihkbcjpodnbaaPAllx0
import Derived.Test.YtbihkbcjpodnbaaPAllx1
import Derived.Test.YtbihkbcjpodnbaaPAllx2
namespace Go.Proofs.Ytbihkbcjpodnbaa.PAll
open Go.RowKit Go.Proofs.YtbihkbcjpodnbaaW.PrintWords Go.Proofs.YtbihkbcjpodnbaaW.PrintLast Go.Proofs.YtbihkbcjpodnbaaW.PrintMore
attribute [local go_sem] max2_int min2_int max_two min_two max_three min_three max_four min_four   -- for this text's walks alone
set_option linter.unusedVariables false
set_option linter.unusedSimpArgs false

/-! ### apostilleref14_Date: function 17 (by hand) -/
section
open Go.Shelf Go.Proofs.YtbihkbcjpodnbaaH
theorem ref_long_eq (y : Int) (h : 0 ≤ y) : apostilleref14_long.f y = some (leapI y) := by
  unfold apostilleref14_long.f leapI
  rw [Int.tmod_eq_emod_of_nonneg h, Int.tmod_eq_emod_of_nonneg h, Int.tmod_eq_emod_of_nonneg h]
  by_cases h4 : y % 4 = 0
  · rw [if_pos h4]
    by_cases h100 : y % 100 = 0
    · rw [if_pos h100]
      by_cases h400 : y % 400 = 0 <;> simp [h4, h100, h400]
    · rw [if_neg h100]; simp [h4, h100]
  · rw [if_neg h4]
    have h400 : ¬ y % 400 = 0 := by omega
    simp [h4, h400]
theorem ref_days_eq (y m : Int) (h : 0 ≤ y) (h1 : 1 ≤ m) (h2 : m ≤ 12) : apostilleref14_days.f y m = some (mlen y m) := by
  unfold apostilleref14_days.f
  simp only [Option.bind_some]
  have hw : wrap64 (m - 1) = m - 1 := by unfold wrap64; omega
  rw [hw]
  by_cases hm : m = 2
  · subst hm
    rw [if_pos rfl, ref_long_eq y h]
    simp only [Option.bind_some]
    unfold mlen lp
    by_cases hl : leapI y = true
    · simp [hl]
    · simp [hl, rd]
  · rw [if_neg hm, if_pos (by omega), if_pos (by simp; omega)]
    unfold mlen
    rw [if_neg hm]
    rcases month_cases m h1 h2 with rfl | rfl | rfl | rfl | rfl | rfl | rfl | rfl | rfl | rfl | rfl | rfl <;> simp [rd] at hm ⊢

set_option maxHeartbeats 2000000 in
set_option maxRecDepth 100000 in
theorem ref_Date_no (t : Int) (w : World) (hT : ¬ IsTime t) :
    Calls Try.prog 17 #[.int .i64 t] w fun e w' => e = .returned (.agg #[.int .i64 0, .int .i64 0, .int .i64 0, .int .i64 0, .int .i64 0, .int .i64 0]) ∧ Below w.heap.size w w' := by
  have hI : apostilleref14_Is.f t = some false := by
    unfold apostilleref14_Is.f
    unfold IsTime at hT
    split <;> simp <;> omega
  clear hT
  go_enter Try.func17, Try.ntmps17
  go_wp2_with (go_at_call 9; refine (apostilleref14_Is.calls t false _ hI).mono ?_; rintro e w' ⟨rfl, ⟨n, rfl⟩⟩)
  refine bodyPost_ret (v := .agg #[.int .i64 0, .int .i64 0, .int .i64 0, .int .i64 0, .int .i64 0, .int .i64 0]) (by simp [results, Try.f17, go_sem]) rfl ⟨rfl, ?_⟩
  exact (((((pw_below_drewN ((Below.refl _ w).alloc (Nat.le_refl _) _) n).setCell (p := ⟨w.heap.size, 0, none⟩) (Nat.le_refl _) _).setCell (p := ⟨w.heap.size, 1, none⟩) (Nat.le_refl _) _).setCell (p := ⟨w.heap.size, 2, none⟩) (Nat.le_refl _) _).setCell (p := ⟨w.heap.size, 3, none⟩) (Nat.le_refl _) _).setCell (p := ⟨w.heap.size, 4, none⟩) (Nat.le_refl _) _ |>.setCell (p := ⟨w.heap.size, 5, none⟩) (Nat.le_refl _) _

/-- The two loops' words. -/
def DateY (w : World) (D : Int) (v3 v5 : Value) (wr : World) : Prop :=
  ∃ y d : Int, 1950 ≤ y ∧ y ≤ 9999 ∧ 0 ≤ d ∧ aheadI y + d = D ∧ v3 = .int .i64 d ∧ v5 = .int .i64 y ∧ wr.heap[w.heap.size]? = some (.cells #[.int .i64 0, .int .i64 0, .int .i64 0, .int .i64 0, .int .i64 0, .int .i64 0] 33 (0, 0)) ∧ Below w.heap.size w wr

def DateM (w : World) (y D : Int) (v3 v6 : Value) (wr : World) : Prop :=
  ∃ m d : Int, 1 ≤ m ∧ m ≤ 12 ∧ 0 ≤ d ∧ aheadI y + cumI y m + d = D ∧ v3 = .int .i64 d ∧ v6 = .int .i64 m ∧ wr.heap[w.heap.size]? = some (.cells #[.int .i64 0, .int .i64 0, .int .i64 0, .int .i64 0, .int .i64 0, .int .i64 0] 33 (0, 0)) ∧ Below w.heap.size w wr

set_option maxHeartbeats 4000000 in
set_option maxRecDepth 100000 in
theorem ref_Date_yes (t : Int) (w : World) (hT : IsTime t) :
    Calls Try.prog 17 #[.int .i64 t] w fun e w' => ∃ y m d h i s, IsDate t y m d h i s ∧ e = .returned (.agg #[.int .i64 y, .int .i64 m, .int .i64 d, .int .i64 h, .int .i64 i, .int .i64 s]) ∧ Below w.heap.size w w' := by
  have hI : apostilleref14_Is.f t = some true := by
    unfold apostilleref14_Is.f
    unfold IsTime at hT
    rw [if_pos (by omega)]; simp; omega
  have ht1 : -631152000 ≤ t := hT.1
  have ht2 : t ≤ 253402300799 := hT.2
  clear hT
  go_enter Try.func17, Try.ntmps17
  go_wp2_with (go_at_call 9; refine (apostilleref14_Is.calls t true _ hI).mono ?_; rintro e w' ⟨rfl, ⟨n, rfl⟩⟩)
  have hb0 : Below w.heap.size w ((w.alloc (Obj.cells #[.int .i64 0, .int .i64 0, .int .i64 0, .int .i64 0, .int .i64 0, .int .i64 0] 33)).drewN n) := pw_below_drewN ((Below.refl _ w).alloc (Nat.le_refl _) _) n
  have hk0 : ((w.alloc (Obj.cells #[.int .i64 0, .int .i64 0, .int .i64 0, .int .i64 0, .int .i64 0, .int .i64 0] 33)).drewN n).heap[w.heap.size]? = some (.cells #[.int .i64 0, .int .i64 0, .int .i64 0, .int .i64 0, .int .i64 0, .int .i64 0] 33 (0, 0)) := World.alloc_heap_new w _
  obtain ⟨W, hW⟩ : ∃ W, (w.alloc (Obj.cells #[.int .i64 0, .int .i64 0, .int .i64 0, .int .i64 0, .int .i64 0, .int .i64 0] 33)).drewN n = W := ⟨_, rfl⟩
  rw [hW] at hb0 hk0 ⊢
  clear hW
  go_loopw [3, 5] (fun v3 v5 wr => DateY w (719162 + t / 86400) v3 v5 wr) (fun v3 _ _ => (intOf v3).toNat)
  case atStart => exact ⟨1950, (t + 631152000) / 86400, by omega, by omega, by omega, by rw [ahead_1950]; omega, rfl, rfl, hk0, hb0⟩
  case round =>
    obtain ⟨y, d, hy1, hy2, hd0, hyd, rfl, rfl, hkk, hbb⟩ := hrel
    have hs := ahead_succ y (by omega)
    have hl := lp_01 y
    have hdu : d ≤ 3652059 := by have := ahead_mono 1950 y (by omega) hy1; rw [ahead_1950] at this; omega
    have hmx : y + 1 ≤ 9999 ∨ d < 365 + lp y := by
      by_cases e : y = 9999
      · subst e
        have e2 : aheadI (9999 + 1) = 3652059 := ahead_10000
        right; omega
      · left; omega
    by_cases hx : d < 365 + lp y
    · -- the year is found
      clear hmx
      have hmlp := leap_lp y
      by_cases hd5 : 365 ≤ d
      case' pos =>
        have hF : apostilleref14_long.f y = some true := by rw [ref_long_eq y (by omega), (leap_lp y).2 (by omega)]
        have hd6 : d < 366 := by omega
        go_wp2_with (go_at_call 24; refine (apostilleref14_long.calls y true _ hF).mono ?_; rintro e w' ⟨rfl, ⟨nd, rfl⟩⟩)
      case' neg =>
        have hd6 : d < 365 := by omega
        go_wp2
      all_goals
        go_loopw [3, 6] (fun v3 v6 wr => DateM w y (719162 + t / 86400) v3 v6 wr) (fun v3 _ _ => (intOf v3).toNat)
        case atStart => first | exact ⟨1, d, by omega, by omega, by omega, by rw [cum_1]; omega, rfl, rfl, hkk, hbb⟩ | exact ⟨1, d, by omega, by omega, by omega, by rw [cum_1]; omega, rfl, rfl, hkk, pw_below_drewN hbb _⟩
        case round =>
          obtain ⟨m, d2, hm1, hm2, hd20, hmd, rfl, rfl, hkk2, hbb2⟩ := hrel
          have hc := cum_succ y m hm1 hm2
          have hml := mlen_bd y m
          have hF2 : apostilleref14_days.f y m = some (mlen y m) := ref_days_eq y m (by omega) hm1 hm2
          have hm12 : m = 12 → d2 < mlen y m := by
            intro e
            have h13 := cum_13 y
            rw [e] at hc hmd ⊢
            have : cumI y (12 + 1) = 365 + lp y := h13
            omega
          have Hm12 := Lib.hid hm12
          clear hm12
          have hd2u : d2 ≤ 366 := by
            have hc0 := cum_mono y 1 m (by omega) hm1 (by omega)
            rw [cum_1] at hc0
            omega
          by_cases hd2 : mlen y m ≤ d2
          · go_wp2_with (go_at_call 25; refine (apostilleref14_days.calls y m (mlen y m) _ hF2).mono ?_; rintro e w' ⟨rfl, hb3⟩; have hkk3 := (hb3.block w.heap.size (Array.getElem?_eq_some_iff.1 hkk2).1).trans hkk2; have hbb3 := below_then hbb2 hbb2.size hb3; clear hkk2 hbb2 hb3; have hkk2 := hkk3; have hbb2 := hbb3; clear hkk3 hbb3)
            go_roundw
            case rel => exact ⟨m + 1, d2 - mlen y m, by omega, by have := Hm12.out; omega, by omega, by omega, rfl, rfl, hkk2, hbb2⟩
            case measure => simp [intOf]; omega
          · have hfin : ∃ y' m' d' h' i' s', IsDate t y' m' d' h' i' s' ∧ y = y' ∧ m = m' ∧ d2 + 1 = d' ∧ ((t + 631152000) % 86400) / 3600 = h' ∧ ((t + 631152000) % 86400) / 60 % 60 = i' ∧ ((t + 631152000) % 86400) % 60 = s' :=
              ⟨y, m, d2 + 1, _, _, _, ⟨by omega, by omega, hm1, hm2, by omega, by omega, by omega, by omega, by omega, by omega, by omega, by omega, by unfold dayNo; omega⟩, rfl, rfl, rfl, rfl, rfl, rfl⟩
            have Hfin := Lib.hid hfin
            clear hfin Hm12
            go_wp2_with (go_at_call 25; refine (apostilleref14_days.calls y m (mlen y m) _ hF2).mono ?_; rintro e w' ⟨rfl, hb3⟩; have hkk3 := (hb3.block w.heap.size (Array.getElem?_eq_some_iff.1 hkk2).1).trans hkk2; have hbb3 := below_then hbb2 hbb2.size hb3; clear hkk2 hbb2 hb3; have q0 := (blk_cell hkk3 0).trans rfl; have f0 := blk_frozen hkk3 0; have q1 := (blk_cell hkk3 1).trans rfl; have f1 := blk_frozen hkk3 1; have q2 := (blk_cell hkk3 2).trans rfl; have f2 := blk_frozen hkk3 2; have q3 := (blk_cell hkk3 3).trans rfl; have f3 := blk_frozen hkk3 3; have q4 := (blk_cell hkk3 4).trans rfl; have f4 := blk_frozen hkk3 4; have q5 := (blk_cell hkk3 5).trans rfl; have f5 := blk_frozen hkk3 5; clear hkk3)
            obtain ⟨y', m', d', h', i', s', hD, rfl, rfl, rfl, rfl, rfl, rfl⟩ := Hfin.out
            refine bodyPost_ret (v := .agg #[.int .i64 y, .int .i64 m, .int .i64 (d2 + 1), .int .i64 (((t + 631152000) % 86400) / 3600), .int .i64 (((t + 631152000) % 86400) / 60 % 60), .int .i64 (((t + 631152000) % 86400) % 60)]) (by simp [results, Try.f17, go_sem, q0, q1, q2, q3, q4, q5]) rfl ⟨_, _, _, _, _, _, hD, rfl, ?_⟩
            exact (((((hbb3.setCell (p := ⟨w.heap.size, 0, none⟩) (Nat.le_refl _) _).setCell (p := ⟨w.heap.size, 1, none⟩) (Nat.le_refl _) _).setCell (p := ⟨w.heap.size, 2, none⟩) (Nat.le_refl _) _).setCell (p := ⟨w.heap.size, 3, none⟩) (Nat.le_refl _) _).setCell (p := ⟨w.heap.size, 4, none⟩) (Nat.le_refl _) _).setCell (p := ⟨w.heap.size, 5, none⟩) (Nat.le_refl _) _
    · -- the year goes on
      have hy9 : y + 1 ≤ 9999 := by omega
      clear hmx
      have hlg : lp y = 1 ∨ lp y = 0 := by omega
      rcases hlg with hlp | hlp
      · have hF : apostilleref14_long.f y = some true := by rw [ref_long_eq y (by omega), (leap_lp y).2 hlp]
        have hd6 : 366 ≤ d := by omega
        have Hlp := Lib.hid hlp
        clear hlp hx
        go_wp2_with (go_at_call 24; refine (apostilleref14_long.calls y true _ hF).mono ?_; rintro e w' ⟨rfl, ⟨nd, rfl⟩⟩)
        go_roundw
        case rel => exact ⟨y + 1, d - 365 - 1, by omega, by omega, by omega, by have := Hlp.out; omega, rfl, rfl, hkk, pw_below_drewN hbb _⟩
        case measure => simp [intOf]; omega
      · have hF : apostilleref14_long.f y = some false := by
          rw [ref_long_eq y (by omega)]
          cases hL : leapI y with
          | true => have := (leap_lp y).1 hL; omega
          | false => rfl
        have hd5 : 365 ≤ d := by omega
        have Hlp := Lib.hid hlp
        clear hlp hx
        by_cases hd6 : 366 ≤ d
        all_goals
          go_wp2_with (go_at_call 24; refine (apostilleref14_long.calls y false _ hF).mono ?_; rintro e w' ⟨rfl, ⟨nd, rfl⟩⟩)
          go_roundw
          case rel => first | exact ⟨y + 1, d - 365, by omega, by omega, by omega, by have := Hlp.out; omega, rfl, rfl, hkk, pw_below_drewN hbb _⟩ | exact ⟨y + 1, d - 365, by omega, by omega, by omega, by have := Hlp.out; omega, rfl, rfl, hkk, pw_below_drewN (pw_below_drewN hbb _) _⟩
          case measure => simp [intOf]; omega
end

/-! ### apostilleref14_two: function 20 -/
def apostilleref14_two.f (a0 : Int) : Option (List Int) := some (([(wrap64 (48 + (Int.tmod (wrap64 (Int.tdiv a0 10)) 10))) % 256, (wrap64 (48 + (Int.tmod a0 10))) % 256] : List Int))
set_option maxHeartbeats 8000000 in
set_option maxRecDepth 100000 in
theorem apostilleref14_two.calls (a0 : Int) (r : List Int) (w : World) (h : apostilleref14_two.f a0 = some r) :
    Calls Try.prog 20 #[.int .i64 a0] w fun e w' => ∃ v0_ : Value, e = .returned (v0_) ∧ Kd.R (Kd.int .u8) 5 w' w.heap.size (fun _ => True) v0_ r ∧ Below w.heap.size w w' := by
  have HB := Aside0.mk (Below.refl w.heap.size w)
  have H : (some (([(wrap64 (48 + (Int.tmod (wrap64 (Int.tdiv a0 10)) 10))) % 256, (wrap64 (48 + (Int.tmod a0 10))) % 256] : List Int))) = some r := h
  clear h
  obtain ⟨y156, hy156⟩ : ∃ y_ : List Int, y_ = (([(wrap64 (48 + (Int.tmod (wrap64 (Int.tdiv a0 10)) 10))) % 256, (wrap64 (48 + (Int.tmod a0 10))) % 256] : List Int)) := ⟨_, rfl⟩
  replace H : (some y156) = some r := by first | (rw [hy156]; with_reducible exact H) | (have H2_ := (Option.bind_some _ _).symm.trans H; rw [hy156]; with_reducible exact H2_) | (have H2_ := (Option.bind_some _ _).symm.trans H; with_reducible exact H2_) | with_reducible exact H | (rw [hy156]; exact H) | exact H
  have Ny156 := Aside0.mk hy156
  clear hy156
  obtain rfl := Option.some.inj H
  go_enter Try.func20, Try.ntmps20
  go_wp2_with (first | ((with_reducible refine gate_dst (N := 12) rfl ?_); refine Kd.R_lit (Kd.int .u8) _ 5 ?hg (N := 12) ?hd (xs := ([(wrap64 (48 + (Int.tmod (wrap64 (Int.tdiv a0 10)) 10))) % 256, (wrap64 (48 + (Int.tmod a0 10))) % 256] : List Int)) (inner := [.int .u8 ((wrap64 (48 + (Int.tmod (wrap64 (Int.tdiv a0 10)) 10))) % 256), .int .u8 ((wrap64 (48 + (Int.tmod a0 10))) % 256)]) (ok := fun _ => True) (okp := fun _ => True) ?hr ?hp (fun _ hk => hk) trivial (Below.refl _ _) (Nat.le_refl _) (by simp) ?_; (case hd => rfl); (case hg => rfl); (case hr => first | (go_simp; done) | (go_simp; rfl)); (case hp => exact (Reps.one (show Kd.M (Kd.int .u8) _ _ _ ((wrap64 (48 + (Int.tmod (wrap64 (Int.tdiv a0 10)) 10))) % 256) [.int .u8 ((wrap64 (48 + (Int.tmod (wrap64 (Int.tdiv a0 10)) 10))) % 256)] from rfl) (Reps.one (show Kd.M (Kd.int .u8) _ _ _ ((wrap64 (48 + (Int.tmod a0 10))) % 256) [.int .u8 ((wrap64 (48 + (Int.tmod a0 10))) % 256)] from rfl) (Reps.none _ _)))); intro v157 w2 ho3 hb hg_ hnew_; clear hg_ hnew_; (first | rw [← Ny156.out] at ho3 | (simp only [Int.reduceToNat] at ho3; rw [← Ny156.out] at ho3)); have n0_ := Aside0.mk (Kd.R_lower ho3 (below_size (by repeat (first | (with_reducible first | exact HB.out | apply below_alloc | apply pw_below_drewN | apply below_drew1) | exact HB.out)))); have n1_ := Aside0.mk (below_step (by repeat (first | (with_reducible first | exact HB.out | apply below_alloc | apply pw_below_drewN | apply below_drew1) | exact HB.out)) hb); clear HB; have HO158 := n0_; have HB := n1_; clear n0_ n1_; clear hb ho3))
  go_ret
  exact ⟨_, by first | rfl | (simp [errW_none, errW_some] <;> rfl) | (simp [*, errW_none, errW_some] <;> rfl), by (with_reducible repeat (first | apply Kd.R_alloc | apply Kd.R_drewN | apply Kd.R_drew)); exact HO158.out, by repeat (first | (with_reducible first | exact HB.out | apply below_alloc | apply pw_below_drewN | apply below_drew1) | exact HB.out)⟩

/-! ### apostilleref14_Time: function 12 (by hand) -/
section
open Go.Shelf Go.Proofs.YtbihkbcjpodnbaaH
theorem ref_two_eq (n : Int) (h1 : 0 ≤ n) (h2 : n ≤ 9999) : apostilleref14_two.f n = some (digs n) := by
  unfold apostilleref14_two.f digs
  rw [Int.tdiv_eq_ediv_of_nonneg h1, Int.tmod_eq_emod_of_nonneg h1]
  have e1 : wrap64 (n / 10) = n / 10 := by unfold wrap64; omega
  rw [e1, Int.tmod_eq_emod_of_nonneg (by omega)]
  have e2 : wrap64 (48 + n / 10 % 10) = 48 + n / 10 % 10 := by unfold wrap64; omega
  have e3 : wrap64 (48 + n % 10) = 48 + n % 10 := by unfold wrap64; omega
  rw [e2, e3]
  congr 1
  have : (48 + n / 10 % 10) % 256 = 48 + n / 10 % 10 := by omega
  have : (48 + n % 10) % 256 = 48 + n % 10 := by omega
  simp [*]
theorem digsAll_take (l : List Int) (k : Nat) (h : k < l.length) : digsAll (l.take (k + 1)) = digsAll (l.take k) ++ digs (l.getD k 0) := by
  unfold digsAll
  rw [List.take_succ_eq_append_getElem h, List.flatMap_append]
  simp [List.getD_eq_getElem?_getD, h]

open Classical in
noncomputable def apostilleref14_Time.f (a0 : Int) : Option (Int × List Int × (List (S25))) := some (timeTag a0, timeBody a0, [])

def TimeL (w : World) (gd gn : Nat) (ds : List Int) (tag : Int) (init : List Int) (v5 : Value) (wr : World) : Prop :=
  ∃ (k : Nat) (u : Value), k ≤ 6 ∧ v5 = .int .i64 k ∧ Aside0 (wr.heap[gd]? = some (.cells (ds.map (Value.int .i64)).toArray 33 (0, 0))) ∧ Aside0 (wr.heap[gn]? = some (.cells #[.int .u8 tag, u, .slice none 0 0] 25 (0, 0))) ∧
    Aside0 (Kd.R (Kd.int .u8) 5 wr w.heap.size (fun _ => True) u (init ++ digsAll (ds.take k))) ∧ Aside0 (Below w.heap.size w wr) ∧ Aside0 (wr.heap[w.heap.size]? = some (.cells #[.int .u8 0, .slice none 0 0, .slice none 0 0] 25 (0, 0)))

set_option maxHeartbeats 8000000 in
set_option maxRecDepth 100000 in
theorem apostilleref14_Time.calls (a0 : Int) (r1 : Int) (r2 : List Int) (r3 : List (S25)) (w : World) (h : apostilleref14_Time.f a0 = some (r1, r2, r3)) :
    Calls Try.prog 12 #[.int .i64 a0] w fun e w' => ∃ v1_ v2_ : Value, e = .returned (.agg #[.int .u8 r1, v1_, v2_]) ∧ Kd.R (Kd.int .u8) 5 w' w.heap.size (fun _ => True) v1_ r2 ∧ Kd.R k25 25 w' w.heap.size (fun k_ => some k_ ≠ (v1_ : Value).ownBlock) v2_ r3 ∧ Below w.heap.size w w' := by
  unfold apostilleref14_Time.f at h
  injection h with h
  injection h with e1 h
  injection h with e2 e3
  subst e3
  by_cases hT : IsTime a0
  · obtain ⟨y, m, d, hh, i, s, D⟩ := date_of a0 hT
    rw [timeTag_eq D] at e1
    rw [timeBody_eq D] at e2
    have hI : apostilleref14_Is.f a0 = some true := by
      unfold apostilleref14_Is.f
      unfold IsTime at hT
      rw [if_pos (by omega)]; simp; omega
    have y1 := D.y1
    have y2 := D.y2
    have E1 := Aside0.mk e1
    have E2 := Aside0.mk e2
    clear e1 e2
    go_enter Try.func12, Try.ntmps12
    go_wp2_with (go_at_call 9; refine (apostilleref14_Is.calls a0 true _ hI).mono ?_; rintro e w' ⟨rfl, ⟨n, rfl⟩⟩)
    refine (ref_Date_yes a0 _ hT).mono ?_
    rintro e wd ⟨y', m', d', h', i', s', D', rfl, hbd⟩
    obtain ⟨rfl, rfl, rfl, rfl, rfl, rfl⟩ := D.unique D'
    have hb0 : Below w.heap.size w ((w.alloc (Obj.cells #[.int .u8 0, .slice none 0 0, .slice none 0 0] 25)).drewN n) := pw_below_drewN ((Below.refl _ w).alloc (Nat.le_refl _) _) n
    have hbw : Below w.heap.size w wd := below_then hb0 hb0.size hbd
    have hR0 : ((w.alloc (Obj.cells #[.int .u8 0, .slice none 0 0, .slice none 0 0] 25)).drewN n).heap[w.heap.size]? = some (.cells #[.int .u8 0, .slice none 0 0, .slice none 0 0] 25 (0, 0)) := World.alloc_heap_new w _
    have hR1 : wd.heap[w.heap.size]? = some (.cells #[.int .u8 0, .slice none 0 0, .slice none 0 0] 25 (0, 0)) := (hbd.block w.heap.size (Array.getElem?_eq_some_iff.1 hR0).1).trans hR0
    have HB := Aside0.mk hbw
    have HR := Aside0.mk hR1
    have HS : w.heap.size + 1 ≤ wd.heap.size := by have := (Array.getElem?_eq_some_iff.1 hR1).1; omega
    clear hb0 hbw hR0 hR1 hbd hI hT D'
    obtain ⟨init, hinit⟩ : ∃ init : List Int, init = if 2050 ≤ y then digs (y / 100) else [] := ⟨_, rfl⟩
    have E2' : Aside0 (init ++ digsAll [y, m, d, hh, i, s] ++ [90] = r2) := ⟨by rw [hinit]; exact E2.out⟩
    clear E2
    have E2 := E2'
    clear E2'
    have Hil : Aside0 (init.length ≤ 2) := ⟨by rw [hinit]; split <;> simp [digs]⟩
    by_cases hy : 2050 ≤ y
    case' pos =>
      have hF : apostilleref14_two.f (y / 100) = some (digs (y / 100)) := ref_two_eq _ (by omega) (by omega)
      have e3 : stampTag y = 24 := by unfold stampTag; rw [if_pos hy]
      rw [e3] at E1
      rw [if_pos hy] at hinit
      have Hinit := Aside0.mk hinit
      have e1 := E1.out
      subst e1
      clear e3 hinit E1
      go_wp2_with fail
      refine (apostilleref14_two.calls (y / 100) (digs (y / 100)) _ hF).mono ?_
      rintro e w2 ⟨v0, rfl, ho2, hb2⟩
      obtain ⟨Av, cv, rfl⟩ := Kd.R_slice ho2
      have hb1 : Below w.heap.size w ((wd.alloc (Obj.cells #[.int .i64 y, .int .i64 m, .int .i64 d, .int .i64 hh, .int .i64 i, .int .i64 s] 33)).alloc (Obj.cells #[.int .u8 23, .slice none 0 0, .slice none 0 0] 25)) := (HB.out.alloc HB.out.size _).alloc (by simp; omega) _
      have hd1 : ((wd.alloc (Obj.cells #[.int .i64 y, .int .i64 m, .int .i64 d, .int .i64 hh, .int .i64 i, .int .i64 s] 33)).alloc (Obj.cells #[.int .u8 23, .slice none 0 0, .slice none 0 0] 25)).heap[wd.heap.size]? = some (.cells #[.int .i64 y, .int .i64 m, .int .i64 d, .int .i64 hh, .int .i64 i, .int .i64 s] 33 (0, 0)) := (Below.heap_alloc _ _ _ (by simp)).trans (World.alloc_heap_new wd _)
      have hn1 : ((wd.alloc (Obj.cells #[.int .i64 y, .int .i64 m, .int .i64 d, .int .i64 hh, .int .i64 i, .int .i64 s] 33)).alloc (Obj.cells #[.int .u8 23, .slice none 0 0, .slice none 0 0] 25)).heap[wd.heap.size + 1]? = some (.cells #[.int .u8 23, .slice none 0 0, .slice none 0 0] 25 (0, 0)) := by
        have := World.alloc_heap_new (wd.alloc (Obj.cells #[.int .i64 y, .int .i64 m, .int .i64 d, .int .i64 hh, .int .i64 i, .int .i64 s] 33)) (Obj.cells #[.int .u8 23, .slice none 0 0, .slice none 0 0] 25)
        rwa [World.size_alloc] at this
      have hbw2 := below_then hb1 hb1.size hb2
      have hr2 := (hb2.block w.heap.size (by simp; omega)).trans ((Below.heap_alloc _ _ _ (by simp; omega)).trans ((Below.heap_alloc _ _ _ (by omega)).trans HR.out))
      have hd2 := (hb2.block _ (Array.getElem?_eq_some_iff.1 hd1).1).trans hd1
      have hn2 := (hb2.block _ (Array.getElem?_eq_some_iff.1 hn1).1).trans hn1
      have n0 := (blk_cell hn2 0).trans rfl
      have n1 := (blk_cell hn2 1).trans rfl
      have n2 := (blk_cell hn2 2).trans rfl
      have f0 := blk_frozen hn2 0
      have f1 := blk_frozen hn2 1
      have f2 := blk_frozen hn2 2
      have HO := Aside0.mk (Kd.R_lower ho2 hb1.size)
      have HD := Aside0.mk hd2
      have HN := Aside0.mk hn2
      have HW := Aside0.mk hbw2
      have HR2 := Aside0.mk hr2
      clear hb1 hd1 hn1 hbw2 hd2 hn2 ho2 hb2 hr2
      have hN3 : (((w2.setCell ⟨wd.heap.size + 1, 0, none⟩ (.int .u8 24)).setCell ⟨wd.heap.size + 1, 1, none⟩ (.slice Av (digs (y / 100)).length cv)).setCell ⟨wd.heap.size + 1, 2, none⟩ (.slice none 0 0)).heap[wd.heap.size + 1]? = some (.cells #[.int .u8 24, .slice Av (digs (y / 100)).length cv, .slice none 0 0] 25 (0, 0)) :=
        blk_put (cs := #[.int .u8 24, .slice Av (digs (y / 100)).length cv, .slice none 0 0]) (blk_put (cs := #[.int .u8 24, .slice none 0 0, .slice none 0 0]) (blk_put (cs := #[.int .u8 23, .slice none 0 0, .slice none 0 0]) HN.out 0 _ rfl) 1 _ rfl) 2 _ rfl
      have hD3 : (((w2.setCell ⟨wd.heap.size + 1, 0, none⟩ (.int .u8 24)).setCell ⟨wd.heap.size + 1, 1, none⟩ (.slice Av (digs (y / 100)).length cv)).setCell ⟨wd.heap.size + 1, 2, none⟩ (.slice none 0 0)).heap[wd.heap.size]? = some (.cells #[.int .i64 y, .int .i64 m, .int .i64 d, .int .i64 hh, .int .i64 i, .int .i64 s] 33 (0, 0)) := blk_far (blk_far (blk_far HD.out (by simp) _) (by simp) _) (by simp) _
      have hO3 : Kd.R (Kd.int .u8) 5 (((w2.setCell ⟨wd.heap.size + 1, 0, none⟩ (.int .u8 24)).setCell ⟨wd.heap.size + 1, 1, none⟩ (.slice Av (digs (y / 100)).length cv)).setCell ⟨wd.heap.size + 1, 2, none⟩ (.slice none 0 0)) w.heap.size (fun _ => True) (.slice Av (digs (y / 100)).length cv) (init ++ digsAll ([y, m, d, hh, i, s].take 0)) := by
        rw [Hinit.out]
        simp only [List.take_zero, digsAll, List.flatMap_nil, List.append_nil]
        exact Kd.R_mono (Kd.R_far (p := ⟨wd.heap.size + 1, 2, none⟩) (Kd.R_far (p := ⟨wd.heap.size + 1, 1, none⟩) (Kd.R_far (p := ⟨wd.heap.size + 1, 0, none⟩) (Kd.R_types HO.out HN.out (by decide)) (fun _ hk => hk.2) _) (fun _ hk => hk.2) _) (fun _ hk => hk.2) _) (fun _ _ => trivial)
      have hB3 : Below w.heap.size w (((w2.setCell ⟨wd.heap.size + 1, 0, none⟩ (.int .u8 24)).setCell ⟨wd.heap.size + 1, 1, none⟩ (.slice Av (digs (y / 100)).length cv)).setCell ⟨wd.heap.size + 1, 2, none⟩ (.slice none 0 0)) := ((HW.out.setCell (p := ⟨wd.heap.size + 1, 0, none⟩) (by simp; omega) _).setCell (p := ⟨wd.heap.size + 1, 1, none⟩) (by simp; omega) _).setCell (p := ⟨wd.heap.size + 1, 2, none⟩) (by simp; omega) _
      have hR3 := blk_far (blk_far (blk_far HR2.out (p := ⟨wd.heap.size + 1, 0, none⟩) (by simp; omega) (.int .u8 24)) (p := ⟨wd.heap.size + 1, 1, none⟩) (by simp; omega) (.slice Av (digs (y / 100)).length cv)) (p := ⟨wd.heap.size + 1, 2, none⟩) (by simp; omega) (.slice none 0 0)
      have HS4 : TimeL w wd.heap.size (wd.heap.size + 1) [y, m, d, hh, i, s] 24 init (.int .i64 0) (((w2.setCell ⟨wd.heap.size + 1, 0, none⟩ (.int .u8 24)).setCell ⟨wd.heap.size + 1, 1, none⟩ (.slice Av (digs (y / 100)).length cv)).setCell ⟨wd.heap.size + 1, 2, none⟩ (.slice none 0 0)) := ⟨0, _, by omega, rfl, ⟨hD3⟩, ⟨hN3⟩, ⟨hO3⟩, ⟨hB3⟩, ⟨hR3⟩⟩
      have HS3 := Aside0.mk HS4
      clear HS4 hN3 hD3 hO3 hB3 hR3 HR2
      go_wp2
      clear n0 n1 n2 f0 f1 f2 HO HD HN HW
    case' neg =>
      have e3 : stampTag y = 23 := by unfold stampTag; rw [if_neg hy]
      rw [e3] at E1
      rw [if_neg hy] at hinit
      have e1 := E1.out
      have Hinit := Aside0.mk hinit
      subst e1
      clear e3 hinit E1
      have hd1 : ((wd.alloc (Obj.cells #[.int .i64 y, .int .i64 m, .int .i64 d, .int .i64 hh, .int .i64 i, .int .i64 s] 33)).alloc (Obj.cells #[.int .u8 23, .slice none 0 0, .slice none 0 0] 25)).heap[wd.heap.size]? = some (.cells #[.int .i64 y, .int .i64 m, .int .i64 d, .int .i64 hh, .int .i64 i, .int .i64 s] 33 (0, 0)) := (Below.heap_alloc _ _ _ (by simp)).trans (World.alloc_heap_new wd _)
      have hn1 : ((wd.alloc (Obj.cells #[.int .i64 y, .int .i64 m, .int .i64 d, .int .i64 hh, .int .i64 i, .int .i64 s] 33)).alloc (Obj.cells #[.int .u8 23, .slice none 0 0, .slice none 0 0] 25)).heap[wd.heap.size + 1]? = some (.cells #[.int .u8 23, .slice none 0 0, .slice none 0 0] 25 (0, 0)) := by
        have := World.alloc_heap_new (wd.alloc (Obj.cells #[.int .i64 y, .int .i64 m, .int .i64 d, .int .i64 hh, .int .i64 i, .int .i64 s] 33)) (Obj.cells #[.int .u8 23, .slice none 0 0, .slice none 0 0] 25)
        rwa [World.size_alloc] at this
      have hb1 : Below w.heap.size w ((wd.alloc (Obj.cells #[.int .i64 y, .int .i64 m, .int .i64 d, .int .i64 hh, .int .i64 i, .int .i64 s] 33)).alloc (Obj.cells #[.int .u8 23, .slice none 0 0, .slice none 0 0] 25)) := (HB.out.alloc HB.out.size _).alloc (by simp; omega) _
      have hr1 : ((wd.alloc (Obj.cells #[.int .i64 y, .int .i64 m, .int .i64 d, .int .i64 hh, .int .i64 i, .int .i64 s] 33)).alloc (Obj.cells #[.int .u8 23, .slice none 0 0, .slice none 0 0] 25)).heap[w.heap.size]? = some (.cells #[.int .u8 0, .slice none 0 0, .slice none 0 0] 25 (0, 0)) := (Below.heap_alloc _ _ _ (by simp; omega)).trans ((Below.heap_alloc _ _ _ (by omega)).trans HR.out)
      have HS4 : TimeL w wd.heap.size (wd.heap.size + 1) [y, m, d, hh, i, s] 23 init (.int .i64 0) ((wd.alloc (Obj.cells #[.int .i64 y, .int .i64 m, .int .i64 d, .int .i64 hh, .int .i64 i, .int .i64 s] 33)).alloc (Obj.cells #[.int .u8 23, .slice none 0 0, .slice none 0 0] 25)) := ⟨0, _, by omega, rfl, ⟨hd1⟩, ⟨hn1⟩, ⟨by rw [Hinit.out]; exact Kd.R_nil _ _ _ _ _⟩, ⟨hb1⟩, ⟨hr1⟩⟩
      have HS3 := Aside0.mk HS4
      clear HS4 hd1 hn1 hb1 hr1
      go_wp2
    all_goals
      go_loopw [5] (TimeL w wd.heap.size (wd.heap.size + 1) [y, m, d, hh, i, s] _ init) (fun v5 _ => 6 - (intOf v5).toNat)
      case atStart => exact HS3.out
      case round =>
        clear HS3
        obtain ⟨k, u, hk6, rfl, HD, HN, HO, HW, HQ⟩ := hrel
        by_cases hk : k < 6
        · have hcell : ∃ x : Int, [y, m, d, hh, i, s].getD k 0 = x ∧ 0 ≤ x ∧ x ≤ 9999 ∧ wr.cell? ⟨wd.heap.size, k, none⟩ = some (.int .i64 x) := by
            have hcc := blk_cell HD.out k
            have := D.m1; have := D.m2; have := D.d1; have := D.d2; have := mlen_bd y m; have := D.h1; have := D.h2; have := D.i1; have := D.i2; have := D.s1; have := D.s2
            rcases (by omega : k = 0 ∨ k = 1 ∨ k = 2 ∨ k = 3 ∨ k = 4 ∨ k = 5) with rfl | rfl | rfl | rfl | rfl | rfl
            · exact ⟨y, rfl, by omega, by omega, hcc⟩
            · exact ⟨m, rfl, by omega, by omega, hcc⟩
            · exact ⟨d, rfl, by omega, by omega, hcc⟩
            · exact ⟨hh, rfl, by omega, by omega, hcc⟩
            · exact ⟨i, rfl, by omega, by omega, hcc⟩
            · exact ⟨s, rfl, by omega, by omega, hcc⟩
          obtain ⟨x, hxe, hx0, hx9, hcx⟩ := hcell
          have Hx := Aside0.mk hxe
          have hF2 : apostilleref14_two.f x = some (digs x) := ref_two_eq x hx0 hx9
          have HF2 := Aside0.mk hF2
          have hcu : wr.cell? ⟨wd.heap.size + 1, 1, none⟩ = some u := (blk_cell HN.out 1).trans rfl
          clear hxe hF2
          go_wp2
          refine start_ (n := 9) (S := fun w' => w'.cell? ⟨wd.heap.size + 1, 1, none⟩ = some u ∧ w'.cell? ⟨wd.heap.size, k, none⟩ = some (.int .i64 x)) (ds := [8]) #[false, false, false, false, false, false, false, false, false] (by kernel_rfl) rfl rfl ⟨hcu, hcx⟩ (fun hHeld => ?_)
          have HD2 := Aside0.mk (blk_drew HD.out)
          have HN2 := Aside0.mk (blk_drew HN.out)
          have HO2 := Aside0.mk (Kd.R_drew HO.out)
          have HW2 := Aside0.mk (below_drew1 HW.out)
          have HQ2 := Aside0.mk (blk_drew HQ.out)
          clear HD HN HO HW HQ hcu hcx
          generalize wr.drew = w32 at HD2 HN2 HO2 HW2 HQ2 hHeld ⊢
          refine pure_ (i := 0) (N := some 25) (v := ?_) (a' := ?_) #[true, false, false, false, false, false, false, false, false] rfl rfl (by kernel_rfl) (fun _ _ _ h => h) (Or.inl ⟨by rfl, ?_⟩) ?_ ?_
          rotate_left
          · intro w'
            go_simp
            with_reducible rfl
          rotate_left
          · simp only [Act.put, List.setIfInBounds_toArray, List.set_cons_zero, List.set_cons_succ, i64_w, i32_w]
            rfl
          refine pure_ (i := 2) (N := some 27) (v := ?_) (a' := ?_) #[true, false, true, false, false, false, false, false, false] rfl rfl (by kernel_rfl) (fun _ _ _ h => h) (Or.inl ⟨by rfl, ?_⟩) ?_ ?_
          rotate_left
          · intro w'
            go_simp
            with_reducible rfl
          rotate_left
          · simp only [Act.put, List.setIfInBounds_toArray, List.set_cons_zero, List.set_cons_succ, i64_w, i32_w]
            rfl
          refine take_ (i := 1) (N := some 26) (v := ?_) (a' := ?_) #[true, true, true, false, false, false, false, false, false] rfl rfl (by kernel_rfl) (fun _ _ _ h => h) (Or.inl ⟨by rfl, ?_⟩) hHeld ?_ ?_
          rotate_left
          · rintro w' ⟨s0, s1⟩
            go_simp
            with_reducible rfl
          rotate_left
          · simp only [Act.put, List.setIfInBounds_toArray, List.set_cons_zero, List.set_cons_succ, i64_w, i32_w]
            rfl
          refine pure_ (i := 3) (N := some 28) (v := ?_) (a' := ?_) #[true, true, true, true, false, false, false, false, false] rfl rfl (by kernel_rfl) (fun _ _ _ h => h) (Or.inl ⟨by rfl, ?_⟩) ?_ ?_
          rotate_left
          · intro w'
            go_simp
            with_reducible rfl
          rotate_left
          · simp only [Act.put, List.setIfInBounds_toArray, List.set_cons_zero, List.set_cons_succ, i64_w, i32_w]
            rfl
          refine take_ (i := 4) (N := some 29) (v := ?_) (a' := ?_) #[true, true, true, true, true, false, false, false, false] rfl rfl (by kernel_rfl) (fun _ _ _ h => h) (Or.inl ⟨by rfl, ?_⟩) hHeld ?_ ?_
          rotate_left
          · rintro w' ⟨s0, s1⟩
            go_simp
            with_reducible rfl
          rotate_left
          · simp only [Act.put, List.setIfInBounds_toArray, List.set_cons_zero, List.set_cons_succ, i64_w, i32_w]
            rfl
          refine one_ (i := 5) (N := some 30) #[true, true, true, true, true, true, false, false, false] rfl rfl (by kernel_rfl) (by decide) (fun K hK => ?_)
          refine goes_ Try.func20 (by kernel_rfl) rfl #[.int .i64 x] (by rfl) rfl rfl (by (try simp only [List.map_toArray, List.map_cons, List.map_nil]); first | done | rfl) ?_
          refine (apostilleref14_two.calls x (digs x) _ HF2.out).mono ?_
          rintro e w33 ⟨v1, rfl, ho1, hb1⟩
          refine ⟨_, rfl, ?_⟩
          obtain ⟨A1, c1, rfl⟩ := Kd.R_slice ho1
          have hcu3 : w33.cell? ⟨wd.heap.size + 1, 1, none⟩ = some u := pw_cell_below hb1 hHeld.1
          have hcx3 : w33.cell? ⟨wd.heap.size, k, none⟩ = some (.int .i64 x) := pw_cell_below hb1 hHeld.2
          refine hK.out _ _ ⟨hcu3, hcx3⟩ (fun hHeld2 => ?_)
          clear hK K hcu3 hcx3 hHeld
          have HD3 := Aside0.mk (blk_below HD2.out hb1)
          have HN3 := Aside0.mk (blk_below HN2.out hb1)
          have HO3 := Aside0.mk (Kd.R_elder' HO2.out (Kd.R_base ho1) hb1)
          have H13 := Aside0.mk (Kd.R_lower (Kd.R_new' ho1 (Kd.R_lt HO2.out)) (below_size HW2.out))
          have HW3 := Aside0.mk (below_then HW2.out HW2.out.size hb1)
          have HQ3 := Aside0.mk (blk_below HQ2.out hb1)
          clear HD2 HN2 HO2 HW2 HQ2 ho1 hb1
          refine norm_ (a' := ?_) ?_ ?_
          rotate_left
          · show Act.put _ (some 30) _ = _
            simp only [Act.put, List.setIfInBounds_toArray, List.set_cons_zero, List.set_cons_succ, i64_w, i32_w]
            rfl
          refine one_ (i := 6) (N := some 31) #[true, true, true, true, true, true, true, false, false] rfl rfl (by kernel_rfl) (by decide) (fun K hK => ?_)
          have hlen : (init ++ digsAll ([y, m, d, hh, i, s].take k)).length ≤ 100 := by
            rw [List.length_append]
            have : (digsAll ([y, m, d, hh, i, s].take k)).length ≤ 12 := by
              rcases (by omega : k = 0 ∨ k = 1 ∨ k = 2 ∨ k = 3 ∨ k = 4 ∨ k = 5) with rfl | rfl | rfl | rfl | rfl | rfl <;> simp [digsAll, digs]
            have := Hil.out
            omega
          have Hlen := Aside0.mk hlen
          clear hlen
          refine Kd.R_append_rows_step (Kd.int .u8) (w0 := w) w.heap.size (by rfl) (.tmp 26) (.tmp 30) 22 5 (.int .u8 0) 1 rfl Try.underlying22 info5 rfl (by decide) (by omega) u (init ++ digsAll ([y, m, d, hh, i, s].take k)) (digs x) _ _ _ (fun k_ => some k_ ≠ (.slice A1 (digs x).length c1 : Value).ownBlock) (fun _ => False) rfl rfl ?aO ?aR (fun _ _ h => h) (fun _ h => h.elim) ?aF ?aB ?aS ?aL ?_
          case aR => exact (Kd.R_reads' H13.out).2.2
          case aB => exact HW3.out
          case aF => exact fun k_ hk => Kd.fresh' (Kd.R_lt H13.out) k_ hk
          case aO => exact Kd.R_mono HO3.out (fun _ hk => hk.2)
          case aS => exact HW3.out.size
          case aL =>
            have h1 := Hlen.out
            have h2 : (digs x).length = 2 := rfl
            omega
          intro v4 w34 ho hb hg hat
          obtain ⟨A4, c4, e4⟩ := Kd.R_slice ho
          obtain ⟨L4, hL4⟩ : ∃ L, (init ++ digsAll ([y, m, d, hh, i, s].take k) ++ digs x).length = L := ⟨_, rfl⟩
          rw [hL4] at e4
          subst e4
          clear hL4
          have HD4 := Aside0.mk (blk_grown HD3.out hg (Kd.R_ne HO3.out HD3.out (by decide)))
          have HN4 := Aside0.mk (blk_grown HN3.out hg (Kd.R_ne HO3.out HN3.out (by decide)))
          have HQ4 := Aside0.mk (blk_grown HQ3.out hg (Kd.R_ne HO3.out HQ3.out (by decide)))
          have hcu4 : w34.cell? ⟨wd.heap.size + 1, 1, none⟩ = some u := (blk_cell HN4.out 1).trans rfl
          have hcx4 : w34.cell? ⟨wd.heap.size, k, none⟩ = some (.int .i64 x) := by
            have e1 := blk_cell HD3.out k
            have e2 := blk_cell HD4.out k
            rw [e2, ← e1]; exact hHeld2.2
          have HO4 := Aside0.mk ho
          have HW4 := Aside0.mk hb
          refine hK.out _ _ ⟨hcu4, hcx4⟩ (fun hHeld3 => ?_)
          clear hK K HD3 HN3 HO3 H13 HW3 HQ3 ho hb hg hat hHeld2
          refine norm_ (a' := ?_) ?_ ?_
          rotate_left
          · show Act.put _ (some 31) _ = _
            simp only [Act.put, List.setIfInBounds_toArray, List.set_cons_zero, List.set_cons_succ, i64_w, i32_w]
            rfl
          refine pure_ (i := 7) (N := some 32) (v := ?_) (a' := ?_) #[true, true, true, true, true, true, true, true, false] rfl rfl (by kernel_rfl) (fun _ _ _ h => h) (Or.inl ⟨by rfl, ?_⟩) ?_ ?_
          rotate_left
          · intro w'
            go_simp
            with_reducible rfl
          rotate_left
          · simp only [Act.put, List.setIfInBounds_toArray, List.set_cons_zero, List.set_cons_succ, i64_w, i32_w]
            rfl
          have hcf4 := blk_frozen HN4.out 1
          refine last_ (i := 8) (N := none) #[true, true, true, true, true, true, true, true, true] rfl rfl (by kernel_rfl) (by decide) (fun K hK => ?_)
          refine skip_ (w1 := ?_) (by rfl) rfl ?_ ?_
          rotate_left
          · go_simp
            rfl
          refine hK.out _ _ ?_
          clear hK K
          refine done_ (by kernel_rfl) ?_
          clear hcu4 hcx4 hcf4 hHeld3
          go_wp2
          go_roundw
          case rel =>
            refine ⟨k + 1, .slice A4 L4 c4, by omega, by go_num, ⟨blk_far HD4.out (by simp) _⟩, ⟨blk_put (cs := #[.int .u8 _, u, .slice none 0 0]) HN4.out 1 _ rfl⟩, ⟨?_⟩, ⟨HW4.out.setCell (p := ⟨wd.heap.size + 1, 1, none⟩) (by simp; omega) _⟩, ⟨blk_far HQ4.out (by simp; omega) _⟩⟩
            rw [digsAll_take _ k (by simpa using hk), Hx.out, ← List.append_assoc]
            exact Kd.R_mono (Kd.R_far (p := ⟨wd.heap.size + 1, 1, none⟩) (Kd.R_types HO4.out HN4.out (by decide)) (fun _ hk => hk.2) _) (fun _ _ => trivial)
          case measure => simp [intOf]; omega
        · obtain rfl : k = 6 := by omega
          have hn0 := (blk_cell HN.out 0).trans rfl
          have hn1 := (blk_cell HN.out 1).trans rfl
          have hn2 := (blk_cell HN.out 2).trans rfl
          have hf1 := blk_frozen HN.out 1
          have hlen : (init ++ digsAll ([y, m, d, hh, i, s].take 6)).length ≤ 100 := by
            rw [List.length_append]
            have : (digsAll ([y, m, d, hh, i, s].take 6)).length ≤ 12 := by simp [digsAll, digs]
            have := Hil.out
            omega
          have Hlen := Aside0.mk hlen
          clear hlen
          go_wp2_with (at_builtin; refine Kd.R_append (Kd.int .u8) (w0 := w) w.heap.size rfl (.tmp 34) (.tmp 35) 22 5 (.int .u8 0) 1 rfl Try.underlying22 info5 rfl (by decide) (by omega) u (init ++ digsAll ([y, m, d, hh, i, s].take 6)) 90 [.int .u8 90] (fun _ => True) (fun _ => False) rfl rfl ?aP (fun _ hk => hk.elim) ?aF ?aO ?aB ?aS ?aL ?_; (case aP => exact rfl); (case aB => exact HW.out); (case aF => exact (fun _ _ => trivial)); (case aO => exact HO.out); (case aS => exact HW.out.size); (case aL => have := Hlen.out; omega); intro v5 w41 ho hb hg hat; have HN5 := Aside0.mk (blk_grown HN.out hg (Kd.R_ne HO.out HN.out (by decide))); have HQ5 := Aside0.mk (blk_grown HQ.out hg (Kd.R_ne HO.out HQ.out (by decide))); have HO5 := Aside0.mk ho; have HW5 := Aside0.mk hb; clear hn0 hn1 hn2 hf1 ho hb hg hat HN HO HD HW HQ; obtain ⟨A5, c5, e5⟩ := Kd.R_slice HO5.out; obtain ⟨L5, hL5⟩ : ∃ L, (init ++ digsAll ([y, m, d, hh, i, s].take 6) ++ [90]).length = L := ⟨_, rfl⟩; rw [hL5] at e5; subst e5; clear hL5; have n0 := (blk_cell HN5.out 0).trans rfl; have n1 := (blk_cell HN5.out 1).trans rfl; have n2 := (blk_cell HN5.out 2).trans rfl; have f1 := blk_frozen HN5.out 1; have q0 := (blk_cell HQ5.out 0).trans rfl; have q1 := (blk_cell HQ5.out 1).trans rfl; have q2 := (blk_cell HQ5.out 2).trans rfl; have g0 := blk_frozen HQ5.out 0; have g1 := blk_frozen HQ5.out 1; have g2 := blk_frozen HQ5.out 2)
          refine bodyPost_ret (results_cell_row rfl _ _ w.heap.size 25 #[.int .u8 _, .slice A5 L5 c5, .slice none 0 0] (0, 0) _ rfl (blk_put (cs := #[.int .u8 _, .slice A5 L5 c5, .slice none 0 0]) (blk_put (cs := #[.int .u8 _, .slice none 0 0, .slice none 0 0]) (blk_put (cs := #[.int .u8 0, .slice none 0 0, .slice none 0 0]) (blk_far HQ5.out (by simp; omega) _) 0 _ rfl) 1 _ rfl) 2 _ rfl) Try.underlying25 rfl (by kernel_rfl)) rfl ?_
          have e2 := E2.out
          subst e2
          refine ⟨_, _, rfl, ?_, Kd.R_nil _ _ _ _ _, (((HW5.out.setCell (p := ⟨wd.heap.size + 1, 1, none⟩) (by simp; omega) _).setCell (p := ⟨w.heap.size, 0, none⟩) (Nat.le_refl _) _).setCell (p := ⟨w.heap.size, 1, none⟩) (Nat.le_refl _) _).setCell (p := ⟨w.heap.size, 2, none⟩) (Nat.le_refl _) _⟩
          exact Kd.R_mono (Kd.R_far (p := ⟨w.heap.size, 2, none⟩) (Kd.R_far (p := ⟨w.heap.size, 1, none⟩) (Kd.R_far (p := ⟨w.heap.size, 0, none⟩) (Kd.R_far (p := ⟨wd.heap.size + 1, 1, none⟩) (Kd.R_types (Kd.R_types HO5.out HN5.out (by decide)) HQ5.out (by decide)) (fun _ hk => hk.1.2) _) (fun _ hk => hk.2) _) (fun _ hk => hk.2) _) (fun _ hk => hk.2) _) (fun _ _ => trivial)
  · rw [timeTag_no hT] at e1
    rw [timeBody_no hT] at e2
    subst e1 e2
    have hI : apostilleref14_Is.f a0 = some false := by
      unfold apostilleref14_Is.f
      unfold IsTime at hT
      split <;> simp <;> omega
    clear hT
    go_enter Try.func12, Try.ntmps12
    go_wp2_with (go_at_call 9; refine (apostilleref14_Is.calls a0 false _ hI).mono ?_; rintro e w' ⟨rfl, ⟨n, rfl⟩⟩)
    refine bodyPost_ret (v := .agg #[.int .u8 0, .slice none 0 0, .slice none 0 0]) (by simp [results, Try.f12, go_sem]) rfl ⟨_, _, rfl, Kd.R_nil _ _ _ _ _, Kd.R_nil _ _ _ _ _, ?_⟩
    exact (((pw_below_drewN ((Below.refl _ w).alloc (Nat.le_refl _) _) n).setCell (p := ⟨w.heap.size, 0, none⟩) (Nat.le_refl _) _).setCell (p := ⟨w.heap.size, 1, none⟩) (Nat.le_refl _) _).setCell (p := ⟨w.heap.size, 2, none⟩) (Nat.le_refl _) _
end

/-! ### apostillelaw14_date: function 13 (by hand) -/
section
open Go.Shelf Go.Proofs.YtbihkbcjpodnbaaH
theorem w64 {n : Int} (h1 : -9223372036854775808 ≤ n) (h2 : n ≤ 9223372036854775807) : wrap64 n = n := by unfold wrap64; omega
theorem when_ahead_eq (y : Int) (h1 : 1 ≤ y) (h2 : y ≤ 1000000) : when_ahead.f y = some (aheadI y) := by
  unfold when_ahead.f aheadI
  rw [w64 (n := y - 1) (by omega) (by omega), Int.tdiv_eq_ediv_of_nonneg (by omega), Int.tdiv_eq_ediv_of_nonneg (by omega), Int.tdiv_eq_ediv_of_nonneg (by omega)]
  rw [w64 (n := (y - 1) * 365) (by omega) (by omega), w64 (n := (y - 1) / 4) (by omega) (by omega), w64 (n := (y - 1) / 100) (by omega) (by omega), w64 (n := (y - 1) / 400) (by omega) (by omega)]
  rw [w64 (n := (y - 1) * 365 + (y - 1) / 4) (by omega) (by omega), w64 (n := (y - 1) * 365 + (y - 1) / 4 - (y - 1) / 100) (by omega) (by omega), w64 (by omega) (by omega)]
theorem when_isLeap_eq (y : Int) (h : 0 ≤ y) : when_isLeap.f y = some (leapI y) := by
  unfold when_isLeap.f leapI
  rw [Int.tmod_eq_emod_of_nonneg h, Int.tmod_eq_emod_of_nonneg h, Int.tmod_eq_emod_of_nonneg h]
  by_cases h4 : y % 4 = 0
  · rw [if_pos h4]
    by_cases h100 : y % 100 = 0
    · rw [if_pos h100]
      by_cases h400 : y % 400 = 0 <;> simp [h4, h100, h400]
    · rw [if_neg h100]; simp [h4, h100]
  · rw [if_neg h4]
    simp [h4]
theorem when_days_eq (y m : Int) (h : 0 ≤ y) : when_days.f y m = some (mlen y m) := by
  unfold when_days.f mlen
  by_cases hm : m = 2
  · rw [if_pos hm, if_pos hm, when_isLeap_eq y h]
    simp only [Option.bind_some]
    unfold lp
    by_cases hl : leapI y = true <;> simp [hl]
  · rw [if_neg hm, if_neg hm]
    by_cases h4 : m = 4
    · simp [h4]
    · rw [if_neg h4]
      by_cases h6 : m = 6
      · simp [h6]
      · rw [if_neg h6]
        by_cases h9 : m = 9
        · simp [h9]
        · rw [if_neg h9]
          by_cases h11 : m = 11
          · simp [h11]
          · rw [if_neg h11, if_neg (by omega)]

theorem when_Date_l1 {t y : Int} (D0 : Int) (hy1 : 1950 ≤ y) (hy2 : y ≤ 9999) (sec : Int) (hs0 : 0 ≤ sec) (hs1 : sec < 86400) (ht : t = (D0 - 719162) * 86400 + sec) : ∀ (k : Nat) (m d : Int), 1 ≤ m → m ≤ 12 → 13 - m ≤ k → 0 ≤ d → aheadI y + cumI y m + d = D0 → d < 365 + lp y - cumI y m →
    ∃ m' d' h i s, when_Date.l1 k y m d sec = some (y, m', d', h, i, s) ∧ IsDate t y m' d' h i s := by
  intro k
  induction k with
  | zero => intro m d _ _ hk; omega
  | succ k ih =>
    intro m d hm1 hm2 hk hd0 hD hd
    have hc := cum_succ y m hm1 hm2
    have hml := mlen_bd y m
    have hl := lp_01 y
    have hc0 := cum_mono y 1 m (by omega) hm1 (by omega)
    rw [cum_1] at hc0
    simp only [when_Date.l1]
    rw [when_days_eq y m (by omega)]
    simp only [Option.bind_some]
    by_cases hx : d ≥ mlen y m
    · have hm12 : m ≠ 12 := by
        intro e
        have h13 : cumI y (12 + 1) = 365 + lp y := cum_13 y
        rw [e] at hc hd hx
        omega
      rw [if_pos hx, w64 (by omega) (by omega), w64 (by omega) (by omega)]
      exact ih (m + 1) (d - mlen y m) (by omega) (by omega) (by omega) (by omega) (by omega) (by omega)
    · rw [if_neg hx]
      refine ⟨m, d + 1, sec / 3600, sec % 3600 / 60, sec % 60, ?_, hy1, hy2, hm1, hm2, by omega, by omega, by omega, by omega, by omega, by omega, by omega, by omega, by unfold dayNo; omega⟩
      rw [Int.tdiv_eq_ediv_of_nonneg hs0, Int.tmod_eq_emod_of_nonneg hs0, Int.tmod_eq_emod_of_nonneg hs0, Int.tdiv_eq_ediv_of_nonneg (by omega)]
      rw [w64 (by omega) (by omega), w64 (by omega) (by omega), w64 (by omega) (by omega)]

theorem when_Date_l0 {t : Int} (D0 : Int) (sec : Int) (hs0 : 0 ≤ sec) (hs1 : sec < 86400) (ht : t = (D0 - 719162) * 86400 + sec) (h1 : 711857 ≤ D0) (h2 : D0 < 3652059) : ∀ (k : Nat) (y : Int), 1 ≤ y → y ≤ 9999 → 9999 - y + 14 ≤ k → aheadI y ≤ D0 →
    ∃ y' m' d' h i s, when_Date.l0 k y D0 sec = some (y', m', d', h, i, s) ∧ IsDate t y' m' d' h i s := by
  intro k
  induction k with
  | zero => intro y _ _ hk; omega
  | succ k ih =>
    intro y hy1 hy2 hk ha
    have hs := ahead_succ y hy1
    simp only [when_Date.l0]
    rw [w64 (n := y + 1) (by omega) (by omega), when_ahead_eq (y + 1) (by omega) (by omega)]
    simp only [Option.bind_some]
    by_cases hx : aheadI (y + 1) ≤ D0
    · have hy : y ≠ 9999 := by
        intro e
        rw [e] at hx
        have : aheadI (9999 + 1) = 3652059 := ahead_10000
        omega
      rw [if_pos hx]
      exact ih (y + 1) (by omega) (by omega) (by omega) hx
    · have hy0 : 1950 ≤ y := by
        by_cases e : 1950 ≤ y
        · exact e
        · have := ahead_mono (y + 1) 1950 (by omega) (by omega)
          rw [ahead_1950] at this
          omega
      have ha0 := ahead_mono 1950 y (by omega) hy0
      rw [ahead_1950] at ha0
      rw [if_neg hx, when_ahead_eq y (by omega) (by omega)]
      simp only [Option.bind_some]
      rw [w64 (by omega) (by omega)]
      obtain ⟨m, d, h, i, s, e, D⟩ := when_Date_l1 D0 hy0 hy2 sec hs0 hs1 ht k 1 (D0 - aheadI y) (by omega) (by omega) (by omega) (by omega) (by rw [cum_1]; omega) (by rw [cum_1]; omega)
      exact ⟨y, m, d, h, i, s, e, D⟩

theorem when_Date_yes {t : Int} (hT : IsTime t) (k : Nat) (hk : 10020 ≤ k) : ∃ y m d h i s, when_Date.f k t = some (y, m, d, h, i, s) ∧ IsDate t y m d h i s := by
  obtain ⟨h1, h2⟩ := hT
  have hI : when_Is.f t = some true := by unfold when_Is.f; rw [if_pos (by omega)]; simp; omega
  unfold when_Date.f
  rw [hI]
  simp only [Option.bind_some, if_true]
  rw [when_ahead_eq 1970 (by omega) (by omega), ahead_1970]
  simp only [Option.bind_some]
  rw [w64 (n := 719162 * 86400) (by omega) (by omega), w64 (n := 719162 * 86400 + t) (by omega) (by omega), Int.tdiv_eq_ediv_of_nonneg (a := 719162 * 86400 + t) (by omega), Int.tmod_eq_emod_of_nonneg (by omega)]
  rw [w64 (n := (719162 * 86400 + t) / 86400) (by omega) (by omega), Int.tdiv_eq_ediv_of_nonneg (by omega)]
  rw [w64 (n := (719162 * 86400 + t) / 86400 / 366) (by omega) (by omega), w64 (by omega) (by omega)]
  refine when_Date_l0 ((719162 * 86400 + t) / 86400) _ (by omega) (by omega) (by omega) (by omega) (by omega) k _ (by omega) (by omega) (by omega) ?_
  unfold aheadI
  omega
theorem when_Date_no {t : Int} (hT : ¬ IsTime t) (k : Nat) : when_Date.f k t = some (0, 0, 0, 0, 0, 0) := by
  have hI : when_Is.f t = some false := by
    unfold when_Is.f
    unfold IsTime at hT
    split <;> simp <;> omega
  unfold when_Date.f
  rw [hI]
  simp
theorem eq_item (w : World) (d : Nat) (xs ys : Array Value) (x y : Int) (i : Nat) (is : List Nat) (hx : xs[i]? = some (.int .i64 x)) (hy : ys[i]? = some (.int .i64 y)) :
    (Op.eqItems (d + 1) 3 1 xs ys (i :: is)).run Try.prog w = if (x == y) = true then (Op.eqItems (d + 1) 3 1 xs ys is).run Try.prog w else .ok false w := by
  have hp : ∀ (zs : Array Value) (z : Int), zs[i]? = some (.int .i64 z) → (part 3 zs (i * 1)).run Try.prog w = .ok (.int .i64 z) w := by
    intro zs z hz
    rw [Nat.mul_one]
    exact run_part_plain w (P := Try.prog) (e := 3) (by kernel_rfl) hz
  simp only [Op.eqItems, Sem.run_bind, hp xs x hx, hp ys y hy, Result.andThen_ok, run_equalIn_int (P := Try.prog) w d 3 .i64 .i64 x y Try.underlying3]
  cases h : (x == y) <;> simp
theorem eq_arr (w : World) (x0 x1 x2 x3 x4 x5 y0 y1 y2 y3 y4 y5 : Int) :
    (Op.equalIn 10000 33 (.agg #[.int .i64 x0, .int .i64 x1, .int .i64 x2, .int .i64 x3, .int .i64 x4, .int .i64 x5]) (.agg #[.int .i64 y0, .int .i64 y1, .int .i64 y2, .int .i64 y3, .int .i64 y4, .int .i64 y5])).run Try.prog w
      = .ok (x0 == y0 && (x1 == y1 && (x2 == y2 && (x3 == y3 && (x4 == y4 && x5 == y5))))) w := by
  obtain ⟨i0, hi, hz0, hz1, hz2⟩ := info_parts info3
  have hc : Try.prog.cellsOf 3 = 1 := by kernel_rfl
  rw [show (10000 : Nat) = 9998 + 1 + 1 from rfl, run_equalIn_array w (9998 + 1) _ _ Try.underlying33 hi, hc]
  rw [show List.range 6 = [0, 1, 2, 3, 4, 5] from rfl, eq_item w _ _ _ x0 y0 0 _ rfl rfl, eq_item w _ _ _ x1 y1 1 _ rfl rfl, eq_item w _ _ _ x2 y2 2 _ rfl rfl, eq_item w _ _ _ x3 y3 3 _ rfl rfl, eq_item w _ _ _ x4 y4 4 _ rfl rfl, eq_item w _ _ _ x5 y5 5 _ rfl rfl]
  have hn : (Op.eqItems (9998 + 1) 3 1 #[.int .i64 x0, .int .i64 x1, .int .i64 x2, .int .i64 x3, .int .i64 x4, .int .i64 x5] #[.int .i64 y0, .int .i64 y1, .int .i64 y2, .int .i64 y3, .int .i64 y4, .int .i64 y5] []).run Try.prog w = .ok true w := by simp [Op.eqItems]
  rw [hn]
  cases (x0 == y0) <;> cases (x1 == y1) <;> cases (x2 == y2) <;> cases (x3 == y3) <;> cases (x4 == y4) <;> cases (x5 == y5) <;> rfl
def apostillelaw14_date.f (a0 : Int) : Option Bool := some true

set_option maxHeartbeats 8000000 in
set_option maxRecDepth 100000 in
theorem apostillelaw14_date.calls (a0 : Int) (r : Bool) (w : World) (h : apostillelaw14_date.f a0 = some r) :
    Calls Try.prog 13 #[.int .i64 a0] w fun e w' => e = .returned (.bool r) ∧ Below w.heap.size w w' := by
  injection h with h
  subst h
  by_cases hT : IsTime a0
  · obtain ⟨y, m, d, h, i, s, hf, D⟩ := when_Date_yes hT 10020 (Nat.le_refl _)
    go_enter Try.func13, Try.ntmps13
    go_wp2_with fail
    refine (when_Date.calls 10020 a0 y m d h i s _ hf).mono ?_
    rintro e w1 ⟨rfl, hd1⟩
    have hb1 := hd1.below
    clear hd1 hf
    go_wp2_with fail
    refine (ref_Date_yes a0 _ hT).mono ?_
    rintro e w2 ⟨y', m', d', h', i', s', D', rfl, hb2⟩
    obtain ⟨rfl, rfl, rfl, rfl, rfl, rfl⟩ := D.unique D'
    have HB := Aside0.mk (below_then hb1 hb1.size hb2)
    clear hb1 hb2 D D' hT
    have hE := eq_arr w2 y m d h i s y m d h i s
    go_wp2
    go_ret
    exact ⟨rfl, HB.out⟩
  · have hf := when_Date_no hT 1
    go_enter Try.func13, Try.ntmps13
    go_wp2_with fail
    refine (when_Date.calls 1 a0 0 0 0 0 0 0 _ hf).mono ?_
    rintro e w1 ⟨rfl, hd1⟩
    have hb1 := hd1.below
    clear hd1 hf
    go_wp2_with fail
    refine (ref_Date_no a0 _ hT).mono ?_
    rintro e w2 ⟨rfl, hb2⟩
    have HB := Aside0.mk (below_then hb1 hb1.size hb2)
    clear hb1 hb2 hT
    have hE := eq_arr w2 0 0 0 0 0 0 0 0 0 0 0 0
    go_wp2
    go_ret
    exact ⟨rfl, HB.out⟩
end

-- NOT PRINTED: function 28 (slices_Chunk_byte_byte)

end Go.Proofs.Ytbihkbcjpodnbaa.PAll
