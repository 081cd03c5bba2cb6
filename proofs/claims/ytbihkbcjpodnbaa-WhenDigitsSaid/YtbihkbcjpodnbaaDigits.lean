/- The law of the digits of a date: for every six numbers the answer is true: the walk through the law's own code. -/
import Derived.Test.YtbihkbcjpodnbaaPAllx3
import Derived.Test.YtbihkbcjpodnbaaPAllx6
import Derived.Test.YtbihkbcjpodnbaaAgree
namespace Go.Proofs.Ytbihkbcjpodnbaa.PAll
open Go.RowKit Go.Proofs.YtbihkbcjpodnbaaW.PrintWords Go.Proofs.YtbihkbcjpodnbaaW.PrintLast Go.Proofs.YtbihkbcjpodnbaaW.PrintMore
attribute [local go_sem] max2_int min2_int max_two min_two max_three min_three max_four min_four   -- for this text's walks alone
set_option linter.unusedVariables false
set_option linter.unusedSimpArgs false
section
open Go.Shelf Go.Proofs.YtbihkbcjpodnbaaH

set_option maxHeartbeats 8000000 in
set_option maxRecDepth 100000 in
theorem digits_out (y m d h i s : Int) (hb : ¬ (0 ≤ y ∧ y ≤ 9999 ∧ 0 ≤ m ∧ m ≤ 99 ∧ 0 ≤ d ∧ d ≤ 99 ∧ 0 ≤ h ∧ h ≤ 99 ∧ 0 ≤ i ∧ i ≤ 99 ∧ 0 ≤ s ∧ s ≤ 99)) (w : World) :
    Calls Try.prog 5 #[.int .i64 y, .int .i64 m, .int .i64 d, .int .i64 h, .int .i64 i, .int .i64 s] w fun e w' => e = .returned (.bool true) ∧ Below w.heap.size w w' := by
  by_cases y0 : y < 0
  · go_enter Try.func5, Try.ntmps5
    go_wp2
    go_ret
    exact ⟨rfl, Below.refl _ _⟩
  by_cases y1 : y > 9999
  · go_enter Try.func5, Try.ntmps5
    go_wp2
    go_ret
    exact ⟨rfl, Below.refl _ _⟩
  by_cases m0 : m < 0
  · go_enter Try.func5, Try.ntmps5
    go_wp2
    go_ret
    exact ⟨rfl, Below.refl _ _⟩
  by_cases m1 : m > 99
  · go_enter Try.func5, Try.ntmps5
    go_wp2
    go_ret
    exact ⟨rfl, Below.refl _ _⟩
  by_cases d0 : d < 0
  · go_enter Try.func5, Try.ntmps5
    go_wp2
    go_ret
    exact ⟨rfl, Below.refl _ _⟩
  by_cases d1 : d > 99
  · go_enter Try.func5, Try.ntmps5
    go_wp2
    go_ret
    exact ⟨rfl, Below.refl _ _⟩
  by_cases h0 : h < 0
  · go_enter Try.func5, Try.ntmps5
    go_wp2
    go_ret
    exact ⟨rfl, Below.refl _ _⟩
  by_cases h1 : h > 99
  · go_enter Try.func5, Try.ntmps5
    go_wp2
    go_ret
    exact ⟨rfl, Below.refl _ _⟩
  by_cases i0 : i < 0
  · go_enter Try.func5, Try.ntmps5
    go_wp2
    go_ret
    exact ⟨rfl, Below.refl _ _⟩
  by_cases i1 : i > 99
  · go_enter Try.func5, Try.ntmps5
    go_wp2
    go_ret
    exact ⟨rfl, Below.refl _ _⟩
  by_cases s0 : s < 0
  · go_enter Try.func5, Try.ntmps5
    go_wp2
    go_ret
    exact ⟨rfl, Below.refl _ _⟩
  · have s1 : s > 99 := by omega
    go_enter Try.func5, Try.ntmps5
    go_wp2
    go_ret
    exact ⟨rfl, Below.refl _ _⟩

def digB (y m d h i s : Int) : List Int := [48 + y / 10 % 10, 48 + y % 10, 48 + m / 10, 48 + m % 10, 48 + d / 10, 48 + d % 10, 48 + h / 10, 48 + h % 10, 48 + i / 10, 48 + i % 10, 48 + s / 10, 48 + s % 10, 90]
theorem digB_short {t y m d h i s y' m' d' h' i' s' : Int} (D : IsDate t y' m' d' h' i' s') (hy : 1950 ≤ y ∧ y < 2050) (hm : 0 ≤ m ∧ m ≤ 99) (hd : 0 ≤ d ∧ d ≤ 99) (hh : 0 ≤ h ∧ h ≤ 99) (hi : 0 ≤ i ∧ i ≤ 99) (hs : 0 ≤ s ∧ s ≤ 99)
    (e1 : 23 = stampTag y') (e2 : digB y m d h i s = stampBody y' m' d' h' i' s') : IsDate t y m d h i s := by
  have y1 := D.y1; have y2 := D.y2; have m1 := D.m1; have m2 := D.m2; have d1 := D.d1; have d2 := D.d2; have hml := mlen_bd y' m'; have h1 := D.h1; have h2 := D.h2; have i1 := D.i1; have i2 := D.i2; have s1 := D.s1; have s2 := D.s2
  have hy' : ¬ 2050 ≤ y' := by
    intro h
    unfold stampTag at e1
    rw [if_pos h] at e1
    exact absurd e1 (by decide)
  unfold digB stampBody digsAll digs at e2
  rw [if_neg hy'] at e2
  simp only [List.nil_append, List.flatMap_cons, List.flatMap_nil, List.cons_append, List.append_nil, List.cons.injEq] at e2
  obtain ⟨a0, a1, a2, a3, a4, a5, a6, a7, a8, a9, a10, a11, -⟩ := e2
  obtain rfl : y = y' := by omega
  obtain rfl : m = m' := by omega
  obtain rfl : d = d' := by omega
  obtain rfl : h = h' := by omega
  obtain rfl : i = i' := by omega
  obtain rfl : s = s' := by omega
  exact D
theorem C_block (w : World) (g : Nat) (t : TypeId) (B : List Int) (h : w.heap[g]? = some (.cells (B.map (Value.int .u8)).toArray t (0, 0))) (hl : B.length ≤ 1000) : Kd.C (Kd.int .u8) w (some ⟨g, 0, none⟩) B.length B := by
  refine Kd.C_of_reads (d := (0 : Int)) ⟨rfl, by omega, fun hp => ⟨_, rfl, fun j hj => ?_⟩⟩
  rw [add_plain, blk_cell h j]
  simp [List.getD_eq_getElem?_getD, hj]
theorem digB_bytes {y m d h i s : Int} (hy : 0 ≤ y ∧ y ≤ 9999) (hm : 0 ≤ m ∧ m ≤ 99) (hd : 0 ≤ d ∧ d ≤ 99) (hh : 0 ≤ h ∧ h ≤ 99) (hi : 0 ≤ i ∧ i ≤ 99) (hs : 0 ≤ s ∧ s ≤ 99) : Pure.Bytes8 (digB y m d h i s) := by
  intro x hx
  unfold digB at hx
  simp only [List.mem_cons, List.not_mem_nil, or_false] at hx
  omega
theorem digB_long {t y m d h i s y' m' d' h' i' s' : Int} (D : IsDate t y' m' d' h' i' s') (hy : 0 ≤ y ∧ y ≤ 9999) (hm : 0 ≤ m ∧ m ≤ 99) (hd : 0 ≤ d ∧ d ≤ 99) (hh : 0 ≤ h ∧ h ≤ 99) (hi : 0 ≤ i ∧ i ≤ 99) (hs : 0 ≤ s ∧ s ≤ 99)
    (e1 : 24 = stampTag y') (e2 : [48 + y / 1000, 48 + y / 100 % 10] ++ digB y m d h i s = stampBody y' m' d' h' i' s') : IsDate t y m d h i s := by
  have y1 := D.y1; have y2 := D.y2; have m1 := D.m1; have m2 := D.m2; have d1 := D.d1; have d2 := D.d2; have hml := mlen_bd y' m'; have h1 := D.h1; have h2 := D.h2; have i1 := D.i1; have i2 := D.i2; have s1 := D.s1; have s2 := D.s2
  have hy' : 2050 ≤ y' := by
    apply Classical.byContradiction
    intro h
    unfold stampTag at e1
    rw [if_neg h] at e1
    exact absurd e1 (by decide)
  unfold digB stampBody digsAll digs at e2
  rw [if_pos hy'] at e2
  simp only [List.nil_append, List.flatMap_cons, List.flatMap_nil, List.cons_append, List.append_nil, List.cons.injEq] at e2
  obtain ⟨b0, b1, a0, a1, a2, a3, a4, a5, a6, a7, a8, a9, a10, a11, -⟩ := e2
  obtain rfl : y = y' := by omega
  obtain rfl : m = m' := by omega
  obtain rfl : d = d' := by omega
  obtain rfl : h = h' := by omega
  obtain rfl : i = i' := by omega
  obtain rfl : s = s' := by omega
  exact D
theorem digB2_bytes {y m d h i s : Int} (hy : 0 ≤ y ∧ y ≤ 9999) (hm : 0 ≤ m ∧ m ≤ 99) (hd : 0 ≤ d ∧ d ≤ 99) (hh : 0 ≤ h ∧ h ≤ 99) (hi : 0 ≤ i ∧ i ≤ 99) (hs : 0 ≤ s ∧ s ≤ 99) : Pure.Bytes8 ([48 + y / 1000, 48 + y / 100 % 10] ++ digB y m d h i s) := by
  intro x hx
  rcases List.mem_append.1 hx with hx | hx
  · simp only [List.mem_cons, List.not_mem_nil, or_false] at hx
    omega
  · exact digB_bytes hy hm hd hh hi hs x hx
set_option maxHeartbeats 8000000 in
set_option maxRecDepth 100000 in
theorem digits_in (y m d h i s : Int) (y0 : ¬ y < 0) (y1 : ¬ y > 9999) (m0 : ¬ m < 0) (m1 : ¬ m > 99) (d0 : ¬ d < 0) (d1 : ¬ d > 99) (h0 : ¬ h < 0) (h1 : ¬ h > 99) (i0 : ¬ i < 0) (i1 : ¬ i > 99) (s0 : ¬ s < 0) (s1 : ¬ s > 99) (w : World) :
    Calls Try.prog 5 #[.int .i64 y, .int .i64 m, .int .i64 d, .int .i64 h, .int .i64 i, .int .i64 s] w fun e w' => e = .returned (.bool true) ∧ Below w.heap.size w w' := by
  by_cases hs : 1950 ≤ y ∧ y < 2050
  · obtain ⟨hs1, hs2⟩ := hs
    have hs3 : ¬ y < 1950 := by omega
    have hs4 : ¬ y ≥ 2050 := by omega
    go_enter Try.func5, Try.ntmps5
    go_wp2_with fail
    obtain ⟨K, hK⟩ : ∃ K : Nat, 10060 ≤ K := ⟨10060, Nat.le_refl _⟩
    obtain ⟨t, ok, hg1, hg2⟩ := Pure.gets_agree K (by omega) 23 (digB y m d h i s) [] (by unfold digB; simp) (digB_bytes ⟨by omega, by omega⟩ ⟨by omega, by omega⟩ ⟨by omega, by omega⟩ ⟨by omega, by omega⟩ ⟨by omega, by omega⟩ ⟨by omega, by omega⟩)
    have hD : ok = true → IsDate t y m d h i s := by
      intro hok
      have := Pure.refGetV_any 23 (digB y m d h i s) ([] : List S25).length
      rw [hg2, hok] at this
      rcases this with h | ⟨_, hF, _⟩
      · simp at h
      · obtain ⟨y', m', d', h', i', s', D, e1, e2⟩ := hF.stamp (digB_bytes ⟨by omega, by omega⟩ ⟨by omega, by omega⟩ ⟨by omega, by omega⟩ ⟨by omega, by omega⟩ ⟨by omega, by omega⟩ ⟨by omega, by omega⟩)
        exact digB_short D ⟨hs1, hs2⟩ ⟨by omega, by omega⟩ ⟨by omega, by omega⟩ ⟨by omega, by omega⟩ ⟨by omega, by omega⟩ ⟨by omega, by omega⟩ e1 e2
    have HD := Aside0.mk hD
    have HG2 := Aside0.mk hg2
    have HB0 : Below w.heap.size w ((w.alloc (Obj.cells ((digB y m d h i s).map (Value.int .u8)).toArray 5)).alloc (Obj.cells #[.int .u8 23, .slice (some ⟨w.heap.size, 0, none⟩) 13 13, .slice none 0 0] 25)) := ((Below.refl _ w).alloc (Nat.le_refl _) _).alloc (by simp) _
    have hb0 : ((w.alloc (Obj.cells ((digB y m d h i s).map (Value.int .u8)).toArray 5)).alloc (Obj.cells #[.int .u8 23, .slice (some ⟨w.heap.size, 0, none⟩) 13 13, .slice none 0 0] 25)).heap[w.heap.size]? = some (.cells ((digB y m d h i s).map (Value.int .u8)).toArray 5 (0, 0)) := (Below.heap_alloc _ _ _ (by simp)).trans (World.alloc_heap_new w _)
    have hn0 : ((w.alloc (Obj.cells ((digB y m d h i s).map (Value.int .u8)).toArray 5)).alloc (Obj.cells #[.int .u8 23, .slice (some ⟨w.heap.size, 0, none⟩) 13 13, .slice none 0 0] 25)).heap[w.heap.size + 1]? = some (.cells #[.int .u8 23, .slice (some ⟨w.heap.size, 0, none⟩) 13 13, .slice none 0 0] 25 (0, 0)) := by
      have := World.alloc_heap_new (w.alloc (Obj.cells ((digB y m d h i s).map (Value.int .u8)).toArray 5)) (Obj.cells #[.int .u8 23, .slice (some ⟨w.heap.size, 0, none⟩) 13 13, .slice none 0 0] 25)
      rwa [World.size_alloc] at this
    have hC0 := C_block _ _ _ (digB y m d h i s) hb0 (by unfold digB; simp)
    have hlen : (digB y m d h i s).length = 13 := rfl
    refine (when_Get.calls K 23 (some ⟨w.heap.size, 0, none⟩) 13 (digB y m d h i s) none 0 [] t ok _ hC0 (by rw [hlen]; exact Nat.le_refl _) (Kd.R_reads' (Kd.R_nil k25 25 _ w.heap.size (fun _ => True))).2.2 (Nat.le_refl _) hg1).mono ?_
    rintro e w1 ⟨rfl, hb1⟩
    have HB1 := Aside0.mk (below_then HB0 HB0.size hb1)
    have HC1 := Aside0.mk (Kd.C_below hC0 hb1)
    have hn1 := blk_below hn0 hb1
    have q0 := (blk_cell hn1 0).trans rfl
    have q1 := (blk_cell hn1 1).trans rfl
    have q2 := (blk_cell hn1 2).trans rfl
    clear HB0 hb0 hn0 hC0 hg1 hg2 hD hb1
    go_wp2_with fail
    refine (apostilleref14_Get_calls 23 (some ⟨w.heap.size, 0, none⟩) none 13 0 0 (digB y m d h i s) _ HC1.out (by rw [hlen]; exact Nat.le_refl _)).mono ?_
    rintro e w2 ⟨rfl, hb2⟩
    rw [show refGetV 23 (digB y m d h i s) 0 = (t, ok) from HG2.out]
    have HB2 := Aside0.mk (below_then HB1.out HB1.out.size hb2)
    clear hb2 q0 q1 q2 hn1
    cases ok with
    | false =>
      go_wp2
      go_ret
      exact ⟨rfl, HB2.out⟩
    | true =>
      have D := HD.out rfl
      have HDD := Aside0.mk D
      clear D
      go_wp2_with fail
      refine (ref_Date_yes t _ HDD.out.time).mono ?_
      rintro e w3 ⟨y', m', d', h', i', s', D', rfl, hb3⟩
      obtain ⟨rfl, rfl, rfl, rfl, rfl, rfl⟩ := HDD.out.unique D'
      have HB3 := Aside0.mk (below_then HB2.out HB2.out.size hb3)
      clear D' hb3
      have hE := eq_arr w3 y m d h i s y m d h i s
      go_wp2_with fail
      refine (apostillelaw14_known.calls K true _ (Pure.known_true K (by omega))).mono ?_
      rintro e w4 ⟨rfl, hb4⟩
      have HB4 := Aside0.mk (below_then HB3.out HB3.out.size hb4)
      go_wp2
      go_ret
      exact ⟨rfl, HB4.out⟩
  · have hB2 := hs
    obtain ⟨K, hK⟩ : ∃ K : Nat, 10060 ≤ K := ⟨10060, Nat.le_refl _⟩
    obtain ⟨t, ok, hg1, hg2⟩ := Pure.gets_agree K (by omega) 24 ([48 + y / 1000, 48 + y / 100 % 10] ++ digB y m d h i s) [] (by unfold digB; simp) (digB2_bytes ⟨by omega, by omega⟩ ⟨by omega, by omega⟩ ⟨by omega, by omega⟩ ⟨by omega, by omega⟩ ⟨by omega, by omega⟩ ⟨by omega, by omega⟩)
    have hD : ok = true → IsDate t y m d h i s := by
      intro hok
      have := Pure.refGetV_any 24 ([48 + y / 1000, 48 + y / 100 % 10] ++ digB y m d h i s) ([] : List S25).length
      rw [hg2, hok] at this
      rcases this with h | ⟨_, hF, _⟩
      · simp at h
      · obtain ⟨y', m', d', h', i', s', D, e1, e2⟩ := hF.stamp (digB2_bytes ⟨by omega, by omega⟩ ⟨by omega, by omega⟩ ⟨by omega, by omega⟩ ⟨by omega, by omega⟩ ⟨by omega, by omega⟩ ⟨by omega, by omega⟩)
        exact digB_long D ⟨by omega, by omega⟩ ⟨by omega, by omega⟩ ⟨by omega, by omega⟩ ⟨by omega, by omega⟩ ⟨by omega, by omega⟩ ⟨by omega, by omega⟩ e1 e2
    have HD := Aside0.mk hD
    have HG1 := Aside0.mk hg1
    have HG2 := Aside0.mk hg2
    have HB0 : Below w.heap.size w (((w.alloc (Obj.cells ((digB y m d h i s).map (Value.int .u8)).toArray 5)).alloc (Obj.cells #[.int .u8 23, .slice (some ⟨w.heap.size, 0, none⟩) 13 13, .slice none 0 0] 25)).alloc (Obj.cells #[.int .u8 (48 + y / 1000), .int .u8 (48 + y / 100 % 10)] 5)) := (((Below.refl _ w).alloc (Nat.le_refl _) _).alloc (by simp) _).alloc (by simp; omega) _
    have hs2 : ((w.alloc (Obj.cells ((digB y m d h i s).map (Value.int .u8)).toArray 5)).alloc (Obj.cells #[.int .u8 23, .slice (some ⟨w.heap.size, 0, none⟩) 13 13, .slice none 0 0] 25)).heap.size = w.heap.size + 2 := by rw [World.size_alloc, World.size_alloc]
    have hb0 : (((w.alloc (Obj.cells ((digB y m d h i s).map (Value.int .u8)).toArray 5)).alloc (Obj.cells #[.int .u8 23, .slice (some ⟨w.heap.size, 0, none⟩) 13 13, .slice none 0 0] 25)).alloc (Obj.cells #[.int .u8 (48 + y / 1000), .int .u8 (48 + y / 100 % 10)] 5)).heap[w.heap.size]? = some (.cells ((digB y m d h i s).map (Value.int .u8)).toArray 5 (0, 0)) := (Below.heap_alloc _ _ _ (by rw [hs2]; omega)).trans ((Below.heap_alloc _ _ _ (by simp)).trans (World.alloc_heap_new w _))
    have hn0 : (((w.alloc (Obj.cells ((digB y m d h i s).map (Value.int .u8)).toArray 5)).alloc (Obj.cells #[.int .u8 23, .slice (some ⟨w.heap.size, 0, none⟩) 13 13, .slice none 0 0] 25)).alloc (Obj.cells #[.int .u8 (48 + y / 1000), .int .u8 (48 + y / 100 % 10)] 5)).heap[w.heap.size + 1]? = some (.cells #[.int .u8 23, .slice (some ⟨w.heap.size, 0, none⟩) 13 13, .slice none 0 0] 25 (0, 0)) := by
      refine (Below.heap_alloc _ _ _ (by rw [hs2]; omega)).trans ?_
      have := World.alloc_heap_new (w.alloc (Obj.cells ((digB y m d h i s).map (Value.int .u8)).toArray 5)) (Obj.cells #[.int .u8 23, .slice (some ⟨w.heap.size, 0, none⟩) 13 13, .slice none 0 0] 25)
      rwa [World.size_alloc] at this
    have ht0 : (((w.alloc (Obj.cells ((digB y m d h i s).map (Value.int .u8)).toArray 5)).alloc (Obj.cells #[.int .u8 23, .slice (some ⟨w.heap.size, 0, none⟩) 13 13, .slice none 0 0] 25)).alloc (Obj.cells #[.int .u8 (48 + y / 1000), .int .u8 (48 + y / 100 % 10)] 5)).heap[w.heap.size + 2]? = some (.cells #[.int .u8 (48 + y / 1000), .int .u8 (48 + y / 100 % 10)] 5 (0, 0)) := by
      have := World.alloc_heap_new ((w.alloc (Obj.cells ((digB y m d h i s).map (Value.int .u8)).toArray 5)).alloc (Obj.cells #[.int .u8 23, .slice (some ⟨w.heap.size, 0, none⟩) 13 13, .slice none 0 0] 25)) (Obj.cells #[.int .u8 (48 + y / 1000), .int .u8 (48 + y / 100 % 10)] 5)
      rwa [hs2] at this
    have hlen : (digB y m d h i s).length = 13 := rfl
    have hC0 := C_block _ _ _ (digB y m d h i s) hb0 (by unfold digB; simp)
    rw [hlen] at hC0
    have hO0 : Kd.R (Kd.int .u8) 5 (((w.alloc (Obj.cells ((digB y m d h i s).map (Value.int .u8)).toArray 5)).alloc (Obj.cells #[.int .u8 23, .slice (some ⟨w.heap.size, 0, none⟩) 13 13, .slice none 0 0] 25)).alloc (Obj.cells #[.int .u8 (48 + y / 1000), .int .u8 (48 + y / 100 % 10)] 5)) w.heap.size (fun _ => True) (.slice (some ⟨w.heap.size + 2, 0, none⟩) 2 2) [48 + y / 1000, 48 + y / 100 % 10] :=
      Kd.R_of_own ⟨rfl, .inr ⟨w.heap.size + 2, 2, _, rfl, by omega, ht0, Nat.le_refl 2, by decide, rfl, rfl⟩⟩ (fun _ _ => trivial)
    have HBW := Aside0.mk HB0
    have HNW := Aside0.mk hn0
    have HCW := Aside0.mk hC0
    have HOW := Aside0.mk hO0
    clear HB0 hb0 hn0 ht0 hC0 hO0 hs2 hg1 hg2 hD
    have hyy : y < 1950 ∨ y ≥ 2050 := by omega
    clear hs hB2
    rcases hyy with hyy | hyy
    case' inr => have hyz : ¬ y < 1950 := by omega
    all_goals
      go_enter Try.func5, Try.ntmps5
      go_wp2_with (at_builtin; refine Kd.R_append_rows (Kd.int .u8) (w0 := w) w.heap.size rfl (.tmp 132) (.tmp 133) 22 5 (.int .u8 0) 1 rfl Try.underlying22 info5 rfl (by decide) (by omega) (.slice (some ⟨w.heap.size + 2, 0, none⟩) 2 2) [48 + y / 1000, 48 + y / 100 % 10] (digB y m d h i s) _ _ _ (fun _ => True) (fun _ => False) rfl rfl ?aO ?aR (fun _ _ h => h) (fun _ h => h.elim) ?aF ?aB ?aS ?aL ?_; (case aR => exact HCW.out); (case aB => exact HBW.out); (case aF => exact (fun _ _ => trivial)); (case aO => exact HOW.out); (case aS => exact HBW.out.size); (case aL => simp); intro v5 w41 ho hb hg hat; have HN5 := Aside0.mk (blk_grown HNW.out hg (Kd.R_ne HOW.out HNW.out (by decide))); have HO5 := Aside0.mk ho; have HW5 := Aside0.mk hb; clear ho hb hg hat HNW HOW HCW HBW; obtain ⟨A5, c5, e5⟩ := Kd.R_slice HO5.out; subst e5; have n0 := (blk_cell HN5.out 0).trans rfl; have n1 := (blk_cell HN5.out 1).trans rfl; have n2 := (blk_cell HN5.out 2).trans rfl; have f0 := blk_frozen HN5.out 0; have f1 := blk_frozen HN5.out 1; have f2 := blk_frozen HN5.out 2)
      have hr5 := Kd.R_reads' HO5.out
      have HCC := Aside0.mk hr5.2.1
      clear hr5
      have hN6 := blk_put (cs := #[.int .u8 24, .slice A5 ([48 + y / 1000, 48 + y / 100 % 10] ++ digB y m d h i s).length c5, .slice none 0 0]) (blk_put (cs := #[.int .u8 24, .slice (some ⟨w.heap.size, 0, none⟩) 13 13, .slice none 0 0]) (blk_put (cs := #[.int .u8 23, .slice (some ⟨w.heap.size, 0, none⟩) 13 13, .slice none 0 0]) HN5.out 0 (.int .u8 24) rfl) 1 (.slice A5 ([48 + y / 1000, 48 + y / 100 % 10] ++ digB y m d h i s).length c5) rfl) 2 (.slice none 0 0) rfl
      have hO6 := Kd.R_far (p := ⟨w.heap.size + 1, 2, none⟩) (Kd.R_far (p := ⟨w.heap.size + 1, 1, none⟩) (Kd.R_far (p := ⟨w.heap.size + 1, 0, none⟩) (Kd.R_types HO5.out HN5.out (by decide)) (fun _ hk => hk.2) (.int .u8 24)) (fun _ hk => hk.2) (.slice A5 ([48 + y / 1000, 48 + y / 100 % 10] ++ digB y m d h i s).length c5)) (fun _ hk => hk.2) (.slice none 0 0)
      have hB6 := ((HW5.out.setCell (p := ⟨w.heap.size + 1, 0, none⟩) (by simp) (.int .u8 24)).setCell (p := ⟨w.heap.size + 1, 1, none⟩) (by simp) (.slice A5 ([48 + y / 1000, 48 + y / 100 % 10] ++ digB y m d h i s).length c5)).setCell (p := ⟨w.heap.size + 1, 2, none⟩) (by simp) (.slice none 0 0)
      have hC6 := (Kd.R_reads' hO6).2.2
      clear hO6 n0 n1 n2 f0 f1 f2 HN5 HO5 HW5
      refine (when_Get.calls K 24 A5 c5 ([48 + y / 1000, 48 + y / 100 % 10] ++ digB y m d h i s) none 0 [] t ok _ hC6 HCC.out (Kd.R_reads' (Kd.R_nil k25 25 _ w.heap.size (fun _ => True))).2.2 (Nat.le_refl _) HG1.out).mono ?_
      rintro e w1 ⟨rfl, hb1⟩
      have HB1 := Aside0.mk (below_then hB6 hB6.size hb1)
      have HC1 := Aside0.mk (Kd.C_below hC6 hb1)
      have hn1 := blk_below hN6 hb1
      have q0 := (blk_cell hn1 0).trans rfl
      have q1 := (blk_cell hn1 1).trans rfl
      have q2 := (blk_cell hn1 2).trans rfl
      clear hN6 hB6 hC6 hb1
      go_wp2_with fail
      refine (apostilleref14_Get_calls 24 A5 none c5 0 0 ([48 + y / 1000, 48 + y / 100 % 10] ++ digB y m d h i s) _ HC1.out HCC.out).mono ?_
      rintro e w2 ⟨rfl, hb2⟩
      rw [show refGetV 24 ([48 + y / 1000, 48 + y / 100 % 10] ++ digB y m d h i s) 0 = (t, ok) from HG2.out]
      have HB2 := Aside0.mk (below_then HB1.out HB1.out.size hb2)
      clear hb2 q0 q1 q2 hn1
      cases ok with
      | false =>
        go_wp2
        go_ret
        exact ⟨rfl, HB2.out⟩
      | true =>
        have D := HD.out rfl
        have HDD := Aside0.mk D
        clear D
        go_wp2_with fail
        refine (ref_Date_yes t _ HDD.out.time).mono ?_
        rintro e w3 ⟨y', m', d', h', i', s', D', rfl, hb3⟩
        obtain ⟨rfl, rfl, rfl, rfl, rfl, rfl⟩ := HDD.out.unique D'
        have HB3 := Aside0.mk (below_then HB2.out HB2.out.size hb3)
        clear D' hb3
        have hE := eq_arr w3 y m d h i s y m d h i s
        go_wp2_with fail
        refine (apostillelaw14_known.calls K true _ (Pure.known_true K (by omega))).mono ?_
        rintro e w4 ⟨rfl, hb4⟩
        have HB4 := Aside0.mk (below_then HB3.out HB3.out.size hb4)
        go_wp2
        go_ret
        exact ⟨rfl, HB4.out⟩
theorem digits_all (y m d h i s : Int) (w : World) :
    Calls Try.prog 5 #[.int .i64 y, .int .i64 m, .int .i64 d, .int .i64 h, .int .i64 i, .int .i64 s] w fun e w' => e = .returned (.bool true) ∧ Below w.heap.size w w' := by
  by_cases hb : 0 ≤ y ∧ y ≤ 9999 ∧ 0 ≤ m ∧ m ≤ 99 ∧ 0 ≤ d ∧ d ≤ 99 ∧ 0 ≤ h ∧ h ≤ 99 ∧ 0 ≤ i ∧ i ≤ 99 ∧ 0 ≤ s ∧ s ≤ 99
  · exact digits_in y m d h i s (by omega) (by omega) (by omega) (by omega) (by omega) (by omega) (by omega) (by omega) (by omega) (by omega) (by omega) (by omega) w
  · exact digits_out y m d h i s hb w
end
end Go.Proofs.Ytbihkbcjpodnbaa.PAll
