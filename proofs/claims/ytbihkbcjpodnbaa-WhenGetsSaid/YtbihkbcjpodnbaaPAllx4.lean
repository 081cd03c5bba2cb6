-- Made by hprint.py (a session's script over the kit's print.py, hand-written texts among the printed ones). Lean checks it.
import Derived.Test.YtbihkbcjpodnbaaPAllx0
import Derived.Test.YtbihkbcjpodnbaaPAllx1
namespace Go.Proofs.Ytbihkbcjpodnbaa.PAll
open Go.RowKit Go.Proofs.YtbihkbcjpodnbaaW.PrintWords Go.Proofs.YtbihkbcjpodnbaaW.PrintLast Go.Proofs.YtbihkbcjpodnbaaW.PrintMore
attribute [local go_sem] max2_int min2_int max_two min_two max_three min_three max_four min_four   -- for this text's walks alone
set_option linter.unusedVariables false
set_option linter.unusedSimpArgs false

/-! ### when_numbers: function 21 (by hand) -/
section
open Go.Shelf Go.Proofs.YtbihkbcjpodnbaaH
attribute [local go_sem] Oper.semAt_some
/-- What a round of the loop over the chunks keeps: the two boxes that the iterator reads. -/
def KeepTwo (b c : Nat) (W W' : World) : Prop := W'.heap[b]? = W.heap[b]? ∧ W'.heap[c]? = W.heap[c]?
theorem KeepTwo.trans {b c : Nat} {A B C : World} (h : KeepTwo b c A B) (k : KeepTwo b c B C) : KeepTwo b c A C := ⟨k.1.trans h.1, k.2.trans h.2⟩
theorem KeepTwo.putObj {b c n : Nat} (hb : b < n) (hc : c < n) (W : World) (l : Nat) (o' : Obj) (hl : n ≤ l) : KeepTwo b c W (W.putObj l o') :=
  ⟨World.putObj_heap_other (by omega), World.putObj_heap_other (by omega)⟩
theorem finRange_take_succ (m k : Nat) (h : k < m) : (List.finRange m).take (k + 1) = (List.finRange m).take k ++ [⟨k, h⟩] := by
  rw [List.take_succ_eq_append_getElem (by simpa using h)]; simp

set_option maxRecDepth 100000 in
set_option maxHeartbeats 2000000 in
theorem chunk1_in (n : Nat) (l Bs Bn cap m : Nat) (A : Option Addr) (ad : Addr) (hA : 0 < m → A = some ad) (hm : 2 * m ≤ cap) (hcap : m ≤ 17592186044416) (J Jx : List (Fin m) → World → Prop)
    (hY : ∀ pre (x : Fin m) W, J pre W → pre.length < m → YieldAt Fence.wide (n - 1) Try.prog l #[.slice (some (ad.add (2 * x.1))) 2 2] W fun e W' =>
      (e = .returned (.bool true) ∧ J (pre ++ [x]) W' ∧ KeepTwo Bs Bn W W') ∨ (e = .returned (.bool false) ∧ Jx (pre ++ [x]) W'))
    (W : World) (hBs : Boxed W Bs 22 (.slice A (2 * m) cap)) (hBn : Boxed W Bn 3 (.int .i64 2)) (h0 : J [] W)
    (hJd : ∀ pre W k, J pre W → J pre (W.drewN k)) :
    CallsIn Fence.wide n Try.prog 30 #[.func (.yield l) #[] #[], .pointer (some ⟨Bs, 0, none⟩), .pointer (some ⟨Bn, 0, none⟩)] W fun e W' => (∃ v, e = .returned v) ∧
      ((∃ ys, ys = List.finRange m ∧ J ys W') ∨ (∃ pre, (∃ k, k ≤ m ∧ pre = (List.finRange m).take k) ∧ Jx pre W')) := by
  refine callsIn_of_wp Try.func30 rfl trivial ?_ rfl
  simp only [Try.ntmps30, List.size_toArray, List.length_cons, List.length_nil, Nat.reduceAdd, Nat.reduceSub, Array.replicate_succ, Array.replicate_zero, List.push_toArray, List.append_toArray, List.nil_append, List.cons_append]
  have hBs' := hBs.cell
  have hBn' := hBn.cell
  gi_wp2
  clear hBs' hBn'
  gi_loopw [4] (fun i wr => ∃ k : Nat, k ≤ m ∧ i = .int .i64 (2 * k : Int) ∧ J ((List.finRange m).take k) wr ∧ KeepTwo Bs Bn W wr)
    (fun i _ => 2 * m - (intOf i).toNat)
  case atStart => exact ⟨0, Nat.zero_le _, rfl, h0, rfl, rfl⟩
  case round =>
    obtain ⟨k, hk, rfl, hJs, hnx⟩ := hrel
    have hcs : wr.cell? ⟨Bs, 0, none⟩ = some (.slice A (2 * m) cap) := Boxed.cell (hnx.1.trans hBs)
    have hcn : wr.cell? ⟨Bn, 0, none⟩ = some (.int .i64 2) := Boxed.cell (hnx.2.trans hBn)
    by_cases hlt : k < m
    · obtain rfl : A = some ad := hA (by omega)
      clear hA
      have hmin : (2 : Int) ≤ ↑(2 * m - 2 * k) := by omega
      have hne : ¬ cap = 2 * k := by omega
      have hY1 := fun nq => hY ((List.finRange m).take k) ⟨k, hlt⟩ (wr.drewN nq) (hJd _ _ _ hJs) (by rw [List.length_take, List.length_finRange]; omega)
      clear hY
      gi_wp2
      gi_big_quiet_th (fail)
      obtain ⟨fn, tmps, assign, body, hy, hR⟩ := hY1 nq
      gi_wp2
      refine ⟨fun h => (by cases h), hR.mono ?_⟩
      rintro e W3 (⟨rfl, hJ3, hk3⟩ | ⟨rfl, hJx3⟩)
      · have hcn3 : W3.cell? ⟨Bn, 0, none⟩ = some (.int .i64 2) := Boxed.cell (hk3.2.trans (hnx.2.trans hBn))
        gi_wp2
        go_roundw
        case rel => exact ⟨k + 1, by omega, by go_num, by rw [finRange_take_succ m k hlt]; exact hJ3, hnx.trans hk3⟩
        case measure => simp [intOf]; omega
      · gi_wp2
        refine bodyPost_ret (results_none rfl _ _ _) rfl ?_
        exact ⟨⟨_, rfl⟩, .inr ⟨_, ⟨k + 1, by omega, (finRange_take_succ m k hlt).symm⟩, hJx3⟩⟩
    · obtain rfl : k = m := by omega
      gi_wp2
      go_end0
      exact ⟨⟨_, rfl⟩, .inl ⟨_, by rw [List.take_of_length_le (by simp)], hJs⟩⟩
theorem chunk_in (n : Nat) (A : Option Addr) (len cap : Nat) (w : World) :
    CallsIn Fence.wide n Try.prog 28 #[.slice A len cap, .int .i64 2] w fun e w' => e = .returned (.func (.func 30) #[] #[.pointer (some ⟨w.heap.size, 0, none⟩), .pointer (some ⟨w.heap.size + 1, 0, none⟩)]) ∧ w' = (w.alloc (.cells #[.slice A len cap] 22)).alloc (.cells #[.int .i64 2] 3) := by
  refine callsIn_of_wp Try.func28 rfl trivial ?_ rfl
  simp only [Try.ntmps28, List.size_toArray, List.length_cons, List.length_nil, Nat.reduceAdd, Nat.reduceSub, Array.replicate_succ, Array.replicate_zero, List.push_toArray, List.append_toArray, List.nil_append, List.cons_append]
  gi_wp2
  go_ret
  exact ⟨rfl, rfl⟩

theorem chunk_stops (n : Nat) (Bs Bn cap m : Nat) (A : Option Addr) (ad : Addr) (hA : 0 < m → A = some ad) (hm : 2 * m ≤ cap) (hcap : m ≤ 17592186044416) (w : World)
    (hBs : Boxed w Bs 22 (.slice A (2 * m) cap)) (hBn : Boxed w Bn 3 (.int .i64 2)) :
    SeqStopsK Fence.wide n Try.prog 30 #[.pointer (some ⟨Bs, 0, none⟩), .pointer (some ⟨Bn, 0, none⟩)] (fun x : Fin m => #[Value.slice (some (ad.add (2 * x.1))) 2 2]) (KeepTwo Bs Bn) (fun ys => ys = List.finRange m) (fun pre => ∃ k, k ≤ m ∧ pre = (List.finRange m).take k) m w := fun l J Jx W hW hJ hJx hY h0 => by
  refine chunk1_in n l Bs Bn cap m A ad hA hm hcap J Jx hY W ((hW.block Bs hBs.lt).trans hBs) ((hW.block Bn hBn.lt).trans hBn) h0 ?_
  intro pre W1 k h
  refine hJ pre W1 _ none h ?_ (fun r e => by cases e)
  exact ⟨rfl, rfl, rfl, Nat.le_refl _, fun _ _ _ => rfl⟩

def numDig (x : Int) : Bool := decide (48 ≤ x) && decide (x ≤ 57)
def numOk (l : List Int) (j : Nat) : Bool := numDig (l.getD (2 * j) 0) && numDig (l.getD (2 * j + 1) 0)
def numVal (l : List Int) (j : Nat) : Int := (l.getD (2 * j) 0 - 48) * 10 + (l.getD (2 * j + 1) 0 - 48)
def when_numbers.f (l : List Int) : Option (List Int × Bool) := if 35184372088832 < l.length then none else
  if l.length % 2 = 0 ∧ (List.range (l.length / 2)).all (numOk l) = true then some ((List.range (l.length / 2)).map (numVal l), true) else some ([], false)

/-- What has been collected: chunk by chunk. -/
def numGot {m : Nat} (l : List Int) (pre : List (Fin m)) : List Int := pre.map fun x => numVal l x.1
theorem numGot_snoc {m : Nat} (l : List Int) (pre : List (Fin m)) (x : Fin m) : numGot l (pre ++ [x]) = numGot l pre ++ [numVal l x.1] := by simp [numGot]

theorem numGot_fin (m : Nat) (l : List Int) : numGot l (List.finRange m) = (List.range m).map (numVal l) := by
  apply List.ext_getElem
  · simp [numGot]
  · intro i h1 h2
    simp [numGot]
theorem numbers_yes {m : Nat} {l : List Int} (hl : l.length = 2 * m) (hb : m ≤ 17592186044416) (h : ∀ x ∈ List.finRange m, numOk l x.1 = true) : when_numbers.f l = some (numGot l (List.finRange m), true) := by
  unfold when_numbers.f
  rw [if_neg (by omega), if_pos, numGot_fin, show l.length / 2 = m from by omega]
  refine ⟨by omega, ?_⟩
  rw [show l.length / 2 = m from by omega, List.all_eq_true]
  intro j hj
  exact h ⟨j, by simpa using hj⟩ (by simp)
theorem numbers_no {m : Nat} {l : List Int} {pre : List (Fin m)} (hl : l.length = 2 * m) (hb : m ≤ 17592186044416) (h : ∃ x ∈ pre, numOk l x.1 = false) : when_numbers.f l = some ([], false) := by
  unfold when_numbers.f
  obtain ⟨x, _, hx⟩ := h
  rw [if_neg (by omega), if_neg]
  rintro ⟨_, h2⟩
  rw [show l.length / 2 = m from by omega, List.all_eq_true] at h2
  have := h2 x.1 (by simp)
  rw [hx] at this
  cases this
theorem numbers_odd {l : List Int} (hl : l.length % 2 = 1) (hb : l.length ≤ 35184372088832) : when_numbers.f l = some ([], false) := by
  unfold when_numbers.f
  rw [if_neg (by omega), if_neg]
  rintro ⟨h, _⟩
  omega

/-- What holds between two rounds of the loop over the chunks. -/
def NumI (w : World) (l0 : List Int) (n0 : Nat) {m : Nat} (pre : List (Fin m)) (W : World) : Prop :=
  ((∃ v, Boxed W (w.heap.size + 1 + 1) 38 v ∧ W.ownsRow n0 3 1 v (numGot l0 pre).length ((numGot l0 pre).map (Value.int .i64)) ∧ True) ∧ Boxed W w.heap.size 38 (.slice none 0 0) ∧ Boxed W (w.heap.size + 1) 4 (.bool false) ∧ ∀ x ∈ pre, numOk l0 x.1 = true) ∧ Below w.heap.size w W ∧ n0 ≤ W.heap.size
/-- A round has left the function. -/
def NumIx (w : World) (l0 : List Int) {m : Nat} (c : Code) (pre : List (Fin m)) (W : World) : Prop :=
  (c = .ret ∧ (∃ x ∈ pre, numOk l0 x.1 = false) ∧ Boxed W w.heap.size 38 (.slice none 0 0) ∧ Boxed W (w.heap.size + 1) 4 (.bool false)) ∧ Below w.heap.size w W

theorem num_step {m : Nat} {w W w1 : World} {l0 : List Int} {n0 k : Nat} {xs : List Value} {pre : List (Fin m)} {x : Fin m} {v v' : Value} {tmp : Obj} (hs : w.heap.size + 5 ≤ n0) (hn0 : n0 ≤ W.heap.size) (hB : Below w.heap.size w W)
    (hv : Boxed W (w.heap.size + 1 + 1) 38 v) (c0 : Boxed W w.heap.size 38 (.slice none 0 0)) (c1 : Boxed W (w.heap.size + 1) 4 (.bool false)) (hok : ∀ x ∈ pre, numOk l0 x.1 = true) (hx : numOk l0 x.1 = true)
    (hrow : W.ownsRow n0 3 1 v k xs) (hgrow : (W.alloc tmp).drew.grownBy w1 v.ownBlock)
    (hown' : w1.ownsRow n0 3 1 v' (numGot l0 (pre ++ [x])).length ((numGot l0 (pre ++ [x])).map (Value.int .i64))) :
    Boxed w1 (w.heap.size + 1 + 1) 38 v ∧ KeepsFrom n0 W (w1.setCell ⟨w.heap.size + 1 + 1, 0, none⟩ v') ∧ KeepTwo (w.heap.size + 1 + 1 + 1) (w.heap.size + 1 + 1 + 1 + 1) W (w1.setCell ⟨w.heap.size + 1 + 1, 0, none⟩ v') ∧ NumI w l0 n0 (pre ++ [x]) (w1.setCell ⟨w.heap.size + 1 + 1, 0, none⟩ v') := by
  have hlow : ∀ b, b < n0 → w1.heap[b]? = W.heap[b]? := fun b hb => by
    have h1 := hgrow.block b (by show b < (W.alloc tmp).heap.size; simp; omega) (fun e => by have := own_base hrow b e.symm; omega)
    exact h1.trans (Below.heap_alloc W tmp b (by omega))
  have hset : ∀ b, b ≠ w.heap.size + 1 + 1 → (w1.setCell ⟨w.heap.size + 1 + 1, 0, none⟩ v').heap[b]? = w1.heap[b]? := fun b hb => Below.heap_setCell w1 ⟨w.heap.size + 1 + 1, 0, none⟩ v' b hb
  have hv1 : Boxed w1 (w.heap.size + 1 + 1) 38 v := (hlow _ (by omega)).trans hv
  have hsize : W.heap.size ≤ w1.heap.size := by
    have := hgrow.size
    have h2 : (W.alloc tmp).drew.heap.size = W.heap.size + 1 := by show (W.alloc tmp).heap.size = _; simp
    omega
  have hset2 : (w1.setCell ⟨w.heap.size + 1 + 1, 0, none⟩ v').heap.size = w1.heap.size := by simp [World.setCell]
  refine ⟨hv1, ⟨by rw [hset2]; exact hsize, fun b o hb ho hc => ?_⟩, ⟨?_, ?_⟩, ⟨⟨v', hv1.set v', ?_, trivial⟩, ?_, ?_, ?_⟩, ?_, by rw [hset2]; omega⟩
  · rw [hset b (by omega)]
    have hlt : b < W.heap.size := (Array.getElem?_eq_some_iff.1 ho).1
    refine (hgrow.block b (by show b < (W.alloc tmp).heap.size; simp; omega) (fun e => ?_)).trans ((Below.heap_alloc W tmp b hlt).trans ho)
    obtain ⟨cells, hcell⟩ := own_typed hrow b e.symm
    rw [ho] at hcell
    injection hcell with hcell
    subst hcell
    simp [Obj.isCells] at hc
  · rw [hset _ (by omega)]; exact hlow _ (by omega)
  · rw [hset _ (by omega)]; exact hlow _ (by omega)
  · exact hown'.kept (grownBy_setCell' w1 _ v') (.inr (fun e => by have := own_base hown' _ e; omega))
  · exact (hset _ (by omega)).trans ((hlow _ (by omega)).trans c0)
  · exact (hset _ (by omega)).trans ((hlow _ (by omega)).trans c1)
  · intro y hy
    rcases List.mem_append.1 hy with h | h
    · exact hok y h
    · obtain rfl : y = x := by simpa using h
      exact hx
  · refine Below.setCell ?_ (p := ⟨w.heap.size + 1 + 1, 0, none⟩) (by simp; omega) v'
    refine (Below.grown ((hB.alloc hB.size tmp).drew) hgrow ?_ (fun k e => by have := own_base hrow k e; omega))
    show w.heap.size ≤ (W.alloc tmp).heap.size
    simp; omega

set_option maxRecDepth 100000 in
set_option maxHeartbeats 4000000 in
theorem numbers_in (n : Nat) (hn : 3 ≤ n) (A : Option Addr) (ad : Addr) (cap m : Nat) (l0 : List Int) (hl0 : l0.length = 2 * m) (hA : 0 < m → A = some ad) (hm : 2 * m ≤ cap) (hbig : m ≤ 17592186044416) (w : World)
    (hc : ∀ j, j < 2 * m → w.cell? (ad.add j) = some (.int .u8 (l0.getD j 0))) :
    CallsIn Fence.wide n Try.prog 21 #[.slice A (2 * m) cap] w fun e W' => ∃ (v : Value) (r1 : List Int) (r2 : Bool), e = .returned (.tuple #[v, .bool r2]) ∧ when_numbers.f l0 = some (r1, r2) ∧ W'.ownsRow w.heap.size 3 1 v r1.length (r1.map (Value.int .i64)) ∧ Below w.heap.size w W' := by
  have h1 : 1 ≤ n := by omega
  obtain ⟨i0, hi, hz0, hz1, hz2⟩ := info_parts info3
  refine callsIn_of_wp_marks Try.func21 rfl trivial ?_ rfl
  simp only [Try.ntmps21, List.size_toArray, List.length_cons, List.length_nil, Nat.reduceAdd, Nat.reduceSub, Array.replicate_succ, Array.replicate_zero, List.push_toArray, List.append_toArray, List.nil_append, List.cons_append]
  gi_wp2_with (refine ⟨trivial, ?_⟩; gi_at_call 28; refine (chunk_in _ _ _ _ _).mono ?_; rintro e w' ⟨rfl, rfl⟩)
  obtain ⟨W0, hW0⟩ : ∃ W0, (((((w.alloc (.cells #[.slice none 0 0] 38)).alloc (.cells #[.bool false] 4)).alloc (.cells #[.slice none 0 0] 38)).alloc (.cells #[.slice A (2 * m) cap] 22)).alloc (.cells #[.int .i64 2] 3)) = W0 := ⟨_, rfl⟩
  have hsz1 : W0.heap.size ≤ w.heap.size + 5 := by rw [← hW0]; simp
  have hsz2 : w.heap.size + 5 ≤ W0.heap.size := by rw [← hW0]; simp
  have hB0 : Below w.heap.size w W0 := by rw [← hW0]; exact (((((Below.refl _ w).alloc (Nat.le_refl _) _).alloc (by simp) _).alloc (by simp; omega) _).alloc (by simp; omega) _).alloc (by simp; omega) _
  have b0 : Boxed W0 w.heap.size 38 (.slice none 0 0) := by rw [← hW0]; exact ((((Boxed.new w 38 _).alloc _).alloc _).alloc _).alloc _
  have b1 : Boxed W0 (w.heap.size + 1) 4 (.bool false) := by
    have h := Boxed.new (w.alloc (.cells #[.slice none 0 0] 38)) 4 (.bool false)
    rw [World.size_alloc] at h; rw [← hW0]; exact ((h.alloc _).alloc _).alloc _
  have b2 : Boxed W0 (w.heap.size + 1 + 1) 38 (.slice none 0 0) := by
    have h := Boxed.new ((w.alloc (.cells #[.slice none 0 0] 38)).alloc (.cells #[.bool false] 4)) 38 (.slice none 0 0)
    rw [World.size_alloc, World.size_alloc] at h; rw [← hW0]; exact (h.alloc _).alloc _
  have b3 : Boxed W0 (w.heap.size + 1 + 1 + 1) 22 (.slice A (2 * m) cap) := by
    have h := Boxed.new (((w.alloc (.cells #[.slice none 0 0] 38)).alloc (.cells #[.bool false] 4)).alloc (.cells #[.slice none 0 0] 38)) 22 (.slice A (2 * m) cap)
    rw [World.size_alloc, World.size_alloc, World.size_alloc] at h; rw [← hW0]; exact h.alloc _
  have b4 : Boxed W0 (w.heap.size + 1 + 1 + 1 + 1) 3 (.int .i64 2) := by
    have h := Boxed.new ((((w.alloc (.cells #[.slice none 0 0] 38)).alloc (.cells #[.bool false] 4)).alloc (.cells #[.slice none 0 0] 38)).alloc (.cells #[.slice A (2 * m) cap] 22)) 3 (.int .i64 2)
    rw [World.size_alloc, World.size_alloc, World.size_alloc, World.size_alloc] at h; rw [← hW0]; exact h
  rw [hW0]
  clear hW0
  have hst := chunk_stops (n - 1) (w.heap.size + 1 + 1 + 1) (w.heap.size + 1 + 1 + 1 + 1) cap m A ad hA hm hbig W0 b3 b4
  refine wpIn_rangeFunc_ownG rfl h1 (gf := 30) (lb := #[.pointer (some ⟨w.heap.size + 1 + 1 + 1, 0, none⟩), .pointer (some ⟨w.heap.size + 1 + 1 + 1 + 1, 0, none⟩)]) rfl trivial (enters_of Try.func30 (by kernel_rfl) rfl)
    hst KeepTwo.trans (fun W l _ o' hl _ _ _ => KeepTwo.putObj (n := W0.heap.size) (by omega) (by omega) W l o' hl) (Below.refl _ _) (fun _ => rfl)
    (NumI w l0 W0.heap.size)
    (NumIx w l0)
    ?hI ?hIx ?h0
    (fun x => { tmps := #[Value.slice A (2 * m) cap, undef, .pointer (some ⟨w.heap.size, 0, none⟩), .pointer (some ⟨w.heap.size + 1, 0, none⟩), .pointer (some ⟨w.heap.size + 1 + 1, 0, none⟩), Value.slice (some (ad.add (2 * x.1))) 2 2, Value.slice A (2 * m) cap, .int .i64 (2 * m), .int .i64 0, .bool false, Value.slice A (2 * m) cap, .func (.func 30) #[] #[.pointer (some ⟨w.heap.size + 1 + 1 + 1, 0, none⟩), .pointer (some ⟨w.heap.size + 1 + 1 + 1 + 1, 0, none⟩)], Value.slice (some (ad.add (2 * x.1))) 2 2, undef, undef, undef, undef, undef, undef, undef, undef, undef, undef, undef, undef, undef, undef, undef, undef, undef, undef, undef, undef, undef, undef, undef, undef, undef, undef, undef, undef, undef, undef, undef, undef, undef, undef, undef, undef, undef, undef], defers := [] }) ?assign ?body ?done ?stop
  case hI =>
    unfold NumI
    refine OwnFrom.and (OwnFrom.and (Own.from (holdsRow_own W0.heap.size (w.heap.size + 1 + 1) 38 3 1 (fun pre => (numGot l0 pre).length) (fun pre => (numGot l0 pre).map (Value.int .i64)) (fun _ _ => True)) _) ?_) (OwnFrom.and (ownFrom_below (by omega) (by omega)) (fun s A B row hs hg hr => Nat.le_trans hs hg.size))
    exact OwnFrom.and (Own.from (boxed_own _ _ _) _) (OwnFrom.and (Own.from (boxed_own _ _ _) _) (ownFrom_pure _ _))
  case hIx =>
    intro c
    unfold NumIx
    exact OwnFrom.and (OwnFrom.and (ownFrom_pure _ _) (OwnFrom.and (ownFrom_pure _ _) (OwnFrom.and (Own.from (boxed_own _ _ _) _) (Own.from (boxed_own _ _ _) _)))) (ownFrom_below (by omega) (by omega))
  case h0 => exact ⟨⟨⟨_, b2, World.ownsRow_nil _ _ _ _, trivial⟩, b0, b1, by simp⟩, hB0, Nat.le_refl _⟩
  case assign =>
    intro l x W K hK
    gi_wp2
    exact hK
  case body =>
    rintro l pre x W ⟨⟨⟨v, hv, hrow, -⟩, c0, c1, hok⟩, hB, hn0⟩ hlt
    have hx := x.2
    have hp0 : W.cell? (ad.add (2 * x.1)) = some (.int .u8 (l0.getD (2 * x.1) 0)) := pw_cell_below hB (hc _ (by omega))
    have hq0 : W.cell? ⟨(ad.add (2 * x.1)).block, (ad.add (2 * x.1)).off + 1, none⟩ = some (.int .u8 (l0.getD (2 * x.1 + 1) 0)) := by
      show W.cell? ((ad.add (2 * x.1)).add 1) = _
      rw [Addr.add_add]; exact pw_cell_below hB (hc _ (by omega))
    have hbad : numOk l0 x.1 = numOk l0 x.1 := rfl
    have hval := numGot_snoc l0 pre x
    unfold numVal at hval
    obtain ⟨p, hp⟩ : ∃ p, p = l0.getD (2 * x.1) 0 := ⟨_, rfl⟩
    obtain ⟨q, hq⟩ : ∃ q, q = l0.getD (2 * x.1 + 1) 0 := ⟨_, rfl⟩
    have hokx : numOk l0 x.1 = (numDig p && numDig q) := by rw [hp, hq]; rfl
    rw [← hp] at hp0 hval
    rw [← hq] at hq0 hval
    clear hp hq hbad
    have Hval := Lib.hid hval
    have Hokx := Lib.hid hokx
    have Hrow := Lib.hid hrow
    have c0c := c0.cell
    have c0f := c0.frozen
    have c1c := c1.cell
    have c1f := c1.frozen
    have hvc := hv.cell
    have hvf := hv.frozen
    clear hval hokx hrow
    have hbadend : numOk l0 x.1 = false → ∀ a : Act, ownPostG W0.heap.size (KeepTwo (w.heap.size + 1 + 1 + 1) (w.heap.size + 1 + 1 + 1 + 1))
        (NumI w l0 W0.heap.size)
        (NumIx w l0)
        (pre ++ [x]) W .ret a ((W.setCell ⟨w.heap.size, 0, none⟩ (.slice none 0 0)).setCell ⟨w.heap.size + 1, 0, none⟩ (.bool false)) := fun hb _ =>
      ⟨((KeepsOthers.setCell _ _ _).trans (KeepsOthers.setCell _ _ _)).from _, ⟨rfl, ⟨x, by simp, hb⟩, (c0.set _).other (by omega) _, (c1.other (by omega) _).set _⟩, (hB.setCell (p := ⟨w.heap.size, 0, none⟩) (Nat.le_refl _) _).setCell (p := ⟨w.heap.size + 1, 0, none⟩) (by simp) _⟩
    by_cases h1p : p < 48
    · gi_wp2
      exact hbadend (by rw [Hokx.out]; simp [numDig]; omega) _
    · by_cases h2p : 57 < p
      · gi_wp2
        exact hbadend (by rw [Hokx.out]; simp [numDig]; omega) _
      · by_cases h1q : q < 48
        · gi_wp2
          exact hbadend (by rw [Hokx.out]; simp [numDig]; omega) _
        · by_cases h2q : 57 < q
          · gi_wp2
            exact hbadend (by rw [Hokx.out]; simp [numDig]; omega) _
          · clear hbadend
            have e1 : IntKind.u8.wrap (p - 48) = p - 48 := IntWalk.u8_in _ (by omega)
            have e2 : IntKind.i64.wrap (p - 48) = p - 48 := IntWalk.i64_in _ (by omega)
            have e3 : IntKind.i64.wrap ((p - 48) * 10) = (p - 48) * 10 := IntWalk.i64_in _ (by omega)
            have e4 : IntKind.u8.wrap (q - 48) = q - 48 := IntWalk.u8_in _ (by omega)
            have e5 : IntKind.i64.wrap (q - 48) = q - 48 := IntWalk.i64_in _ (by omega)
            have e6 : IntKind.i64.wrap ((p - 48) * 10 + (q - 48)) = (p - 48) * 10 + (q - 48) := IntWalk.i64_in _ (by omega)
            have hmix : Try.prog.follows .mixedOrders = true := by kernel_rfl
            gi_wp2
            refine startR_ (m := 16) (S := fun w' => w'.cell? ⟨w.heap.size + 1 + 1, 0, none⟩ = some v ∧ w'.cell? (ad.add (2 * x.1)) = some (.int .u8 p) ∧ w'.cell? ⟨(ad.add (2 * x.1)).block, (ad.add (2 * x.1)).off + 1, none⟩ = some (.int .u8 q)) (ds := [14, 15]) #[false, false, false, false, false, false, false, false, false, false, false, false, false, false, false, false] hmix rfl rfl (by kernel_rfl) (fun ⟨_, _, h⟩ => h) ⟨hvc, hp0, hq0⟩ (fun hHeld => ?_)
            refine pure_ (i := 1) (N := some 36) (v := ?_) (a' := ?_) #[false, true, false, false, false, false, false, false, false, false, false, false, false, false, false, false] rfl rfl (by kernel_rfl) (fun _ _ _ h => h) (Or.inl ⟨by rfl, ?_⟩) ?_ ?_
            rotate_left
            · intro w'
              go_simp
              with_reducible rfl
            rotate_left
            · simp only [Act.put, List.setIfInBounds_toArray, List.set_cons_zero, List.set_cons_succ, i64_w, i32_w]
              rfl
            refine pure_ (i := 2) (N := some 37) (v := ?_) (a' := ?_) #[false, true, true, false, false, false, false, false, false, false, false, false, false, false, false, false] rfl rfl (by kernel_rfl) (fun _ _ _ h => h) (Or.inl ⟨by rfl, ?_⟩) ?_ ?_
            rotate_left
            · intro w'
              go_simp
              with_reducible rfl
            rotate_left
            · simp only [Act.put, List.setIfInBounds_toArray, List.set_cons_zero, List.set_cons_succ, i64_w, i32_w]
              rfl
            refine take_ (i := 3) (N := some 38) (v := ?_) (a' := ?_) #[false, true, true, true, false, false, false, false, false, false, false, false, false, false, false, false] rfl rfl (by kernel_rfl) (fun _ _ _ h => h) (Or.inl ⟨by rfl, ?_⟩) hHeld ?_ ?_
            rotate_left
            · rintro w' ⟨s0, s1, s2⟩
              go_simp
              with_reducible rfl
            rotate_left
            · simp only [Act.put, List.setIfInBounds_toArray, List.set_cons_zero, List.set_cons_succ, i64_w, i32_w]
              rfl
            refine pure_ (i := 4) (N := some 39) (v := ?_) (a' := ?_) #[false, true, true, true, true, false, false, false, false, false, false, false, false, false, false, false] rfl rfl (by kernel_rfl) (fun _ _ _ h => h) (Or.inl ⟨by rfl, ?_⟩) ?_ ?_
            rotate_left
            · intro w'
              go_simp
              with_reducible rfl
            rotate_left
            · simp only [Act.put, List.setIfInBounds_toArray, List.set_cons_zero, List.set_cons_succ, i64_w, i32_w]
              rfl
            refine pure_ (i := 5) (N := some 40) (v := ?_) (a' := ?_) #[false, true, true, true, true, true, false, false, false, false, false, false, false, false, false, false] rfl rfl (by kernel_rfl) (fun _ _ _ h => h) (Or.inl ⟨by rfl, ?_⟩) ?_ ?_
            rotate_left
            · intro w'
              go_simp
              with_reducible rfl
            rotate_left
            · simp only [Act.put, List.setIfInBounds_toArray, List.set_cons_zero, List.set_cons_succ, i64_w, i32_w]
              rfl
            refine pure_ (i := 6) (N := some 41) (v := ?_) (a' := ?_) #[false, true, true, true, true, true, true, false, false, false, false, false, false, false, false, false] rfl rfl (by kernel_rfl) (fun _ _ _ h => h) (Or.inl ⟨by rfl, ?_⟩) ?_ ?_
            rotate_left
            · intro w'
              go_simp
              with_reducible rfl
            rotate_left
            · simp only [Act.put, List.setIfInBounds_toArray, List.set_cons_zero, List.set_cons_succ, i64_w, i32_w]
              rfl
            refine pure_ (i := 7) (N := some 42) (v := ?_) (a' := ?_) #[false, true, true, true, true, true, true, true, false, false, false, false, false, false, false, false] rfl rfl (by kernel_rfl) (fun _ _ _ h => h) (Or.inl ⟨by rfl, ?_⟩) ?_ ?_
            rotate_left
            · intro w'
              go_simp
              with_reducible rfl
            rotate_left
            · simp only [Act.put, List.setIfInBounds_toArray, List.set_cons_zero, List.set_cons_succ, i64_w, i32_w]
              rfl
            refine pure_ (i := 8) (N := some 43) (v := ?_) (a' := ?_) #[false, true, true, true, true, true, true, true, true, false, false, false, false, false, false, false] rfl rfl (by kernel_rfl) (fun _ _ _ h => h) (Or.inl ⟨by rfl, ?_⟩) ?_ ?_
            rotate_left
            · intro w'
              go_simp
              with_reducible rfl
            rotate_left
            · simp only [Act.put, List.setIfInBounds_toArray, List.set_cons_zero, List.set_cons_succ, i64_w, i32_w]
              rfl
            refine take_ (i := 9) (N := some 44) (v := ?_) (a' := ?_) #[false, true, true, true, true, true, true, true, true, true, false, false, false, false, false, false] rfl rfl (by kernel_rfl) (fun _ _ _ h => h) (Or.inl ⟨by rfl, ?_⟩) hHeld ?_ ?_
            rotate_left
            · rintro w' ⟨s0, s1, s2⟩
              go_simp
              with_reducible rfl
            rotate_left
            · simp only [Act.put, List.setIfInBounds_toArray, List.set_cons_zero, List.set_cons_succ, i64_w, i32_w]
              rfl
            refine pure_ (i := 10) (N := some 45) (v := ?_) (a' := ?_) #[false, true, true, true, true, true, true, true, true, true, true, false, false, false, false, false] rfl rfl (by kernel_rfl) (fun _ _ _ h => h) (Or.inl ⟨by rfl, ?_⟩) ?_ ?_
            rotate_left
            · intro w'
              go_simp
              with_reducible rfl
            rotate_left
            · simp only [Act.put, List.setIfInBounds_toArray, List.set_cons_zero, List.set_cons_succ, i64_w, i32_w]
              rfl
            refine pure_ (i := 11) (N := some 46) (v := ?_) (a' := ?_) #[false, true, true, true, true, true, true, true, true, true, true, true, false, false, false, false] rfl rfl (by kernel_rfl) (fun _ _ _ h => h) (Or.inl ⟨by rfl, ?_⟩) ?_ ?_
            rotate_left
            · intro w'
              go_simp
              with_reducible rfl
            rotate_left
            · simp only [Act.put, List.setIfInBounds_toArray, List.set_cons_zero, List.set_cons_succ, i64_w, i32_w]
              rfl
            refine pure_ (i := 12) (N := some 47) (v := ?_) (a' := ?_) #[false, true, true, true, true, true, true, true, true, true, true, true, true, false, false, false] rfl rfl (by kernel_rfl) (fun _ _ _ h => h) (Or.inl ⟨by rfl, ?_⟩) ?_ ?_
            rotate_left
            · intro w'
              go_simp
              with_reducible rfl
            rotate_left
            · simp only [Act.put, List.setIfInBounds_toArray, List.set_cons_zero, List.set_cons_succ, i64_w, i32_w]
              rfl
            refine take_ (i := 0) (N := some 35) (v := ?_) (a' := ?_) #[true, true, true, true, true, true, true, true, true, true, true, true, true, false, false, false] rfl rfl (by kernel_rfl) (fun _ _ _ h => h) (Or.inl ⟨by rfl, ?_⟩) hHeld ?_ ?_
            rotate_left
            · rintro w' ⟨s0, s1, s2⟩
              go_simp
              with_reducible rfl
            rotate_left
            · simp only [Act.put, List.setIfInBounds_toArray, List.set_cons_zero, List.set_cons_succ, i64_w, i32_w]
              rfl
            refine one_ (i := 13) (N := some 48) #[true, true, true, true, true, true, true, true, true, true, true, true, true, true, false, false] rfl rfl (by kernel_rfl) (by decide) (fun K hK => ?_)
            go_simp
            refine hK.out _ _ ⟨cell_al _ hHeld.1, cell_al _ hHeld.2.1, cell_al _ hHeld.2.2⟩ (fun hHeld => ?_)
            clear hK K
            refine tail_ 14 _ rfl (by kernel_rfl) (by decide) (by decide) ?_
            have hrow := Hrow.out
            have hpl : (numGot l0 pre).length = pre.length := by simp [numGot]
            have hpl2 : pre.length < m := hlt
            have Hpl := Lib.hid hpl
            clear hpl
            refine wpList_append_own _ rfl (.tmp 35) (.tmp 48) 38 rfl W0.heap.size 3 i0 (.int .i64 0) 1 8 Try.underlying38 hi hz0 hz1 hz2 rfl (by decide) v _ _ rfl ((hrow.alloc _).drew) ⟨W.heap.size, 0, none⟩ 1 1 [.int .i64 ((p - 48) * 10 + (q - 48))] rfl rfl (cell_one_new _ _ _) (by simp [Value.oneCell']) (by rw [Hpl.out]; unfold maxLen; omega) (by rw [Hpl.out]; omega) (by show W0.heap.size ≤ (W.alloc _).heap.size; simp; omega) ?_
            intro v' w1 hown' hgrow _
            obtain ⟨hv1, hk1, hk2, hk3⟩ := num_step (x := x) (l0 := l0) hsz2 hn0 hB hv c0 c1 hok (by rw [Hokx.out]; simp [numDig]; omega) hrow hgrow (by rw [Hval.out]; simpa using hown')
            obtain ⟨g', cap', rfl⟩ := ownsRow_succ hown'
            have hc1 := hv1.cell
            have hf1 := hv1.frozen
            clear hown' hgrow hrow
            go_wp2
            exact ⟨hk1, hk2, hk3⟩
  case done =>
    rintro D ys W hD rfl ⟨⟨⟨v, hv, hrow, -⟩, c0, c1, hok⟩, hB, hn0⟩ hK
    obtain ⟨Av, cv, rfl⟩ := own_slice hrow
    have c0c := c0.cell
    have c0f := c0.frozen
    have c1c := c1.cell
    have c1f := c1.frozen
    have hvc := hv.cell
    have hfin := numbers_yes hl0 hbig hok
    have Hfin := Lib.hid hfin
    clear hfin hok
    gi_wp2
    have e0 : Boxed ((W.setCell ⟨w.heap.size, 0, none⟩ (.slice Av (numGot l0 (List.finRange m)).length cv)).setCell ⟨w.heap.size + 1, 0, none⟩ (.bool true)) w.heap.size 38 (.slice Av (numGot l0 (List.finRange m)).length cv) := (c0.set _).other (by omega) _
    have e1 : Boxed ((W.setCell ⟨w.heap.size, 0, none⟩ (.slice Av (numGot l0 (List.finRange m)).length cv)).setCell ⟨w.heap.size + 1, 0, none⟩ (.bool true)) (w.heap.size + 1) 4 (.bool true) := (c1.other (by omega) _).set _
    have hK' := ((KeepsOthers.setCell W ⟨w.heap.size, 0, none⟩ (.slice Av (numGot l0 (List.finRange m)).length cv)).trans (KeepsOthers.setCell _ ⟨w.heap.size + 1, 0, none⟩ (.bool true))).same D _ hK rfl
    refine ⟨by simp, .inl ⟨_, _, rfl, run_takeDeferred hK', ?_⟩⟩
    have hc5 := cell_kept e0.cell (grownBy_putObj' _ D (.deferred none)) (fun r e => by cases e; exact ⟨_, hK', rfl⟩)
    have hc6 := cell_kept e1.cell (grownBy_putObj' _ D (.deferred none)) (fun r e => by cases e; exact ⟨_, hK', rfl⟩)
    refine ⟨.tuple #[.slice Av (numGot l0 (List.finRange m)).length cv, .bool true], ?_, _, _, _, rfl, Hfin.out, ?_, ?_⟩
    · simp [results, Try.f21, go_sem, hc5, hc6]
    · refine own_weaken (ownsRow_putObj ((hrow.kept (grownBy_setCell' W _ _) (.inr (fun e => by have := own_base hrow _ e; omega))).kept (grownBy_setCell' _ _ _) (.inr (fun e => by have := own_base hrow _ e; omega))) _ hK' rfl) (by omega)
    · exact ((hB.setCell (p := ⟨w.heap.size, 0, none⟩) (Nat.le_refl _) _).setCell (p := ⟨w.heap.size + 1, 0, none⟩) (by simp) _).trans (belowK_b (w := w) (Nat.le_refl _) _ D _ _ (by omega) hK' rfl rfl)
  case stop =>
    rintro D c pre W hD - ⟨⟨rfl, hbad, c0, c1⟩, hB⟩ hK
    have hfin := numbers_no hl0 hbig hbad
    have Hfin := Lib.hid hfin
    clear hfin hbad
    gi_wp2
    refine ⟨by simp, .inl ⟨_, _, rfl, run_takeDeferred hK, ?_⟩⟩
    have hc5 := cell_kept c0.cell (grownBy_putObj' _ D (.deferred none)) (fun r e => by cases e; exact ⟨_, hK, rfl⟩)
    have hc6 := cell_kept c1.cell (grownBy_putObj' _ D (.deferred none)) (fun r e => by cases e; exact ⟨_, hK, rfl⟩)
    refine ⟨.tuple #[.slice none 0 0, .bool false], ?_, _, _, _, rfl, Hfin.out, World.ownsRow_nil _ _ _ _, ?_⟩
    · simp [results, Try.f21, go_sem, hc5, hc6]
    · exact hB.trans (belowK_b (w := w) (Nat.le_refl _) _ D _ _ (by omega) hK rfl rfl)
set_option maxHeartbeats 1000000 in
theorem numbers_odd_in (A : Option Addr) (cap len : Nat) (hl : len % 2 = 1) (hb : len ≤ 35184372088832) (w : World) :
    Calls Try.prog 21 #[.slice A len cap] w fun e w' => e = .returned (.tuple #[.slice none 0 0, .bool false]) ∧ Below w.heap.size w w' := by
  have h2 : ((len : Int) % 2 == 0) = false := by simp; omega
  have h3 : ((len : Int) % 2 != 0) = true := by simp; omega
  go_enter Try.func21, Try.ntmps21
  go_wp2
  refine bodyPost_ret (v := .tuple #[.slice none 0 0, .bool false]) (by simp [results, Try.f21, go_sem]) rfl ⟨rfl, ?_⟩
  exact ((Below.refl _ w).alloc (Nat.le_refl _) _).alloc (by simp) _

theorem when_numbers.calls (A0 : Option Addr) (c0 : Nat) (l0 : List Int) (r1 : List Int) (r2 : Bool) (w : World) (hr0 : Kd.C (Kd.int .u8) w A0 l0.length l0) (hc0 : l0.length ≤ c0) (h : when_numbers.f l0 = some (r1, r2)) :
    Calls Try.prog 21 #[.slice A0 l0.length c0] w fun e w' => ∃ v1_ : Value, e = .returned (.tuple #[v1_, .bool r2]) ∧ Kd.R (Kd.int .i64) 3 w' w.heap.size (fun _ => True) v1_ r1 ∧ Below w.heap.size w w' := by
  have hb : l0.length ≤ 35184372088832 := by
    unfold when_numbers.f at h
    by_cases hb : 35184372088832 < l0.length
    · rw [if_pos hb] at h; cases h
    · omega
  rcases Nat.mod_two_eq_zero_or_one l0.length with he | ho
  · obtain ⟨m, hm⟩ : ∃ m, l0.length = 2 * m := ⟨l0.length / 2, by omega⟩
    obtain ⟨-, -, hc⟩ := Kd.reads_of_C (enc := Value.int .u8) (d := (0 : Int)) (h1 := fun _ => rfl) hr0
    obtain ⟨ad, hA, hcell⟩ : ∃ ad, (0 < m → A0 = some ad) ∧ ∀ j, j < 2 * m → w.cell? (ad.add j) = some (.int .u8 (l0.getD j 0)) := by
      rcases Nat.eq_zero_or_pos m with h0 | h0
      · exact ⟨⟨0, 0, none⟩, fun hp => absurd hp (by omega), fun j hj => absurd hj (by omega)⟩
      · obtain ⟨ad, hA, hcell⟩ := hc (by omega)
        exact ⟨ad, fun _ => hA, fun j hj => hcell j (by omega)⟩
    rw [hm] at hc0 ⊢
    refine ((callsIn_wide (n := 3)).1 (numbers_in 3 (Nat.le_refl _) A0 ad c0 m l0 hm hA hc0 (by omega) w hcell)).mono ?_
    rintro e w' ⟨v, s1, s2, rfl, hf, hown, hB⟩
    rw [h] at hf
    injection hf with hf
    injection hf with e1 e2
    subst e1 e2
    exact ⟨v, rfl, Kd.R_of_own hown (fun _ _ => trivial), hB⟩
  · rw [numbers_odd ho hb] at h
    injection h with h
    injection h with e1 e2
    subst e1 e2
    refine (numbers_odd_in A0 c0 l0.length ho hb w).mono ?_
    rintro e w' ⟨rfl, hB⟩
    exact ⟨_, rfl, Kd.R_nil _ _ _ _ _, hB⟩
end

/-! ### when_of: function 22 -/
def when_of.l0 : Nat → Int → List Int → Int → Int → Option (Int)
  | 0, _, _, _, _ => none
  | k + 1, x0, x1, x5, x6 => if 0 < (x1.length : Int) then (if x6 < (rd x1 0) then (if x6 < 12 then ((when_days.f x0 x6).bind fun t162 => (when_of.l0 k x0 x1 (wrap64 (x5 + t162)) (wrap64 (x6 + 1)))) else (if 1 < (x1.length : Int) then (if 2 < (x1.length : Int) then (if 3 < (x1.length : Int) then (if 4 < (x1.length : Int) then (some (wrap64 ((wrap64 ((wrap64 ((wrap64 ((wrap64 ((wrap64 (x5 + (rd x1 1))) - 1)) * 86400)) + (wrap64 ((rd x1 2) * 3600)))) + (wrap64 ((rd x1 3) * 60)))) + (rd x1 4)))) else (none)) else (none)) else (none)) else (none))) else (if 1 < (x1.length : Int) then (if 2 < (x1.length : Int) then (if 3 < (x1.length : Int) then (if 4 < (x1.length : Int) then (some (wrap64 ((wrap64 ((wrap64 ((wrap64 ((wrap64 ((wrap64 (x5 + (rd x1 1))) - 1)) * 86400)) + (wrap64 ((rd x1 2) * 3600)))) + (wrap64 ((rd x1 3) * 60)))) + (rd x1 4)))) else (none)) else (none)) else (none)) else (none))) else (none)
def when_of.f (k : Nat) (a0 : Int) (l1 : List Int) : Option (Int) := (when_ahead.f a0).bind fun t159 => ((when_ahead.f 1970).bind fun t160 => (when_of.l0 k a0 l1 (wrap64 (t159 - t160)) 1))
theorem when_of.mono_l : ∀ k, (∀ y0 y1 y2 y3, LeO (when_of.l0 k y0 y1 y2 y3) (when_of.l0 (k + 1) y0 y1 y2 y3))
  | 0 => fun _ _ _ _ r h => by simp [when_of.l0] at h
  | k + 1 => by
    have ih0 := when_of.mono_l k
    · intro y0 y1 y2 y3
      unfold when_of.l0
      repeat' first
      | (with_reducible exact ih0 _ _ _ _)
      | (with_reducible exact LeO.refl _)
      | (with_reducible exact LeO.none _)
      | (with_reducible refine LeO.ite ?_ ?_)
      | (with_reducible refine LeO.bind ?_ (fun _ => ?_))
      | exact ih0 _ _ _ _
      | exact LeO.none _
      | refine LeO.ite ?_ ?_
      | refine LeO.bind ?_ (fun _ => ?_)
theorem when_of.mono : ∀ a0 a1 k, LeO (when_of.f k a0 a1) (when_of.f (k + 1) a0 a1) := by
  intro a0 a1 k
  have ih0 := when_of.mono_l k
  unfold when_of.f
  repeat' first
      | (with_reducible exact ih0 _ _ _ _)
      | (with_reducible exact LeO.refl _)
      | (with_reducible exact LeO.none _)
      | (with_reducible refine LeO.ite ?_ ?_)
      | (with_reducible refine LeO.bind ?_ (fun _ => ?_))
      | exact ih0 _ _ _ _
      | exact LeO.none _
      | refine LeO.ite ?_ ?_
      | refine LeO.bind ?_ (fun _ => ?_)
set_option maxHeartbeats 8000000 in
set_option maxRecDepth 100000 in
theorem when_of.calls (k : Nat) (a0 : Int) (A1 : Option Addr) (c1 : Nat) (l1 : List Int) (r : Int) (w : World) (hr1 : Kd.C (Kd.int .i64) w A1 l1.length l1) (hc1 : l1.length ≤ c1) (h : when_of.f k a0 l1 = some r) :
    Calls Try.prog 22 #[.int .i64 a0, .slice A1 l1.length c1] w fun e w' => e = .returned (.int .i64 r) ∧ Drawn0 w w' := by
  have HR1 := Aside0.mk hr1
  have HC1 := Aside0.mk hc1
  clear hr1 hc1
  have H : ((when_ahead.f a0).bind fun t159 => ((when_ahead.f 1970).bind fun t160 => (when_of.l0 k a0 l1 (wrap64 (t159 - t160)) 1))) = some r := h
  clear h
  replace H := Option.bind_eq_some_iff.mp H
  obtain ⟨t159, A30, H⟩ := H
  replace H : ((when_ahead.f 1970).bind fun t160 => (when_of.l0 k a0 l1 (wrap64 (t159 - t160)) 1)) = some r := H
  have A3 := Aside0.mk A30
  clear A30
  replace H := Option.bind_eq_some_iff.mp H
  obtain ⟨t160, A40, H⟩ := H
  replace H : (when_of.l0 k a0 l1 (wrap64 (t159 - t160)) 1) = some r := H
  have A4 := Aside0.mk A40
  clear A40
  have H' := Aside0.mk H
  clear H
  go_enter Try.func22, Try.ntmps22
  go_wp2_with (first | (go_at_call 26; (with_reducible refine (when_ahead.calls a0 t159 _ A3.out).mono ?_); rintro e w' ⟨rfl, ⟨nd, rfl⟩⟩; (try first | exact ⟨rfl, _, World.drewN_drewN _ _ _⟩ | exact ⟨rfl, _, Eq.trans (World.drewN_drewN _ _ _) (congrArg (World.drewN _) (Nat.add_assoc _ _ _))⟩)) | (go_at_call 26; (with_reducible refine (when_ahead.calls 1970 t160 _ A4.out).mono ?_); rintro e w' ⟨rfl, ⟨nd, rfl⟩⟩; (try first | exact ⟨rfl, _, World.drewN_drewN _ _ _⟩ | exact ⟨rfl, _, Eq.trans (World.drewN_drewN _ _ _) (congrArg (World.drewN _) (Nat.add_assoc _ _ _))⟩)))
  repeat (go_quiet (first | (go_at_call 26; (with_reducible refine (when_ahead.calls a0 t159 _ A3.out).mono ?_); rintro e w' ⟨rfl, ⟨nd, rfl⟩⟩; (try first | exact ⟨rfl, _, World.drewN_drewN _ _ _⟩ | exact ⟨rfl, _, Eq.trans (World.drewN_drewN _ _ _) (congrArg (World.drewN _) (Nat.add_assoc _ _ _))⟩)) | (go_at_call 26; (with_reducible refine (when_ahead.calls 1970 t160 _ A4.out).mono ?_); rintro e w' ⟨rfl, ⟨nd, rfl⟩⟩; (try first | exact ⟨rfl, _, World.drewN_drewN _ _ _⟩ | exact ⟨rfl, _, Eq.trans (World.drewN_drewN _ _ _) (congrArg (World.drewN _) (Nat.add_assoc _ _ _))⟩))); try go_wp2_with (first | (go_at_call 26; (with_reducible refine (when_ahead.calls a0 t159 _ A3.out).mono ?_); rintro e w' ⟨rfl, ⟨nd, rfl⟩⟩; (try first | exact ⟨rfl, _, World.drewN_drewN _ _ _⟩ | exact ⟨rfl, _, Eq.trans (World.drewN_drewN _ _ _) (congrArg (World.drewN _) (Nat.add_assoc _ _ _))⟩)) | (go_at_call 26; (with_reducible refine (when_ahead.calls 1970 t160 _ A4.out).mono ?_); rintro e w' ⟨rfl, ⟨nd, rfl⟩⟩; (try first | exact ⟨rfl, _, World.drewN_drewN _ _ _⟩ | exact ⟨rfl, _, Eq.trans (World.drewN_drewN _ _ _) (congrArg (World.drewN _) (Nat.add_assoc _ _ _))⟩))))
  go_loopg [5, 6] k (fun kq v5 v6 w' => ∃ (x5_1 : Int) (x6_1 : Int), v5 = .int .i64 x5_1 ∧ v6 = .int .i64 x6_1 ∧ Aside0 (when_of.l0 kq a0 l1 x5_1 x6_1 = some r) ∧ Aside0 (kq ≤ k) ∧ Drawn0 w w')
  case atStart => exact ⟨(wrap64 (t159 - t160)), (1), (by first | rfl | (simp; done) | (simp [*]; done)), (by first | rfl | (simp; done) | (simp [*]; done)), H', ⟨Nat.le_refl _⟩, by repeat (first | exact Drawn0.refl _ | apply Drawn0.step)⟩
  case round =>
    clear H'
    try clear c1
    try clear c2
    try clear p2
    obtain ⟨x5_1, x6_1, rfl, rfl, HA, HK1, ⟨m1, rfl⟩⟩ := hrel
    cases gk with
    | zero => exact absurd HA.out (by simp [when_of.l0])
    | succ k1 =>
      have H := HA.out
      clear HA
      simp only [when_of.l0] at H
      by_cases c5 : 0 < (l1.length : Int)
      · rw [if_pos c5] at H
        have c5b0 : decide (0 < (l1.length : Int)) = true := decide_eq_true c5
        have c5b1 : decide (0 < l1.length) = true := decide_eq_true (by omega)
        clear c5
        by_cases c6 : x6_1 < (rd l1 0)
        · rw [if_pos c6] at H
          have c6b0 : decide (x6_1 < (rd l1 0)) = true := decide_eq_true c6
          clear c6
          by_cases c7 : x6_1 < 12
          · rw [if_pos c7] at H
            have c7b0 : decide (x6_1 < 12) = true := decide_eq_true c7
            clear c7
            replace H := Option.bind_eq_some_iff.mp H
            obtain ⟨t162, A80, H⟩ := H
            replace H : (when_of.l0 k1 a0 l1 (wrap64 (x5_1 + t162)) (wrap64 (x6_1 + 1))) = some r := H
            have A8 := Aside0.mk A80
            clear A80
            have H' := Aside0.mk H
            clear H
            have p161 : 0 ≤ (0 : Int) := (by omega)
            have q161 : 0 < (l1.length : Int) := of_decide_eq_true (by first | (with_reducible assumption) | assumption)
            obtain ⟨ad161, e161, hx161_0⟩ := Kd.at_int HR1.out 0 p161 q161
            cases e161
            have qi161 : (0 < l1.length) = True := eq_true (by omega)
            (try rw [show ((0 : Int)).toNat = 0 from rfl] at hx161_0)
            (try rw [Addr.add_zero'] at hx161_0)
            replace p161 := eq_true p161
            replace q161 := eq_true q161
            go_wp2_with (first | (go_at_call 27; (with_reducible refine (when_days.calls a0 x6_1 t162 _ A8.out).mono ?_); rintro e w' ⟨rfl, ⟨nd, rfl⟩⟩; (try first | exact ⟨rfl, _, World.drewN_drewN _ _ _⟩ | exact ⟨rfl, _, Eq.trans (World.drewN_drewN _ _ _) (congrArg (World.drewN _) (Nat.add_assoc _ _ _))⟩)))
            repeat (go_quiet (first | (go_at_call 27; (with_reducible refine (when_days.calls a0 x6_1 t162 _ A8.out).mono ?_); rintro e w' ⟨rfl, ⟨nd, rfl⟩⟩; (try first | exact ⟨rfl, _, World.drewN_drewN _ _ _⟩ | exact ⟨rfl, _, Eq.trans (World.drewN_drewN _ _ _) (congrArg (World.drewN _) (Nat.add_assoc _ _ _))⟩))); try go_wp2_with (first | (go_at_call 27; (with_reducible refine (when_days.calls a0 x6_1 t162 _ A8.out).mono ?_); rintro e w' ⟨rfl, ⟨nd, rfl⟩⟩; (try first | exact ⟨rfl, _, World.drewN_drewN _ _ _⟩ | exact ⟨rfl, _, Eq.trans (World.drewN_drewN _ _ _) (congrArg (World.drewN _) (Nat.add_assoc _ _ _))⟩))))
            go_roundg k1
            case measure => have := HK1.out; omega
            case rel => exact ⟨(wrap64 (x5_1 + t162)), (wrap64 (x6_1 + 1)), (by first | rfl | (simp; done) | (simp [*]; done)), (by first | rfl | (simp; done) | (simp [*]; done)), H', ⟨by have := HK1.out; omega⟩, by repeat (first | exact Drawn0.refl _ | apply Drawn0.step)⟩
          · rw [if_neg c7] at H
            have c7b0 : decide (x6_1 < 12) = false := decide_eq_false c7
            clear c7
            by_cases c9 : 1 < (l1.length : Int)
            · rw [if_pos c9] at H
              have c9b0 : decide (1 < (l1.length : Int)) = true := decide_eq_true c9
              have c9b1 : decide (1 < l1.length) = true := decide_eq_true (by omega)
              clear c9
              by_cases c10 : 2 < (l1.length : Int)
              · rw [if_pos c10] at H
                have c10b0 : decide (2 < (l1.length : Int)) = true := decide_eq_true c10
                have c10b1 : decide (2 < l1.length) = true := decide_eq_true (by omega)
                clear c10
                by_cases c11 : 3 < (l1.length : Int)
                · rw [if_pos c11] at H
                  have c11b0 : decide (3 < (l1.length : Int)) = true := decide_eq_true c11
                  have c11b1 : decide (3 < l1.length) = true := decide_eq_true (by omega)
                  clear c11
                  by_cases c12 : 4 < (l1.length : Int)
                  · rw [if_pos c12] at H
                    have c12b0 : decide (4 < (l1.length : Int)) = true := decide_eq_true c12
                    have c12b1 : decide (4 < l1.length) = true := decide_eq_true (by omega)
                    clear c12
                    obtain rfl := Option.some.inj H
                    have p161 : 0 ≤ (0 : Int) := (by omega)
                    have q161 : 0 < (l1.length : Int) := of_decide_eq_true (by first | (with_reducible assumption) | assumption)
                    obtain ⟨ad161, e161, hx161_0⟩ := Kd.at_int HR1.out 0 p161 q161
                    cases e161
                    have qi161 : (0 < l1.length) = True := eq_true (by omega)
                    (try rw [show ((0 : Int)).toNat = 0 from rfl] at hx161_0)
                    (try rw [Addr.add_zero'] at hx161_0)
                    replace p161 := eq_true p161
                    replace q161 := eq_true q161
                    have p163 : 0 ≤ (1 : Int) := (by omega)
                    have q163 : 1 < (l1.length : Int) := of_decide_eq_true (by first | (with_reducible assumption) | assumption)
                    obtain ⟨ad163, e163, hx163_0⟩ := Kd.at_int HR1.out 1 p163 q163
                    obtain rfl : ad161 = ad163 := (by injection e163)
                    (try simp only [show (1 : Int).toNat = 1 from rfl, Nat.reduceMul, Nat.reduceEqDiff, Go.Addr.add, ↓reduceIte] at hx163_0)
                    have qi163 : (1 < l1.length) = True := eq_true (by omega)
                    (try rw [show ((1 : Int)).toNat = 1 from rfl] at hx163_0)
                    replace p163 := eq_true p163
                    replace q163 := eq_true q163
                    have p164 : 0 ≤ (2 : Int) := (by omega)
                    have q164 : 2 < (l1.length : Int) := of_decide_eq_true (by first | (with_reducible assumption) | assumption)
                    obtain ⟨ad164, e164, hx164_0⟩ := Kd.at_int HR1.out 2 p164 q164
                    obtain rfl : ad161 = ad164 := (by injection e164)
                    (try simp only [show (2 : Int).toNat = 2 from rfl, Nat.reduceMul, Nat.reduceEqDiff, Go.Addr.add, ↓reduceIte] at hx164_0)
                    have qi164 : (2 < l1.length) = True := eq_true (by omega)
                    (try rw [show ((2 : Int)).toNat = 2 from rfl] at hx164_0)
                    replace p164 := eq_true p164
                    replace q164 := eq_true q164
                    have p165 : 0 ≤ (3 : Int) := (by omega)
                    have q165 : 3 < (l1.length : Int) := of_decide_eq_true (by first | (with_reducible assumption) | assumption)
                    obtain ⟨ad165, e165, hx165_0⟩ := Kd.at_int HR1.out 3 p165 q165
                    obtain rfl : ad161 = ad165 := (by injection e165)
                    (try simp only [show (3 : Int).toNat = 3 from rfl, Nat.reduceMul, Nat.reduceEqDiff, Go.Addr.add, ↓reduceIte] at hx165_0)
                    have qi165 : (3 < l1.length) = True := eq_true (by omega)
                    (try rw [show ((3 : Int)).toNat = 3 from rfl] at hx165_0)
                    replace p165 := eq_true p165
                    replace q165 := eq_true q165
                    have p166 : 0 ≤ (4 : Int) := (by omega)
                    have q166 : 4 < (l1.length : Int) := of_decide_eq_true (by first | (with_reducible assumption) | assumption)
                    obtain ⟨ad166, e166, hx166_0⟩ := Kd.at_int HR1.out 4 p166 q166
                    obtain rfl : ad161 = ad166 := (by injection e166)
                    (try simp only [show (4 : Int).toNat = 4 from rfl, Nat.reduceMul, Nat.reduceEqDiff, Go.Addr.add, ↓reduceIte] at hx166_0)
                    have qi166 : (4 < l1.length) = True := eq_true (by omega)
                    (try rw [show ((4 : Int)).toNat = 4 from rfl] at hx166_0)
                    replace p166 := eq_true p166
                    replace q166 := eq_true q166
                    go_wp2
                    repeat (go_quiet (fail); try go_wp2)
                    go_ret
                    exact ⟨by first | rfl | (simp; done) | (simp [*]; done), by repeat (first | exact Drawn0.refl _ | apply Drawn0.step)⟩
                  · rw [if_neg c12] at H
                    exact absurd H (by simp)
                · rw [if_neg c11] at H
                  exact absurd H (by simp)
              · rw [if_neg c10] at H
                exact absurd H (by simp)
            · rw [if_neg c9] at H
              exact absurd H (by simp)
        · rw [if_neg c6] at H
          have c6b0 : decide (x6_1 < (rd l1 0)) = false := decide_eq_false c6
          clear c6
          by_cases c13 : 1 < (l1.length : Int)
          · rw [if_pos c13] at H
            have c13b0 : decide (1 < (l1.length : Int)) = true := decide_eq_true c13
            have c13b1 : decide (1 < l1.length) = true := decide_eq_true (by omega)
            clear c13
            by_cases c14 : 2 < (l1.length : Int)
            · rw [if_pos c14] at H
              have c14b0 : decide (2 < (l1.length : Int)) = true := decide_eq_true c14
              have c14b1 : decide (2 < l1.length) = true := decide_eq_true (by omega)
              clear c14
              by_cases c15 : 3 < (l1.length : Int)
              · rw [if_pos c15] at H
                have c15b0 : decide (3 < (l1.length : Int)) = true := decide_eq_true c15
                have c15b1 : decide (3 < l1.length) = true := decide_eq_true (by omega)
                clear c15
                by_cases c16 : 4 < (l1.length : Int)
                · rw [if_pos c16] at H
                  have c16b0 : decide (4 < (l1.length : Int)) = true := decide_eq_true c16
                  have c16b1 : decide (4 < l1.length) = true := decide_eq_true (by omega)
                  clear c16
                  obtain rfl := Option.some.inj H
                  have p161 : 0 ≤ (0 : Int) := (by omega)
                  have q161 : 0 < (l1.length : Int) := of_decide_eq_true (by first | (with_reducible assumption) | assumption)
                  obtain ⟨ad161, e161, hx161_0⟩ := Kd.at_int HR1.out 0 p161 q161
                  cases e161
                  have qi161 : (0 < l1.length) = True := eq_true (by omega)
                  (try rw [show ((0 : Int)).toNat = 0 from rfl] at hx161_0)
                  (try rw [Addr.add_zero'] at hx161_0)
                  replace p161 := eq_true p161
                  replace q161 := eq_true q161
                  have p167 : 0 ≤ (1 : Int) := (by omega)
                  have q167 : 1 < (l1.length : Int) := of_decide_eq_true (by first | (with_reducible assumption) | assumption)
                  obtain ⟨ad167, e167, hx167_0⟩ := Kd.at_int HR1.out 1 p167 q167
                  obtain rfl : ad161 = ad167 := (by injection e167)
                  (try simp only [show (1 : Int).toNat = 1 from rfl, Nat.reduceMul, Nat.reduceEqDiff, Go.Addr.add, ↓reduceIte] at hx167_0)
                  have qi167 : (1 < l1.length) = True := eq_true (by omega)
                  (try rw [show ((1 : Int)).toNat = 1 from rfl] at hx167_0)
                  replace p167 := eq_true p167
                  replace q167 := eq_true q167
                  have p168 : 0 ≤ (2 : Int) := (by omega)
                  have q168 : 2 < (l1.length : Int) := of_decide_eq_true (by first | (with_reducible assumption) | assumption)
                  obtain ⟨ad168, e168, hx168_0⟩ := Kd.at_int HR1.out 2 p168 q168
                  obtain rfl : ad161 = ad168 := (by injection e168)
                  (try simp only [show (2 : Int).toNat = 2 from rfl, Nat.reduceMul, Nat.reduceEqDiff, Go.Addr.add, ↓reduceIte] at hx168_0)
                  have qi168 : (2 < l1.length) = True := eq_true (by omega)
                  (try rw [show ((2 : Int)).toNat = 2 from rfl] at hx168_0)
                  replace p168 := eq_true p168
                  replace q168 := eq_true q168
                  have p169 : 0 ≤ (3 : Int) := (by omega)
                  have q169 : 3 < (l1.length : Int) := of_decide_eq_true (by first | (with_reducible assumption) | assumption)
                  obtain ⟨ad169, e169, hx169_0⟩ := Kd.at_int HR1.out 3 p169 q169
                  obtain rfl : ad161 = ad169 := (by injection e169)
                  (try simp only [show (3 : Int).toNat = 3 from rfl, Nat.reduceMul, Nat.reduceEqDiff, Go.Addr.add, ↓reduceIte] at hx169_0)
                  have qi169 : (3 < l1.length) = True := eq_true (by omega)
                  (try rw [show ((3 : Int)).toNat = 3 from rfl] at hx169_0)
                  replace p169 := eq_true p169
                  replace q169 := eq_true q169
                  have p170 : 0 ≤ (4 : Int) := (by omega)
                  have q170 : 4 < (l1.length : Int) := of_decide_eq_true (by first | (with_reducible assumption) | assumption)
                  obtain ⟨ad170, e170, hx170_0⟩ := Kd.at_int HR1.out 4 p170 q170
                  obtain rfl : ad161 = ad170 := (by injection e170)
                  (try simp only [show (4 : Int).toNat = 4 from rfl, Nat.reduceMul, Nat.reduceEqDiff, Go.Addr.add, ↓reduceIte] at hx170_0)
                  have qi170 : (4 < l1.length) = True := eq_true (by omega)
                  (try rw [show ((4 : Int)).toNat = 4 from rfl] at hx170_0)
                  replace p170 := eq_true p170
                  replace q170 := eq_true q170
                  go_wp2
                  repeat (go_quiet (fail); try go_wp2)
                  go_ret
                  exact ⟨by first | rfl | (simp; done) | (simp [*]; done), by repeat (first | exact Drawn0.refl _ | apply Drawn0.step)⟩
                · rw [if_neg c16] at H
                  exact absurd H (by simp)
              · rw [if_neg c15] at H
                exact absurd H (by simp)
            · rw [if_neg c14] at H
              exact absurd H (by simp)
          · rw [if_neg c13] at H
            exact absurd H (by simp)
      · rw [if_neg c5] at H
        exact absurd H (by simp)

end Go.Proofs.Ytbihkbcjpodnbaa.PAll
