/- The law of the times by hand: for every number that names one, and for every other, the answer is true: the walk through the law's own code, over the printed facts of the two functions that it calls. -/
import Derived.Test.YtbihkbcjpodnbaaPAllx3
import Derived.Test.YtbihkbcjpodnbaaPAllx6
import Derived.Test.YtbihkbcjpodnbaaFacts
import Derived.Laws.IdiomStrings
namespace Go.Proofs.Ytbihkbcjpodnbaa.PAll
open Go.RowKit Go.Proofs.YtbihkbcjpodnbaaW.PrintWords Go.Proofs.YtbihkbcjpodnbaaW.PrintLast Go.Proofs.YtbihkbcjpodnbaaW.PrintMore
attribute [local go_sem] max2_int min2_int max_two min_two max_three min_three max_four min_four   -- for this text's walks alone
set_option linter.unusedVariables false
set_option linter.unusedSimpArgs false
section
open Go.Shelf Go.Proofs.YtbihkbcjpodnbaaH

def knT : List Int := [951782400, 951868800, 2524607999, 2524608000, -631152000, 253402300799, 4107542400, 1709164799]
def knS : List ByteArray := ["000229000000Z".toUTF8, "000301000000Z".toUTF8, "491231235959Z".toUTF8, "20500101000000Z".toUTF8, "500101000000Z".toUTF8, "99991231235959Z".toUTF8, "21000301000000Z".toUTF8, "240228235959Z".toUTF8]

theorem bytes_step (w : World) (s : ByteArray) (bs : List Int) (hbs : bs = s.data.toList.map (fun b => (b.toNat : Int))) (hl : s.data.size ≤ 9223372036854775807) :
    ∃ (A : Option Addr) (cap : Nat) (W : World), (convert 9 22 (.string s)).run Try.prog w = .ok (.slice A bs.length cap) W ∧ bs.length ≤ cap ∧ Kd.C (Kd.int .u8) W A bs.length bs ∧ Below w.heap.size w W := by
  have hle : bs.length = s.size := by rw [hbs, List.length_map, Array.length_toList]; rfl
  rw [hle]
  have hsz : s.size = s.data.size := rfl
  refine ⟨_, _, _, run_bytes_of_string (P := Try.prog) w 9 22 5 s Try.underlying9 Try.underlying22 Try.underlying5, grownCap_ge _ _ _ _, ?_, ?_⟩
  · refine Kd.C_of_reads (d := (0 : Int)) ⟨hle, by rw [hsz]; exact hl, fun hp => ⟨_, rfl, fun j hj => ?_⟩⟩
    have hj' : j < s.data.size := hj
    have e := bytesRow_at s (grownCap w s.size 0 5) j hj'
    have e2 : bs.getD j 0 = (s.data[j].toNat : Int) := by rw [hbs, List.getD_eq_getElem?_getD, List.getElem?_map, Array.getElem?_toList, Array.getElem?_eq_getElem hj']; rfl
    rw [e2]
    have hh := World.alloc_heap_new w.drew (Obj.cells (bytesRow s (grownCap w s.size 0 5)) 5 ((bytesRow s (grownCap w s.size 0 5)).size, (bytesRow s (grownCap w s.size 0 5)).size + 1))
    rw [show (⟨w.heap.size, 0, none⟩ : Addr).add j = ⟨w.heap.size, j, none⟩ from by simp [Addr.add]; exact Eq.symm]
    unfold World.cell?
    show (match (w.drew.alloc _).heap[w.drew.heap.size]? with | some (.cells cells _ _) => cells[j]? | _ => none) = _
    rw [hh]
    exact e
  · exact (below_drew1 (Below.refl _ w)).alloc (by simp) _

set_option maxHeartbeats 8000000 in
set_option maxRecDepth 100000 in
theorem known_way (j : Nat) (hj : j < 8) (x tag : Int) (s : ByteArray) (bs : List Int) (hbs : bs = s.data.toList.map (fun b => (b.toNat : Int)))
    (hx : ∀ h, ([Value.int IntKind.i64 951782400, Value.int IntKind.i64 951868800, Value.int IntKind.i64 2524607999, Value.int IntKind.i64 2524608000, Value.int IntKind.i64 (-631152000), Value.int IntKind.i64 253402300799, Value.int IntKind.i64 4107542400, Value.int IntKind.i64 1709164799] : List Value)[j]'h = .int .i64 x)
    (hxa : (#[Value.int IntKind.i64 951782400, Value.int IntKind.i64 951868800, Value.int IntKind.i64 2524607999, Value.int IntKind.i64 2524608000, Value.int IntKind.i64 (-631152000), Value.int IntKind.i64 253402300799, Value.int IntKind.i64 4107542400, Value.int IntKind.i64 1709164799] : Array Value)[j]? = some (.int .i64 x))
    (hs : (#[Value.string { data := #[48, 48, 48, 50, 50, 57, 48, 48, 48, 48, 48, 48, 90] }, Value.string { data := #[48, 48, 48, 51, 48, 49, 48, 48, 48, 48, 48, 48, 90] }, Value.string { data := #[52, 57, 49, 50, 51, 49, 50, 51, 53, 57, 53, 57, 90] }, Value.string { data := #[50, 48, 53, 48, 48, 49, 48, 49, 48, 48, 48, 48, 48, 48, 90] }, Value.string { data := #[53, 48, 48, 49, 48, 49, 48, 48, 48, 48, 48, 48, 90] }, Value.string { data := #[57, 57, 57, 57, 49, 50, 51, 49, 50, 51, 53, 57, 53, 57, 90] }, Value.string { data := #[50, 49, 48, 48, 48, 51, 48, 49, 48, 48, 48, 48, 48, 48, 90] }, Value.string { data := #[50, 52, 48, 50, 50, 56, 50, 51, 53, 57, 53, 57, 90] }] : Array Value)[j]? = some (.string s))
    (hstr : strOfNums bs = s) (hlen : s.data.size ≤ 15) (ht15 : (tag == 24) = (s.data.size == 15))
    (k : Nat) (hT : when_Time.f k x = some (tag, bs, [])) (hG : when_Get.f k tag bs [] = some (x, true)) (hN : apostillelaw14_known.f k = some true) (w : World) :
    Calls Try.prog 7 #[.int .i64 j] w fun e w' => e = .returned (.bool true) ∧ Below w.heap.size w w' := by
  have hj0 : (j : Int) < 8 := by omega
  have hj1 : ¬ (j : Int) < 0 := by omega
  have HBS := Aside0.mk hbs
  have HT := Aside0.mk hT
  have HG := Aside0.mk hG
  have HN := Aside0.mk hN
  have HSS := Aside0.mk hs
  have HST := Aside0.mk hstr
  clear hstr
  have HXX := Aside0.mk hxa
  clear hxa
  have HL := Aside0.mk hlen
  have H15 := Aside0.mk ht15
  clear hbs hT hG hN hs hlen ht15
  go_enter Try.func7, Try.ntmps7
  go_wp2_with fail
  refine (when_Time.calls k x tag bs [] _ HT.out).mono ?_
  rintro e w1 ⟨v1, v2, rfl, ho1, ho2, hb1⟩
  obtain ⟨A1, c1, rfl⟩ := Kd.R_slice ho1
  obtain ⟨A2, c2, rfl⟩ := Kd.R_slice ho2
  have hBt : Below w.heap.size w ((w.alloc (Obj.cells #[Value.int IntKind.i64 951782400, Value.int IntKind.i64 951868800, Value.int IntKind.i64 2524607999, Value.int IntKind.i64 2524608000, Value.int IntKind.i64 (-631152000), Value.int IntKind.i64 253402300799, Value.int IntKind.i64 4107542400, Value.int IntKind.i64 1709164799] 2)).alloc (Obj.cells #[Value.string { data := #[48, 48, 48, 50, 50, 57, 48, 48, 48, 48, 48, 48, 90] }, Value.string { data := #[48, 48, 48, 51, 48, 49, 48, 48, 48, 48, 48, 48, 90] }, Value.string { data := #[52, 57, 49, 50, 51, 49, 50, 51, 53, 57, 53, 57, 90] }, Value.string { data := #[50, 48, 53, 48, 48, 49, 48, 49, 48, 48, 48, 48, 48, 48, 90] }, Value.string { data := #[53, 48, 48, 49, 48, 49, 48, 48, 48, 48, 48, 48, 90] }, Value.string { data := #[57, 57, 57, 57, 49, 50, 51, 49, 50, 51, 53, 57, 53, 57, 90] }, Value.string { data := #[50, 49, 48, 48, 48, 51, 48, 49, 48, 48, 48, 48, 48, 48, 90] }, Value.string { data := #[50, 52, 48, 50, 50, 56, 50, 51, 53, 57, 53, 57, 90] }] 9)) := ((Below.refl _ w).alloc (Nat.le_refl _) _).alloc (by simp) _
  have hTt : ((w.alloc (Obj.cells #[Value.int IntKind.i64 951782400, Value.int IntKind.i64 951868800, Value.int IntKind.i64 2524607999, Value.int IntKind.i64 2524608000, Value.int IntKind.i64 (-631152000), Value.int IntKind.i64 253402300799, Value.int IntKind.i64 4107542400, Value.int IntKind.i64 1709164799] 2)).alloc (Obj.cells #[Value.string { data := #[48, 48, 48, 50, 50, 57, 48, 48, 48, 48, 48, 48, 90] }, Value.string { data := #[48, 48, 48, 51, 48, 49, 48, 48, 48, 48, 48, 48, 90] }, Value.string { data := #[52, 57, 49, 50, 51, 49, 50, 51, 53, 57, 53, 57, 90] }, Value.string { data := #[50, 48, 53, 48, 48, 49, 48, 49, 48, 48, 48, 48, 48, 48, 90] }, Value.string { data := #[53, 48, 48, 49, 48, 49, 48, 48, 48, 48, 48, 48, 90] }, Value.string { data := #[57, 57, 57, 57, 49, 50, 51, 49, 50, 51, 53, 57, 53, 57, 90] }, Value.string { data := #[50, 49, 48, 48, 48, 51, 48, 49, 48, 48, 48, 48, 48, 48, 90] }, Value.string { data := #[50, 52, 48, 50, 50, 56, 50, 51, 53, 57, 53, 57, 90] }] 9)).heap[w.heap.size]? = some (Obj.cells #[Value.int IntKind.i64 951782400, Value.int IntKind.i64 951868800, Value.int IntKind.i64 2524607999, Value.int IntKind.i64 2524608000, Value.int IntKind.i64 (-631152000), Value.int IntKind.i64 253402300799, Value.int IntKind.i64 4107542400, Value.int IntKind.i64 1709164799] 2 (0, 0)) := (Below.heap_alloc _ _ _ (by simp)).trans (World.alloc_heap_new w _)
  have hSt : ((w.alloc (Obj.cells #[Value.int IntKind.i64 951782400, Value.int IntKind.i64 951868800, Value.int IntKind.i64 2524607999, Value.int IntKind.i64 2524608000, Value.int IntKind.i64 (-631152000), Value.int IntKind.i64 253402300799, Value.int IntKind.i64 4107542400, Value.int IntKind.i64 1709164799] 2)).alloc (Obj.cells #[Value.string { data := #[48, 48, 48, 50, 50, 57, 48, 48, 48, 48, 48, 48, 90] }, Value.string { data := #[48, 48, 48, 51, 48, 49, 48, 48, 48, 48, 48, 48, 90] }, Value.string { data := #[52, 57, 49, 50, 51, 49, 50, 51, 53, 57, 53, 57, 90] }, Value.string { data := #[50, 48, 53, 48, 48, 49, 48, 49, 48, 48, 48, 48, 48, 48, 90] }, Value.string { data := #[53, 48, 48, 49, 48, 49, 48, 48, 48, 48, 48, 48, 90] }, Value.string { data := #[57, 57, 57, 57, 49, 50, 51, 49, 50, 51, 53, 57, 53, 57, 90] }, Value.string { data := #[50, 49, 48, 48, 48, 51, 48, 49, 48, 48, 48, 48, 48, 48, 90] }, Value.string { data := #[50, 52, 48, 50, 50, 56, 50, 51, 53, 57, 53, 57, 90] }] 9)).heap[w.heap.size + 1]? = some (Obj.cells #[Value.string { data := #[48, 48, 48, 50, 50, 57, 48, 48, 48, 48, 48, 48, 90] }, Value.string { data := #[48, 48, 48, 51, 48, 49, 48, 48, 48, 48, 48, 48, 90] }, Value.string { data := #[52, 57, 49, 50, 51, 49, 50, 51, 53, 57, 53, 57, 90] }, Value.string { data := #[50, 48, 53, 48, 48, 49, 48, 49, 48, 48, 48, 48, 48, 48, 90] }, Value.string { data := #[53, 48, 48, 49, 48, 49, 48, 48, 48, 48, 48, 48, 90] }, Value.string { data := #[57, 57, 57, 57, 49, 50, 51, 49, 50, 51, 53, 57, 53, 57, 90] }, Value.string { data := #[50, 49, 48, 48, 48, 51, 48, 49, 48, 48, 48, 48, 48, 48, 90] }, Value.string { data := #[50, 52, 48, 50, 50, 56, 50, 51, 53, 57, 53, 57, 90] }] 9 (0, 0)) := by
    have := World.alloc_heap_new (w.alloc (Obj.cells #[Value.int IntKind.i64 951782400, Value.int IntKind.i64 951868800, Value.int IntKind.i64 2524607999, Value.int IntKind.i64 2524608000, Value.int IntKind.i64 (-631152000), Value.int IntKind.i64 253402300799, Value.int IntKind.i64 4107542400, Value.int IntKind.i64 1709164799] 2)) (Obj.cells #[Value.string { data := #[48, 48, 48, 50, 50, 57, 48, 48, 48, 48, 48, 48, 90] }, Value.string { data := #[48, 48, 48, 51, 48, 49, 48, 48, 48, 48, 48, 48, 90] }, Value.string { data := #[52, 57, 49, 50, 51, 49, 50, 51, 53, 57, 53, 57, 90] }, Value.string { data := #[50, 48, 53, 48, 48, 49, 48, 49, 48, 48, 48, 48, 48, 48, 90] }, Value.string { data := #[53, 48, 48, 49, 48, 49, 48, 48, 48, 48, 48, 48, 90] }, Value.string { data := #[57, 57, 57, 57, 49, 50, 51, 49, 50, 51, 53, 57, 53, 57, 90] }, Value.string { data := #[50, 49, 48, 48, 48, 51, 48, 49, 48, 48, 48, 48, 48, 48, 90] }, Value.string { data := #[50, 52, 48, 50, 50, 56, 50, 51, 53, 57, 53, 57, 90] }] 9)
    rwa [World.size_alloc] at this
  have hB1 := below_then hBt hBt.size hb1
  have hT1 := blk_below hTt hb1
  have hS1 := blk_below hSt hb1
  have hO1 := Kd.R_lower ho1 hBt.size
  have hlt : w.heap.size + 1 < w1.heap.size := (Array.getElem?_eq_some_iff.1 hS1).1
  clear hBt hTt hSt ho1 ho2 hb1
  have HB := Aside0.mk (hB1.alloc hB1.size (Obj.cells #[.int .u8 tag, .slice A1 bs.length c1, .slice A2 ([] : List S25).length c2] 25))
  have HTr := Aside0.mk ((Below.heap_alloc w1 (Obj.cells #[.int .u8 tag, .slice A1 bs.length c1, .slice A2 ([] : List S25).length c2] 25) _ (by omega)).trans hT1)
  have HSr := Aside0.mk ((Below.heap_alloc w1 (Obj.cells #[.int .u8 tag, .slice A1 bs.length c1, .slice A2 ([] : List S25).length c2] 25) _ (by omega)).trans hS1)
  have HNr := Aside0.mk (World.alloc_heap_new w1 (Obj.cells #[.int .u8 tag, .slice A1 bs.length c1, .slice A2 ([] : List S25).length c2] 25))
  have HO := Aside0.mk (Kd.R_alloc hO1 (o := Obj.cells #[.int .u8 tag, .slice A1 bs.length c1, .slice A2 ([] : List S25).length c2] 25))
  clear hB1 hT1 hS1 hO1
  go_wp2_with fail
  generalize w1.alloc (Obj.cells #[.int .u8 tag, .slice A1 bs.length c1, .slice A2 ([] : List S25).length c2] 25) = W6 at *
  have hc0 := (blk_cell HNr.out 0).trans rfl
  have hcs := (blk_cell HSr.out j).trans HSS.out
  refine start_ (n := 14) (S := fun w' => w'.cell? ⟨w1.heap.size, 0, none⟩ = some (.int .u8 tag) ∧ w'.cell? ⟨w.heap.size + 1, j, none⟩ = some (.string s)) (ds := []) #[false, false, false, false, false, false, false, false, false, false, false, false, false, false] (by kernel_rfl) rfl rfl ⟨hc0, hcs⟩ (fun hHeld => ?_)
  have HT2 := Aside0.mk (blk_drew HTr.out)
  have HS2 := Aside0.mk (blk_drew HSr.out)
  have HN2 := Aside0.mk (blk_drew HNr.out)
  have HO2 := Aside0.mk (Kd.R_drew HO.out)
  have HB2 := Aside0.mk (below_drew1 HB.out)
  clear HTr HSr HNr HO HB hc0 hcs
  generalize W6.drew = w2 at HT2 HS2 HN2 HO2 HB2 hHeld ⊢
  refine pure_ (i := 0) (N := some 24) (v := ?_) (a' := ?_) #[true, false, false, false, false, false, false, false, false, false, false, false, false, false] rfl rfl (by kernel_rfl) (fun _ _ _ h => h) (Or.inl ⟨by rfl, ?_⟩) ?_ ?_
  rotate_left
  · intro w'
    go_simp
    with_reducible rfl
  rotate_left
  · simp only [Act.put, List.setIfInBounds_toArray, List.set_cons_zero, List.set_cons_succ, i64_w, i32_w]
    rfl
  refine pure_ (i := 2) (N := some 26) (v := ?_) (a' := ?_) #[true, false, true, false, false, false, false, false, false, false, false, false, false, false] rfl rfl (by kernel_rfl) (fun _ _ _ h => h) (Or.inl ⟨by rfl, ?_⟩) ?_ ?_
  rotate_left
  · intro w'
    go_simp
    with_reducible rfl
  rotate_left
  · simp only [Act.put, List.setIfInBounds_toArray, List.set_cons_zero, List.set_cons_succ, i64_w, i32_w]
    rfl
  refine pure_ (i := 3) (N := some 27) (v := ?_) (a' := ?_) #[true, false, true, true, false, false, false, false, false, false, false, false, false, false] rfl rfl (by kernel_rfl) (fun _ _ _ h => h) (Or.inl ⟨by rfl, ?_⟩) ?_ ?_
  rotate_left
  · intro w'
    go_simp
    with_reducible rfl
  rotate_left
  · simp only [Act.put, List.setIfInBounds_toArray, List.set_cons_zero, List.set_cons_succ, i64_w, i32_w]
    rfl
  refine pure_ (i := 4) (N := some 28) (v := ?_) (a' := ?_) #[true, false, true, true, true, false, false, false, false, false, false, false, false, false] rfl rfl (by kernel_rfl) (fun _ _ _ h => h) (Or.inl ⟨by rfl, ?_⟩) ?_ ?_
  rotate_left
  · intro w'
    go_simp
    with_reducible rfl
  rotate_left
  · simp only [Act.put, List.setIfInBounds_toArray, List.set_cons_zero, List.set_cons_succ, i64_w, i32_w]
    rfl
  refine take_ (i := 1) (N := some 25) (v := ?_) (a' := ?_) #[true, true, true, true, true, false, false, false, false, false, false, false, false, false] rfl rfl (by kernel_rfl) (fun _ _ _ h => h) (Or.inl ⟨by rfl, ?_⟩) hHeld ?_ ?_
  rotate_left
  · rintro w' ⟨s0, s1⟩
    go_simp
    with_reducible rfl
  rotate_left
  · simp only [Act.put, List.setIfInBounds_toArray, List.set_cons_zero, List.set_cons_succ, i64_w, i32_w]
    rfl
  refine take_ (i := 5) (N := some 29) (v := ?_) (a' := ?_) #[true, true, true, true, true, true, false, false, false, false, false, false, false, false] rfl rfl (by kernel_rfl) (fun _ _ _ h => h) (Or.inl ⟨by rfl, ?_⟩) hHeld ?_ ?_
  rotate_left
  · rintro w' ⟨s0, s1⟩
    go_simp
    with_reducible rfl
  rotate_left
  · simp only [Act.put, List.setIfInBounds_toArray, List.set_cons_zero, List.set_cons_succ, i64_w, i32_w]
    rfl
  refine one_ (i := 6) (N := some 30) #[true, true, true, true, true, true, true, false, false, false, false, false, false, false] rfl rfl (by kernel_rfl) (by decide) (fun K hK => ?_)
  obtain ⟨A3, c3, W3, hcv, hcc3, hC3, hB3⟩ := bytes_step w2 s bs HBS.out (by have := HL.out; omega)
  go_simp
  have HT3 := Aside0.mk (blk_below HT2.out hB3)
  have HS3 := Aside0.mk (blk_below HS2.out hB3)
  have HN3 := Aside0.mk (blk_below HN2.out hB3)
  have HO3 := Aside0.mk (Kd.R_below HO2.out hB3)
  have HB3 := Aside0.mk (below_then HB2.out HB2.out.size hB3)
  refine hK.out _ _ ⟨pw_cell_below hB3 hHeld.1, pw_cell_below hB3 hHeld.2⟩ (fun hHeld2 => ?_)
  clear hK K hcv HT2 HS2 HN2 HO2 HB2 hB3 hHeld
  refine pure_ (i := 7) (N := some 31) (v := ?_) (a' := ?_) #[true, true, true, true, true, true, true, true, false, false, false, false, false, false] rfl rfl (by kernel_rfl) (fun _ _ _ h => h) (Or.inl ⟨by rfl, ?_⟩) ?_ ?_
  rotate_left
  · intro w'
    go_simp
    with_reducible rfl
  rotate_left
  · simp only [Act.put, List.setIfInBounds_toArray, List.set_cons_zero, List.set_cons_succ, i64_w, i32_w]
    rfl
  refine one_ (i := 8) (N := some 32) #[true, true, true, true, true, true, true, true, true, false, false, false, false, false] rfl rfl (by kernel_rfl) (by decide) (fun K hK => ?_)
  refine goes_ Try.func14 (by kernel_rfl) rfl #[.agg #[.int .u8 tag, .slice A3 bs.length c3, .slice none ([] : List S25).length 0]] (by rfl) rfl rfl (by (try simp only [List.map_toArray, List.map_cons, List.map_nil]); first | done | rfl) ?_
  refine (when_Get.calls k tag A3 c3 bs none 0 [] x true _ hC3 hcc3 (Kd.R_reads' (Kd.R_nil k25 25 W3 w.heap.size (fun _ => True))).2.2 (Nat.le_refl _) HG.out).mono ?_
  rintro e w4 ⟨rfl, hB4⟩
  refine ⟨_, rfl, ?_⟩
  have HT4 := Aside0.mk (blk_below HT3.out hB4)
  have HS4 := Aside0.mk (blk_below HS3.out hB4)
  have HN4 := Aside0.mk (blk_below HN3.out hB4)
  have HO4 := Aside0.mk (Kd.R_below HO3.out hB4)
  have HB4 := Aside0.mk (below_then HB3.out HB3.out.size hB4)
  refine hK.out _ _ ⟨pw_cell_below hB4 hHeld2.1, pw_cell_below hB4 hHeld2.2⟩ (fun hHeld3 => ?_)
  clear hK K HT3 HS3 HN3 HO3 HB3 hB4 hHeld2 hcc3 hC3
  refine norm_ (a' := ?_) ?_ ?_
  rotate_left
  · show Act.put _ (some 32) _ = _
    simp only [Act.put, List.setIfInBounds_toArray, List.set_cons_zero, List.set_cons_succ, i64_w, i32_w]
    rfl
  refine pure_ (i := 9) (N := some 23) (v := ?_) (a' := ?_) #[true, true, true, true, true, true, true, true, true, true, false, false, false, false] rfl rfl (by kernel_rfl) (fun _ _ _ h => h) (Or.inl ⟨by rfl, ?_⟩) ?_ ?_
  rotate_left
  · intro w'
    go_simp
    with_reducible rfl
  rotate_left
  · simp only [Act.put, List.setIfInBounds_toArray, List.set_cons_zero, List.set_cons_succ, i64_w, i32_w]
    rfl
  refine pure_ (i := 10) (N := some 33) (v := ?_) (a' := ?_) #[true, true, true, true, true, true, true, true, true, true, true, false, false, false] rfl rfl (by kernel_rfl) (fun _ _ _ h => h) (Or.inl ⟨by rfl, ?_⟩) ?_ ?_
  rotate_left
  · intro w'
    go_simp
    with_reducible rfl
  rotate_left
  · simp only [Act.put, List.setIfInBounds_toArray, List.set_cons_zero, List.set_cons_succ, i64_w, i32_w]
    rfl
  refine pure_ (i := 11) (N := some 34) (v := ?_) (a' := ?_) #[true, true, true, true, true, true, true, true, true, true, true, true, false, false] rfl rfl (by kernel_rfl) (fun _ _ _ h => h) (Or.inl ⟨by rfl, ?_⟩) ?_ ?_
  rotate_left
  · intro w'
    go_simp
    with_reducible rfl
  rotate_left
  · simp only [Act.put, List.setIfInBounds_toArray, List.set_cons_zero, List.set_cons_succ, i64_w, i32_w]
    rfl
  refine pure_ (i := 12) (N := some 6) (v := ?_) (a' := ?_) #[true, true, true, true, true, true, true, true, true, true, true, true, true, false] rfl rfl (by kernel_rfl) (fun _ _ _ h => h) (Or.inl ⟨by rfl, ?_⟩) ?_ ?_
  rotate_left
  · intro w'
    go_simp
    with_reducible rfl
  rotate_left
  · simp only [Act.put, List.setIfInBounds_toArray, List.set_cons_zero, List.set_cons_succ, i64_w, i32_w]
    rfl
  refine pure_ (i := 13) (N := some 7) (v := ?_) (a' := ?_) #[true, true, true, true, true, true, true, true, true, true, true, true, true, true] rfl rfl (by kernel_rfl) (fun _ _ _ h => h) (Or.inl ⟨by rfl, ?_⟩) ?_ ?_
  rotate_left
  · intro w'
    go_simp
    with_reducible rfl
  rotate_left
  · simp only [Act.put, List.setIfInBounds_toArray, List.set_cons_zero, List.set_cons_succ, i64_w, i32_w]
    rfl
  refine done_ (by kernel_rfl) ?_
  clear hHeld3
  go_wp2_with fail
  have hc0 := (blk_cell HN4.out 0).trans rfl
  have hc1 := (blk_cell HN4.out 1).trans rfl
  have hcs := (blk_cell HS4.out j).trans HSS.out
  have hcx := (blk_cell HT4.out j).trans HXX.out
  have hst := own_string (P := Try.prog) Try.underlying22 Try.underlying5 Try.underlying9 (Kd.own_of_R (Kd.R_drew HO4.out))
  rw [HST.out] at hst
  refine start_ (n := 35) (S := fun w' => w'.cell? ⟨w1.heap.size, 0, none⟩ = some (.int .u8 tag) ∧ w'.cell? ⟨w1.heap.size, 1, none⟩ = some (.slice A1 bs.length c1) ∧ w'.cell? ⟨w.heap.size + 1, j, none⟩ = some (.string s) ∧ w'.cell? ⟨w.heap.size, j, none⟩ = some (.int .i64 x) ∧ (convert 22 9 (.slice A1 bs.length c1)).run Try.prog w' = .ok (.string s) w') (ds := []) #[false, false, false, false, false, false, false, false, false, false, false, false, false, false, false, false, false, false, false, false, false, false, false, false, false, false, false, false, false, false, false, false, false, false, false] (by kernel_rfl) rfl rfl ⟨hc0, hc1, hcs, hcx, hst⟩ (fun hHeld => ?_)
  have HO5 := Aside0.mk (Kd.R_drew HO4.out)
  have HB5 := Aside0.mk (below_drew1 HB4.out)
  obtain ⟨b15, h15, h16⟩ : ∃ b, (tag == 24) = b ∧ ((s.size : Int) == 15) = b := ⟨_, rfl, by rw [H15.out]; show ((s.data.size : Int) == 15) = _; cases h : (s.data.size == 15) <;> simp at h ⊢ <;> omega⟩
  clear HT4 HS4 HN4 HO4 HB4 hc0 hc1 hcs hcx hst
  generalize w4.drew = w5 at HO5 HB5 hHeld ⊢
  refine pure_ (i := 0) (N := some 35) (v := ?_) (a' := ?_) #[true, false, false, false, false, false, false, false, false, false, false, false, false, false, false, false, false, false, false, false, false, false, false, false, false, false, false, false, false, false, false, false, false, false, false] rfl rfl (by kernel_rfl) (fun _ _ _ h => h) (Or.inl ⟨by rfl, ?_⟩) ?_ ?_
  rotate_left
  · intro w'
    go_simp
    with_reducible rfl
  rotate_left
  · simp only [Act.put, List.setIfInBounds_toArray, List.set_cons_zero, List.set_cons_succ, i64_w, i32_w]
    rfl
  refine pure_ (i := 3) (N := some 38) (v := ?_) (a' := ?_) #[true, false, false, true, false, false, false, false, false, false, false, false, false, false, false, false, false, false, false, false, false, false, false, false, false, false, false, false, false, false, false, false, false, false, false] rfl rfl (by kernel_rfl) (fun _ _ _ h => h) (Or.inl ⟨by rfl, ?_⟩) ?_ ?_
  rotate_left
  · intro w'
    go_simp
    with_reducible rfl
  rotate_left
  · simp only [Act.put, List.setIfInBounds_toArray, List.set_cons_zero, List.set_cons_succ, i64_w, i32_w]
    rfl
  refine pure_ (i := 4) (N := some 39) (v := ?_) (a' := ?_) #[true, false, false, true, true, false, false, false, false, false, false, false, false, false, false, false, false, false, false, false, false, false, false, false, false, false, false, false, false, false, false, false, false, false, false] rfl rfl (by kernel_rfl) (fun _ _ _ h => h) (Or.inl ⟨by rfl, ?_⟩) ?_ ?_
  rotate_left
  · intro w'
    go_simp
    with_reducible rfl
  rotate_left
  · simp only [Act.put, List.setIfInBounds_toArray, List.set_cons_zero, List.set_cons_succ, i64_w, i32_w]
    rfl
  refine pure_ (i := 5) (N := some 40) (v := ?_) (a' := ?_) #[true, false, false, true, true, true, false, false, false, false, false, false, false, false, false, false, false, false, false, false, false, false, false, false, false, false, false, false, false, false, false, false, false, false, false] rfl rfl (by kernel_rfl) (fun _ _ _ h => h) (Or.inl ⟨by rfl, ?_⟩) ?_ ?_
  rotate_left
  · intro w'
    go_simp
    with_reducible rfl
  rotate_left
  · simp only [Act.put, List.setIfInBounds_toArray, List.set_cons_zero, List.set_cons_succ, i64_w, i32_w]
    rfl
  refine take_ (i := 1) (N := some 36) (v := ?_) (a' := ?_) #[true, true, false, true, true, true, false, false, false, false, false, false, false, false, false, false, false, false, false, false, false, false, false, false, false, false, false, false, false, false, false, false, false, false, false] rfl rfl (by kernel_rfl) (fun _ _ _ h => h) (Or.inl ⟨by rfl, ?_⟩) hHeld ?_ ?_
  rotate_left
  · rintro w' ⟨s0, s1, s2, s3, s4⟩
    go_simp
    with_reducible rfl
  rotate_left
  · simp only [Act.put, List.setIfInBounds_toArray, List.set_cons_zero, List.set_cons_succ, i64_w, i32_w]
    rfl
  refine take_ (i := 2) (N := some 37) (v := ?_) (a' := ?_) #[true, true, true, true, true, true, false, false, false, false, false, false, false, false, false, false, false, false, false, false, false, false, false, false, false, false, false, false, false, false, false, false, false, false, false] rfl rfl (by kernel_rfl) (fun _ _ _ h => h) (Or.inl ⟨by rfl, ?_⟩) hHeld ?_ ?_
  rotate_left
  · rintro w' ⟨s0, s1, s2, s3, s4⟩
    go_simp
    with_reducible rfl
  rotate_left
  · simp only [Act.put, List.setIfInBounds_toArray, List.set_cons_zero, List.set_cons_succ, i64_w, i32_w]
    rfl
  refine take_ (i := 6) (N := some 41) (v := ?_) (a' := ?_) #[true, true, true, true, true, true, true, false, false, false, false, false, false, false, false, false, false, false, false, false, false, false, false, false, false, false, false, false, false, false, false, false, false, false, false] rfl rfl (by kernel_rfl) (fun _ _ _ h => h) (Or.inl ⟨by rfl, ?_⟩) hHeld ?_ ?_
  rotate_left
  · rintro w' ⟨s0, s1, s2, s3, s4⟩
    go_simp
    with_reducible rfl
  rotate_left
  · simp only [Act.put, List.setIfInBounds_toArray, List.set_cons_zero, List.set_cons_succ, i64_w, i32_w]
    rfl
  refine pure_ (i := 7) (N := some 42) (v := ?_) (a' := ?_) #[true, true, true, true, true, true, true, true, false, false, false, false, false, false, false, false, false, false, false, false, false, false, false, false, false, false, false, false, false, false, false, false, false, false, false] rfl rfl (by kernel_rfl) (fun _ _ _ h => h) (Or.inl ⟨by rfl, ?_⟩) ?_ ?_
  rotate_left
  · intro w'
    go_simp
    with_reducible rfl
  rotate_left
  · simp only [Act.put, List.setIfInBounds_toArray, List.set_cons_zero, List.set_cons_succ, i64_w, i32_w]
    rfl
  refine pure_ (i := 8) (N := some 43) (v := ?_) (a' := ?_) #[true, true, true, true, true, true, true, true, true, false, false, false, false, false, false, false, false, false, false, false, false, false, false, false, false, false, false, false, false, false, false, false, false, false, false] rfl rfl (by kernel_rfl) (fun _ _ _ h => h) (Or.inl ⟨by rfl, ?_⟩) ?_ ?_
  rotate_left
  · intro w'
    go_simp
    with_reducible rfl
  rotate_left
  · simp only [Act.put, List.setIfInBounds_toArray, List.set_cons_zero, List.set_cons_succ, i64_w, i32_w]
    rfl
  refine pure_ (i := 9) (N := some 44) (v := ?_) (a' := ?_) #[true, true, true, true, true, true, true, true, true, true, false, false, false, false, false, false, false, false, false, false, false, false, false, false, false, false, false, false, false, false, false, false, false, false, false] rfl rfl (by kernel_rfl) (fun _ _ _ h => h) (Or.inl ⟨by rfl, ?_⟩) ?_ ?_
  rotate_left
  · intro w'
    go_simp
    with_reducible rfl
  rotate_left
  · simp only [Act.put, List.setIfInBounds_toArray, List.set_cons_zero, List.set_cons_succ, i64_w, i32_w]
    rfl
  refine pure_ (i := 10) (N := some 45) (v := ?_) (a' := ?_) #[true, true, true, true, true, true, true, true, true, true, true, false, false, false, false, false, false, false, false, false, false, false, false, false, false, false, false, false, false, false, false, false, false, false, false] rfl rfl (by kernel_rfl) (fun _ _ _ h => h) (Or.inl ⟨by rfl, ?_⟩) ?_ ?_
  rotate_left
  · intro w'
    go_simp
    with_reducible rfl
  rotate_left
  · simp only [Act.put, List.setIfInBounds_toArray, List.set_cons_zero, List.set_cons_succ, i64_w, i32_w]
    rfl
  refine pure_ (i := 11) (N := some 46) (v := ?_) (a' := ?_) #[true, true, true, true, true, true, true, true, true, true, true, true, false, false, false, false, false, false, false, false, false, false, false, false, false, false, false, false, false, false, false, false, false, false, false] rfl rfl (by kernel_rfl) (fun _ _ _ h => h) (Or.inl ⟨by rfl, ?_⟩) ?_ ?_
  rotate_left
  · intro w'
    go_simp
    with_reducible rfl
  rotate_left
  · simp only [Act.put, List.setIfInBounds_toArray, List.set_cons_zero, List.set_cons_succ, i64_w, i32_w]
    rfl
  refine pure_ (i := 12) (N := some 47) (v := ?_) (a' := ?_) #[true, true, true, true, true, true, true, true, true, true, true, true, true, false, false, false, false, false, false, false, false, false, false, false, false, false, false, false, false, false, false, false, false, false, false] rfl rfl (by kernel_rfl) (fun _ _ _ h => h) (Or.inl ⟨by rfl, ?_⟩) ?_ ?_
  rotate_left
  · intro w'
    go_simp
    with_reducible rfl
  rotate_left
  · simp only [Act.put, List.setIfInBounds_toArray, List.set_cons_zero, List.set_cons_succ, i64_w, i32_w]
    rfl
  refine pure_ (i := 13) (N := some 48) (v := ?_) (a' := ?_) #[true, true, true, true, true, true, true, true, true, true, true, true, true, true, false, false, false, false, false, false, false, false, false, false, false, false, false, false, false, false, false, false, false, false, false] rfl rfl (by kernel_rfl) (fun _ _ _ h => h) (Or.inl ⟨by rfl, ?_⟩) ?_ ?_
  rotate_left
  · intro w'
    go_simp
    with_reducible rfl
  rotate_left
  · simp only [Act.put, List.setIfInBounds_toArray, List.set_cons_zero, List.set_cons_succ, i64_w, i32_w]
    rfl
  refine pure_ (i := 14) (N := some 49) (v := ?_) (a' := ?_) #[true, true, true, true, true, true, true, true, true, true, true, true, true, true, true, false, false, false, false, false, false, false, false, false, false, false, false, false, false, false, false, false, false, false, false] rfl rfl (by kernel_rfl) (fun _ _ _ h => h) (Or.inl ⟨by rfl, ?_⟩) ?_ ?_
  rotate_left
  · intro w'
    go_simp
    with_reducible rfl
  rotate_left
  · simp only [Act.put, List.setIfInBounds_toArray, List.set_cons_zero, List.set_cons_succ, i64_w, i32_w]
    rfl
  refine pure_ (i := 15) (N := some 50) (v := ?_) (a' := ?_) #[true, true, true, true, true, true, true, true, true, true, true, true, true, true, true, true, false, false, false, false, false, false, false, false, false, false, false, false, false, false, false, false, false, false, false] rfl rfl (by kernel_rfl) (fun _ _ _ h => h) (Or.inl ⟨by rfl, ?_⟩) ?_ ?_
  rotate_left
  · intro w'
    go_simp
    with_reducible rfl
  rotate_left
  · simp only [Act.put, List.setIfInBounds_toArray, List.set_cons_zero, List.set_cons_succ, i64_w, i32_w]
    rfl
  refine take_ (i := 16) (N := some 51) (v := ?_) (a' := ?_) #[true, true, true, true, true, true, true, true, true, true, true, true, true, true, true, true, true, false, false, false, false, false, false, false, false, false, false, false, false, false, false, false, false, false, false] rfl rfl (by kernel_rfl) (fun _ _ _ h => h) (Or.inl ⟨by rfl, ?_⟩) hHeld ?_ ?_
  rotate_left
  · rintro w' ⟨s0, s1, s2, s3, s4⟩
    go_simp
    with_reducible rfl
  rotate_left
  · simp only [Act.put, List.setIfInBounds_toArray, List.set_cons_zero, List.set_cons_succ, i64_w, i32_w]
    rfl
  refine pure_ (i := 17) (N := some 52) (v := ?_) (a' := ?_) #[true, true, true, true, true, true, true, true, true, true, true, true, true, true, true, true, true, true, false, false, false, false, false, false, false, false, false, false, false, false, false, false, false, false, false] rfl rfl (by kernel_rfl) (fun _ _ _ h => h) (Or.inl ⟨by rfl, ?_⟩) ?_ ?_
  rotate_left
  · intro w'
    go_simp
    with_reducible rfl
  rotate_left
  · simp only [Act.put, List.setIfInBounds_toArray, List.set_cons_zero, List.set_cons_succ, i64_w, i32_w]
    rfl
  refine pure_ (i := 18) (N := some 53) (v := ?_) (a' := ?_) #[true, true, true, true, true, true, true, true, true, true, true, true, true, true, true, true, true, true, true, false, false, false, false, false, false, false, false, false, false, false, false, false, false, false, false] rfl rfl (by kernel_rfl) (fun _ _ _ h => h) (Or.inl ⟨by rfl, ?_⟩) ?_ ?_
  rotate_left
  · intro w'
    go_simp
    with_reducible rfl
  rotate_left
  · simp only [Act.put, List.setIfInBounds_toArray, List.set_cons_zero, List.set_cons_succ, i64_w, i32_w]
    rfl
  refine pure_ (i := 19) (N := some 54) (v := ?_) (a' := ?_) #[true, true, true, true, true, true, true, true, true, true, true, true, true, true, true, true, true, true, true, true, false, false, false, false, false, false, false, false, false, false, false, false, false, false, false] rfl rfl (by kernel_rfl) (fun _ _ _ h => h) (Or.inl ⟨by rfl, ?_⟩) ?_ ?_
  rotate_left
  · intro w'
    go_simp
    with_reducible rfl
  rotate_left
  · simp only [Act.put, List.setIfInBounds_toArray, List.set_cons_zero, List.set_cons_succ, i64_w, i32_w]
    rfl
  refine pure_ (i := 20) (N := some 55) (v := ?_) (a' := ?_) #[true, true, true, true, true, true, true, true, true, true, true, true, true, true, true, true, true, true, true, true, true, false, false, false, false, false, false, false, false, false, false, false, false, false, false] rfl rfl (by kernel_rfl) (fun _ _ _ h => h) (Or.inl ⟨by rfl, ?_⟩) ?_ ?_
  rotate_left
  · intro w'
    go_simp
    with_reducible rfl
  rotate_left
  · simp only [Act.put, List.setIfInBounds_toArray, List.set_cons_zero, List.set_cons_succ, i64_w, i32_w]
    rfl
  refine take_ (i := 21) (N := some 56) (v := ?_) (a' := ?_) #[true, true, true, true, true, true, true, true, true, true, true, true, true, true, true, true, true, true, true, true, true, true, false, false, false, false, false, false, false, false, false, false, false, false, false] rfl rfl (by kernel_rfl) (fun _ _ _ h => h) (Or.inl ⟨by rfl, ?_⟩) hHeld ?_ ?_
  rotate_left
  · rintro w' ⟨s0, s1, s2, s3, s4⟩
    go_simp
    with_reducible rfl
  rotate_left
  · simp only [Act.put, List.setIfInBounds_toArray, List.set_cons_zero, List.set_cons_succ, i64_w, i32_w]
    rfl
  refine pure_ (i := 22) (N := some 57) (v := ?_) (a' := ?_) #[true, true, true, true, true, true, true, true, true, true, true, true, true, true, true, true, true, true, true, true, true, true, true, false, false, false, false, false, false, false, false, false, false, false, false] rfl rfl (by kernel_rfl) (fun _ _ _ h => h) (Or.inl ⟨by rfl, ?_⟩) ?_ ?_
  rotate_left
  · intro w'
    go_simp
    with_reducible rfl
  rotate_left
  · simp only [Act.put, List.setIfInBounds_toArray, List.set_cons_zero, List.set_cons_succ, i64_w, i32_w]
    rfl
  refine pure_ (i := 23) (N := some 58) (v := ?_) (a' := ?_) #[true, true, true, true, true, true, true, true, true, true, true, true, true, true, true, true, true, true, true, true, true, true, true, true, false, false, false, false, false, false, false, false, false, false, false] rfl rfl (by kernel_rfl) (fun _ _ _ h => h) (Or.inl ⟨by rfl, ?_⟩) ?_ ?_
  rotate_left
  · intro w'
    go_simp
    with_reducible rfl
  rotate_left
  · simp only [Act.put, List.setIfInBounds_toArray, List.set_cons_zero, List.set_cons_succ, i64_w, i32_w]
    rfl
  refine pure_ (i := 24) (N := some 59) (v := ?_) (a' := ?_) #[true, true, true, true, true, true, true, true, true, true, true, true, true, true, true, true, true, true, true, true, true, true, true, true, true, false, false, false, false, false, false, false, false, false, false] rfl rfl (by kernel_rfl) (fun _ _ _ h => h) (Or.inl ⟨by rfl, ?_⟩) ?_ ?_
  rotate_left
  · intro w'
    go_simp
    with_reducible rfl
  rotate_left
  · simp only [Act.put, List.setIfInBounds_toArray, List.set_cons_zero, List.set_cons_succ, i64_w, i32_w]
    rfl
  refine pure_ (i := 25) (N := some 60) (v := ?_) (a' := ?_) #[true, true, true, true, true, true, true, true, true, true, true, true, true, true, true, true, true, true, true, true, true, true, true, true, true, true, false, false, false, false, false, false, false, false, false] rfl rfl (by kernel_rfl) (fun _ _ _ h => h) (Or.inl ⟨by rfl, ?_⟩) ?_ ?_
  rotate_left
  · intro w'
    go_simp
    with_reducible rfl
  rotate_left
  · simp only [Act.put, List.setIfInBounds_toArray, List.set_cons_zero, List.set_cons_succ, i64_w, i32_w]
    rfl
  refine take_ (i := 26) (N := some 61) (v := ?_) (a' := ?_) #[true, true, true, true, true, true, true, true, true, true, true, true, true, true, true, true, true, true, true, true, true, true, true, true, true, true, true, false, false, false, false, false, false, false, false] rfl rfl (by kernel_rfl) (fun _ _ _ h => h) (Or.inl ⟨by rfl, ?_⟩) hHeld ?_ ?_
  rotate_left
  · rintro w' ⟨s0, s1, s2, s3, s4⟩
    go_simp
    with_reducible rfl
  rotate_left
  · simp only [Act.put, List.setIfInBounds_toArray, List.set_cons_zero, List.set_cons_succ, i64_w, i32_w]
    rfl
  refine pure_ (i := 27) (N := some 62) (v := ?_) (a' := ?_) #[true, true, true, true, true, true, true, true, true, true, true, true, true, true, true, true, true, true, true, true, true, true, true, true, true, true, true, true, false, false, false, false, false, false, false] rfl rfl (by kernel_rfl) (fun _ _ _ h => h) (Or.inl ⟨by rfl, ?_⟩) ?_ ?_
  rotate_left
  · intro w'
    go_simp
    with_reducible rfl
  rotate_left
  · simp only [Act.put, List.setIfInBounds_toArray, List.set_cons_zero, List.set_cons_succ, i64_w, i32_w]
    rfl
  refine pure_ (i := 28) (N := some 63) (v := ?_) (a' := ?_) #[true, true, true, true, true, true, true, true, true, true, true, true, true, true, true, true, true, true, true, true, true, true, true, true, true, true, true, true, true, false, false, false, false, false, false] rfl rfl (by kernel_rfl) (fun _ _ _ h => h) (Or.inl ⟨by rfl, ?_⟩) ?_ ?_
  rotate_left
  · intro w'
    go_simp
    with_reducible rfl
  rotate_left
  · simp only [Act.put, List.setIfInBounds_toArray, List.set_cons_zero, List.set_cons_succ, i64_w, i32_w]
    rfl
  refine pure_ (i := 29) (N := some 64) (v := ?_) (a' := ?_) #[true, true, true, true, true, true, true, true, true, true, true, true, true, true, true, true, true, true, true, true, true, true, true, true, true, true, true, true, true, true, false, false, false, false, false] rfl rfl (by kernel_rfl) (fun _ _ _ h => h) (Or.inl ⟨by rfl, ?_⟩) ?_ ?_
  rotate_left
  · intro w'
    go_simp
    with_reducible rfl
  rotate_left
  · simp only [Act.put, List.setIfInBounds_toArray, List.set_cons_zero, List.set_cons_succ, i64_w, i32_w]
    rfl
  refine pure_ (i := 30) (N := some 65) (v := ?_) (a' := ?_) #[true, true, true, true, true, true, true, true, true, true, true, true, true, true, true, true, true, true, true, true, true, true, true, true, true, true, true, true, true, true, true, false, false, false, false] rfl rfl (by kernel_rfl) (fun _ _ _ h => h) (Or.inl ⟨by rfl, ?_⟩) ?_ ?_
  rotate_left
  · intro w'
    go_simp
    with_reducible rfl
  rotate_left
  · simp only [Act.put, List.setIfInBounds_toArray, List.set_cons_zero, List.set_cons_succ, i64_w, i32_w]
    rfl
  refine pure_ (i := 31) (N := some 66) (v := ?_) (a' := ?_) #[true, true, true, true, true, true, true, true, true, true, true, true, true, true, true, true, true, true, true, true, true, true, true, true, true, true, true, true, true, true, true, true, false, false, false] rfl rfl (by kernel_rfl) (fun _ _ _ h => h) (Or.inl ⟨by rfl, ?_⟩) ?_ ?_
  rotate_left
  · intro w'
    go_simp
    with_reducible rfl
  rotate_left
  · simp only [Act.put, List.setIfInBounds_toArray, List.set_cons_zero, List.set_cons_succ, i64_w, i32_w]
    rfl
  refine one_ (i := 32) (N := some 67) #[true, true, true, true, true, true, true, true, true, true, true, true, true, true, true, true, true, true, true, true, true, true, true, true, true, true, true, true, true, true, true, true, true, false, false] rfl rfl (by kernel_rfl) (by decide) (fun K hK => ?_)
  refine goes_ Try.func15 (by kernel_rfl) rfl #[] (by rfl) rfl rfl (by (try simp only [List.map_toArray, List.map_cons, List.map_nil]); first | done | rfl) ?_
  refine (apostillelaw14_known.calls k true _ HN.out).mono ?_
  rintro e w6 ⟨rfl, hB6⟩
  refine ⟨_, rfl, ?_⟩
  have hst6 := own_string (P := Try.prog) Try.underlying22 Try.underlying5 Try.underlying9 (Kd.own_of_R (Kd.R_below HO5.out hB6))
  rw [HST.out] at hst6
  have HB6 := Aside0.mk (below_then HB5.out HB5.out.size hB6)
  refine hK.out _ _ ⟨pw_cell_below hB6 hHeld.1, pw_cell_below hB6 hHeld.2.1, pw_cell_below hB6 hHeld.2.2.1, pw_cell_below hB6 hHeld.2.2.2.1, hst6⟩ (fun hHeld3 => ?_)
  clear hK K hB6 hst6 HO5 HB5 hHeld
  refine norm_ (a' := ?_) ?_ ?_
  rotate_left
  · show Act.put _ (some 67) _ = _
    simp only [Act.put, List.setIfInBounds_toArray, List.set_cons_zero, List.set_cons_succ, i64_w, i32_w]
    rfl
  refine pure_ (i := 33) (N := some 68) (v := ?_) (a' := ?_) #[true, true, true, true, true, true, true, true, true, true, true, true, true, true, true, true, true, true, true, true, true, true, true, true, true, true, true, true, true, true, true, true, true, true, false] rfl rfl (by kernel_rfl) (fun _ _ _ h => h) (Or.inl ⟨by rfl, ?_⟩) ?_ ?_
  rotate_left
  · intro w'
    go_simp
    with_reducible rfl
  rotate_left
  · simp only [Act.put, List.setIfInBounds_toArray, List.set_cons_zero, List.set_cons_succ, i64_w, i32_w]
    rfl
  refine pure_ (i := 34) (N := some 2) (v := ?_) (a' := ?_) #[true, true, true, true, true, true, true, true, true, true, true, true, true, true, true, true, true, true, true, true, true, true, true, true, true, true, true, true, true, true, true, true, true, true, true] rfl rfl (by kernel_rfl) (fun _ _ _ h => h) (Or.inl ⟨by rfl, ?_⟩) ?_ ?_
  rotate_left
  · intro w'
    go_simp
    with_reducible rfl
  rotate_left
  · simp only [Act.put, List.setIfInBounds_toArray, List.set_cons_zero, List.set_cons_succ, i64_w, i32_w]
    rfl
  refine done_ (by kernel_rfl) ?_
  clear hHeld3
  go_wp2
  go_ret
  exact ⟨rfl, HB6.out⟩

set_option maxHeartbeats 2000000 in
set_option maxRecDepth 100000 in
theorem known_out (a : Int) (h : a < 0 ∨ 8 ≤ a) (w : World) :
    Calls Try.prog 7 #[.int .i64 a] w fun e w' => e = .returned (.bool true) ∧ Below w.heap.size w w' := by
  have hb : Below w.heap.size w ((w.alloc (Obj.cells #[Value.int IntKind.i64 951782400, Value.int IntKind.i64 951868800, Value.int IntKind.i64 2524607999, Value.int IntKind.i64 2524608000, Value.int IntKind.i64 (-631152000), Value.int IntKind.i64 253402300799, Value.int IntKind.i64 4107542400, Value.int IntKind.i64 1709164799] 2)).alloc (Obj.cells #[Value.string { data := #[48, 48, 48, 50, 50, 57, 48, 48, 48, 48, 48, 48, 90] }, Value.string { data := #[48, 48, 48, 51, 48, 49, 48, 48, 48, 48, 48, 48, 90] }, Value.string { data := #[52, 57, 49, 50, 51, 49, 50, 51, 53, 57, 53, 57, 90] }, Value.string { data := #[50, 48, 53, 48, 48, 49, 48, 49, 48, 48, 48, 48, 48, 48, 90] }, Value.string { data := #[53, 48, 48, 49, 48, 49, 48, 48, 48, 48, 48, 48, 90] }, Value.string { data := #[57, 57, 57, 57, 49, 50, 51, 49, 50, 51, 53, 57, 53, 57, 90] }, Value.string { data := #[50, 49, 48, 48, 48, 51, 48, 49, 48, 48, 48, 48, 48, 48, 90] }, Value.string { data := #[50, 52, 48, 50, 50, 56, 50, 51, 53, 57, 53, 57, 90] }] 9)) := ((Below.refl _ w).alloc (Nat.le_refl _) _).alloc (by simp) _
  rcases h with h | h
  · go_enter Try.func7, Try.ntmps7
    go_wp2
    go_ret
    exact ⟨rfl, hb⟩
  · have h0 : ¬ a < 0 := by omega
    go_enter Try.func7, Try.ntmps7
    go_wp2
    go_ret
    exact ⟨rfl, hb⟩
theorem known_all (a : Int) (w : World) :
    Calls Try.prog 7 #[.int .i64 a] w fun e w' => e = .returned (.bool true) ∧ Below w.heap.size w w' := by
  by_cases h : a < 0 ∨ 8 ≤ a
  · exact known_out a h w
  · obtain ⟨K, hK⟩ : ∃ K : Nat, 10060 ≤ K := ⟨10060, Nat.le_refl _⟩
    have hN := Pure.known_true K (by omega)
    rcases (by omega : a = 0 ∨ a = 1 ∨ a = 2 ∨ a = 3 ∨ a = 4 ∨ a = 5 ∨ a = 6 ∨ a = 7) with rfl | rfl | rfl | rfl | rfl | rfl | rfl | rfl
    · have D : IsDate (951782400) 2000 2 29 0 0 0 := ⟨by decide, by decide, by decide, by decide, by decide, by decide, by decide, by decide, by decide, by decide, by decide, by decide, by decide⟩
      have hT := Pure.when_Time_yes D K (by omega)
      have hG := Pure.when_Get_yes D K (by omega)
      rw [show stampTag 2000 = 23 from by decide, show stampBody 2000 2 29 0 0 0 = [48, 48, 48, 50, 50, 57, 48, 48, 48, 48, 48, 48, 90] from by decide] at hT hG
      exact known_way 0 (by omega) (951782400) 23 { data := #[48, 48, 48, 50, 50, 57, 48, 48, 48, 48, 48, 48, 90] } [48, 48, 48, 50, 50, 57, 48, 48, 48, 48, 48, 48, 90] (by decide) (fun _ => rfl) rfl rfl (by decide) (by decide) rfl K hT hG hN w
    · have D : IsDate (951868800) 2000 3 1 0 0 0 := ⟨by decide, by decide, by decide, by decide, by decide, by decide, by decide, by decide, by decide, by decide, by decide, by decide, by decide⟩
      have hT := Pure.when_Time_yes D K (by omega)
      have hG := Pure.when_Get_yes D K (by omega)
      rw [show stampTag 2000 = 23 from by decide, show stampBody 2000 3 1 0 0 0 = [48, 48, 48, 51, 48, 49, 48, 48, 48, 48, 48, 48, 90] from by decide] at hT hG
      exact known_way 1 (by omega) (951868800) 23 { data := #[48, 48, 48, 51, 48, 49, 48, 48, 48, 48, 48, 48, 90] } [48, 48, 48, 51, 48, 49, 48, 48, 48, 48, 48, 48, 90] (by decide) (fun _ => rfl) rfl rfl (by decide) (by decide) rfl K hT hG hN w
    · have D : IsDate (2524607999) 2049 12 31 23 59 59 := ⟨by decide, by decide, by decide, by decide, by decide, by decide, by decide, by decide, by decide, by decide, by decide, by decide, by decide⟩
      have hT := Pure.when_Time_yes D K (by omega)
      have hG := Pure.when_Get_yes D K (by omega)
      rw [show stampTag 2049 = 23 from by decide, show stampBody 2049 12 31 23 59 59 = [52, 57, 49, 50, 51, 49, 50, 51, 53, 57, 53, 57, 90] from by decide] at hT hG
      exact known_way 2 (by omega) (2524607999) 23 { data := #[52, 57, 49, 50, 51, 49, 50, 51, 53, 57, 53, 57, 90] } [52, 57, 49, 50, 51, 49, 50, 51, 53, 57, 53, 57, 90] (by decide) (fun _ => rfl) rfl rfl (by decide) (by decide) rfl K hT hG hN w
    · have D : IsDate (2524608000) 2050 1 1 0 0 0 := ⟨by decide, by decide, by decide, by decide, by decide, by decide, by decide, by decide, by decide, by decide, by decide, by decide, by decide⟩
      have hT := Pure.when_Time_yes D K (by omega)
      have hG := Pure.when_Get_yes D K (by omega)
      rw [show stampTag 2050 = 24 from by decide, show stampBody 2050 1 1 0 0 0 = [50, 48, 53, 48, 48, 49, 48, 49, 48, 48, 48, 48, 48, 48, 90] from by decide] at hT hG
      exact known_way 3 (by omega) (2524608000) 24 { data := #[50, 48, 53, 48, 48, 49, 48, 49, 48, 48, 48, 48, 48, 48, 90] } [50, 48, 53, 48, 48, 49, 48, 49, 48, 48, 48, 48, 48, 48, 90] (by decide) (fun _ => rfl) rfl rfl (by decide) (by decide) rfl K hT hG hN w
    · have D : IsDate (-631152000) 1950 1 1 0 0 0 := ⟨by decide, by decide, by decide, by decide, by decide, by decide, by decide, by decide, by decide, by decide, by decide, by decide, by decide⟩
      have hT := Pure.when_Time_yes D K (by omega)
      have hG := Pure.when_Get_yes D K (by omega)
      rw [show stampTag 1950 = 23 from by decide, show stampBody 1950 1 1 0 0 0 = [53, 48, 48, 49, 48, 49, 48, 48, 48, 48, 48, 48, 90] from by decide] at hT hG
      exact known_way 4 (by omega) (-631152000) 23 { data := #[53, 48, 48, 49, 48, 49, 48, 48, 48, 48, 48, 48, 90] } [53, 48, 48, 49, 48, 49, 48, 48, 48, 48, 48, 48, 90] (by decide) (fun _ => rfl) rfl rfl (by decide) (by decide) rfl K hT hG hN w
    · have D : IsDate (253402300799) 9999 12 31 23 59 59 := ⟨by decide, by decide, by decide, by decide, by decide, by decide, by decide, by decide, by decide, by decide, by decide, by decide, by decide⟩
      have hT := Pure.when_Time_yes D K (by omega)
      have hG := Pure.when_Get_yes D K (by omega)
      rw [show stampTag 9999 = 24 from by decide, show stampBody 9999 12 31 23 59 59 = [57, 57, 57, 57, 49, 50, 51, 49, 50, 51, 53, 57, 53, 57, 90] from by decide] at hT hG
      exact known_way 5 (by omega) (253402300799) 24 { data := #[57, 57, 57, 57, 49, 50, 51, 49, 50, 51, 53, 57, 53, 57, 90] } [57, 57, 57, 57, 49, 50, 51, 49, 50, 51, 53, 57, 53, 57, 90] (by decide) (fun _ => rfl) rfl rfl (by decide) (by decide) rfl K hT hG hN w
    · have D : IsDate (4107542400) 2100 3 1 0 0 0 := ⟨by decide, by decide, by decide, by decide, by decide, by decide, by decide, by decide, by decide, by decide, by decide, by decide, by decide⟩
      have hT := Pure.when_Time_yes D K (by omega)
      have hG := Pure.when_Get_yes D K (by omega)
      rw [show stampTag 2100 = 24 from by decide, show stampBody 2100 3 1 0 0 0 = [50, 49, 48, 48, 48, 51, 48, 49, 48, 48, 48, 48, 48, 48, 90] from by decide] at hT hG
      exact known_way 6 (by omega) (4107542400) 24 { data := #[50, 49, 48, 48, 48, 51, 48, 49, 48, 48, 48, 48, 48, 48, 90] } [50, 49, 48, 48, 48, 51, 48, 49, 48, 48, 48, 48, 48, 48, 90] (by decide) (fun _ => rfl) rfl rfl (by decide) (by decide) rfl K hT hG hN w
    · have D : IsDate (1709164799) 2024 2 28 23 59 59 := ⟨by decide, by decide, by decide, by decide, by decide, by decide, by decide, by decide, by decide, by decide, by decide, by decide, by decide⟩
      have hT := Pure.when_Time_yes D K (by omega)
      have hG := Pure.when_Get_yes D K (by omega)
      rw [show stampTag 2024 = 23 from by decide, show stampBody 2024 2 28 23 59 59 = [50, 52, 48, 50, 50, 56, 50, 51, 53, 57, 53, 57, 90] from by decide] at hT hG
      exact known_way 7 (by omega) (1709164799) 23 { data := #[50, 52, 48, 50, 50, 56, 50, 51, 53, 57, 53, 57, 90] } [50, 52, 48, 50, 50, 56, 50, 51, 53, 57, 53, 57, 90] (by decide) (fun _ => rfl) rfl rfl (by decide) (by decide) rfl K hT hG hN w
end
end Go.Proofs.Ytbihkbcjpodnbaa.PAll
