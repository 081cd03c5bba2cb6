/- Any thing as a time, or none: for every thing given, the law answers true, on no further condition. The row, turned by hand from a printed row. -/
import Derived.Test.YtbihkbcjpodnbaaRows
import Derived.Test.YtbihkbcjpodnbaaGets
import Derived.WalkKit
import Derived.ProofKit
import Derived.OpenShut
import Derived.ShutString
import Derived.ChangeOld
import Derived.Below
import Derived.SizedLaws
import Derived.Carry
import Derived.Deep.Strs
import Derived.ChangeSlices
namespace Go.Proofs.Ytbihkbcjpodnbaa.whenGets
open Go.ChangeShapes Go.WideShapes Go.ChangeAt Go.RowKit
open Go.ChangeMaps (open_string shut_string)
open Go.WideShapes Go.Proofs.YtbihkbcjpodnbaaW.PrintWords Go.Proofs.YtbihkbcjpodnbaaW.PrintMore Go.Proofs.Ytbihkbcjpodnbaa.PAll
set_option linter.unusedVariables false
theorem Try.laidOut : laidOutB Try.prog = true := by kernel_rfl
theorem own : ownKnob Try.prog.godebug = none := by kernel_rfl
theorem three_cells (cs : Array Value) (h : cs.size = 3) : ∃ c0 c1 c2, cs = #[c0, c1, c2] := by
  obtain ⟨l⟩ := cs
  match l, h with
  | [a, b, c], _ => exact ⟨a, b, c, rfl⟩
set_option maxRecDepth 100000 in
theorem lifted (os : Os) (started : os.Started) (H : Type) (enc : TypeId × Value → H) :
    ReturnsInHanded {} Try.checked os 4 .any (Rows.whenGetsSpec.pre6 enc Try.prog Try.f4 Rows.whenGetsRow.domain false) (Rows.whenGetsSpec.post enc Try.prog Try.f4 false true false false) := by
  refine returnsInHanded_of_change_sized (C := Try.checked) own started (by kernel_rfl) Try.func4
    (ChangeSpec.witness6 (enc := enc) (C := Try.checked) false ⟨#[], #[.agg #[.int .u8 0, .slice none 0 0, .slice none 0 0]], []⟩ 8 (by kernel_rfl) (by kernel_rfl) (by kernel_rfl) (by kernel_rfl)) ?_
  intro W base args ds gs before hval0 hW hcnd hsz0 _
  have hsz : (DataW.weightsEach Try.prog (Try.f4.params.toList ++ Rows.whenGetsSpec.plain.varTypes Try.prog) (ds ++ gs)).all (· ≤ reachBytes) = true := hsz0
  have hval : ∀ (j : Nat) t v, Try.f4.params[j]? = some t → args[j]? = some v → Value.okWide Try.prog W .any base t v := hval0
  have hW' := hW
  obtain ⟨p, q, hA0, hV, rfl, hfz, hnd⟩ := hW
  have hA : DataW.TrodAll enc Try.prog W 0 (fun _ => true) true Try.f4.params.toList args.toList ds p := hA0
  rw [Try.params4] at hA hval hsz
  obtain ⟨v0, vs0, d0, ds0, p0, q0, hargs, rfl, rfl, h0, r0⟩ := trodAll_cons hA
  obtain ⟨rfl, rfl, rfl⟩ := trodAll_nil r0
  obtain rfl : args = #[v0] := by cases args; simp_all
  obtain ⟨rfl, rfl⟩ := trodVars_none hV
  have h0k := h0
  have hlt : ∀ x ∈ p0, x.block < W.heap.size := fun x hx => by simpa using hW'.lt x (by simpa using hx)
  obtain ⟨cs, rfl, hcs⟩ := okWide_struct Try.underlying25 (hval 0 25 v0 rfl rfl)
  obtain ⟨fuel, hf⟩ := h0
  obtain ⟨y0, y1, y2, n, hy, hl, t0, t1, t2⟩ := Go.Deep.trod_struct3 Try.underlying25 hf
  obtain ⟨tag, e0, -, wt⟩ := DataW.trod_int Try.underlying5 t0
  have hc3 : cs.size = 3 := hcs.trans (by kernel_rfl)
  obtain ⟨c0, c1, c2, rfl⟩ := three_cells cs hc3
  have e0' : [c0] = [Value.int .u8 tag] := e0
  obtain rfl : c0 = .int .u8 tag := by simpa using e0'
  have e2 : ∃ (A2 : Option Addr) (n2 k2 : Nat), c2 = .slice A2 n2 k2 := by
    have t2' : DataW.trod enc Try.prog W 0 (fun _ => true) true n 23 [c2] = some y2 := t2
    rcases DataW.trod_slice Try.underlying23 t2' with ⟨h, -⟩ | ⟨a, len, cap, _, _, _, -, h, -⟩
    · exact ⟨none, 0, 0, by simpa using h⟩
    · exact ⟨some a, len, cap, by simpa using h⟩
  obtain ⟨A2, n2, k2, rfl⟩ := e2
  have e1 : ∃ (A1 : Option Addr) (k1 : Nat) (l : List Int), c1 = .slice A1 l.length k1 ∧ l.length ≤ k1 ∧ Kd.C (Kd.int .u8) W A1 l.length l ∧ Pure.Bytes8 l := by
    have t1' : DataW.trod enc Try.prog W 0 (fun _ => true) true n 22 [c1] = some y1 := t1
    rcases open_ints Try.underlying22 Try.underlying5 (by kernel_rfl) t1' with ⟨h, -⟩ | ⟨a, len, cap, zs, h, -, hlc, hcm, hzl, -, hcell, hwf⟩
    · exact ⟨none, 0, [], by simpa using h, Nat.le_refl _, ⟨rfl, by decide, fun hp => absurd hp (by decide)⟩, fun x hx => by cases hx⟩
    · have hzc : zs.length = cap := hzl
      have htl : (zs.take len).length = len := by rw [List.length_take]; omega
      refine ⟨some a, cap, zs.take len, by rw [htl]; simpa using h, by omega, ?_, fun x hx => bounds_u8 (hwf x (List.mem_of_mem_take hx))⟩
      have hmx : maxLen ≤ 9223372036854775807 := by decide
      refine Kd.C_of_reads (d := (0 : Int)) ⟨rfl, by omega, fun hp => ⟨a, rfl, fun j hj => ?_⟩⟩
      rw [hcell j (by omega)]
      congr 2
      simp only [List.getD_eq_getElem?_getD]
      rw [List.getElem?_take_of_lt (by omega)]
  obtain ⟨A1, k1, l, rfl, hlk, hC, hB⟩ := e1
  clear hA0 hval0 hsz0 hsz
  refine (PAll.gets_walk tag A1 A2 k1 k2 n2 l W hC hlk hB).mono fun e W' ⟨he, bel⟩ => ?_
  subst he
  exact ⟨_, rfl, _, _, _, [], _, _, hW', trodAll_mk1 (shut_bool Try.underlying4 _), trodAll_mk1 (RowKit.Below.trod Try.laidOut (by kernel_rfl) (of_decide_eq_true (by kernel_rfl)) h0k bel hlt), rfl, bel.frame _, fun h => by cases h⟩
theorem over : Rows.whenGetsRow.holds Try.pinned (OpenSpec.ofChange Rows.whenGetsSpec) :=
  OpenClaim.holds_of_wide 4 Try.f4 rfl rfl rfl rfl rfl rfl rfl ⟨rfl, rfl, rfl, rfl, rfl⟩ rfl rfl rfl rfl rfl (by kernel_rfl) Try.func4 (by kernel_rfl)
    (of_decide_eq_true (by kernel_rfl)) (by unfold Func.isWrapper; first | (rw [if_pos (by decide +kernel)]; kernel_rfl) | (rw [if_neg (by decide +kernel)]; exact ⟨rfl, rfl⟩))
    (fun os started H enc _ => lifted os started H enc)
theorem proved : Rows.WhenGetsSaid := over
#print axioms proved
end Go.Proofs.Ytbihkbcjpodnbaa.whenGets
namespace Go.Proofs.Ytbihkbcjpodnbaa
/-- The row, under a short name, for the claim. -/
theorem whenGets_holds : Rows.WhenGetsSaid := whenGets.proved
end Go.Proofs.Ytbihkbcjpodnbaa
