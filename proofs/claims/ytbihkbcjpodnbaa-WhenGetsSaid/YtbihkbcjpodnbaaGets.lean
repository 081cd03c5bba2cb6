/- The law of the reading of any thing: its walk. -/
import Derived.Test.YtbihkbcjpodnbaaPAllx3
import Derived.Test.YtbihkbcjpodnbaaPAllx6
import Derived.Test.YtbihkbcjpodnbaaAgree
namespace Go.Proofs.Ytbihkbcjpodnbaa.PAll
open Go.RowKit Go.Proofs.YtbihkbcjpodnbaaW.PrintWords Go.Proofs.YtbihkbcjpodnbaaW.PrintLast Go.Proofs.YtbihkbcjpodnbaaW.PrintMore
attribute [local go_sem] max2_int min2_int max_two min_two max_three min_three max_four min_four   -- for this text's walks alone
set_option linter.unusedVariables false
set_option linter.unusedSimpArgs false
section
open Go.Shelf Go.Proofs.YtbihkbcjpodnbaaH


set_option maxHeartbeats 8000000 in
set_option maxRecDepth 100000 in
theorem when_Get_kids (tag : Int) (A1 A2 : Option Addr) (n1 c1 c2 n2 : Nat) (w : World) (hn : 0 < n2) :
    Calls Try.prog 14 #[.agg #[.int .u8 tag, .slice A1 n1 c1, .slice A2 n2 c2]] w fun e w' => e = .returned (.tuple #[.int .i64 0, .bool false]) ∧ Below w.heap.size w w' := by
  have hn2 : (n2 : Int) > 0 := by omega
  have hb : Below w.heap.size w (w.alloc (Obj.cells #[.int .u8 tag, .slice A1 n1 c1, .slice A2 n2 c2] 25)) := (Below.refl _ w).alloc (Nat.le_refl _) _
  go_enter Try.func14, Try.ntmps14
  go_wp2
  go_ret2
  exact ⟨rfl, hb⟩
/-- The program's reader, for every thing whose bytes can be read: its kids are only counted. -/
theorem when_Get_all (K : Nat) (hK : 10060 ≤ K) (tag : Int) (A1 A2 : Option Addr) (c1 c2 n2 : Nat) (l : List Int) (hl : l.length ≤ 100) (hB : Pure.Bytes8 l) (w : World) (hr : Kd.C (Kd.int .u8) w A1 l.length l) (hc : l.length ≤ c1) :
    Calls Try.prog 14 #[.agg #[.int .u8 tag, .slice A1 l.length c1, .slice A2 n2 c2]] w fun e w' => e = .returned (.tuple #[.int .i64 (refGetV tag l n2).1, .bool (refGetV tag l n2).2]) ∧ Below w.heap.size w w' := by
  by_cases hn : n2 = 0
  · subst hn
    obtain ⟨t, ok, hg1, hg2⟩ := Pure.gets_agree K (by omega) tag l [] hl hB
    rw [show refGetV tag l 0 = (t, ok) from hg2]
    exact when_Get.calls K tag A1 c1 l A2 c2 [] t ok w hr hc ⟨rfl, by decide, fun hp => absurd hp (by decide)⟩ (Nat.zero_le _) hg1
  · have e : refGetV tag l n2 = (0, false) := by unfold refGetV; rw [if_neg (by omega)]
    rw [e]
    exact when_Get_kids tag A1 A2 l.length c1 c2 n2 w (by omega)
set_option maxHeartbeats 8000000 in
set_option maxRecDepth 100000 in
theorem gets_walk (tag : Int) (A1 A2 : Option Addr) (c1 c2 n2 : Nat) (l : List Int) (w : World) (hr : Kd.C (Kd.int .u8) w A1 l.length l) (hc : l.length ≤ c1) (hB : Pure.Bytes8 l) :
    Calls Try.prog 4 #[.agg #[.int .u8 tag, .slice A1 l.length c1, .slice A2 n2 c2]] w fun e w' => e = .returned (.bool true) ∧ Below w.heap.size w w' := by
  have hb : Below w.heap.size w (w.alloc (Obj.cells #[.int .u8 tag, .slice A1 l.length c1, .slice A2 n2 c2] 25)) := (Below.refl _ w).alloc (Nat.le_refl _) _
  have hn0 := World.alloc_heap_new w (Obj.cells #[.int .u8 tag, .slice A1 l.length c1, .slice A2 n2 c2] 25)
  by_cases h100 : (l.length : Int) > 100
  · go_enter Try.func4, Try.ntmps4
    go_wp2
    go_ret
    exact ⟨rfl, hb⟩
  by_cases h5 : (n2 : Int) > 5
  · go_enter Try.func4, Try.ntmps4
    go_wp2
    go_ret
    exact ⟨rfl, hb⟩
  obtain ⟨K, hK⟩ : ∃ K : Nat, 10060 ≤ K := ⟨10060, Nat.le_refl _⟩
  obtain ⟨RV, hRV⟩ : ∃ R, refGetV tag l n2 = R := ⟨_, rfl⟩
  have HG2 := Aside0.mk hRV
  have HWG := Aside0.mk (fun W hC => when_Get_all K hK tag A1 A2 c1 c2 n2 l (by omega) hB W hC hc)
  rw [hRV] at HWG
  have HR := Aside0.mk hr
  have HB := Aside0.mk hb
  have HN := Aside0.mk hn0
  clear hRV hr hb hn0 hB
  go_enter Try.func4, Try.ntmps4
  go_wp2_with fail
  refine (HWG.out _ (Kd.C_alloc HR.out _)).mono ?_
  rintro e w1 ⟨rfl, hb1⟩
  have hn1 := blk_below HN.out hb1
  have HB1 := Aside0.mk (below_then HB.out HB.out.size hb1)
  have q0 := (blk_cell hn1 0).trans rfl
  have q1 := (blk_cell hn1 1).trans rfl
  have q2 := (blk_cell hn1 2).trans rfl
  clear hb1 hn1
  go_wp2_with fail
  refine (apostilleref14_Get_calls tag A1 A2 c1 c2 n2 l _ (Kd.C_below HR.out HB1.out) hc).mono ?_
  rintro e w2 ⟨rfl, hb2⟩
  rw [show refGetV tag l n2 = RV from HG2.out]
  have HB2 := Aside0.mk (below_then HB1.out HB1.out.size hb2)
  clear hb2 q0 q1 q2
  go_wp2_with fail
  refine (apostillelaw14_known.calls K true _ (Pure.known_true K (by omega))).mono ?_
  rintro e w4 ⟨rfl, hb4⟩
  have HB4 := Aside0.mk (below_then HB2.out HB2.out.size hb4)
  go_wp2
  go_ret
  exact ⟨rfl, HB4.out⟩
end
end Go.Proofs.Ytbihkbcjpodnbaa.PAll
