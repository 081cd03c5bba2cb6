/- Regions that draw their order: two bridges. (1) In a round of a range over a function such a region may be walked as outside. (2) Behind the last choice the operations that are left are a plain list. -/
import Derived.RangeFuncNested
import Derived.RangeFuncBox
import Derived.RangeFuncLeaves
import Derived.OwnWalkIn
import Derived.TacticsInMore
import Derived.LoopNIn
import Derived.LoopIn
import Derived.Shelf.Abstract
import Derived.Sort.BigQuietIn
import Derived.Lib.Hide
import Derived.Test.YtbihkbcjpodnbaaWWords
import Derived.Test.YtbihkbcjpodnbaaWLast
import Derived.Test.YtbihkbcjpodnbaaWTab
import Derived.Test.YtbihkbcjpodnbaaWFour
import Derived.Test.YtbihkbcjpodnbaaWMore
namespace Go.Proofs.YtbihkbcjpodnbaaH
open Go.RowKit Go.Proofs.YtbihkbcjpodnbaaW.PrintWords Go.Proofs.YtbihkbcjpodnbaaW.PrintLast

theorem cell_al {W : World} {a : Addr} {v : Value} (o : Obj) (h : W.cell? a = some v) : (W.alloc o).cell? a = some v := cell_kept h (World.grownBy_alloc W o none) (fun r e => by cases e)
/-- No operation of the region is a 'defer'. -/
def noDefer (ops : Array Oper) : Bool := ops.all fun o => match o.op with | .defer _ => false | _ => true

theorem wpOp_round {P : Program} {ops : Array Oper} {Q : Exit → Act → World → Prop} {l n i : Nat} {K : Act → World → Prop} {a : Act} {w : World} (hd : noDefer ops = true) (hQ : ¬ LetsOut Q)
    (h : wpOp P ops Q i K a w) : wpOpIn (Fence.wide.inRound l) n P ops Q i K a w := by
  unfold wpOp at h
  unfold wpOpIn
  cases ho : ops[i]? with
  | none => simpa [ho] using h
  | some o =>
    have hnd : ∀ c, o.op ≠ .defer c := by
      intro c hc
      have hm : o ∈ ops := by
        obtain ⟨hlt, he⟩ := Array.getElem?_eq_some_iff.1 ho
        rw [← he]; exact Array.getElem_mem hlt
      have := (Array.all_eq_true'.1 hd) o hm
      rw [hc] at this
      cases this
    simp only [ho] at h ⊢
    by_cases hw : Region.wanted o (yielded ops a.tmps) = true
    · rw [if_pos hw] at h ⊢
      rcases h with h | ⟨_, h⟩
      · refine ⟨fun _ _ => trivial, ?_⟩
        have e : o.semAt (Fence.wide.inRound l).round a.eval = execOp a.eval o := Oper.semAt_eq _ _ _ hnd
        rw [e]
        unfold Oper.wp at h
        generalize (execOp a.eval o).run P w = r at h ⊢
        unfold Oper.upon at h
        split at h
        · simpa [Oper.uponIn] using h
        · simpa [Oper.uponIn] using h
        · simpa [Oper.uponIn] using h
        · rename_i f args w'
          refine ⟨fun hx => (by cases hx), ?_⟩
          have := (callsIn_wide (n := n - 1)).2 h
          exact this
        · rename_i row args w'
          refine ⟨fun hx => (by cases hx), ?_⟩
          intro c cs _
          obtain ⟨v, w'', hr, hs⟩ := h c cs
          exact ⟨v, w'', hr, stepsIn_wide.2 hs⟩
        · simpa [Oper.uponIn] using h
        · exact h.elim
      · exact absurd h hQ
    · rw [if_neg hw] at h ⊢
      exact ⟨fun _ _ => trivial, h⟩

theorem wpAny_round {P : Program} {md : Region.Mode} {ops : Array Oper} {Q : Exit → Act → World → Prop} {l n : Nat} (hd : noDefer ops = true) (hQ : ¬ LetsOut Q) :
    ∀ (fuel : Nat) (listed : Array Bool) (a : Act) (w : World), wpAny P md ops Q fuel listed a w → wpAnyIn (Fence.wide.inRound l) n P md ops Q fuel listed a w
  | 0, _, _, _, h => h
  | fuel + 1, _, _, _, h => ⟨h.1, fun i hi => wpOp_round hd hQ (wpOp_mono (fun a' w' h' => wpAny_round hd hQ fuel _ a' w' h') (h.2 i hi))⟩

/-- The printed words' start, in a round. -/
theorem startR_ {P : Program} {ops : Array Oper} {Q : Exit → Act → World → Prop} {S : World → Prop} {ds : List Nat} {r n m id : Nat} {a : Act} {w : World} (l : Array Bool) (hm : P.follows .mixedOrders = true) (hn : ops.size = m) (hl : Array.replicate m false = l)
    (hd : noDefer ops = true) (hQ : ¬ LetsOut Q) (hS : S w.drew)
    (h : S w.drew → wpAnyLast P .any ops Q S ds m l a w.drew) : (Code.region id ops true).wpIn (Fence.wide.inRound r) n P Q a w := by
  subst hn
  subst hl
  exact wpIn_region_any hm (wpAny_round hd hQ _ _ _ _ (wpAny_of_last _ _ _ _ (h hS)))

/-- What is left is a chain: each operation is the only one that may come up. -/
def chainB (md : Region.Mode) (ops : Array Oper) : Array Bool → List Nat → Bool
  | l, [] => Region.ready md ops l == []
  | l, i :: rs => (Region.ready md ops l == [i]) && chainB md ops (l.setIfInBounds i true) rs

theorem last_chain {P : Program} {md : Region.Mode} {ops : Array Oper} {Q : Exit → Act → World → Prop} {S : World → Prop} {ds : List Nat} :
    ∀ (rs : List Nat) (l : Array Bool) (fuel : Nat) (a : Act) (w : World), chainB md ops l rs = true → (∀ i ∈ rs, i ∈ ds) → rs.length ≤ fuel → wpOps P ops Q rs a w → wpAnyLast P md ops Q S ds fuel l a w
  | [], l, fuel, a, w, hc, _, _, h => by
    simp only [chainB, beq_iff_eq] at hc
    exact wpAnyLast_done hc h fuel
  | i :: rs, l, 0, a, w, hc, hds, hf, h => by simp at hf
  | i :: rs, l, fuel + 1, a, w, hc, hds, hf, h => by
    simp only [chainB, Bool.and_eq_true, beq_iff_eq] at hc
    obtain ⟨h1, h2⟩ := hc
    refine wpAnyLast_all h1 (by simp) fun j hj => ?_
    obtain rfl : j = i := by simpa using hj
    rw [wpOps_cons] at h
    exact wpOp_mono (fun a' w' h' => ⟨fun hn => absurd (hds j (by simp)) hn, last_chain rs _ fuel a' w' h2 (fun k hk => hds k (by simp [hk])) (by simp at hf; omega) h'⟩) h

/-- .. and then they are walked as a list. -/
theorem tail_ {P : Program} {md : Region.Mode} {ops : Array Oper} {Q : Exit → Act → World → Prop} {S : World → Prop} {ds : List Nat} {l : Array Bool} {fuel : Nat} {a : Act} {w : World} (k : Nat) (os : List Oper)
    (hos : ops.toList.drop k = os) (hc : chainB md ops l (List.range' k os.length) = true) (hds : ((List.range' k os.length).all fun i => ds.contains i) = true) (hf : os.length ≤ fuel)
    (h : wpList P ops Q os a w) : wpAnyLast P md ops Q S ds fuel l a w := by
  refine last_chain (List.range' k os.length) l fuel a w hc (fun i hi => by simpa using List.all_eq_true.1 hds i hi) (by simpa using hf) ?_
  rw [wpOps_eq_wpList os k (fun j => by rw [← hos, List.getElem?_drop, Array.getElem?_toList])]
  exact h

end Go.Proofs.YtbihkbcjpodnbaaH
