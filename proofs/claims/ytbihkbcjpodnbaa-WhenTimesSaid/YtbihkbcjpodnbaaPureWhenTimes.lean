/- A number of seconds is a time of the profile exactly if the plain calendar says so, a time's thing is its date's digits, and the thing reads back to the time: for every 64-bit number. -/
import Derived.Test.YtbihkbcjpodnbaaPAllx7
import Derived.Test.YtbihkbcjpodnbaaFacts
namespace Go.Proofs.Ytbihkbcjpodnbaa.Pure
open Go.RowKit Go.Proofs.Ytbihkbcjpodnbaa.PAll Go.Proofs.YtbihkbcjpodnbaaW.PrintWords Go.Proofs.YtbihkbcjpodnbaaW.PrintLast Go.Proofs.YtbihkbcjpodnbaaH
set_option linter.unusedSimpArgs false
set_option linter.unusedVariables false

theorem times_at (K : Nat) (hK : 10060 ≤ K) (a0 : Int) : apostillelaw14_WhenTimes.f (K + 1) a0 = some true := by
  unfold apostillelaw14_WhenTimes.f
  have hj : ∀ (x : Bool) tag body, apostillelaw14_WhenTimes.j0 (K + 1) a0 x false tag body [] = ((when_Get.f K tag body []).bind fun bt226 => (if (bt226.2 == x) = true then (if bt226.2 = true then (if bt226.1 = a0 then ((apostillelaw14_known.f K).bind fun t228 => (some t228)) else (some false)) else ((apostillelaw14_known.f K).bind fun t229 => (some t229))) else (some false))) := by
    intro x tag body
    simp only [apostillelaw14_WhenTimes.j0]
    rw [if_neg (by decide)]
  have hsame := fun tag b => same_flat tag b (K + 1) (by omega)
  by_cases hT : IsTime a0
  · obtain ⟨y, m, d, h, i, s, D⟩ := date_of a0 hT
    rw [when_Time_yes D (K + 1) (by omega), ref_Is_yes hT, when_Is_yes hT]
    simp only [Option.bind_some, bne_self_eq_false, Bool.false_eq_true, if_false]
    unfold apostilleref14_Time.f apostillelaw14_date.f
    rw [timeTag_eq D, timeBody_eq D]
    simp only [Option.bind_some]
    rw [hsame]
    simp only [Option.bind_some, if_true, Bool.not_true]
    rw [hj, when_Get_yes D K (by omega)]
    simp only [Option.bind_some, beq_self_eq_true, if_true]
    rw [known_true K (by omega)]
    rfl
  · rw [when_Time_no hT (K + 1), ref_Is_no hT, when_Is_no hT]
    simp only [Option.bind_some, bne_self_eq_false, Bool.false_eq_true, if_false]
    unfold apostilleref14_Time.f apostillelaw14_date.f
    rw [timeTag_no hT, timeBody_no hT]
    simp only [Option.bind_some]
    rw [hsame]
    simp only [Option.bind_some, if_true, Bool.not_true]
    rw [hj, when_Get_nothing K (by omega)]
    simp only [Option.bind_some, beq_self_eq_true, if_true]
    rw [if_neg (by decide), known_true K (by omega)]
    rfl
theorem WhenTimes : apostillelaw14_WhenTimes.Pure := by
  intro a0 w0
  obtain ⟨K, hK⟩ : ∃ K : Nat, 10060 ≤ K := ⟨10060, Nat.le_refl _⟩
  exact ⟨K + 1, times_at K hK a0⟩

end Go.Proofs.Ytbihkbcjpodnbaa.Pure
