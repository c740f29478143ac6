/- The plain proof: what the printed functions tell. Conditions: none beyond the statement's own. -/
import Derived.Test.YtlibkefnlfcakaaCFnExactAddClassPureTree
import Derived.Test.YtlibkefnlfcakaaCFnExactAddClassPTx4
import Derived.Test.YtlibkefnlfcakaaCFnExactAddClassPTx8
import Derived.Test.YtlibkefnlfcakaaCFnExactAddClassPTx0
import Derived.Test.YtlibkefnlfcakaaCFnExactAddClassPTx6
import Derived.Test.YtlibkefnlfcakaaCFnExactAddClassPTx7
import Derived.Test.YtlibkefnlfcakaaCFnExactAddClassPTx2
import Derived.Test.YtlibkefnlfcakaaCFnExactAddClassPTx14
import Derived.Test.YtlibkefnlfcakaaCFnExactAddClassPTx11
namespace Go.Proofs.Ytlibkefnlfcakaa.Pure
open Go.RowKit Go.Proofs.Ytlibkefnlfcakaa.PT Go.Proofs.YtlibkefnlfcakaaW.PrintWords
set_option linter.unusedVariables false
set_option linter.unusedSimpArgs false
def HasC (t : List S62) (a : Int) : Prop := 0 ≤ a ∧ a < (t.length : Int)
instance HasC.dec (t : List S62) (a : Int) : Decidable (HasC t a) := inferInstanceAs (Decidable (0 ≤ a ∧ a < (t.length : Int)))
def IsWay (t : List S62) : Int → List Int → Prop
  | a, [] => a < 0
  | a, x :: xs => x = a ∧ HasC t a ∧ IsWay t (rd_T62 t a).f1 xs
theorem IsWay.uniq {t : List S62} : ∀ {a : Int} {r s : List Int}, IsWay t a r → IsWay t a s → r = s
  | a, [], [], _, _ => rfl
  | a, [], y :: ys, h, k => by have := k.2.1.1; simp only [IsWay] at h; omega
  | a, x :: xs, [], h, k => by have := h.2.1.1; simp only [IsWay] at k; omega
  | a, x :: xs, y :: ys, h, k => by rw [h.1, k.1, h.2.2.uniq k.2.2]
theorem ValidT.up {t : List S62} (h : ValidT t) {a : Int} (ha : HasC t a) : -1 ≤ (rd_T62 t a).f1 ∧ (rd_T62 t a).f1 < a ∧ ((rd_T62 t a).f1 = -1 → a = 0) := by
  have := h.2 a ha.1 ha.2
  by_cases h0 : a = 0
  · have := this.2.2.1 h0; omega
  · have := this.2.2.2 (by have := ha.1; omega); omega
end Go.Proofs.Ytlibkefnlfcakaa.Pure
