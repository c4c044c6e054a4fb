import Derived.Test.YtngocadnbpdnoaaSMo6
import Derived.Shelf.SlicesE.Equal
import Derived.BigRegion
namespace Go.Proofs.Ytngocadnbpdnoaa.Mo
open Go Go.Maps Go.RowKit Go.Proofs.Ytngocadnbpdnoaa.Srt Go.Proofs.Ytngocadnbpdnoaa.Q Go.Proofs.YtngocadnbpdnoaaW.PrintWords Go.Proofs.YtngocadnbpdnoaaW.PrintLast Go.Proofs.YtngocadnbpdnoaaW.PrintMore
set_option linter.unusedVariables false
set_option linter.unusedSimpArgs false
theorem HeldN.blk {w : World} {f : Nat → Option PL} {b n : Nat} {hs : List (Int × PL)} (h : HeldN w f b n hs) {q : Int × PL} (hq : q ∈ hs) : ∃ b, f b = some q.2 := by
  obtain ⟨v, hv, -⟩ := held_look h (k := q.1) (wf_keys h.1 hq)
  have hf := fnd_of_mem h.2 hq
  rcases hv with ⟨hn, -⟩ | ⟨b', l, hl, -, hfb⟩
  · rw [hf] at hn; cases hn
  · rw [hf] at hl; obtain rfl := Option.some.inj hl; exact ⟨b', hfb⟩
end Go.Proofs.Ytngocadnbpdnoaa.Mo
