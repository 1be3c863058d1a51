/- Short words: cells behind stores into other blocks, block by block (one look for all cells of a block). -/
import Derived.Test.YtmfaopjfdedheaaGreatSq
namespace Go.Proofs.YtmfaopjfdedheaaGreatW
open Go.RowKit Go.Proofs.YtmfaopjfdedheaaGreatW.PrintWords Go.Proofs.YtmfaopjfdedheaaGreatW.PrintLast Go.Proofs.YtmfaopjfdedheaaGreatW.PrintMore
set_option linter.unusedVariables false
section
variable {g j b i:Nat} {W W':World} {u:Value}
class HpTo (g:Nat) (W W':World):Prop where hp:W'.heap[g]? =W.heap[g]?
instance:HpTo g W W:=⟨rfl⟩
instance [h:HpTo g W W'] [hn:Aside0 (g≠b)]:HpTo g W (W'.setCell ⟨b,i,none⟩ u):=⟨(Below.heap_setCell W' ⟨b,i,none⟩ u g hn.out).trans h.hp⟩
instance [h:HpTo g W W']:CelTo ⟨g,j,none⟩ W W':=⟨fun {v} x=>by
 have e:=h.hp
 have e2:W'.cell? ⟨g,j,none⟩=W.cell? ⟨g,j,none⟩:=by simp [World.cell?,e]
 exact e2.trans x⟩
end
end Go.Proofs.YtmfaopjfdedheaaGreatW
