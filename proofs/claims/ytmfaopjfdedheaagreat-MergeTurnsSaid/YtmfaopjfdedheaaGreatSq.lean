/- Short words of squeeze5: chains of stores, rows moved by instances, masks. -/
import Derived.Test.YtmfaopjfdedheaaGreatSh
namespace Go.Proofs.YtmfaopjfdedheaaGreatW
open Go.RowKit Go.Proofs.YtmfaopjfdedheaaGreatW.PrintWords Go.Proofs.YtmfaopjfdedheaaGreatW.PrintLast Go.Proofs.YtmfaopjfdedheaaGreatW.PrintMore
set_option linter.unusedVariables false
/-! Behind stores into up to three blocks. -/
section
variable {α:Type} {d:Kd α} {e base n g g1 g2 g3 i:Nat} {ok:Nat→Prop} {v:Value} {xs:List α} {w0 W W':World} {o:Obj} {u:Value}
class KpT (g1 g2 g3:Nat) (W W':World):Prop where kp:Kept W W' (fun k=>k=g1∨k=g2∨k=g3)
instance:KpT g1 g2 g3 W W:=⟨Kept.refl _ _⟩
instance [h:KpT g1 g2 g3 W W']:KpT g1 g2 g3 W W'.drew:=⟨h.kp.drew⟩
instance [h:KpT g1 g2 g3 W W']:KpT g1 g2 g3 W (W'.drewN n):=⟨h.kp.drewN n⟩
instance [h:KpT g1 g2 g3 W W']:KpT g1 g2 g3 W (W'.alloc o):=⟨h.kp.alloc o⟩
instance [h:KpT g1 g2 g3 W W']:KpT g1 g2 g3 W (W'.setCell ⟨g3,i,none⟩ u):=⟨h.kp.setCell (.inl (.inr (.inr rfl))) u⟩
instance [h:KpT g1 g2 g3 W W']:KpT g1 g2 g3 W (W'.setCell ⟨g2,i,none⟩ u):=⟨h.kp.setCell (.inl (.inr (.inl rfl))) u⟩
instance [h:KpT g1 g2 g3 W W']:KpT g1 g2 g3 W (W'.setCell ⟨g1,i,none⟩ u):=⟨h.kp.setCell (.inl (.inl rfl)) u⟩
theorem ne3 (h1:∀ k,ok k→k≠g1) (h2:∀ k,ok k→k≠g2) (h3:∀ k,ok k→k≠g3):∀ k,ok k→¬ (k=g1∨k=g2∨k=g3):=fun k hk h=>h.elim (h1 k hk) (fun h=>h.elim (h2 k hk) (h3 k hk))
theorem fr1 (g1:Nat) (x:d.R e W base ok v xs) (h1:∀ k,ok k→k≠g1) [h:KpT g1 g1 g1 W W']:d.R e W' base ok v xs:=Kd.R_kept x h.kp (ne3 h1 h1 h1)
theorem fr2 (g1 g2:Nat) (x:d.R e W base ok v xs) (h1:∀ k,ok k→k≠g1) (h2:∀ k,ok k→k≠g2) [h:KpT g1 g2 g2 W W']:d.R e W' base ok v xs:=Kd.R_kept x h.kp (ne3 h1 h2 h2)
theorem fr3 (g1 g2 g3:Nat) (x:d.R e W base ok v xs) (h1:∀ k,ok k→k≠g1) (h2:∀ k,ok k→k≠g2) (h3:∀ k,ok k→k≠g3) [h:KpT g1 g2 g3 W W']:d.R e W' base ok v xs:=Kd.R_kept x h.kp (ne3 h1 h2 h3)
theorem fv1 (g1:Nat) (x:d.V e W base ok v xs) (h1:∀ k,ok k→k≠g1) [h:KpT g1 g1 g1 W W']:d.V e W' base ok v xs:=Kd.V_kept x h.kp (ne3 h1 h1 h1)
theorem fv2 (g1 g2:Nat) (x:d.V e W base ok v xs) (h1:∀ k,ok k→k≠g1) (h2:∀ k,ok k→k≠g2) [h:KpT g1 g2 g2 W W']:d.V e W' base ok v xs:=Kd.V_kept x h.kp (ne3 h1 h2 h2)
theorem fv3 (g1 g2 g3:Nat) (x:d.V e W base ok v xs) (h1:∀ k,ok k→k≠g1) (h2:∀ k,ok k→k≠g2) (h3:∀ k,ok k→k≠g3) [h:KpT g1 g2 g3 W W']:d.V e W' base ok v xs:=Kd.V_kept x h.kp (ne3 h1 h2 h3)
class VTo {α:Type} (d:Kd α) (e:Nat) (base:Nat) (ok:Nat→Prop) (v:Value) (xs:List α) (W W':World):Prop where mv:d.V e W base ok v xs→d.V e W' base ok v xs
instance:VTo d e base ok v xs W W:=⟨id⟩
instance [h:VTo d e base ok v xs W W']:VTo d e base ok v xs W W'.drew:=⟨fun x=>Kd.V_drew (h.mv x)⟩
instance [h:VTo d e base ok v xs W W']:VTo d e base ok v xs W (W'.drewN n):=⟨fun x=>Kd.V_drewN (h.mv x) n⟩
instance [h:VTo d e base ok v xs W W']:VTo d e base ok v xs W (W'.alloc o):=⟨fun x=>Kd.V_alloc (h.mv x) o⟩
theorem mvV [h:VTo d e base ok v xs W W'] (x:d.V e W base ok v xs):d.V e W' base ok v xs:=h.mv x
theorem nbl (hg:g2=W.heap.size) (b:Aside0 (w0.heap[g1]? =some o)) [h:BlkTo g1 o w0 W]:Aside0 (g1≠g2):=⟨by rw [hg];exact Nat.ne_of_lt (blk_lt (h.mv b.out))⟩
theorem nbg (hg:g2=W.heap.size) (b:Aside0 (w0.heap[g1]? =some o)) [h:BlkTo g1 o w0 W]:Aside0 (g2≠g1):=⟨by rw [hg];exact Nat.ne_of_gt (blk_lt (h.mv b.out))⟩
end
/-- Of n operations those are done whose bit is set. -/
def bm (n k:Nat):Array Bool:=((List.range n).map fun i=>k.testBit i).toArray
end Go.Proofs.YtmfaopjfdedheaaGreatW
