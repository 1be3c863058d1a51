/- Rows of a slice's own, in the sort's words: a row holds numbers; numbers put into it. -/
import Derived.Test.YtmfaopjfdedheaaGreatProg
import Derived.Test.YtmfaopjfdedheaaGreatWMore
import Derived.Sort.Row
import Derived.Sort.Grow
namespace Go.Proofs.YtmfaopjfdedheaaGreat
set_option linter.unusedVariables false
set_option linter.unusedSimpArgs false
open Go.Sort Go.RowKit Go.Proofs.YtmfaopjfdedheaaGreatW Go.Proofs.YtmfaopjfdedheaaGreatW.PrintWords Go.Proofs.YtmfaopjfdedheaaGreatW.PrintLast Go.Proofs.YtmfaopjfdedheaaGreatW.PrintMore

/-! ### rows of its own -/
theorem own_opened {k:IntKind} {e:Nat} {w:World} {base:Nat} {ok:Nat→Prop} {v:Value} {xs:List Int} (h:Kd.R (Kd.int k) e w base ok v xs):
  (v=.slice none 0 0∧xs=[])∨∃ g cap cur,v=.slice (some ⟨g,0,none⟩) xs.length cap∧ok g∧base≤g∧w.heap[g]? =some (.cells cur e (0,0))∧xs.length≤cap∧cap≤maxLen∧cur.size=cap∧cur.toList.take xs.length=xs.map (Value.int k):=by
 obtain ⟨hok,inner,⟨hl,ho⟩,hr⟩:=h
 have e1:(Kd.int k).sz=1:=rfl
 have hin:inner=xs.map (Value.int k):=by
  refine List.ext_getElem (by rw [hr.1,e1,List.length_map];omega) (fun j h1 h2=>?_)
  have h3:j < xs.length:=by rw [List.length_map] at h2;exact h2
  have h4:=hr.2 j xs[j] (List.getElem?_eq_getElem h3)
  rw [e1,Nat.mul_one,List.drop_eq_getElem_cons h1,List.take_succ_cons,List.take_zero] at h4
  have h5:[inner[j]]=[Value.int k xs[j]]:=h4
  rw [List.getElem_map]
  exact (List.cons.inj h5).1
 rcases ho with ⟨rfl,h0⟩|⟨g,cap,cur,rfl,hb,hg,h1,h2,h3,h4⟩
 ·exact .inl ⟨rfl,List.length_eq_zero_iff.1 h0⟩
 ·rw [e1] at h3 h4
  exact .inr ⟨g,cap,cur,rfl,hok g rfl,hb,hg,h1,h2,by omega,by rw [← hin,← h4,Nat.mul_one]⟩
theorem own_slice {k:IntKind} {e:Nat} {w:World} {base:Nat} {ok:Nat→Prop} {v:Value} {xs:List Int} (h:Kd.R (Kd.int k) e w base ok v xs):∃ A c,v=.slice A xs.length c:=by
 rcases own_opened h with ⟨rfl,rfl⟩|⟨g,cap,cur,rfl,_⟩
 ·exact ⟨_,_,rfl⟩
 ·exact ⟨_,_,rfl⟩
theorem own_closed {k:IntKind} {e:Nat} {w:World} {base:Nat} {ok:Nat→Prop} {g cap:Nat} {cur:Array Value} (xs:List Int) (hok:ok g) (hb:base≤g) (hg:w.heap[g]? =some (.cells cur e (0,0))) (h1:xs.length≤cap) (h2:cap≤maxLen) (h3:cur.size=cap) (h4:cur.toList.take xs.length=xs.map (Value.int k)):
  Kd.R (Kd.int k) e w base ok (.slice (some ⟨g,0,none⟩) xs.length cap) xs:=by
 have e1:(Kd.int k).sz=1:=rfl
 refine ⟨fun j hj=>?_,xs.map (Value.int k),⟨by rw [e1,List.length_map];omega,.inr ⟨g,cap,cur,rfl,hb,hg,h1,h2,by rw [e1];omega,by rw [e1,Nat.mul_one,h4]⟩⟩,by rw [e1,List.length_map];omega,fun j p hp=>?_⟩
 ·have:g=j:=by simpa [Value.ownBlock] using hj
  rw [← this];exact hok
 ·obtain ⟨hj,rfl⟩:=List.getElem?_eq_some_iff.1 hp
  rw [e1,Nat.mul_one,List.drop_eq_getElem_cons (by rw [List.length_map];exact hj),List.take_succ_cons,List.take_zero,List.getElem_map]
  exact rfl
theorem own_fresh {α:Type} {d:Kd α} {e:Nat} {w:World} {base:Nat} {ok:Nat→Prop} {g cap:Nat} {cur:Array Value} (hok:ok g) (hb:base≤g) (hg:w.heap[g]? =some (.cells cur e (0,0))) (h2:cap≤maxLen) (h3:cur.size=cap * d.sz):
  d.R e w base ok (.slice (some ⟨g,0,none⟩) 0 cap) []:=by
 refine ⟨fun j hj=>?_,[],⟨by simp,.inr ⟨g,cap,cur,rfl,hb,hg,Nat.zero_le _,h2,h3,by simp⟩⟩,Reps.none _ _⟩
 have:g=j:=by simpa [Value.ownBlock] using hj
 rw [← this];exact hok
theorem own_holds {k:IntKind} {e:Nat} {w:World} {g:Nat} {cur:Array Value} {xs:List Int} (hg:w.heap[g]? =some (.cells cur e (0,0))) (h1:xs.length≤cur.size) (h4:cur.toList.take xs.length=xs.map (Value.int k)):Holds (Value.int k) w g 0 xs.toArray:=by
 intro j hj
 have hj':j < xs.length:=by simpa using hj
 rw [Nat.zero_add]
 refine ⟨?_,blk_frozen hg j⟩
 have h5:cur[j]? =some (Value.int k xs[j]):=by
  have h6:(cur.toList.take xs.length)[j]? =some (Value.int k xs[j]):=by rw [h4,List.getElem?_map,List.getElem?_eq_getElem hj'];rfl
  rw [List.getElem?_take_of_lt hj'] at h6
  simpa using h6
 rw [blk_cell hg j,h5]
 congr 2
 simp [hj']
theorem own_put {k:IntKind} {e:Nat} {w:World} {g:Nat} {cur:Array Value} (hg:w.heap[g]? =some (.cells cur e (0,0))) (n:Nat) (ys:List Int) (h1:ys.length≤cur.size) (os:Array Obj):
  ∃ cur':Array Value,(grow (putRow (Value.int k) (Sort.ahead w n) g 0 ys.toArray) os).heap[g]? =some (.cells cur' e (0,0))∧cur'.size=cur.size∧cur'.toList.take ys.length=ys.map (Value.int k):=by
 have hlt:g < w.heap.size:=(Array.getElem?_eq_some_iff.1 hg).1
 refine ⟨putCells (Value.int k) 0 ys.toArray cur,?_,by simp [putCells],?_⟩
 ·show ((putRow (Value.int k) (Sort.ahead w n) g 0 ys.toArray).heap++os)[g]? =_
  rw [Array.getElem?_append_left (by unfold putRow mapBlock;simp [Sort.ahead];exact hlt)]
  unfold putRow mapBlock
  have hg2:w.heap[g]=.cells cur e (0,0):=by rw [Array.getElem?_eq_getElem hlt] at hg;exact Option.some.inj hg
  simp [Sort.ahead,hlt,Array.getElem_modify,hg2,onCells]
 ·refine List.ext_getElem (by simp [putCells];omega) (fun j h2 h3=>?_)
  have hj:j < ys.length:=by simpa using h3
  simp [putCells,hj]
theorem put_size (k:IntKind) (w:World) (g n:Nat) (ys:List Int) (os:Array Obj):w.heap.size≤(grow (putRow (Value.int k) (Sort.ahead w n) g 0 ys.toArray) os).heap.size:=by
 show _≤((putRow (Value.int k) (Sort.ahead w n) g 0 ys.toArray).heap++os).size
 unfold putRow mapBlock
 simp [Sort.ahead]
theorem put_other (k:IntKind) (w:World) (g n:Nat) (ys:List Int) (os:Array Obj) (j:Nat) (hj:j < w.heap.size) (hne:j≠g):(grow (putRow (Value.int k) (Sort.ahead w n) g 0 ys.toArray) os).heap[j]? =w.heap[j]? :=by
 show ((putRow (Value.int k) (Sort.ahead w n) g 0 ys.toArray).heap++os)[j]? =_
 rw [Array.getElem?_append_left (by unfold putRow mapBlock;simp [Sort.ahead];exact hj)]
 unfold putRow mapBlock
 simp [Sort.ahead,Array.getElem?_modify,Ne.symm hne]
theorem own_below {k:IntKind} {w:World} {g n:Nat} {ys:List Int} {os:Array Obj} {base:Nat} (hbase:base≤g) (hsz:base≤w.heap.size):Below base w (grow (putRow (Value.int k) (Sort.ahead w n) g 0 ys.toArray) os):=
 ⟨rfl,rfl,rfl,put_size k w g n ys os,fun j hj=>put_other k w g n ys os j (by omega) (by omega)⟩
theorem own_kept {k:IntKind} {w:World} {g n:Nat} {ys:List Int} {os:Array Obj} {S:Nat→Prop} (hS:S g):Kept w (grow (putRow (Value.int k) (Sort.ahead w n) g 0 ys.toArray) os) S:=
 ⟨put_size k w g n ys os,fun j hj hn=>put_other k w g n ys os j hj (fun e=>hn (e ▸ hS))⟩

end Go.Proofs.YtmfaopjfdedheaaGreat
