/- Pages: copies, comparisons, smallness, the law's frame. -/
import Derived.Test.YtmfaopjfdedheaaGreatTqb
namespace Go.Proofs.YtmfaopjfdedheaaGreat.Tq
open Go.RowKit Go.Proofs.YtmfaopjfdedheaaGreat.T Go.Proofs.YtmfaopjfdedheaaGreatW.PrintWords Go.Proofs.YtmfaopjfdedheaaGreatW.PrintLast Go.Proofs.YtmfaopjfdedheaaGreatW.PrintMore
set_option linter.unusedVariables false
set_option linter.unusedSimpArgs false

theorem wf64 {x:Int} (h:(Lit.int .u64 x).wf=true):0≤x∧x < 18446744073709551616:=by simp [Lit.wf,IntKind.min,IntKind.max,IntKind.signed,IntKind.bits] at h;omega
theorem wf8 {x:Int} (h:(Lit.int .u8 x).wf=true):0≤x∧x < 256:=by simp [Lit.wf,IntKind.min,IntKind.max,IntKind.signed,IntKind.bits] at h;omega
theorem errno2_b (x y:Int):EvB (fun k=>api_Errno.f k 0 ([x,y]:List Int)) (x=0∧y=0):=by
 refine EvB.of (K:=3) fun k hk=>?_
 obtain ⟨j,rfl⟩:∃ j,k=j+3:=⟨k - 3,by omega⟩
 by_cases h1:x=0 <;> by_cases h2:y=0 <;> simp [api_Errno.f,api_Errno.l0,rd,wrap64,h1,h2]
theorem rcopy11_ev (p:Pg) (ho:p.ok):q11_Copy.f p.id p.right p.level p.low p.high p.fin p.dsn p.slow p.sin p.cells=some (p.id,p.right,p.level,p.low,p.high,p.fin,p.dsn,p.slow,p.sin,p.cells):=by
 have h1:=ho.len;have h2:=ho.sin
 unfold q11_Copy.f q04_Copy.f q10_Copy.f
 rw [if_pos (by simp;omega),if_pos (by simp;omega)]
 simp
theorem same_ev (l:List S42) (hl:l.length < 4611686018427387904):Ev (fun k=>q10_Same.f k l l) true:=by
 have h:∀ n (i:Nat),l.length - i=n→i≤l.length→Ev (fun k=>q10_Same.l0 k l l (i:Int)) true:=by
  intro n;induction n with
  |zero=>
   intro i h1 h2
   exact (Ev.const true).succ (fun k=>by simp only [q10_Same.l0];rw [if_neg (by omega)])
  |succ n ih=>
   intro i h1 h2
   exact (ih (i+1) (by omega) (by omega)).succ (fun k=>by simp only [q10_Same.l0];rw [if_pos (by omega),if_pos (by omega),if_pos (by omega),w1 (by omega),if_neg (by simp)])
 exact (h _ 0 rfl (Nat.zero_le _)).congr (fun k=>if_pos rfl)
/-- A page is the same as itself. -/
theorem same11_ev (p:Pg) (hs:p.sin.length < 4611686018427387904) (hl:p.cells.length < 4611686018427387904):Ev (fun k=>q11_Same.f k p.id p.right p.level p.low p.high p.fin p.dsn p.slow p.sin p.cells p.id p.right p.level p.low p.high p.fin p.dsn p.slow p.sin p.cells) true:=by
 unfold q11_Same.f
 refine Ev.congr (g:=fun k=>(q04_Same.f k p.slow p.sin p.slow p.sin).bind fun t252=>if t252=true then ((q10_Same.f k p.cells p.cells).bind fun t253=>some t253) else some false) ?_ (fun k=>by simp)
 refine Ev.bind (a:=true) ⟨p.sin.length+2,fun k hk=>?_⟩ ?_
 ·show q04_Same.f k _ _ _ _=_
  rw [rsame_eq _ _ _ _ k hs (by omega)];simp
 ·refine Ev.congr (g:=fun k=>(q10_Same.f k p.cells p.cells).bind fun t253=>some t253) ?_ (fun k=>if_pos rfl)
  exact (same_ev p.cells hl).bind (Ev.const true)
/-- A small page has few cells and few numbers. -/
theorem small_ev (p:Pg) (hl:p.cells.length < 4611686018427387904):EvP (fun k=>q11_Small.f k p.id p.right p.level p.low p.high p.fin p.dsn p.slow p.sin p.cells) (fun r=>r=true→p.cells.length≤60∧p.sin.length≤1100):=by
 have hend:∀ x:Int,EvP (fun _=>if (p.cells.length:Int)≤60 then (if (p.sin.length:Int)≤1100 then some (decide (x≤30000)) else some false) else some false) (fun r=>r=true→p.cells.length≤60∧p.sin.length≤1100):=fun x=>
  EvP.ite (fun h1=>EvP.ite (fun h2=>EvP.const (fun _=>⟨by omega,by omega⟩)) (fun _=>EvP.const (fun h=>by cases h))) (fun _=>EvP.const (fun h=>by cases h))
 have h:∀ n (i:Nat) (x:Int),p.cells.length - i=n→i≤p.cells.length→EvP (fun k=>q11_Small.l0 k x (i:Int) p.id p.right p.level p.low p.high p.fin p.dsn p.slow p.sin p.cells) (fun r=>r=true→p.cells.length≤60∧p.sin.length≤1100):=by
  intro n;induction n with
  |zero=>
   intro i x h1 h2
   exact (hend x).succ (fun k=>by simp only [q11_Small.l0];rw [if_neg (by omega)])
  |succ n ih=>
   intro i x h1 h2
   by_cases h60:(i:Int) < 60
   ·exact (ih (i+1) (wrap64 ((wrap64 (x+(((rd_T42 p.cells (i:Int)).f0).size:Int)))+(((rd_T42 p.cells (i:Int)).f1).size:Int))) (by omega) (by omega)).succ (fun k=>by simp only [q11_Small.l0];rw [if_pos (by omega),if_pos h60,if_pos (by omega),w1 (by omega)])
   ·exact (hend x).succ (fun k=>by simp only [q11_Small.l0];rw [if_pos (by omega),if_neg h60])
 exact h _ 0 _ rfl (Nat.zero_le _)
theorem head_evp:EvP (fun k=>(y16_head.f k).bind fun t=>some t) (fun r=>r=true):=
 EvP.bind (p:=fun t=>t=true) ⟨true,⟨40,fun k hk=>if_pos hk⟩,rfl⟩ fun t h=>EvP.const h
end Go.Proofs.YtmfaopjfdedheaaGreat.Tq
