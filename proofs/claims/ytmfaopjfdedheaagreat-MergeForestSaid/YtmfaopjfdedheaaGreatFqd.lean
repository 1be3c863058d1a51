/- Pages: copies, comparisons, smallness, the law's frame. -/
import Derived.Test.YtmfaopjfdedheaaGreatFqb
namespace Go.Proofs.YtmfaopjfdedheaaGreat.Fq
open Go.RowKit Go.Proofs.YtmfaopjfdedheaaGreat.F Go.Proofs.YtmfaopjfdedheaaGreatW.PrintWords Go.Proofs.YtmfaopjfdedheaaGreatW.PrintLast Go.Proofs.YtmfaopjfdedheaaGreatW.PrintMore
set_option linter.unusedVariables false
set_option linter.unusedSimpArgs false

theorem wf64 {x:Int} (h:(Lit.int .u64 x).wf=true):0≤x∧x < 18446744073709551616:=by simp [Lit.wf,IntKind.min,IntKind.max,IntKind.signed,IntKind.bits] at h;omega
theorem wf8 {x:Int} (h:(Lit.int .u8 x).wf=true):0≤x∧x < 256:=by simp [Lit.wf,IntKind.min,IntKind.max,IntKind.signed,IntKind.bits] at h;omega
theorem errno2_b (x y:Int):EvB (fun k=>api_Errno.f k 0 ([x,y]:List Int)) (x=0∧y=0):=by
 refine EvB.of (K:=3) fun k hk=>?_
 obtain ⟨j,rfl⟩:∃ j,k=j+3:=⟨k - 3,by omega⟩
 by_cases h1:x=0 <;> by_cases h2:y=0 <;> simp [api_Errno.f,api_Errno.l0,rd,wrap64,h1,h2]
theorem same_ev (l:List S42) (hl:l.length < 4611686018427387904):Ev (fun k=>lockkeeperref10_Same.f k l l) true:=by
 have h:∀ n (i:Nat),l.length - i=n→i≤l.length→Ev (fun k=>lockkeeperref10_Same.l0 k l l (i:Int)) true:=by
  intro n;induction n with
  |zero=>
   intro i h1 h2
   exact (Ev.const true).succ (fun k=>by simp only [lockkeeperref10_Same.l0];rw [if_neg (by omega)])
  |succ n ih=>
   intro i h1 h2
   exact (ih (i+1) (by omega) (by omega)).succ (fun k=>by simp only [lockkeeperref10_Same.l0];rw [if_pos (by omega),if_pos (by omega),if_pos (by omega),w1 (by omega),if_neg (by simp)])
 exact (h _ 0 rfl (Nat.zero_le _)).congr (fun k=>if_pos rfl)
/-- A page is the same as itself. -/
theorem small_ev (p:Pg) (hl:p.cells.length < 4611686018427387904):EvP (fun k=>lockkeeperref11_Small.f k p.id p.right p.level p.low p.high p.fin p.dsn p.slow p.sin p.cells) (fun r=>r=true→p.cells.length≤60∧p.sin.length≤1100):=by
 have hend:∀ x:Int,EvP (fun _=>if (p.cells.length:Int)≤60 then (if (p.sin.length:Int)≤1100 then some (decide (x≤30000)) else some false) else some false) (fun r=>r=true→p.cells.length≤60∧p.sin.length≤1100):=fun x=>
  EvP.ite (fun h1=>EvP.ite (fun h2=>EvP.const (fun _=>⟨by omega,by omega⟩)) (fun _=>EvP.const (fun h=>by cases h))) (fun _=>EvP.const (fun h=>by cases h))
 have h:∀ n (i:Nat) (x:Int),p.cells.length - i=n→i≤p.cells.length→EvP (fun k=>lockkeeperref11_Small.l0 k x (i:Int) p.id p.right p.level p.low p.high p.fin p.dsn p.slow p.sin p.cells) (fun r=>r=true→p.cells.length≤60∧p.sin.length≤1100):=by
  intro n;induction n with
  |zero=>
   intro i x h1 h2
   exact (hend x).succ (fun k=>by simp only [lockkeeperref11_Small.l0];rw [if_neg (by omega)])
  |succ n ih=>
   intro i x h1 h2
   by_cases h60:(i:Int) < 60
   ·exact (ih (i+1) (wrap64 ((wrap64 (x+(((rd_T42 p.cells (i:Int)).f0).size:Int)))+(((rd_T42 p.cells (i:Int)).f1).size:Int))) (by omega) (by omega)).succ (fun k=>by simp only [lockkeeperref11_Small.l0];rw [if_pos (by omega),if_pos h60,if_pos (by omega),w1 (by omega)])
   ·exact (hend x).succ (fun k=>by simp only [lockkeeperref11_Small.l0];rw [if_pos (by omega),if_neg h60])
 exact h _ 0 _ rfl (Nat.zero_le _)
theorem head_evp:EvP (fun k=>(lockkeeperlaw16_head.f k).bind fun t=>some t) (fun r=>r=true):=
 EvP.bind (p:=fun t=>t=true) ⟨true,⟨40,fun k hk=>if_pos hk⟩,rfl⟩ fun t h=>EvP.const h
end Go.Proofs.YtmfaopjfdedheaaGreat.Fq
namespace Go.Proofs.YtmfaopjfdedheaaGreat.Fq
open Go.RowKit Go.Proofs.YtmfaopjfdedheaaGreat.F Go.Proofs.YtmfaopjfdedheaaGreatW.PrintWords Go.Proofs.YtmfaopjfdedheaaGreatW.PrintLast Go.Proofs.YtmfaopjfdedheaaGreatW.PrintMore
set_option linter.unusedVariables false
set_option linter.unusedSimpArgs false

abbrev Rs:=Int×Int×Int×ByteArray×ByteArray×Bool×Int×Int×List Int×(List S42)×Int
def err (e:Int):Rs:=(0,0,0,⟨#[]⟩,⟨#[]⟩,false,0,0,[],[],e)
structure BesideP (a b:Pg):Prop where
 one:CheckP a
 two:CheckP b
 level:a.level=b.level
 right:a.right=b.id
 back:b.right≠a.id
 fin:a.fin=true
 high:a.high.toList=b.low.toList
theorem every_b (x:Bool) (l:List Bool) (hl:l.length < 4611686018427387904):∀ n (i:Nat),l.length - i=n→i≤l.length→EvB (fun k=>merge_every_bool.l0 k x l (l.length:Int) (i:Int)) (∀ t:Nat,i≤t→t < l.length→rdOf false l (t:Int)=x):=by
 intro n;induction n with
 |zero=>
  intro i h1 h2
  exact EvP.succ (g:=fun _=>some true) (EvP.const (by simp;intro t h3 h4;omega)) (fun k=>by simp only [merge_every_bool.l0];rw [if_neg (by omega)])
 |succ n ih=>
  intro i h1 h2
  refine EvP.succ (g:=fun k=>if (rdOf false l (i:Int) != x)=true then some false else merge_every_bool.l0 k x l (l.length:Int) ((i+1:Nat):Int)) ?_ (fun k=>by simp only [merge_every_bool.l0];rw [if_pos (by omega),if_pos (by omega),if_pos (by omega),w1 (by omega)])
  refine EvP.ite (fun h=>EvP.const ?_) (fun h=>(ih (i+1) (by omega) (by omega)).mono fun b hb=>?_)
  ·simp only [Bool.false_eq_true,false_iff]
   intro h3
   rw [h3 i (Nat.le_refl _) (by omega)] at h
   simp at h
  ·rw [hb]
   refine ⟨fun h3 t h4 h5=>?_,fun h3 t h4 h5=>h3 t (by omega) h5⟩
   rcases Nat.eq_or_lt_of_le h4 with rfl|h6
   ·simpa using h
   ·exact h3 t h6 h5
theorem every5_b (b1 b2 b3 b4 b5:Bool):EvB (fun k=>merge_every_bool.f k true ([b1,b2,b3,b4,b5]:List Bool)) (b1=true∧b2=true∧b3=true∧b4=true∧b5=true):=by
 refine (every_b true [b1,b2,b3,b4,b5] (by simp) _ 0 rfl (Nat.zero_le _)).mono fun b hb=>hb.trans ?_
 constructor
 ·intro h
  exact ⟨h 0 (by omega) (by simp),h 1 (by omega) (by simp),h 2 (by omega) (by simp),h 3 (by omega) (by simp),h 4 (by omega) (by simp)⟩
 ·rintro ⟨rfl,rfl,rfl,rfl,rfl⟩ t _ ht
  have ht':t < 5:=ht
  obtain rfl|rfl|rfl|rfl|rfl:t=0∨t=1∨t=2∨t=3∨t=4:=by omega
  all_goals rfl
theorem beside_b (a b:Pg) (ha:a.ok) (hb:b.ok):EvB (fun k=>merge_Beside.f k a.id a.right a.level a.low a.high a.fin a.dsn a.slow a.sin a.cells b.id b.right b.level b.low b.high b.fin b.dsn b.slow b.sin b.cells) (BesideP a b):=by
 unfold merge_Beside.f
 refine (check_ev a ha).to.bind fun x hx=>(check_ev b hb).to.bind fun y hy=>?_
 subst hx hy
 refine (errno2_b _ _).bind fun t ht=>EvP.ite (fun e=>(every5_b _ _ _ _ _).bind fun s hs=>EvP.const ?_) (fun e=>EvP.const ?_)
 ·have h:=ht.1 e
  rw [hs]
  simp only [beq_iff_eq,bne_iff_ne,ne_eq]
  exact ⟨fun q=>⟨chk0.1 h.1,chk0.1 h.2,q.1,q.2.1,q.2.2.1,q.2.2.2.1,q.2.2.2.2⟩,fun q=>⟨q.level,q.right,q.back,q.fin,q.high⟩⟩
 ·simp only [Bool.false_eq_true,false_iff]
  exact fun q=>e (ht.2 ⟨chk0.2 q.one,chk0.2 q.two⟩)
def setR (a b:Pg) (low:Int):Int×List Int×Int:=joined_ (raise_ a.slow a.sin low).1 (raise_ a.slow a.sin low).2.1 (raise_ b.slow b.sin low).1 (raise_ b.slow b.sin low).2.1
open Classical in
/-- What two pages come to. -/
noncomputable def joinR (a b:Pg) (low dsn:Int):Rs:=
 if ¬ (CheckP a∧CheckP b∧dsn≤281474976710656∧low≤281474976710656) then err 110
 else if ¬ BesideP a b then err 140
 else if 0 < a.level then (a.id,b.right,a.level,a.low,b.high,b.fin,dsn,a.slow,a.sin,a.cells++b.cells,0)
 else if low < a.slow∨low < b.slow then err 9
 else if (setR a b low).2.2=0 then (a.id,b.right,a.level,a.low,b.high,b.fin,dsn,(setR a b low).1,(setR a b low).2.1,a.cells++b.cells,0)
 else err (setR a b low).2.2
theorem raise_len {a:Int} {l:List Int} {low:Int} (h:l.length≤1100):(raise_ a l low).2.1.length≤1100:=by
 unfold raise_
 split
 ·exact Nat.le_trans (List.length_filter_le _ _) h
 ·exact Nat.zero_le _
theorem raised_ev (a:Int) (l:List Int) (low:Int) (h:l.length≤1100):Ev (fun k=>merge_set_raised.f k a l low) ((raise_ a l low).1,(raise_ a l low).2.1):=by
 unfold merge_set_raised.f
 exact Ev.bind (a:=raise_ a l low) ⟨l.length+1,fun k hk=>raise_eq a l low k (by omega) (by omega)⟩ (Ev.const _)
theorem ljoin_ev (a:Int) (l:List Int) (b:Int) (m:List Int) (hl:l.length≤1100) (hm:m.length≤1100):Ev (fun k=>lsns_Join.f k a l b m) (joined_ a l b m):=⟨5000,fun k hk=>join_eq a l b m k (by omega) (by omega) (by omega) (by omega)⟩
theorem join_ev (a b:Pg) (low dsn:Int) (ha:a.ok) (hb:b.ok) (sa:a.sin.length≤1100) (sb:b.sin.length≤1100) (la:a.cells.length≤60) (lb:b.cells.length≤60):Ev (fun k=>merge_Join.f k a.id a.right a.level a.low a.high a.fin a.dsn a.slow a.sin a.cells b.id b.right b.level b.low b.high b.fin b.dsn b.slow b.sin b.cells low dsn) (joinR a b low dsn):=by
 have bad:¬ (CheckP a∧CheckP b∧dsn≤281474976710656∧low≤281474976710656)→EvP (fun k=>merge_Join.j0 k low dsn true a.id a.right a.level a.low a.high a.fin a.dsn a.slow a.sin a.cells b.id b.right b.level b.low b.high b.fin b.dsn b.slow b.sin b.cells) (fun r=>r=joinR a b low dsn):=fun h=>
  EvP.succ (g:=fun _=>some (err 110)) (EvP.const (by unfold joinR;rw [if_pos h])) (fun k=>by simp only [merge_Join.j0];rw [if_pos trivial];rfl)
 have hj1:CheckP a∧CheckP b∧dsn≤281474976710656∧low≤281474976710656→BesideP a b→¬ 0 < a.level→∀ x:Bool,(x=true↔(low < a.slow∨low < b.slow))→∀ c,EvP (fun k=>merge_Join.j1 k low x a.id a.right a.level a.low a.high a.fin a.dsn a.slow a.sin a.cells b.id b.right b.level b.low b.high b.fin b.dsn b.slow b.sin b.cells a.id b.right a.level a.low b.high b.fin dsn a.slow c (a.cells++b.cells)) (fun r=>r=joinR a b low dsn):=by
  intro h1 h2 h3 x hx c
  refine EvP.succ ?_ (fun k=>by simp only [merge_Join.j1];rfl)
  refine EvP.ite (fun e=>EvP.const ?_) (fun e=>?_)
  ·unfold joinR;rw [if_neg (not_not_intro h1),if_neg (not_not_intro h2),if_neg h3,if_pos (hx.1 e)];rfl
  ·refine (raised_ev a.slow a.sin low sa).to.bind fun r1 e1=>(raised_ev b.slow b.sin low sb).to.bind fun r2 e2=>?_
   subst e1 e2
   refine (ljoin_ev _ _ _ _ (raise_len sa) (raise_len sb)).to.bind fun r3 e3=>EvP.ite (fun e4=>EvP.const ?_) (fun e4=>EvP.const ?_)
   ·subst e3
    unfold joinR;rw [if_neg (not_not_intro h1),if_neg (not_not_intro h2),if_neg h3,if_neg (fun q=>e (hx.2 q)),if_pos (show (setR a b low).2.2=0 from e4)];rfl
   ·subst e3
    unfold joinR;rw [if_neg (not_not_intro h1),if_neg (not_not_intro h2),if_neg h3,if_neg (fun q=>e (hx.2 q)),if_neg (show ¬ (setR a b low).2.2=0 from e4)];rfl
 have hj0:CheckP a∧CheckP b∧dsn≤281474976710656∧low≤281474976710656→EvP (fun k=>merge_Join.j0 k low dsn false a.id a.right a.level a.low a.high a.fin a.dsn a.slow a.sin a.cells b.id b.right b.level b.low b.high b.fin b.dsn b.slow b.sin b.cells) (fun r=>r=joinR a b low dsn):=by
  intro h1
  refine EvP.succ ?_ (fun k=>by simp only [merge_Join.j0];rw [if_neg (by simp)])
  refine (beside_b a b ha hb).bind fun t ht=>EvP.ite (fun e=>?_) (fun e=>EvP.const ?_)
  ·have h2:=ht.1 e
   refine EvP.bind (f:=fun _=>slices_Clone_uint64_uint64.f a.sin) (p:=fun c=>c=a.sin) ⟨a.sin,(Ev.const a.sin).congr (fun k=>if_pos (by omega)),rfl⟩ fun c hc=>EvP.bind (f:=fun k=>api_Cell.f k a.cells b.cells) (p:=fun y=>y=a.cells++b.cells) ⟨a.cells++b.cells,(Ev.const _).congr (fun k=>if_pos (by omega)),rfl⟩ fun y hy=>?_
   subst hc hy
   refine EvP.ite (fun e1=>EvP.const ?_) (fun e1=>EvP.ite (fun e2=>hj1 h1 h2 e1 true ⟨fun _=>.inl e2,fun _=>rfl⟩ _) (fun e2=>hj1 h1 h2 e1 _ ⟨fun q=>.inr (of_decide_eq_true q),fun q=>decide_eq_true (q.resolve_left e2)⟩ _))
   unfold joinR;rw [if_neg (not_not_intro h1),if_neg (not_not_intro h2),if_pos e1]
  ·unfold joinR;rw [if_neg (not_not_intro h1),if_pos (fun q=>e (ht.2 q))];rfl
 unfold merge_Join.f
 refine EvP.ev ((check_ev a ha).to.bind fun x hx=>(check_ev b hb).to.bind fun y hy=>(errno2_b _ _).bind fun t ht=>EvP.ite (fun e=>EvP.ite (fun e1=>bad fun q=>by have:=q.2.2.1;omega) fun e1=>?_) (fun e=>bad fun q=>e (ht.2 ⟨hx ▸ chk0.2 q.1,hy ▸ chk0.2 q.2.1⟩)))
 have h:=ht.1 e
 by_cases e2:low > 281474976710656
 ·rw [decide_eq_true e2]
  exact bad fun q=>by have:=q.2.2.2;omega
 ·rw [decide_eq_false e2]
  exact hj0 ⟨chk0.1 (hx ▸ h.1),chk0.1 (hy ▸ h.2),by omega,by omega⟩
end Go.Proofs.YtmfaopjfdedheaaGreat.Fq
