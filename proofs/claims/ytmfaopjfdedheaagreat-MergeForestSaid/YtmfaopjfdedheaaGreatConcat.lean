/- The library's Grow and Compact at []uint64, laid over the program by the library's contracts. -/
import Derived.Test.YtmfaopjfdedheaaGreatProg
import Derived.Shelf.SlicesE.Compact
import Derived.Shelf.Spec.SlicesGrow
import Derived.Test.YtmfaopjfdedheaaGreatOwn
namespace Go.Proofs.YtmfaopjfdedheaaGreat
set_option linter.unusedVariables false
set_option linter.unusedSimpArgs false
open Go.Shelf Go.Lib Go.Sort
def compactU_ren:Go.Shelf.Ren:=⟨fun|43=>79|n=>n,fun|22=>23|23=>22|n=>n,fun n=>n⟩
theorem compactU:SlLaysE.n43 Tryz.prog compactU_ren where
 mixed:=by kernel_rfl
 f43:=⟨Tryz.f79.name,by kernel_rfl,Tryz.func79.trans (congrArg some (by kernel_rfl))⟩
 t0:=Tryz.underlying0
 a0:=Tryz.isAgg0
 z0:=Tryz.sizeOf0
 v0:=Tryz.zeroValue0
 t3:=Tryz.underlying3
 a3:=Tryz.isAgg3
 z3:=Tryz.sizeOf3
 v3:=Tryz.zeroValue3
 t4:=Tryz.underlying4
 a4:=Tryz.isAgg4
 z4:=Tryz.sizeOf4
 v4:=Tryz.zeroValue4
 t22:=Tryz.underlying23
 a22:=Tryz.isAgg23
 z22:=Tryz.sizeOf23
 v22:=Tryz.zeroValue23
 a23:=Tryz.isAgg22
 z23:=Tryz.sizeOf22
def growU_ren:Go.Shelf.Ren:=⟨fun|4=>104|n=>n,fun|22=>23|25=>22|n=>n,fun n=>n⟩
theorem growU:Lays8.n4 Tryz.prog growU_ren where
 mixed:=by kernel_rfl
 f4:=⟨Tryz.f104.name,by kernel_rfl,Tryz.func104.trans (congrArg some (by kernel_rfl))⟩
 t0:=Tryz.underlying0
 a0:=Tryz.isAgg0
 z0:=Tryz.sizeOf0
 v0:=Tryz.zeroValue0
 t3:=Tryz.underlying3
 a3:=Tryz.isAgg3
 z3:=Tryz.sizeOf3
 v3:=Tryz.zeroValue3
 t4:=Tryz.underlying4
 a4:=Tryz.isAgg4
 z4:=Tryz.sizeOf4
 v4:=Tryz.zeroValue4
 t9:=Tryz.underlying9
 a9:=Tryz.isAgg9
 z9:=Tryz.sizeOf9
 v9:=Tryz.zeroValue9
 t20:=Tryz.underlying20
 a20:=Tryz.isAgg20
 z20:=Tryz.sizeOf20
 v20:=Tryz.zeroValue20
 t22:=Tryz.underlying23
 a22:=Tryz.isAgg23
 z22:=Tryz.sizeOf23
 v22:=Tryz.zeroValue23
noncomputable def infoU:TypeInfo:=(Tryz.prog.info? 22).get (by kernel_rfl)
theorem SoU.compact (blk off cap:Nat) (d:Array Int) (w:World) (hH:Holds (Value.int .u64) w blk off d) (hsz:d.size≤9223372036854775807) (hcap:d.size≤cap):
  Calls Tryz.prog 79 #[.slice (some ⟨blk,off,none⟩) d.size cap] w fun e w'=>e=.returned (.slice (some ⟨blk,off,none⟩) (compactUpTo d d.size).length cap)∧∃ q,w'=putRow (Value.int .u64) (Sort.ahead w q) blk off (compactUpTo d d.size++List.replicate (d.size - (compactUpTo d d.size).length) 0).toArray:=
 AnyE.slices_Compact compactU (Value.int .u64) (fun _=>rfl) (EqlAt.intD _ _ .u64) (NeqAt.intD _ _ .u64) 0 Tryz.zeroValue22 blk off cap d w hH hsz hcap
theorem SoU.grow_none (w:World):Calls Tryz.prog 104 #[.slice none 0 0,.int .i64 ((0:Nat):Int)] w fun e w'=>e=.returned (.slice none 0 0)∧w'=w:=
 Any8.slices_Grow_room growU none 0 0 0 w (Nat.le_refl _) (by decide) (by decide) (by decide)
theorem SoU.grow (n:Nat) (h0:0 < n) (hn:n * 8≤140737488355328) (w:World):Calls Tryz.prog 104 #[.slice none 0 0,.int .i64 (n:Int)] w fun e w'=>
  e=.returned (.slice (some ⟨w.heap.size,0,none⟩) 0 (grownCap w n 0 22))∧w'=w.drew.alloc (.cells (Builtin.zeroCells #[.int .u64 0] (grownCap w n 0 22)) 22):=by
 have h:=Any8.slices_Grow_grow growU infoU (.int .u64 0) (by kernel_rfl) (by kernel_rfl) (by decide+kernel) none 0 0 n [] w (Nat.le_refl _) (by omega) (by
  have e:infoU.bytes=8:=by kernel_rfl
  rw [e];omega) (by omega) (by simp) (fun _=>rfl) (fun a h=>by cases h)
 refine h.mono ?_
 rintro e w' ⟨rfl,rfl⟩
 have e1:growU_ren.t 25=22:=rfl
 rw [e1,Nat.zero_add]
 refine ⟨rfl,?_⟩
 have hg:=grownCap_ge w n 0 22
 have e2:(([]:List Value).toArray++Builtin.zeroCells (Value.int .u64 0).cells (n - 0)++Builtin.zeroCells (Value.int .u64 0).cells (grownCap w n 0 22 - n))=Builtin.zeroCells #[.int .u64 0] (grownCap w n 0 22):=by
  have e3:(Value.int .u64 0).cells=#[.int .u64 0]:=rfl
  rw [e3]
  have hz:∀ m,Builtin.zeroCells #[Value.int .u64 0] m=(List.replicate m (Value.int .u64 0)).toArray:=fun m=>by
   unfold Builtin.zeroCells
   apply Array.ext'
   refine List.ext_getElem (by simp) (fun i h1 h2=>?_)
   simp [Nat.mod_one]
  rw [hz,hz,hz,Nat.sub_zero]
  apply Array.ext'
  simp [List.replicate_append_replicate]
  omega
 rw [e2]
end Go.Proofs.YtmfaopjfdedheaaGreat
namespace Go.Proofs.YtmfaopjfdedheaaGreat
set_option linter.unusedVariables false
set_option linter.unusedSimpArgs false
open Go.Sort Go.RowKit Go.Proofs.YtmfaopjfdedheaaGreatW Go.Proofs.YtmfaopjfdedheaaGreatW.PrintWords Go.Proofs.YtmfaopjfdedheaaGreatW.PrintLast Go.Proofs.YtmfaopjfdedheaaGreatW.PrintMore

theorem infoE22:(Tryz.prog.info? 22).map (fun i=>(i.zero,i.size,i.bytes))=some (some (.int .u64 0),1,8):=by kernel_rfl
theorem growU_R (n:Nat) (hn:n * 8≤140737488355328) (w:World):Calls Tryz.prog 104 #[.slice none 0 0,.int .i64 (n:Int)] w fun e w'=>
  ∃ v:Value,e=.returned v∧Kd.R (Kd.int .u64) 22 w' w.heap.size (fun _=>True) v []∧Below w.heap.size w w':=by
 rcases Nat.eq_zero_or_pos n with rfl|h0
 ·refine (SoU.grow_none w).mono ?_
  rintro e w' ⟨rfl,rfl⟩
  exact ⟨_,rfl,Kd.R_nil _ _ _ _ _,Below.refl _ _⟩
 ·refine (SoU.grow n h0 hn w).mono ?_
  rintro e w' ⟨rfl,rfl⟩
  have hc:=grownCap_le_maxLen w n 0 22 (by unfold maxLen;omega)
  exact ⟨_,rfl,own_closed (k:=.u64) [] trivial (Nat.le_refl _) (by have h:=blk_new w.drew (.cells (Builtin.zeroCells #[.int .u64 0] (grownCap w n 0 22)) 22);exact h) (Nat.zero_le _) hc (by rw [size_zeroCells];simp) rfl,below_alloc (below_drew1 (Below.refl _ _)) _⟩
set_option maxHeartbeats 4000000 in
set_option maxRecDepth 100000 in
theorem concatU (b:Nat) (A B:Option Addr) (ca cb:Nat) (la lb:List Int) (w:World) (hb:w.heap[b]? =some (.cells #[.slice A la.length ca,.slice B lb.length cb] 23 (0,0)))
  (hA:Kd.C (Kd.int .u64) w A la.length la) (hB:Kd.C (Kd.int .u64) w B lb.length lb) (hl:la.length+lb.length < 17592186044416):
  Calls Tryz.prog 77 #[.slice (some ⟨b,0,none⟩) 2 2] w fun e w'=>∃ v:Value,e=.returned v∧Kd.R (Kd.int .u64) 22 w' w.heap.size (fun _=>True) v (la++lb)∧Below w.heap.size w w':=by
 have HA:=Aside0.mk hA
 have HB':=Aside0.mk hB
 have HL:=Aside0.mk hl
 have BL:=Aside0.mk hb
 have h0:=(blk_cell hb 0).trans rfl
 have h1:=(blk_cell hb 1).trans rfl
 clear hA hB hb
 have e1:wrap64 (la.length:Int)=la.length:=by unfold wrap64;omega
 have e2:wrap64 ((la.length:Int)+(lb.length:Int))=((la.length+lb.length:Nat):Int):=by unfold wrap64;omega
 have hG:∀ W,Calls Tryz.prog 104 #[.slice none 0 0,.int .i64 (wrap64 ((la.length:Int)+(lb.length:Int)))] W fun e w'=>∃ v:Value,e=.returned v∧Kd.R (Kd.int .u64) 22 w' W.heap.size (fun _=>True) v []∧Below W.heap.size W w':=fun W=>by
  rw [e2];exact growU_R (la.length+lb.length) (by omega) W
 have hd:decide (wrap64 ((la.length:Int)+(lb.length:Int)) < 0)=false:=decide_eq_false (by rw [e2];omega)
 have hd1:decide (wrap64 (la.length:Int) < 0)=false:=decide_eq_false (by rw [e1];omega)
 have HG:=Aside0.mk hG
 clear hl e2 hG
 go_enter Tryz.func77,Tryz.ntmps77
 go_wp2
 refine wp_loop_rounds 3 ?_
 rw [rounds_succ]
 go_wp2
 rw [rounds_succ]
 go_wp2
 rw [rounds_succ]
 go_wp2_with (go_at_call 104;refine (HG.out _).mono ?_;rintro e w1 ⟨v,rfl,hr,hbb⟩;have HR:=Aside0.mk hr;have HB:=Aside0.mk hbb;have B1:=Aside0.mk (blk_below BL.out hbb);clear hr hbb;have g0:=(blk_cell B1.out 0).trans rfl;have g1:=(blk_cell B1.out 1).trans rfl)
 refine wp_loop_rounds 3 ?_
 rw [rounds_succ]
 go_wp2_with ((with_reducible refine gate_builtin (b:=.append) (xs:=#[.tmp 31,.tmp 32]) rfl ?_);at_builtin;(refine Kd.R_append_rows (Kd.int .u64) (w0:=w) w.heap.size rfl (.tmp 31) (.tmp 32) 23 22 (.int .u64 0) 8 rfl Tryz.underlying23 infoE22 rfl (by decide) (by omega) v [] la A la.length ca (fun _=>True) (fun _=>False) rfl rfl ?aO ?aR (fun _ _ h=>h) (fun _ h=>h.elim) ?aF ?aB ?aS ?aL ?_;(case aR=>exact Kd.C_below HA.out HB.out);(case aB=>exact HB.out);(case aF=>exact fun _ _=>trivial);(case aO=>exact HR.out);(case aS=>exact below_size HB.out);(case aL=>have:=HL.out;simp;omega);intro v1 w2 ho hb hg hat;have HO1:=Aside0.mk ho;have HB1:=Aside0.mk hb;have B2:=Aside0.mk (blk_below BL.out hb);have k1:=(blk_cell B2.out 1).trans rfl;clear ho hb hg hat))
 rw [rounds_succ]
 go_wp2_with ((with_reducible refine gate_builtin (b:=.append) (xs:=#[.tmp 31,.tmp 32]) rfl ?_);at_builtin;(refine Kd.R_append_rows (Kd.int .u64) (w0:=w) w.heap.size rfl (.tmp 31) (.tmp 32) 23 22 (.int .u64 0) 8 rfl Tryz.underlying23 infoE22 rfl (by decide) (by omega) v1 ([]++la) lb B lb.length cb (fun _=>True) (fun _=>False) rfl rfl ?aO ?aR (fun _ _ h=>h) (fun _ h=>h.elim) ?aF ?aB ?aS ?aL ?_;(case aR=>exact Kd.C_below HB'.out HB1.out);(case aB=>exact HB1.out);(case aF=>exact fun _ _=>trivial);(case aO=>exact HO1.out);(case aS=>exact below_size HB1.out);(case aL=>have:=HL.out;simp;omega);intro v2 w3 ho hb hg hat;have HO2:=Aside0.mk ho;have HB2:=Aside0.mk hb;clear ho hb hg hat))
 rw [rounds_succ]
 go_wp2
 go_ret
 exact ⟨_,rfl,HO2.out,HB2.out⟩

/-! ### Compact, of an own row -/
theorem SoU.compact_nil (w:World):Calls Tryz.prog 79 #[.slice none 0 0] w fun e w'=>e=.returned (.slice none 0 0)∧w'=w:=by
 go_enter Tryz.func79,Tryz.ntmps79
 go_wp2
 go_ret
 exact ⟨rfl,rfl⟩
theorem compact_length (l:List Int):(Lib.compact l).length≤l.length:=by
 unfold Lib.compact Lib.compactUpTo
 rw [List.length_map]
 exact Nat.le_trans (List.length_filter_le _ _) (by simp)
theorem compactU_R {base:Nat} {ok:Nat→Prop} {v:Value} {l:List Int} {w:World} (hl:l.length < 4611686018427387904) (hbs:base≤w.heap.size) (ho:Kd.R (Kd.int .u64) 22 w base ok v l):
  Calls Tryz.prog 79 #[v] w fun e w'=>∃ v',e=.returned v'∧Kd.R (Kd.int .u64) 22 w' base ok v' (Lib.compact l)∧Below base w w':=by
 rcases own_opened ho with ⟨rfl,rfl⟩|⟨g,cap,cur,rfl,hok,hb,hg,h1,h2,h3,h4⟩
 ·refine (SoU.compact_nil w).mono ?_
  rintro e w' ⟨rfl,rfl⟩
  exact ⟨_,rfl,Kd.R_nil _ _ _ _ _,Below.refl _ _⟩
 ·have hc:=SoU.compact g 0 cap l.toArray w (own_holds hg (by omega) h4) (by simp;omega) (by simpa using h1)
  rw [List.size_toArray,show Lib.compactUpTo l.toArray l.length=Lib.compact l from rfl] at hc
  refine hc.mono ?_
  rintro e w' ⟨rfl,q,hw⟩
  have hle:=compact_length l
  generalize Lib.compact l=m at hw hle
  obtain ⟨cur',hg',hs',ht'⟩:=own_put (k:=.u64) hg q (m++List.replicate (l.length - m.length) 0) (by simp;omega) #[]
  have e0:grow (putRow (Value.int .u64) (Sort.ahead w q) g 0 (m++List.replicate (l.length - m.length) 0).toArray) #[]=w':=by rw [hw,grow_empty]
  rw [e0] at hg'
  have hbb:=own_below (k:=.u64) (n:=q) (ys:=m++List.replicate (l.length - m.length) 0) (os:=#[]) hb hbs
  rw [e0] at hbb
  refine ⟨_,rfl,own_closed (k:=.u64) m hok hb hg' (by omega) h2 (by omega) ?_,hbb⟩
  have h5:(cur'.toList.take (m++List.replicate (l.length - m.length) 0).length).take m.length=m.map (Value.int .u64):=by
   rw [ht',← List.map_take,List.take_left']
   rfl
  rw [List.take_take,Nat.min_eq_left (by simp)] at h5
  exact h5
end Go.Proofs.YtmfaopjfdedheaaGreat
