/- The library's Grow and Compact at []uint64, laid over the program by the library's contracts. -/
import Derived.Test.YtmfaopjfdedheaaGreatProg
import Derived.Shelf.SlicesE.Compact
import Derived.Shelf.Spec.SlicesGrow
namespace Go.Proofs.YtmfaopjfdedheaaGreat
set_option linter.unusedVariables false
set_option linter.unusedSimpArgs false
open Go.Shelf Go.Lib Go.Sort
def compactU_ren:Go.Shelf.Ren:=⟨fun|43=>79|n=>n,fun|22=>23|23=>22|n=>n,fun n=>n⟩
theorem compactU:SlLaysE.n43 Tryz.prog compactU_ren where
 mixed:=by kernel_rfl
 f43:=⟨Tryz.f79.name,by kernel_rfl,Tryz.func79.trans (congrArg some (by kernel_rfl))⟩
 t0:=Tryz.underlying0
 a0:=Tryz.isAgg0
 z0:=Tryz.sizeOf0
 v0:=Tryz.zeroValue0
 t3:=Tryz.underlying3
 a3:=Tryz.isAgg3
 z3:=Tryz.sizeOf3
 v3:=Tryz.zeroValue3
 t4:=Tryz.underlying4
 a4:=Tryz.isAgg4
 z4:=Tryz.sizeOf4
 v4:=Tryz.zeroValue4
 t22:=Tryz.underlying23
 a22:=Tryz.isAgg23
 z22:=Tryz.sizeOf23
 v22:=Tryz.zeroValue23
 a23:=Tryz.isAgg22
 z23:=Tryz.sizeOf22
def growU_ren:Go.Shelf.Ren:=⟨fun|4=>104|n=>n,fun|22=>23|25=>22|n=>n,fun n=>n⟩
theorem growU:Lays8.n4 Tryz.prog growU_ren where
 mixed:=by kernel_rfl
 f4:=⟨Tryz.f104.name,by kernel_rfl,Tryz.func104.trans (congrArg some (by kernel_rfl))⟩
 t0:=Tryz.underlying0
 a0:=Tryz.isAgg0
 z0:=Tryz.sizeOf0
 v0:=Tryz.zeroValue0
 t3:=Tryz.underlying3
 a3:=Tryz.isAgg3
 z3:=Tryz.sizeOf3
 v3:=Tryz.zeroValue3
 t4:=Tryz.underlying4
 a4:=Tryz.isAgg4
 z4:=Tryz.sizeOf4
 v4:=Tryz.zeroValue4
 t9:=Tryz.underlying9
 a9:=Tryz.isAgg9
 z9:=Tryz.sizeOf9
 v9:=Tryz.zeroValue9
 t20:=Tryz.underlying20
 a20:=Tryz.isAgg20
 z20:=Tryz.sizeOf20
 v20:=Tryz.zeroValue20
 t22:=Tryz.underlying23
 a22:=Tryz.isAgg23
 z22:=Tryz.sizeOf23
 v22:=Tryz.zeroValue23
noncomputable def infoU:TypeInfo:=(Tryz.prog.info? 22).get (by kernel_rfl)
theorem SoU.compact (blk off cap:Nat) (d:Array Int) (w:World) (hH:Holds (Value.int .u64) w blk off d) (hsz:d.size≤9223372036854775807) (hcap:d.size≤cap):
  Calls Tryz.prog 79 #[.slice (some ⟨blk,off,none⟩) d.size cap] w fun e w'=>e=.returned (.slice (some ⟨blk,off,none⟩) (compactUpTo d d.size).length cap)∧∃ q,w'=putRow (Value.int .u64) (Sort.ahead w q) blk off (compactUpTo d d.size++List.replicate (d.size - (compactUpTo d d.size).length) 0).toArray:=
 AnyE.slices_Compact compactU (Value.int .u64) (fun _=>rfl) (EqlAt.intD _ _ .u64) (NeqAt.intD _ _ .u64) 0 Tryz.zeroValue22 blk off cap d w hH hsz hcap
theorem SoU.grow_none (w:World):Calls Tryz.prog 104 #[.slice none 0 0,.int .i64 ((0:Nat):Int)] w fun e w'=>e=.returned (.slice none 0 0)∧w'=w:=
 Any8.slices_Grow_room growU none 0 0 0 w (Nat.le_refl _) (by decide) (by decide) (by decide)
theorem SoU.grow (n:Nat) (h0:0 < n) (hn:n * 8≤140737488355328) (w:World):Calls Tryz.prog 104 #[.slice none 0 0,.int .i64 (n:Int)] w fun e w'=>
  e=.returned (.slice (some ⟨w.heap.size,0,none⟩) 0 (grownCap w n 0 22))∧w'=w.drew.alloc (.cells (Builtin.zeroCells #[.int .u64 0] (grownCap w n 0 22)) 22):=by
 have h:=Any8.slices_Grow_grow growU infoU (.int .u64 0) (by kernel_rfl) (by kernel_rfl) (by decide+kernel) none 0 0 n [] w (Nat.le_refl _) (by omega) (by
  have e:infoU.bytes=8:=by kernel_rfl
  rw [e];omega) (by omega) (by simp) (fun _=>rfl) (fun a h=>by cases h)
 refine h.mono ?_
 rintro e w' ⟨rfl,rfl⟩
 have e1:growU_ren.t 25=22:=rfl
 rw [e1,Nat.zero_add]
 refine ⟨rfl,?_⟩
 have hg:=grownCap_ge w n 0 22
 have e2:(([]:List Value).toArray++Builtin.zeroCells (Value.int .u64 0).cells (n - 0)++Builtin.zeroCells (Value.int .u64 0).cells (grownCap w n 0 22 - n))=Builtin.zeroCells #[.int .u64 0] (grownCap w n 0 22):=by
  have e3:(Value.int .u64 0).cells=#[.int .u64 0]:=rfl
  rw [e3]
  have hz:∀ m,Builtin.zeroCells #[Value.int .u64 0] m=(List.replicate m (Value.int .u64 0)).toArray:=fun m=>by
   unfold Builtin.zeroCells
   apply Array.ext'
   refine List.ext_getElem (by simp) (fun i h1 h2=>?_)
   simp [Nat.mod_one]
  rw [hz,hz,hz,Nat.sub_zero]
  apply Array.ext'
  simp [List.replicate_append_replicate]
  omega
 rw [e2]
end Go.Proofs.YtmfaopjfdedheaaGreat
