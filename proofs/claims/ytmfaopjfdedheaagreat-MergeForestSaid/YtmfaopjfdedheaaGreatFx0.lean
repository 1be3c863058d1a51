-- PRINTED by print.py (a twelfth state) out of the translation. Not trusted: Lean checks it.
import Derived.Test.YtmfaopjfdedheaaGreatSv
import Derived.Test.YtmfaopjfdedheaaGreatProg
import Derived.Below
import Derived.Deep.Draws
import Derived.Deep.AppendLies
import Derived.Maps.AppendAt
import Derived.OwnWalk
import Derived.Laws.BytesArg
import Derived.Laws.MakeOwn
import Derived.Laws.OwnMore
import Derived.Deep.OwnRows
import Derived.Tactics
import Derived.Lib.ConvBytes
import Derived.Laws.Slices
import Derived.WalkKit
import Derived.KernelRfl
import Derived.RowKit3
import Derived.Deep.LoopGhost
import Derived.Deep.QuietTactic
import Derived.BigQuiet
import Derived.WideLaws
import Derived.Deep.DeepCutAuto
import Derived.Deep.CutBlock
import Derived.Deep.RegionHeld3
import Derived.Laws.Rows
import Derived.Lib.AppendStr
import Derived.ArgAppend
import Derived.Laws.IdiomCopy
import Derived.OrdersHeld
import Derived.Laws.BitsLemmas
import Derived.RowKit
import Derived.Test.YtmfaopjfdedheaaGreatMore
import Derived.Test.YtmfaopjfdedheaaGreatOpen
import Derived.Shelf.SlSorted.Search
import Derived.Lib.SliceRun
import Derived.Shelf.Spec.SlicesGrow
import Derived.Test.YtmfaopjfdedheaaGreatOwn
import Derived.Test.YtmfaopjfdedheaaGreatSort
import Derived.Test.YtmfaopjfdedheaaGreatConcat
import Derived.Test.YtmfaopjfdedheaaGreatWWords
import Derived.Test.YtmfaopjfdedheaaGreatWLast
import Derived.Test.YtmfaopjfdedheaaGreatWTab
import Derived.Test.YtmfaopjfdedheaaGreatWApart
import Derived.Test.YtmfaopjfdedheaaGreatWKept
import Derived.Test.YtmfaopjfdedheaaGreatWShare
import Derived.Test.YtmfaopjfdedheaaGreatWN
import Derived.Test.YtmfaopjfdedheaaGreatWGuard
import Derived.Test.YtmfaopjfdedheaaGreatWNEv
import Derived.Test.YtmfaopjfdedheaaGreatWMore
namespace Go.Proofs.YtmfaopjfdedheaaGreat.F
open Go.RowKit Go.Proofs.YtmfaopjfdedheaaGreatW Go.Proofs.YtmfaopjfdedheaaGreatW.PrintWords Go.Proofs.YtmfaopjfdedheaaGreatW.PrintLast Go.Proofs.YtmfaopjfdedheaaGreatW.PrintMore
attribute [local go_sem] GpMore.bytes_le max2_int min2_int max_two min_two max_three min_three max_four min_four   -- for this text's walks alone
set_option linter.unusedVariables false
set_option linter.unusedSimpArgs false



def errW:Option Int→Value
 |none=>.nilIface
 |some c=>.iface 0 (.int .i64 c)
theorem errW_none:errW none=.nilIface:=rfl
theorem errW_some (c:Int):errW (some c)=.iface 0 (.int .i64 c):=rfl

theorem info5:(Tryz.prog.info? 5).map (fun i=>(i.zero,i.size,i.bytes))=some (some (.int .u8 0),1,1):=by kernel_rfl
theorem info22:(Tryz.prog.info? 22).map (fun i=>(i.zero,i.size,i.bytes))=some (some (.int .u64 0),1,8):=by kernel_rfl
theorem info28:(Tryz.prog.info? 28).map (fun i=>(i.zero,i.size,i.bytes))=some (some (.agg #[(.int .u64 0),(.int .u64 0),(.int .u8 0),(.string ⟨#[]⟩),(.string ⟨#[]⟩),(.bool false),(.int .u64 0),(.int .u64 0),(.slice none 0 0),(.slice none 0 0)]),10,128):=by kernel_rfl
theorem info42:(Tryz.prog.info? 42).map (fun i=>(i.zero,i.size,i.bytes))=some (some (.agg #[(.string ⟨#[]⟩),(.string ⟨#[]⟩)]),2,32):=by kernel_rfl
-- the values' own types
/-! #### struct type 42 -/
structure S42 where
 f0:ByteArray
 f1:ByteArray
def z42:S42:=⟨(⟨#[]⟩:ByteArray),(⟨#[]⟩:ByteArray)⟩
def k42:Kd S42:=Kd.iso (Kd.pair Kd.string Kd.string) (fun x:S42=>(x.f0,x.f1))
theorem k42_heap:Kd.Heap k42:=Kd.heap_iso _ (Kd.heap_pair Kd.heap_string Kd.heap_string)
theorem k42_open {w:World} {x:S42} {cs:List Value} (h:k42.K w x cs):cs=[.string x.f0,.string x.f1]:=by
 obtain ⟨_,_,rfl,rfl,rfl⟩:=h
 exact rfl
theorem k42_openM {w:World} {base:Nat} {ok:Nat→Prop} {x:S42} {cs:List Value} (h:k42.M w base ok x cs):cs=[.string x.f0,.string x.f1]:=by
 obtain ⟨_,_,rfl,rfl,rfl⟩:=h
 exact rfl
theorem k42_mk (w:World) (x:S42):k42.K w x [.string x.f0,.string x.f1]:=⟨[.string x.f0],[.string x.f1],rfl,rfl,rfl⟩
theorem k42_mkM (w:World) (base:Nat) (ok:Nat→Prop) (x:S42):k42.M w base ok x [.string x.f0,.string x.f1]:=⟨[.string x.f0],[.string x.f1],rfl,rfl,rfl⟩
def rd_T42 (xs:List S42) (i:Int):S42:=xs.getD i.toNat z42
theorem at_T42 {w:World} {A:Option Addr} {n:Nat} {xs:List S42} (h:Kd.C k42 w A n xs) (i:Int) (h0:0≤i) (h1:i < n):∃ ad,A=some ad∧w.cell? (ad.add (i.toNat * 2))=some (.string (rd_T42 xs i).f0)∧w.cell? ⟨(ad.add (i.toNat * 2)).block,(ad.add (i.toNat * 2)).off+1,none⟩=some (.string (rd_T42 xs i).f1):=by
 obtain ⟨ad,c,e,_,hK,hc0⟩:=Kd.C_get h z42 i h0 h1
 have hc:∀ j u,c[j]? =some u→w.cell? (ad.add (i.toNat * 2+j))=some u:=hc0
 obtain rfl:=k42_open hK
 exact ⟨ad,e,hc 0 _ rfl,by rw [← add_field _ _ 1 (by omega)];exact hc 1 _ rfl⟩
/-- An element's cells. -/
@[reducible] def ce42 (ad:Addr) (i:Int) (xs:List S42)  (W:World):Prop:=W.cell? (ad.add (i.toNat * 2))=some (.string (rd_T42 xs i).f0)∧W.cell? ⟨(ad.add (i.toNat * 2)).block,(ad.add (i.toNat * 2)).off+1,none⟩=some (.string (rd_T42 xs i).f1)
theorem rd42 {w W:World} (hb:Aside0 (Below w.heap.size w W)) {A:Option Addr} {n:Nat} {xs:List S42} (h:Aside0 (Kd.C k42 w A n xs)) (i:Int) (h0:0≤i:=by exact od) (h1:i < (n:Int):=by exact od):∃ ad,A=some ad∧ce42 ad i xs  w∧ce42 ad i xs  W∧((0≤i)=True∧(i < (n:Int))=True):=by
 obtain ⟨ad,e,q0,q1⟩:=at_T42 h.out i h0 h1
 exact ⟨ad,e,⟨q0,q1⟩,⟨ct hb q0,ct hb q1⟩,⟨eq_true h0,eq_true h1⟩⟩
theorem mc42 {w W:World} (hb:Aside0 (Below w.heap.size w W)) {ad:Addr} {i:Int} {xs:List S42}  (h:ce42 ad i xs  w):ce42 ad i xs  W:=by
 obtain ⟨q0,q1⟩:=h
 exact ⟨ct hb q0,ct hb q1⟩

/-! #### struct type 50 -/
structure S50 where
 f0:ByteArray
 f1:ByteArray
 f2:Bool
/-! #### struct type 25 -/
structure S25 where
 f0:Int
 f1:(List Int)
def z25:S25:=⟨(0:Int),([]:List Int)⟩
def k25:Kd S25:=Kd.iso (Kd.pair (Kd.int .u64) (Kd.slice 22 (Kd.int .u64))) (fun x:S25=>(x.f0,x.f1))
theorem k25_heap:Kd.Heap k25:=Kd.heap_iso _ (Kd.heap_pair (Kd.heap_int .u64) (Kd.heap_slice 22 (Kd.heap_int .u64)))
theorem k25_open {w:World} {x:S25} {cs:List Value} (h:k25.K w x cs):∃ A1 c1,cs=[.int .u64 x.f0,.slice A1 x.f1.length c1]∧x.f1.length≤c1∧(Kd.int .u64).C w A1 x.f1.length x.f1:=by
 obtain ⟨_,_,rfl,rfl,⟨A1,c1,rfl,l1,g1⟩⟩:=h
 exact ⟨A1,c1,rfl,l1,g1⟩
theorem k25_mk (w:World) (x:S25) {A1:Option Addr} {c1:Nat} (l1:x.f1.length≤c1) (g1:(Kd.int .u64).C w A1 x.f1.length x.f1):k25.K w x [.int .u64 x.f0,.slice A1 x.f1.length c1]:=⟨[.int .u64 x.f0],[.slice A1 x.f1.length c1],rfl,rfl,⟨A1,c1,rfl,l1,g1⟩⟩
/-! #### struct type 28 -/
structure S28 where
 f0:Int
 f1:Int
 f2:Int
 f3:ByteArray
 f4:ByteArray
 f5:Bool
 f6:Int
 f7:S25
 f8:(List S42)
def z28:S28:=⟨(0:Int),(0:Int),(0:Int),(⟨#[]⟩:ByteArray),(⟨#[]⟩:ByteArray),false,(0:Int),z25,([]:List S42)⟩
def k28:Kd S28:=Kd.iso (Kd.pair (Kd.int .u64) (Kd.pair (Kd.int .u64) (Kd.pair (Kd.int .u8) (Kd.pair Kd.string (Kd.pair Kd.string (Kd.pair Kd.bool (Kd.pair (Kd.int .u64) (Kd.pair k25 (Kd.slice 42 k42))))))))) (fun x:S28=>(x.f0,x.f1,x.f2,x.f3,x.f4,x.f5,x.f6,x.f7,x.f8))
theorem k28_heap:Kd.Heap k28:=Kd.heap_iso _ (Kd.heap_pair (Kd.heap_int .u64) (Kd.heap_pair (Kd.heap_int .u64) (Kd.heap_pair (Kd.heap_int .u8) (Kd.heap_pair Kd.heap_string (Kd.heap_pair Kd.heap_string (Kd.heap_pair Kd.heap_bool (Kd.heap_pair (Kd.heap_int .u64) (Kd.heap_pair k25_heap (Kd.heap_slice 42 k42_heap)))))))))
theorem k28_open {w:World} {x:S28} {cs:List Value} (h:k28.K w x cs):∃ A8 c8 A9 c9,cs=[.int .u64 x.f0,.int .u64 x.f1,.int .u8 x.f2,.string x.f3,.string x.f4,.bool x.f5,.int .u64 x.f6,.int .u64 x.f7.f0,.slice A8 x.f7.f1.length c8,.slice A9 x.f8.length c9]∧x.f7.f1.length≤c8∧(Kd.int .u64).C w A8 x.f7.f1.length x.f7.f1∧x.f8.length≤c9∧k42.C w A9 x.f8.length x.f8:=by
 obtain ⟨_,_,rfl,rfl,⟨_,_,rfl,rfl,⟨_,_,rfl,rfl,⟨_,_,rfl,rfl,⟨_,_,rfl,rfl,⟨_,_,rfl,rfl,⟨_,_,rfl,rfl,⟨_,_,rfl,s7,⟨A9,c9,rfl,l9,g9⟩⟩⟩⟩⟩⟩⟩⟩⟩:=h
 obtain ⟨A8,c8,rfl,l8,g8⟩:=k25_open s7
 exact ⟨A8,c8,A9,c9,rfl,l8,g8,l9,g9⟩
theorem k28_mk (w:World) (x:S28) {A8:Option Addr} {c8:Nat} (l8:x.f7.f1.length≤c8) (g8:(Kd.int .u64).C w A8 x.f7.f1.length x.f7.f1) {A9:Option Addr} {c9:Nat} (l9:x.f8.length≤c9) (g9:k42.C w A9 x.f8.length x.f8):k28.K w x [.int .u64 x.f0,.int .u64 x.f1,.int .u8 x.f2,.string x.f3,.string x.f4,.bool x.f5,.int .u64 x.f6,.int .u64 x.f7.f0,.slice A8 x.f7.f1.length c8,.slice A9 x.f8.length c9]:=⟨[.int .u64 x.f0],[.int .u64 x.f1,.int .u8 x.f2,.string x.f3,.string x.f4,.bool x.f5,.int .u64 x.f6,.int .u64 x.f7.f0,.slice A8 x.f7.f1.length c8,.slice A9 x.f8.length c9],rfl,rfl,⟨[.int .u64 x.f1],[.int .u8 x.f2,.string x.f3,.string x.f4,.bool x.f5,.int .u64 x.f6,.int .u64 x.f7.f0,.slice A8 x.f7.f1.length c8,.slice A9 x.f8.length c9],rfl,rfl,⟨[.int .u8 x.f2],[.string x.f3,.string x.f4,.bool x.f5,.int .u64 x.f6,.int .u64 x.f7.f0,.slice A8 x.f7.f1.length c8,.slice A9 x.f8.length c9],rfl,rfl,⟨[.string x.f3],[.string x.f4,.bool x.f5,.int .u64 x.f6,.int .u64 x.f7.f0,.slice A8 x.f7.f1.length c8,.slice A9 x.f8.length c9],rfl,rfl,⟨[.string x.f4],[.bool x.f5,.int .u64 x.f6,.int .u64 x.f7.f0,.slice A8 x.f7.f1.length c8,.slice A9 x.f8.length c9],rfl,rfl,⟨[.bool x.f5],[.int .u64 x.f6,.int .u64 x.f7.f0,.slice A8 x.f7.f1.length c8,.slice A9 x.f8.length c9],rfl,rfl,⟨[.int .u64 x.f6],[.int .u64 x.f7.f0,.slice A8 x.f7.f1.length c8,.slice A9 x.f8.length c9],rfl,rfl,⟨[.int .u64 x.f7.f0,.slice A8 x.f7.f1.length c8],[.slice A9 x.f8.length c9],rfl,(k25_mk w x.f7 l8 g8),⟨A9,c9,rfl,l9,g9⟩⟩⟩⟩⟩⟩⟩⟩⟩
theorem k28_openF {W:World} {ok:Nat→Prop} {x:S28} {cs:List Value} (h:Kd.FK k28 W ok x cs):∃ A8 c8 A9 c9,cs=[.int .u64 x.f0,.int .u64 x.f1,.int .u8 x.f2,.string x.f3,.string x.f4,.bool x.f5,.int .u64 x.f6,.int .u64 x.f7.f0,.slice A8 x.f7.f1.length c8,.slice A9 x.f8.length c9]∧x.f7.f1.length≤c8∧Kd.F (Kd.int .u64) W ok A8 x.f7.f1.length x.f7.f1∧x.f8.length≤c9∧Kd.F k42 W ok A9 x.f8.length x.f8:=by
 obtain ⟨A8,c8,A9,c9,rfl,l8,_,l9,_⟩:=k28_open (Kd.FK_now h)
 exact ⟨A8,c8,A9,c9,rfl,l8,(fun W' hW=>by obtain ⟨A8_,c8_,A9_,c9_,he,l8_,g8_,l9_,g9_⟩:=k28_open (h W' hW);injection (Option.some.inj (show some (Value.slice A8 x.f7.f1.length c8)=some (Value.slice A8_ x.f7.f1.length c8_) from congrArg (fun l=>l[8]?) he)) with ha_ _ _;rw [ha_];exact g8_),l9,(fun W' hW=>by obtain ⟨A8_,c8_,A9_,c9_,he,l8_,g8_,l9_,g9_⟩:=k28_open (h W' hW);injection (Option.some.inj (show some (Value.slice A9 x.f8.length c9)=some (Value.slice A9_ x.f8.length c9_) from congrArg (fun l=>l[9]?) he)) with ha_ _ _;rw [ha_];exact g9_)⟩
theorem k28_mkF (W:World) (ok:Nat→Prop) (x:S28) {A8:Option Addr} {c8:Nat} (l8:x.f7.f1.length≤c8) (g8:Kd.F (Kd.int .u64) W ok A8 x.f7.f1.length x.f7.f1) {A9:Option Addr} {c9:Nat} (l9:x.f8.length≤c9) (g9:Kd.F k42 W ok A9 x.f8.length x.f8):Kd.FK k28 W ok x [.int .u64 x.f0,.int .u64 x.f1,.int .u8 x.f2,.string x.f3,.string x.f4,.bool x.f5,.int .u64 x.f6,.int .u64 x.f7.f0,.slice A8 x.f7.f1.length c8,.slice A9 x.f8.length c9]:=fun W2 hW=>k28_mk W2 x l8 (g8 W2 hW) l9 (g9 W2 hW)
def rd_T28 (xs:List S28) (i:Int):S28:=xs.getD i.toNat z28
theorem at_T28 {w:World} {A:Option Addr} {n:Nat} {xs:List S28} (h:Kd.C k28 w A n xs) (i:Int) (h0:0≤i) (h1:i < n):∃ ad A8 c8 A9 c9,A=some ad∧w.cell? (ad.add (i.toNat * 10))=some (.int .u64 (rd_T28 xs i).f0)∧w.cell? ⟨(ad.add (i.toNat * 10)).block,(ad.add (i.toNat * 10)).off+1,none⟩=some (.int .u64 (rd_T28 xs i).f1)∧w.cell? ⟨(ad.add (i.toNat * 10)).block,(ad.add (i.toNat * 10)).off+2,none⟩=some (.int .u8 (rd_T28 xs i).f2)∧w.cell? ⟨(ad.add (i.toNat * 10)).block,(ad.add (i.toNat * 10)).off+3,none⟩=some (.string (rd_T28 xs i).f3)∧w.cell? ⟨(ad.add (i.toNat * 10)).block,(ad.add (i.toNat * 10)).off+4,none⟩=some (.string (rd_T28 xs i).f4)∧w.cell? ⟨(ad.add (i.toNat * 10)).block,(ad.add (i.toNat * 10)).off+5,none⟩=some (.bool (rd_T28 xs i).f5)∧w.cell? ⟨(ad.add (i.toNat * 10)).block,(ad.add (i.toNat * 10)).off+6,none⟩=some (.int .u64 (rd_T28 xs i).f6)∧w.cell? ⟨(ad.add (i.toNat * 10)).block,(ad.add (i.toNat * 10)).off+7,none⟩=some (.int .u64 (rd_T28 xs i).f7.f0)∧w.cell? ⟨(ad.add (i.toNat * 10)).block,(ad.add (i.toNat * 10)).off+8,none⟩=some (.slice A8 (rd_T28 xs i).f7.f1.length c8)∧w.cell? ⟨(ad.add (i.toNat * 10)).block,(ad.add (i.toNat * 10)).off+9,none⟩=some (.slice A9 (rd_T28 xs i).f8.length c9)∧(rd_T28 xs i).f7.f1.length≤c8∧(Kd.int .u64).C w A8 (rd_T28 xs i).f7.f1.length (rd_T28 xs i).f7.f1∧(rd_T28 xs i).f8.length≤c9∧k42.C w A9 (rd_T28 xs i).f8.length (rd_T28 xs i).f8:=by
 obtain ⟨ad,c,e,_,hK,hc0⟩:=Kd.C_get h z28 i h0 h1
 have hc:∀ j u,c[j]? =some u→w.cell? (ad.add (i.toNat * 10+j))=some u:=hc0
 obtain ⟨A8,c8,A9,c9,rfl,l8,g8,l9,g9⟩:=k28_open hK
 exact ⟨ad,A8,c8,A9,c9,e,hc 0 _ rfl,by rw [← add_field _ _ 1 (by omega)];exact hc 1 _ rfl,by rw [← add_field _ _ 2 (by omega)];exact hc 2 _ rfl,by rw [← add_field _ _ 3 (by omega)];exact hc 3 _ rfl,by rw [← add_field _ _ 4 (by omega)];exact hc 4 _ rfl,by rw [← add_field _ _ 5 (by omega)];exact hc 5 _ rfl,by rw [← add_field _ _ 6 (by omega)];exact hc 6 _ rfl,by rw [← add_field _ _ 7 (by omega)];exact hc 7 _ rfl,by rw [← add_field _ _ 8 (by omega)];exact hc 8 _ rfl,by rw [← add_field _ _ 9 (by omega)];exact hc 9 _ rfl,l8,g8,l9,g9⟩
/-- An element's cells. -/
@[reducible] def ce28 (ad:Addr) (i:Int) (xs:List S28) (A8:Option Addr) (c8:Nat) (A9:Option Addr) (c9:Nat) (W:World):Prop:=W.cell? (ad.add (i.toNat * 10))=some (.int .u64 (rd_T28 xs i).f0)∧W.cell? ⟨(ad.add (i.toNat * 10)).block,(ad.add (i.toNat * 10)).off+1,none⟩=some (.int .u64 (rd_T28 xs i).f1)∧W.cell? ⟨(ad.add (i.toNat * 10)).block,(ad.add (i.toNat * 10)).off+2,none⟩=some (.int .u8 (rd_T28 xs i).f2)∧W.cell? ⟨(ad.add (i.toNat * 10)).block,(ad.add (i.toNat * 10)).off+3,none⟩=some (.string (rd_T28 xs i).f3)∧W.cell? ⟨(ad.add (i.toNat * 10)).block,(ad.add (i.toNat * 10)).off+4,none⟩=some (.string (rd_T28 xs i).f4)∧W.cell? ⟨(ad.add (i.toNat * 10)).block,(ad.add (i.toNat * 10)).off+5,none⟩=some (.bool (rd_T28 xs i).f5)∧W.cell? ⟨(ad.add (i.toNat * 10)).block,(ad.add (i.toNat * 10)).off+6,none⟩=some (.int .u64 (rd_T28 xs i).f6)∧W.cell? ⟨(ad.add (i.toNat * 10)).block,(ad.add (i.toNat * 10)).off+7,none⟩=some (.int .u64 (rd_T28 xs i).f7.f0)∧W.cell? ⟨(ad.add (i.toNat * 10)).block,(ad.add (i.toNat * 10)).off+8,none⟩=some (.slice A8 (rd_T28 xs i).f7.f1.length c8)∧W.cell? ⟨(ad.add (i.toNat * 10)).block,(ad.add (i.toNat * 10)).off+9,none⟩=some (.slice A9 (rd_T28 xs i).f8.length c9)
theorem rd28 {w W:World} (hb:Aside0 (Below w.heap.size w W)) {A:Option Addr} {n:Nat} {xs:List S28} (h:Aside0 (Kd.C k28 w A n xs)) (i:Int) (h0:0≤i:=by exact od) (h1:i < (n:Int):=by exact od):∃ ad A8 c8 A9 c9,A=some ad∧ce28 ad i xs A8 c8 A9 c9 w∧ce28 ad i xs A8 c8 A9 c9 W∧((0≤i)=True∧(i < (n:Int))=True)∧Aside0 ((rd_T28 xs i).f7.f1.length≤c8)∧Aside0 ((Kd.int .u64).C w A8 (rd_T28 xs i).f7.f1.length (rd_T28 xs i).f7.f1)∧Aside0 ((rd_T28 xs i).f8.length≤c9)∧Aside0 (k42.C w A9 (rd_T28 xs i).f8.length (rd_T28 xs i).f8):=by
 obtain ⟨ad,A8,c8,A9,c9,e,q0,q1,q2,q3,q4,q5,q6,q7,q8,q9,r0,r1,r2,r3⟩:=at_T28 h.out i h0 h1
 exact ⟨ad,A8,c8,A9,c9,e,⟨q0,q1,q2,q3,q4,q5,q6,q7,q8,q9⟩,⟨ct hb q0,ct hb q1,ct hb q2,ct hb q3,ct hb q4,ct hb q5,ct hb q6,ct hb q7,ct hb q8,ct hb q9⟩,⟨eq_true h0,eq_true h1⟩,⟨r0⟩,⟨r1⟩,⟨r2⟩,⟨r3⟩⟩
theorem mc28 {w W:World} (hb:Aside0 (Below w.heap.size w W)) {ad:Addr} {i:Int} {xs:List S28} {A8:Option Addr} {c8:Nat} {A9:Option Addr} {c9:Nat} (h:ce28 ad i xs A8 c8 A9 c9 w):ce28 ad i xs A8 c8 A9 c9 W:=by
 obtain ⟨q0,q1,q2,q3,q4,q5,q6,q7,q8,q9⟩:=h
 exact ⟨ct hb q0,ct hb q1,ct hb q2,ct hb q3,ct hb q4,ct hb q5,ct hb q6,ct hb q7,ct hb q8,ct hb q9⟩
/-- An element of a row that is told as V. -/
theorem rv28 {W:World} {base:Nat} {ok:Nat→Prop} {A:Option Addr} {n c:Nat} {xs:List S28} (h:Aside0 (Kd.V k28 28 W base ok (.slice A n c) xs)) (i:Int) (h0:0≤i:=by exact od) (h1:i < (n:Int):=by exact od):∃ ad A8 c8 A9 c9,A=some ad∧ce28 ad i xs A8 c8 A9 c9 W∧((0≤i)=True∧(i < (n:Int))=True)∧Aside0 (Kd.V (Kd.int .u64) 22 W base ok (.slice A8 (rd_T28 xs i).f7.f1.length c8) (rd_T28 xs i).f7.f1)∧Aside0 (Kd.V k42 42 W base ok (.slice A9 (rd_T28 xs i).f8.length c9) (rd_T28 xs i).f8)∧Aside0 ((rd_T28 xs i).f7.f1.length≤c8)∧Aside0 ((Kd.int .u64).C W A8 (rd_T28 xs i).f7.f1.length (rd_T28 xs i).f7.f1)∧Aside0 ((rd_T28 xs i).f8.length≤c9)∧Aside0 (k42.C W A9 (rd_T28 xs i).f8.length (rd_T28 xs i).f8):=by
 have hr:=Kd.V_reads' h.out
 have hn:=hr.1
 obtain ⟨ad,A8,c8,A9,c9,e,q0,q1,q2,q3,q4,q5,q6,q7,q8,q9,r0,r1,r2,r3⟩:=at_T28 hr.2.2 i h0 (by omega)
 subst e
 obtain ⟨cs,_,hM,hcc⟩:=Kd.V_get h.out z28 i h0 h1
 obtain ⟨ua8,uc8,ua9,uc9,rfl,ul8,ge8,ul9,ge9⟩:=k28_openF hM
 have v8:=hcc 8 _ rfl
 rw [add_field _ _ 8 (by omega)] at v8
 replace v8:=Option.some.inj (v8.symm.trans q8)
 injection v8 with a1 _ a2
 have v9:=hcc 9 _ rfl
 rw [add_field _ _ 9 (by omega)] at v9
 replace v9:=Option.some.inj (v9.symm.trans q9)
 injection v9 with b1 _ b2
 rw [a1] at ge8
 rw [a2] at ul8
 rw [b1] at ge9
 rw [b2] at ul9
 exact ⟨ad,A8,c8,A9,c9,rfl,⟨q0,q1,q2,q3,q4,q5,q6,q7,q8,q9⟩,⟨eq_true h0,eq_true h1⟩,⟨Kd.V_mk ul8 ge8⟩,⟨Kd.V_mk ul9 ge9⟩,⟨r0⟩,⟨r1⟩,⟨r2⟩,⟨r3⟩⟩

/-! #### struct type 30 -/
structure S30 where
 f0:Int
 f1:Int
 f2:Int
def k30:Kd S30:=Kd.iso (Kd.pair (Kd.int .u64) (Kd.pair (Kd.int .u64) (Kd.int .i64))) (fun x:S30=>(x.f0,x.f1,x.f2))
theorem k30_open {w:World} {x:S30} {cs:List Value} (h:k30.K w x cs):cs=[.int .u64 x.f0,.int .u64 x.f1,.int .i64 x.f2]:=by
 obtain ⟨_,_,rfl,rfl,⟨_,_,rfl,rfl,rfl⟩⟩:=h
 exact rfl
end Go.Proofs.YtmfaopjfdedheaaGreat.F
