-- PRINTED by print.py (a twelfth state) out of the translation. Not trusted: Lean checks it.
import Derived.Test.YtmfaopjfdedheaaGreatSq
import Derived.Test.YtmfaopjfdedheaaGreatProg
import Derived.Below
import Derived.Deep.Draws
import Derived.Deep.AppendLies
import Derived.Maps.AppendAt
import Derived.OwnWalk
import Derived.Laws.BytesArg
import Derived.Laws.MakeOwn
import Derived.Laws.OwnMore
import Derived.Deep.OwnRows
import Derived.Tactics
import Derived.Lib.ConvBytes
import Derived.Laws.Slices
import Derived.WalkKit
import Derived.KernelRfl
import Derived.RowKit3
import Derived.Deep.LoopGhost
import Derived.Deep.QuietTactic
import Derived.BigQuiet
import Derived.WideLaws
import Derived.Deep.DeepCutAuto
import Derived.Deep.CutBlock
import Derived.Deep.RegionHeld3
import Derived.Laws.Rows
import Derived.Lib.AppendStr
import Derived.ArgAppend
import Derived.Laws.IdiomCopy
import Derived.OrdersHeld
import Derived.Laws.BitsLemmas
import Derived.RowKit
import Derived.Test.YtmfaopjfdedheaaGreatMore
import Derived.Test.YtmfaopjfdedheaaGreatOpen
import Derived.Shelf.SlSorted.Search
import Derived.Lib.SliceRun
import Derived.Shelf.Spec.SlicesGrow
import Derived.Test.YtmfaopjfdedheaaGreatOwn
import Derived.Test.YtmfaopjfdedheaaGreatSort
import Derived.Test.YtmfaopjfdedheaaGreatConcat
import Derived.Test.YtmfaopjfdedheaaGreatWWords
import Derived.Test.YtmfaopjfdedheaaGreatWLast
import Derived.Test.YtmfaopjfdedheaaGreatWTab
import Derived.Test.YtmfaopjfdedheaaGreatWApart
import Derived.Test.YtmfaopjfdedheaaGreatWFoot
import Derived.Test.YtmfaopjfdedheaaGreatWKept
import Derived.Test.YtmfaopjfdedheaaGreatWShare
import Derived.Test.YtmfaopjfdedheaaGreatWN
import Derived.Test.YtmfaopjfdedheaaGreatWEqStruct
import Derived.Test.YtmfaopjfdedheaaGreatWRepsOne
import Derived.Test.YtmfaopjfdedheaaGreatWGuard
import Derived.Test.YtmfaopjfdedheaaGreatWMore
namespace Go.Proofs.YtmfaopjfdedheaaGreat.T
open Go.RowKit Go.Proofs.YtmfaopjfdedheaaGreatW Go.Proofs.YtmfaopjfdedheaaGreatW.PrintWords Go.Proofs.YtmfaopjfdedheaaGreatW.PrintLast Go.Proofs.YtmfaopjfdedheaaGreatW.PrintMore
attribute [local go_sem] GpMore.bytes_le max2_int min2_int max_two min_two max_three min_three max_four min_four   -- for this text's walks alone
set_option linter.unusedVariables false
set_option linter.unusedSimpArgs false



def errW:Option Int→Value
 |none=>.nilIface
 |some c=>.iface 0 (.int .i64 c)
theorem errW_none:errW none=.nilIface:=rfl
theorem errW_some (c:Int):errW (some c)=.iface 0 (.int .i64 c):=rfl

theorem info4:(Tryz.prog.info? 4).map (fun i=>(i.zero,i.size,i.bytes))=some (some (.bool false),1,1):=by kernel_rfl
theorem info5:(Tryz.prog.info? 5).map (fun i=>(i.zero,i.size,i.bytes))=some (some (.int .u8 0),1,1):=by kernel_rfl
theorem info22:(Tryz.prog.info? 22).map (fun i=>(i.zero,i.size,i.bytes))=some (some (.int .u64 0),1,8):=by kernel_rfl
theorem info34:(Tryz.prog.info? 34).map (fun i=>(i.zero,i.size,i.bytes))=some (some (.int .i64 0),1,8):=by kernel_rfl
theorem info42:(Tryz.prog.info? 42).map (fun i=>(i.zero,i.size,i.bytes))=some (some (.agg #[(.string ⟨#[]⟩),(.string ⟨#[]⟩)]),2,32):=by kernel_rfl
-- the values' own types
/-! #### struct type 42 -/
structure S42 where
 f0:ByteArray
 f1:ByteArray
def z42:S42:=⟨(⟨#[]⟩:ByteArray),(⟨#[]⟩:ByteArray)⟩
def k42:Kd S42:=Kd.iso (Kd.pair Kd.string Kd.string) (fun x:S42=>(x.f0,x.f1))
theorem k42_open {w:World} {x:S42} {cs:List Value} (h:k42.K w x cs):cs=[.string x.f0,.string x.f1]:=by
 obtain ⟨_,_,rfl,rfl,rfl⟩:=h
 exact rfl
theorem k42_openM {w:World} {base:Nat} {ok:Nat→Prop} {x:S42} {cs:List Value} (h:k42.M w base ok x cs):cs=[.string x.f0,.string x.f1]:=by
 obtain ⟨_,_,rfl,rfl,rfl⟩:=h
 exact rfl
theorem k42_mk (w:World) (x:S42):k42.K w x [.string x.f0,.string x.f1]:=⟨[.string x.f0],[.string x.f1],rfl,rfl,rfl⟩
theorem k42_mkM (w:World) (base:Nat) (ok:Nat→Prop) (x:S42):k42.M w base ok x [.string x.f0,.string x.f1]:=⟨[.string x.f0],[.string x.f1],rfl,rfl,rfl⟩
theorem k42_mkF (W:World) (ok:Nat→Prop) (x:S42):Kd.FK k42 W ok x [.string x.f0,.string x.f1]:=fun W2 _=>k42_mk W2 x
def rd_T42 (xs:List S42) (i:Int):S42:=xs.getD i.toNat z42
theorem at_T42 {w:World} {A:Option Addr} {n:Nat} {xs:List S42} (h:Kd.C k42 w A n xs) (i:Int) (h0:0≤i) (h1:i < n):∃ ad,A=some ad∧w.cell? (ad.add (i.toNat * 2))=some (.string (rd_T42 xs i).f0)∧w.cell? ⟨(ad.add (i.toNat * 2)).block,(ad.add (i.toNat * 2)).off+1,none⟩=some (.string (rd_T42 xs i).f1):=by
 obtain ⟨ad,c,e,_,hK,hc0⟩:=Kd.C_get h z42 i h0 h1
 have hc:∀ j u,c[j]? =some u→w.cell? (ad.add (i.toNat * 2+j))=some u:=hc0
 obtain rfl:=k42_open hK
 exact ⟨ad,e,hc 0 _ rfl,by rw [← add_field _ _ 1 (by omega)];exact hc 1 _ rfl⟩
theorem at_T42w {w W:World} (hb:Aside0 (Below w.heap.size w W)) {A:Option Addr} {n:Nat} {xs:List S42} (h:Kd.C k42 w A n xs) (i:Int) (h0:0≤i) (h1:i < n):∃ ad,A=some ad∧W.cell? (ad.add (i.toNat * 2))=some (.string (rd_T42 xs i).f0)∧W.cell? ⟨(ad.add (i.toNat * 2)).block,(ad.add (i.toNat * 2)).off+1,none⟩=some (.string (rd_T42 xs i).f1):=by
 obtain ⟨ad,q0,q1,q2⟩:=at_T42 h i h0 h1
 exact ⟨ad,q0,ct hb q1,ct hb q2⟩

def rd_L4 (xs:List (List S42)) (i:Int):(List S42):=xs.getD i.toNat ([]:List S42)
theorem at_L4 {w:World} {A:Option Addr} {n:Nat} {xs:List (List S42)} (h:Kd.C (Kd.slice 42 k42) w A n xs) (i:Int) (h0:0≤i) (h1:i < n):∃ ad A0 c0,A=some ad∧w.cell? (ad.add i.toNat)=some (.slice A0 (rd_L4 xs i).length c0)∧(rd_L4 xs i).length≤c0∧k42.C w A0 (rd_L4 xs i).length (rd_L4 xs i):=by
 obtain ⟨ad,c,e,_,hK,hc0⟩:=Kd.C_get h ([]:List S42) i h0 h1
 have hc:∀ j u,c[j]? =some u→w.cell? (ad.add (i.toNat * 1+j))=some u:=hc0
 obtain ⟨A0,c0,rfl,l0,g0⟩:=hK
 exact ⟨ad,A0,c0,e,by have hq:=hc 0 _ rfl;rwa [Nat.mul_one,Nat.add_zero] at hq,l0,g0⟩

/-! #### struct type 50 -/
structure S50 where
 f0:ByteArray
 f1:ByteArray
 f2:Bool
def z50:S50:=⟨(⟨#[]⟩:ByteArray),(⟨#[]⟩:ByteArray),false⟩
def k50:Kd S50:=Kd.iso (Kd.pair Kd.string (Kd.pair Kd.string Kd.bool)) (fun x:S50=>(x.f0,x.f1,x.f2))
theorem k50_open {w:World} {x:S50} {cs:List Value} (h:k50.K w x cs):cs=[.string x.f0,.string x.f1,.bool x.f2]:=by
 obtain ⟨_,_,rfl,rfl,⟨_,_,rfl,rfl,rfl⟩⟩:=h
 exact rfl
theorem k50_openM {w:World} {base:Nat} {ok:Nat→Prop} {x:S50} {cs:List Value} (h:k50.M w base ok x cs):cs=[.string x.f0,.string x.f1,.bool x.f2]:=by
 obtain ⟨_,_,rfl,rfl,⟨_,_,rfl,rfl,rfl⟩⟩:=h
 exact rfl
theorem k50_mk (w:World) (x:S50):k50.K w x [.string x.f0,.string x.f1,.bool x.f2]:=⟨[.string x.f0],[.string x.f1,.bool x.f2],rfl,rfl,⟨[.string x.f1],[.bool x.f2],rfl,rfl,rfl⟩⟩
theorem k50_mkM (w:World) (base:Nat) (ok:Nat→Prop) (x:S50):k50.M w base ok x [.string x.f0,.string x.f1,.bool x.f2]:=⟨[.string x.f0],[.string x.f1,.bool x.f2],rfl,rfl,⟨[.string x.f1],[.bool x.f2],rfl,rfl,rfl⟩⟩
theorem k50_mkF (W:World) (ok:Nat→Prop) (x:S50):Kd.FK k50 W ok x [.string x.f0,.string x.f1,.bool x.f2]:=fun W2 _=>k50_mk W2 x
def rd_T50 (xs:List S50) (i:Int):S50:=xs.getD i.toNat z50
theorem at_T50 {w:World} {A:Option Addr} {n:Nat} {xs:List S50} (h:Kd.C k50 w A n xs) (i:Int) (h0:0≤i) (h1:i < n):∃ ad,A=some ad∧w.cell? (ad.add (i.toNat * 3))=some (.string (rd_T50 xs i).f0)∧w.cell? ⟨(ad.add (i.toNat * 3)).block,(ad.add (i.toNat * 3)).off+1,none⟩=some (.string (rd_T50 xs i).f1)∧w.cell? ⟨(ad.add (i.toNat * 3)).block,(ad.add (i.toNat * 3)).off+2,none⟩=some (.bool (rd_T50 xs i).f2):=by
 obtain ⟨ad,c,e,_,hK,hc0⟩:=Kd.C_get h z50 i h0 h1
 have hc:∀ j u,c[j]? =some u→w.cell? (ad.add (i.toNat * 3+j))=some u:=hc0
 obtain rfl:=k50_open hK
 exact ⟨ad,e,hc 0 _ rfl,by rw [← add_field _ _ 1 (by omega)];exact hc 1 _ rfl,by rw [← add_field _ _ 2 (by omega)];exact hc 2 _ rfl⟩

def rd_L8 (xs:List (List Int)) (i:Int):(List Int):=xs.getD i.toNat ([]:List Int)
theorem at_L8 {w:World} {A:Option Addr} {n:Nat} {xs:List (List Int)} (h:Kd.C (Kd.slice 5 (Kd.int .u8)) w A n xs) (i:Int) (h0:0≤i) (h1:i < n):∃ ad A0 c0,A=some ad∧w.cell? (ad.add i.toNat)=some (.slice A0 (rd_L8 xs i).length c0)∧(rd_L8 xs i).length≤c0∧(Kd.int .u8).C w A0 (rd_L8 xs i).length (rd_L8 xs i):=by
 obtain ⟨ad,c,e,_,hK,hc0⟩:=Kd.C_get h ([]:List Int) i h0 h1
 have hc:∀ j u,c[j]? =some u→w.cell? (ad.add (i.toNat * 1+j))=some u:=hc0
 obtain ⟨A0,c0,rfl,l0,g0⟩:=hK
 exact ⟨ad,A0,c0,e,by have hq:=hc 0 _ rfl;rwa [Nat.mul_one,Nat.add_zero] at hq,l0,g0⟩

def rd_L9 (xs:List (List Int)) (i:Int):(List Int):=xs.getD i.toNat ([]:List Int)
theorem at_L9 {w:World} {A:Option Addr} {n:Nat} {xs:List (List Int)} (h:Kd.C (Kd.slice 22 (Kd.int .u64)) w A n xs) (i:Int) (h0:0≤i) (h1:i < n):∃ ad A0 c0,A=some ad∧w.cell? (ad.add i.toNat)=some (.slice A0 (rd_L9 xs i).length c0)∧(rd_L9 xs i).length≤c0∧(Kd.int .u64).C w A0 (rd_L9 xs i).length (rd_L9 xs i):=by
 obtain ⟨ad,c,e,_,hK,hc0⟩:=Kd.C_get h ([]:List Int) i h0 h1
 have hc:∀ j u,c[j]? =some u→w.cell? (ad.add (i.toNat * 1+j))=some u:=hc0
 obtain ⟨A0,c0,rfl,l0,g0⟩:=hK
 exact ⟨ad,A0,c0,e,by have hq:=hc 0 _ rfl;rwa [Nat.mul_one,Nat.add_zero] at hq,l0,g0⟩

/-! #### struct type 25 -/
structure S25 where
 f0:Int
 f1:(List Int)
def z25:S25:=⟨(0:Int),([]:List Int)⟩
def k25:Kd S25:=Kd.iso (Kd.pair (Kd.int .u64) (Kd.slice 22 (Kd.int .u64))) (fun x:S25=>(x.f0,x.f1))
theorem k25_open {w:World} {x:S25} {cs:List Value} (h:k25.K w x cs):∃ A1 c1,cs=[.int .u64 x.f0,.slice A1 x.f1.length c1]∧x.f1.length≤c1∧(Kd.int .u64).C w A1 x.f1.length x.f1:=by
 obtain ⟨_,_,rfl,rfl,⟨A1,c1,rfl,l1,g1⟩⟩:=h
 exact ⟨A1,c1,rfl,l1,g1⟩
theorem k25_openM {w:World} {base:Nat} {ok:Nat→Prop} {x:S25} {cs:List Value} (h:k25.M w base ok x cs):∃ v1,cs=[.int .u64 x.f0,v1]∧(Kd.int .u64).R 22 w base ok v1 x.f1:=by
 obtain ⟨_,_,rfl,rfl,⟨v1,rfl,g1⟩⟩:=h
 exact ⟨v1,rfl,g1⟩
theorem k25_mk (w:World) (x:S25) {A1:Option Addr} {c1:Nat} (l1:x.f1.length≤c1) (g1:(Kd.int .u64).C w A1 x.f1.length x.f1):k25.K w x [.int .u64 x.f0,.slice A1 x.f1.length c1]:=⟨[.int .u64 x.f0],[.slice A1 x.f1.length c1],rfl,rfl,⟨A1,c1,rfl,l1,g1⟩⟩
theorem k25_mkM (w:World) (base:Nat) (ok:Nat→Prop) (x:S25) {v1:Value} (g1:(Kd.int .u64).R 22 w base ok v1 x.f1):k25.M w base ok x [.int .u64 x.f0,v1]:=⟨[.int .u64 x.f0],[v1],rfl,rfl,⟨v1,rfl,g1⟩⟩
theorem k25_openF {W:World} {ok:Nat→Prop} {x:S25} {cs:List Value} (h:Kd.FK k25 W ok x cs):∃ A1 c1,cs=[.int .u64 x.f0,.slice A1 x.f1.length c1]∧x.f1.length≤c1∧Kd.F (Kd.int .u64) W ok A1 x.f1.length x.f1:=by
 obtain ⟨A1,c1,rfl,l1,_⟩:=k25_open (Kd.FK_now h)
 exact ⟨A1,c1,rfl,l1,(fun W' hW=>by obtain ⟨A1_,c1_,he,l1_,g1_⟩:=k25_open (h W' hW);injection (Option.some.inj (show some (Value.slice A1 x.f1.length c1)=some (Value.slice A1_ x.f1.length c1_) from congrArg (fun l=>l[1]?) he)) with ha_ _ _;rw [ha_];exact g1_)⟩
theorem k25_mkF (W:World) (ok:Nat→Prop) (x:S25) {A1:Option Addr} {c1:Nat} (l1:x.f1.length≤c1) (g1:Kd.F (Kd.int .u64) W ok A1 x.f1.length x.f1):Kd.FK k25 W ok x [.int .u64 x.f0,.slice A1 x.f1.length c1]:=fun W2 hW=>k25_mk W2 x l1 (g1 W2 hW)
def rd_T25 (xs:List S25) (i:Int):S25:=xs.getD i.toNat z25
theorem at_T25 {w:World} {A:Option Addr} {n:Nat} {xs:List S25} (h:Kd.C k25 w A n xs) (i:Int) (h0:0≤i) (h1:i < n):∃ ad A1 c1,A=some ad∧w.cell? (ad.add (i.toNat * 2))=some (.int .u64 (rd_T25 xs i).f0)∧w.cell? ⟨(ad.add (i.toNat * 2)).block,(ad.add (i.toNat * 2)).off+1,none⟩=some (.slice A1 (rd_T25 xs i).f1.length c1)∧(rd_T25 xs i).f1.length≤c1∧(Kd.int .u64).C w A1 (rd_T25 xs i).f1.length (rd_T25 xs i).f1:=by
 obtain ⟨ad,c,e,_,hK,hc0⟩:=Kd.C_get h z25 i h0 h1
 have hc:∀ j u,c[j]? =some u→w.cell? (ad.add (i.toNat * 2+j))=some u:=hc0
 obtain ⟨A1,c1,rfl,l1,g1⟩:=k25_open hK
 exact ⟨ad,A1,c1,e,hc 0 _ rfl,by rw [← add_field _ _ 1 (by omega)];exact hc 1 _ rfl,l1,g1⟩

/-! #### struct type 28 -/
structure S28 where
 f0:Int
 f1:Int
 f2:Int
 f3:ByteArray
 f4:ByteArray
 f5:Bool
 f6:Int
 f7:S25
 f8:(List S42)
def z28:S28:=⟨(0:Int),(0:Int),(0:Int),(⟨#[]⟩:ByteArray),(⟨#[]⟩:ByteArray),false,(0:Int),z25,([]:List S42)⟩
def k28:Kd S28:=Kd.iso (Kd.pair (Kd.int .u64) (Kd.pair (Kd.int .u64) (Kd.pair (Kd.int .u8) (Kd.pair Kd.string (Kd.pair Kd.string (Kd.pair Kd.bool (Kd.pair (Kd.int .u64) (Kd.pair k25 (Kd.slice 42 k42))))))))) (fun x:S28=>(x.f0,x.f1,x.f2,x.f3,x.f4,x.f5,x.f6,x.f7,x.f8))
theorem k28_open {w:World} {x:S28} {cs:List Value} (h:k28.K w x cs):∃ A8 c8 A9 c9,cs=[.int .u64 x.f0,.int .u64 x.f1,.int .u8 x.f2,.string x.f3,.string x.f4,.bool x.f5,.int .u64 x.f6,.int .u64 x.f7.f0,.slice A8 x.f7.f1.length c8,.slice A9 x.f8.length c9]∧x.f7.f1.length≤c8∧(Kd.int .u64).C w A8 x.f7.f1.length x.f7.f1∧x.f8.length≤c9∧k42.C w A9 x.f8.length x.f8:=by
 obtain ⟨_,_,rfl,rfl,⟨_,_,rfl,rfl,⟨_,_,rfl,rfl,⟨_,_,rfl,rfl,⟨_,_,rfl,rfl,⟨_,_,rfl,rfl,⟨_,_,rfl,rfl,⟨_,_,rfl,s7,⟨A9,c9,rfl,l9,g9⟩⟩⟩⟩⟩⟩⟩⟩⟩:=h
 obtain ⟨A8,c8,rfl,l8,g8⟩:=k25_open s7
 exact ⟨A8,c8,A9,c9,rfl,l8,g8,l9,g9⟩
theorem k28_openM {w:World} {base:Nat} {ok:Nat→Prop} {x:S28} {cs:List Value} (h:k28.M w base ok x cs):∃ v8 v9,cs=[.int .u64 x.f0,.int .u64 x.f1,.int .u8 x.f2,.string x.f3,.string x.f4,.bool x.f5,.int .u64 x.f6,.int .u64 x.f7.f0,v8,v9]∧(Kd.int .u64).R 22 w base ok v8 x.f7.f1∧k42.R 42 w base ok v9 x.f8:=by
 obtain ⟨_,_,rfl,rfl,⟨_,_,rfl,rfl,⟨_,_,rfl,rfl,⟨_,_,rfl,rfl,⟨_,_,rfl,rfl,⟨_,_,rfl,rfl,⟨_,_,rfl,rfl,⟨_,_,rfl,s7,⟨v9,rfl,g9⟩⟩⟩⟩⟩⟩⟩⟩⟩:=h
 obtain ⟨v8,rfl,g8⟩:=k25_openM s7
 exact ⟨v8,v9,rfl,g8,g9⟩
theorem k28_mk (w:World) (x:S28) {A8:Option Addr} {c8:Nat} (l8:x.f7.f1.length≤c8) (g8:(Kd.int .u64).C w A8 x.f7.f1.length x.f7.f1) {A9:Option Addr} {c9:Nat} (l9:x.f8.length≤c9) (g9:k42.C w A9 x.f8.length x.f8):k28.K w x [.int .u64 x.f0,.int .u64 x.f1,.int .u8 x.f2,.string x.f3,.string x.f4,.bool x.f5,.int .u64 x.f6,.int .u64 x.f7.f0,.slice A8 x.f7.f1.length c8,.slice A9 x.f8.length c9]:=⟨[.int .u64 x.f0],[.int .u64 x.f1,.int .u8 x.f2,.string x.f3,.string x.f4,.bool x.f5,.int .u64 x.f6,.int .u64 x.f7.f0,.slice A8 x.f7.f1.length c8,.slice A9 x.f8.length c9],rfl,rfl,⟨[.int .u64 x.f1],[.int .u8 x.f2,.string x.f3,.string x.f4,.bool x.f5,.int .u64 x.f6,.int .u64 x.f7.f0,.slice A8 x.f7.f1.length c8,.slice A9 x.f8.length c9],rfl,rfl,⟨[.int .u8 x.f2],[.string x.f3,.string x.f4,.bool x.f5,.int .u64 x.f6,.int .u64 x.f7.f0,.slice A8 x.f7.f1.length c8,.slice A9 x.f8.length c9],rfl,rfl,⟨[.string x.f3],[.string x.f4,.bool x.f5,.int .u64 x.f6,.int .u64 x.f7.f0,.slice A8 x.f7.f1.length c8,.slice A9 x.f8.length c9],rfl,rfl,⟨[.string x.f4],[.bool x.f5,.int .u64 x.f6,.int .u64 x.f7.f0,.slice A8 x.f7.f1.length c8,.slice A9 x.f8.length c9],rfl,rfl,⟨[.bool x.f5],[.int .u64 x.f6,.int .u64 x.f7.f0,.slice A8 x.f7.f1.length c8,.slice A9 x.f8.length c9],rfl,rfl,⟨[.int .u64 x.f6],[.int .u64 x.f7.f0,.slice A8 x.f7.f1.length c8,.slice A9 x.f8.length c9],rfl,rfl,⟨[.int .u64 x.f7.f0,.slice A8 x.f7.f1.length c8],[.slice A9 x.f8.length c9],rfl,(k25_mk w x.f7 l8 g8),⟨A9,c9,rfl,l9,g9⟩⟩⟩⟩⟩⟩⟩⟩⟩
theorem k28_mkM (w:World) (base:Nat) (ok:Nat→Prop) (x:S28) {v8:Value} (g8:(Kd.int .u64).R 22 w base ok v8 x.f7.f1) {v9:Value} (g9:k42.R 42 w base ok v9 x.f8):k28.M w base ok x [.int .u64 x.f0,.int .u64 x.f1,.int .u8 x.f2,.string x.f3,.string x.f4,.bool x.f5,.int .u64 x.f6,.int .u64 x.f7.f0,v8,v9]:=⟨[.int .u64 x.f0],[.int .u64 x.f1,.int .u8 x.f2,.string x.f3,.string x.f4,.bool x.f5,.int .u64 x.f6,.int .u64 x.f7.f0,v8,v9],rfl,rfl,⟨[.int .u64 x.f1],[.int .u8 x.f2,.string x.f3,.string x.f4,.bool x.f5,.int .u64 x.f6,.int .u64 x.f7.f0,v8,v9],rfl,rfl,⟨[.int .u8 x.f2],[.string x.f3,.string x.f4,.bool x.f5,.int .u64 x.f6,.int .u64 x.f7.f0,v8,v9],rfl,rfl,⟨[.string x.f3],[.string x.f4,.bool x.f5,.int .u64 x.f6,.int .u64 x.f7.f0,v8,v9],rfl,rfl,⟨[.string x.f4],[.bool x.f5,.int .u64 x.f6,.int .u64 x.f7.f0,v8,v9],rfl,rfl,⟨[.bool x.f5],[.int .u64 x.f6,.int .u64 x.f7.f0,v8,v9],rfl,rfl,⟨[.int .u64 x.f6],[.int .u64 x.f7.f0,v8,v9],rfl,rfl,⟨[.int .u64 x.f7.f0,v8],[v9],rfl,(k25_mkM w base ok x.f7 g8),⟨v9,rfl,g9⟩⟩⟩⟩⟩⟩⟩⟩⟩
theorem k28_openF {W:World} {ok:Nat→Prop} {x:S28} {cs:List Value} (h:Kd.FK k28 W ok x cs):∃ A8 c8 A9 c9,cs=[.int .u64 x.f0,.int .u64 x.f1,.int .u8 x.f2,.string x.f3,.string x.f4,.bool x.f5,.int .u64 x.f6,.int .u64 x.f7.f0,.slice A8 x.f7.f1.length c8,.slice A9 x.f8.length c9]∧x.f7.f1.length≤c8∧Kd.F (Kd.int .u64) W ok A8 x.f7.f1.length x.f7.f1∧x.f8.length≤c9∧Kd.F k42 W ok A9 x.f8.length x.f8:=by
 obtain ⟨A8,c8,A9,c9,rfl,l8,_,l9,_⟩:=k28_open (Kd.FK_now h)
 exact ⟨A8,c8,A9,c9,rfl,l8,(fun W' hW=>by obtain ⟨A8_,c8_,A9_,c9_,he,l8_,g8_,l9_,g9_⟩:=k28_open (h W' hW);injection (Option.some.inj (show some (Value.slice A8 x.f7.f1.length c8)=some (Value.slice A8_ x.f7.f1.length c8_) from congrArg (fun l=>l[8]?) he)) with ha_ _ _;rw [ha_];exact g8_),l9,(fun W' hW=>by obtain ⟨A8_,c8_,A9_,c9_,he,l8_,g8_,l9_,g9_⟩:=k28_open (h W' hW);injection (Option.some.inj (show some (Value.slice A9 x.f8.length c9)=some (Value.slice A9_ x.f8.length c9_) from congrArg (fun l=>l[9]?) he)) with ha_ _ _;rw [ha_];exact g9_)⟩
theorem k28_mkF (W:World) (ok:Nat→Prop) (x:S28) {A8:Option Addr} {c8:Nat} (l8:x.f7.f1.length≤c8) (g8:Kd.F (Kd.int .u64) W ok A8 x.f7.f1.length x.f7.f1) {A9:Option Addr} {c9:Nat} (l9:x.f8.length≤c9) (g9:Kd.F k42 W ok A9 x.f8.length x.f8):Kd.FK k28 W ok x [.int .u64 x.f0,.int .u64 x.f1,.int .u8 x.f2,.string x.f3,.string x.f4,.bool x.f5,.int .u64 x.f6,.int .u64 x.f7.f0,.slice A8 x.f7.f1.length c8,.slice A9 x.f8.length c9]:=fun W2 hW=>k28_mk W2 x l8 (g8 W2 hW) l9 (g9 W2 hW)
def rd_T28 (xs:List S28) (i:Int):S28:=xs.getD i.toNat z28
theorem at_T28 {w:World} {A:Option Addr} {n:Nat} {xs:List S28} (h:Kd.C k28 w A n xs) (i:Int) (h0:0≤i) (h1:i < n):∃ ad A8 c8 A9 c9,A=some ad∧w.cell? (ad.add (i.toNat * 10))=some (.int .u64 (rd_T28 xs i).f0)∧w.cell? ⟨(ad.add (i.toNat * 10)).block,(ad.add (i.toNat * 10)).off+1,none⟩=some (.int .u64 (rd_T28 xs i).f1)∧w.cell? ⟨(ad.add (i.toNat * 10)).block,(ad.add (i.toNat * 10)).off+2,none⟩=some (.int .u8 (rd_T28 xs i).f2)∧w.cell? ⟨(ad.add (i.toNat * 10)).block,(ad.add (i.toNat * 10)).off+3,none⟩=some (.string (rd_T28 xs i).f3)∧w.cell? ⟨(ad.add (i.toNat * 10)).block,(ad.add (i.toNat * 10)).off+4,none⟩=some (.string (rd_T28 xs i).f4)∧w.cell? ⟨(ad.add (i.toNat * 10)).block,(ad.add (i.toNat * 10)).off+5,none⟩=some (.bool (rd_T28 xs i).f5)∧w.cell? ⟨(ad.add (i.toNat * 10)).block,(ad.add (i.toNat * 10)).off+6,none⟩=some (.int .u64 (rd_T28 xs i).f6)∧w.cell? ⟨(ad.add (i.toNat * 10)).block,(ad.add (i.toNat * 10)).off+7,none⟩=some (.int .u64 (rd_T28 xs i).f7.f0)∧w.cell? ⟨(ad.add (i.toNat * 10)).block,(ad.add (i.toNat * 10)).off+8,none⟩=some (.slice A8 (rd_T28 xs i).f7.f1.length c8)∧w.cell? ⟨(ad.add (i.toNat * 10)).block,(ad.add (i.toNat * 10)).off+9,none⟩=some (.slice A9 (rd_T28 xs i).f8.length c9)∧(rd_T28 xs i).f7.f1.length≤c8∧(Kd.int .u64).C w A8 (rd_T28 xs i).f7.f1.length (rd_T28 xs i).f7.f1∧(rd_T28 xs i).f8.length≤c9∧k42.C w A9 (rd_T28 xs i).f8.length (rd_T28 xs i).f8:=by
 obtain ⟨ad,c,e,_,hK,hc0⟩:=Kd.C_get h z28 i h0 h1
 have hc:∀ j u,c[j]? =some u→w.cell? (ad.add (i.toNat * 10+j))=some u:=hc0
 obtain ⟨A8,c8,A9,c9,rfl,l8,g8,l9,g9⟩:=k28_open hK
 exact ⟨ad,A8,c8,A9,c9,e,hc 0 _ rfl,by rw [← add_field _ _ 1 (by omega)];exact hc 1 _ rfl,by rw [← add_field _ _ 2 (by omega)];exact hc 2 _ rfl,by rw [← add_field _ _ 3 (by omega)];exact hc 3 _ rfl,by rw [← add_field _ _ 4 (by omega)];exact hc 4 _ rfl,by rw [← add_field _ _ 5 (by omega)];exact hc 5 _ rfl,by rw [← add_field _ _ 6 (by omega)];exact hc 6 _ rfl,by rw [← add_field _ _ 7 (by omega)];exact hc 7 _ rfl,by rw [← add_field _ _ 8 (by omega)];exact hc 8 _ rfl,by rw [← add_field _ _ 9 (by omega)];exact hc 9 _ rfl,l8,g8,l9,g9⟩

/-! #### struct type 30 -/
structure S30 where
 f0:Int
 f1:Int
 f2:Int
def z30:S30:=⟨(0:Int),(0:Int),(0:Int)⟩
def k30:Kd S30:=Kd.iso (Kd.pair (Kd.int .u64) (Kd.pair (Kd.int .u64) (Kd.int .i64))) (fun x:S30=>(x.f0,x.f1,x.f2))
theorem k30_open {w:World} {x:S30} {cs:List Value} (h:k30.K w x cs):cs=[.int .u64 x.f0,.int .u64 x.f1,.int .i64 x.f2]:=by
 obtain ⟨_,_,rfl,rfl,⟨_,_,rfl,rfl,rfl⟩⟩:=h
 exact rfl
theorem k30_openM {w:World} {base:Nat} {ok:Nat→Prop} {x:S30} {cs:List Value} (h:k30.M w base ok x cs):cs=[.int .u64 x.f0,.int .u64 x.f1,.int .i64 x.f2]:=by
 obtain ⟨_,_,rfl,rfl,⟨_,_,rfl,rfl,rfl⟩⟩:=h
 exact rfl
theorem k30_mk (w:World) (x:S30):k30.K w x [.int .u64 x.f0,.int .u64 x.f1,.int .i64 x.f2]:=⟨[.int .u64 x.f0],[.int .u64 x.f1,.int .i64 x.f2],rfl,rfl,⟨[.int .u64 x.f1],[.int .i64 x.f2],rfl,rfl,rfl⟩⟩
theorem k30_mkM (w:World) (base:Nat) (ok:Nat→Prop) (x:S30):k30.M w base ok x [.int .u64 x.f0,.int .u64 x.f1,.int .i64 x.f2]:=⟨[.int .u64 x.f0],[.int .u64 x.f1,.int .i64 x.f2],rfl,rfl,⟨[.int .u64 x.f1],[.int .i64 x.f2],rfl,rfl,rfl⟩⟩
theorem k30_mkF (W:World) (ok:Nat→Prop) (x:S30):Kd.FK k30 W ok x [.int .u64 x.f0,.int .u64 x.f1,.int .i64 x.f2]:=fun W2 _=>k30_mk W2 x
def rd_T30 (xs:List S30) (i:Int):S30:=xs.getD i.toNat z30
theorem at_T30 {w:World} {A:Option Addr} {n:Nat} {xs:List S30} (h:Kd.C k30 w A n xs) (i:Int) (h0:0≤i) (h1:i < n):∃ ad,A=some ad∧w.cell? (ad.add (i.toNat * 3))=some (.int .u64 (rd_T30 xs i).f0)∧w.cell? ⟨(ad.add (i.toNat * 3)).block,(ad.add (i.toNat * 3)).off+1,none⟩=some (.int .u64 (rd_T30 xs i).f1)∧w.cell? ⟨(ad.add (i.toNat * 3)).block,(ad.add (i.toNat * 3)).off+2,none⟩=some (.int .i64 (rd_T30 xs i).f2):=by
 obtain ⟨ad,c,e,_,hK,hc0⟩:=Kd.C_get h z30 i h0 h1
 have hc:∀ j u,c[j]? =some u→w.cell? (ad.add (i.toNat * 3+j))=some u:=hc0
 obtain rfl:=k30_open hK
 exact ⟨ad,e,hc 0 _ rfl,by rw [← add_field _ _ 1 (by omega)];exact hc 1 _ rfl,by rw [← add_field _ _ 2 (by omega)];exact hc 2 _ rfl⟩

theorem AM {p:Prop} (h:p):Aside0 p:=⟨h⟩
end Go.Proofs.YtmfaopjfdedheaaGreat.T
